/-
  A CALCULATOR OVER THE MODEL: part 2 of 3. It holds for every program; its own names only.
-/
import Derived.Test.YtonkmgaofdhbaaaGreatDoorEngA
import Derived.MapKept
import Derived.WideKeyRuns
import Derived.Laws.BytesString
import Derived.Laws.IdiomStrings
import Derived.Laws.BytesArg
import Derived.Orders
import Derived.OrdersIn
import Derived.RangeFuncIn
import Derived.RangeFuncCalls
import Derived.RangeFuncNested
import Derived.RangeFuncLeaves
import Derived.OwnWalkIn
set_option linter.unusedVariables false
set_option linter.unusedSimpArgs false
namespace Go.Eng
theorem F1.len {rd:Rd}:∀ {es:List (DV×DV)} {ms:List MapEntry},F1 rd es ms->es.length=ms.length
 |[],[],_=>rfl
 |_::_,_::_,h=>by rw [List.length_cons,List.length_cons,F1.len h.2]
 |[],_::_,h=>h.elim
 |_::_,[],h=>h.elim
theorem j29 {E:y6} {b:Nat} {v:Value} (h:o0 E (.mp b) v):∃ r,E.pl b = .at r 0/\v = .map (some r):=by
 rcases h with h|⟨cs,h,e⟩
 ·cases h
 ·cases h with
  |mp b r hp hl=>exact ⟨r,hp,e⟩
theorem i51 {P:Program} {T:Tr} {t:TypeId} {k e:TypeId} (hT:v5 P T) (hk:(T.get t).kind = .map k e):P.underlying t=some (.map k e):=by
 obtain ⟨d,hd,hb⟩:=Dv hT hk (by simp)
 cases d<;>simp [Ur] at hb
 rw [hd,hb.1,hb.2]
section
variable {P:Program} {G:G1} {T:Tr} {o:Oper} {ρ:Operand->AV} {H:Nat->j6} {K:V7}
theorem c83 {x:Operand} {i:Nat} (ho:o.op = .extract x i) (h:match ρ x with | .tup xs=>(match xs[i]? with|some y=>K [] [] y|none=>False)|_=>False):V9 P G o ρ H K:=by
 have mx:x∈o9 o.op:=by simp [o9,ho,Op.operands]
 cases hx:ρ x with
 |tup xs =>
  rw [hx] at h
  simp only at h
  split at h
  ·rename_i y hy
   obtain ⟨hi,hy⟩:=List.getElem?_eq_some_iff.1 hy
   refine ⟨_,_,_,h,.pure fun E a w hop => ?_⟩
   rcases hx▸hop x mx with hv|⟨cs,hr,e⟩
   ·cases hv
   ·cases hr with
    |tup xs css hlen hr =>
     have e:a.eval x = .tuple ((xs.zip css).map fun x=>q5 x.1.isAgg x.2).toArray:=e
     have hi':i<css.length:=by omega
     refine ⟨q5 y.isAgg css[i],?_,.of (by rw [←hy];exact hr i hi) rfl⟩
     have hg:((xs.zip css).map fun x=>q5 x.1.isAgg x.2).toArray[i]?=some (q5 y.isAgg css[i]):=by
      have hz:i<(xs.zip css).length:=by rw [List.length_zip];omega
      rw [List.getElem?_toArray,List.getElem?_map,List.getElem?_eq_getElem hz,Option.map_some,List.getElem_zip,hy]
     simp only [execOp,ho,e,Instr.extract,hg]
     rfl
  ·exact h.elim
 |_=>rw [hx] at h;exact h.elim
theorem Ye {α β:Type} {p:α->β->Prop}:∀ {l:List α},(∀ x,x∈l->∃ y,p x y)->∃ ys:List β,ys.length=l.length/\∀ i (h:i<l.length) (h':i<ys.length),p l[i] ys[i]
 |[],_=>⟨[],rfl,fun i h=>by cases h⟩
 |x::l,h=>by
  obtain ⟨y,hy⟩:=h x (.head _)
  obtain ⟨ys,h1,h2⟩:=Ye (l:=l) fun x hx=>h x (.tail _ hx)
  refine ⟨y::ys,by simp [h1],fun i hi hi' => ?_⟩
  cases i with
  |zero=>exact hy
  |succ i=>exact h2 i (by simpa using hi) (by simpa using hi')
theorem b79 {f:FuncId} {first caps:Array Operand} (ho:o.op = .makeFunc (.func f) first caps)
  (h:match first.toList,caps.toList.all (fun x=>Fb (ρ x)) with|[],true=>K [] [] (.fn f (caps.toList.map fun x=>Z7 (ρ x)))|_,_=>False):V9 P G o ρ H K:=by
 split at h
 ·rename_i hf hs
  have hf':first = #[]:=by rw [←Array.toList_inj,hf]
  subst hf'
  have mx:∀ x,x∈caps.toList->x∈o9 o.op:=fun x hx=>by simp [o9,ho,Op.operands] at hx ⊢;exact hx
  refine ⟨_,_,_,h,.pure fun E a w hop => ?_⟩
  have hone:∀ x,x∈caps.toList->∃ cs,r6 E (Z7 (ρ x)) cs/\a.eval x=q5 (Z7 (ρ x)).isAgg cs:=fun x hx=>by
   obtain ⟨cs,hcs,_,e⟩:=(Br (hop x (mx x hx))).inv (Jg _ (List.all_eq_true.1 hs x hx))
   exact ⟨cs,hcs,e⟩
  obtain ⟨css,hl,hc⟩:=Ye hone
  refine ⟨.func (.func f) #[] (caps.map a.eval),by simp [execOp,ho,Instr.makeFunc],?_⟩
  have hlen:css.length=(caps.toList.map fun x=>Z7 (ρ x)).length:=by simp [hl]
  have:=r6.fn (E:=E) f (caps.toList.map fun x=>Z7 (ρ x)) css hlen (fun i hi=>by
   rw [List.getElem_map]
   exact (hc i (by simpa using hi) _).1)
  have e:(((caps.toList.map fun x=>Z7 (ρ x)).zip css).map fun x=>q5 x.1.isAgg x.2).toArray=caps.map a.eval:=by
   rw [←Array.toList_inj]
   simp only [Array.toList_map]
   refine List.ext_getElem (by simp [hl]) fun i h1 h2 => ?_
   simp only [List.getElem_map,List.getElem_zip]
   exact (hc i (by simpa using h2) (by rw [hl];simpa using h2)).2.symm
  rw [e] at this
  exact .one this rfl
 ·exact h.elim
theorem b80 {x:Operand} (ho:o.op = .nilCheck x) (h:match ρ x with | .ptr b p l=>K [] [] (.ptr b p l) | .rp d=>K [] [] (.rp d) | .fn f c=>K [] [] (.fn f c)|_=>False):V9 P G o ρ H K:=by
 have mx:x∈o9 o.op:=by simp [o9,ho,Op.operands]
 cases hx:ρ x with
 |ptr b p l =>
  rw [hx] at h
  refine ⟨_,_,_,h,.pure fun E a w hop => ?_⟩
  have hv:=hx▸hop x mx
  obtain ⟨r,q,off,e,hp,hl⟩:=X1 hv
  exact ⟨_,by simp [execOp,ho,e],e▸hv⟩
 |rp d =>
  rw [hx] at h
  refine ⟨_,_,_,h,.pure fun E a w hop => ?_⟩
  have hv:=hx▸hop x mx
  obtain ⟨r,q,cs,e,hd,hr⟩:=a38 hv
  exact ⟨_,by simp [execOp,ho,e],e▸hv⟩
 |fn f c =>
  rw [hx] at h
  refine ⟨_,_,_,h,.pure fun E a w hop => ?_⟩
  have hv:=hx▸hop x mx
  rcases id hv with hv'|⟨cs,hr,e⟩
  ·cases hv'
  ·cases hr with
   |fn f caps css hlen hr =>
    have e:a.eval x = .func (.func f) #[] ((c.zip css).map fun x=>q5 x.1.isAgg x.2).toArray:=e
    exact ⟨_,by simp [execOp,ho,e],e▸hv⟩
 |_=>rw [hx] at h;exact h.elim
theorem M4 {c:Call} {b:Builtin} (ho:o.op = .call c) (hc:c.callee = .builtin b) {a:Act} {w w':World} {v:Value}
  (h:(builtin b c.argTypes o.type (c.args.map fun | .const _=>true|_=>false) (c.args.map a.eval)).run P w = .ok (.value v) w'):(execOp a.eval o).run P w = .ok (.value v) w':=by
 simp only [execOp,ho,resolve,hc,Sem.run_bind,Sem.run_pure,Result.andThen_ok,invoke]
 exact h
theorem h24 {c:Call} {x:Operand} {t:TypeId} (hT:v5 P T) (ho:o.op = .call c) (hc:c.callee = .builtin .len) (ha:c.args.toList=[x]) (ht:c.argTypes.toList=[t])
  (h:j30 T t H (ρ x) fun rd n=>K rd [] (.int .i64 n)):V9 P G o ρ H K:=by
 have mx:x∈o9 o.op:=by simp [o9,ho,Op.operands,Call.operands,hc,ha]
 have ha':c.args = #[x]:=by rw [←Array.toList_inj,ha]
 have ht':c.argTypes = #[t]:=by rw [←Array.toList_inj,ht]
 have fin:∀ n:Int,K [] [] (.int .i64 n)->(∀ E (a:Act) w,(∀ x,x∈o9 o.op->o0 E (ρ x) (a.eval x))->(Builtin.len_ #[t] o.type #[a.eval x]).run P w = .ok (goInt n) w)->V9 P G o ρ H K:=by
  intro n hK hr
  refine ⟨_,_,_,hK,.pure fun E a w hop=>⟨_,M4 ho hc ?_,C9 E _ _⟩⟩
  have:=hr E a w hop
  simp only [builtin,ha',ht',List.map_toArray,List.map_cons,List.map_nil,Sem.run_bind,this,Result.andThen_ok]
  rfl
 unfold j30 at h
 split at h
 ·rename_i e hk
  obtain ⟨hu,_⟩:=T5 hT hk
  split at h
  ·rename_i k l hx
   refine fin _ h fun E a w hop => ?_
   rcases (Kl (hx▸hop x mx)).slI with ⟨r,q,cp,ex,hc,hr⟩|⟨e0,ad,cp,ex,hn⟩
   ·rw [ex];simp [Builtin.len_,run_underlying hu]
   ·rw [ex,e0];simp [Builtin.len_,run_underlying hu]
  ·rename_i l n f hx
   refine fin _ h fun E a w hop => ?_
   rcases (a40 (hx▸hop x mx)).sl with ⟨r,q,cp,css,ex,hc,hf,hfl,hr⟩|⟨e0,ad,cp,ex,hn⟩
   ·rw [ex];simp [Builtin.len_,run_underlying hu]
   ·rw [ex,e0];simp [Builtin.len_,run_underlying hu]
  ·rename_i hx
   refine fin _ h fun E a w hop => ?_
   have ex:=O8 (hx▸hop x mx)
   rw [ex];simp [Builtin.len_,run_underlying hu]
  ·rename_i b p l off len hx
   refine fin _ h fun E a w hop => ?_
   rcases S1 (hx▸hop x mx) with ⟨r,q,so,n,cp,ex,_⟩|⟨ad,so,n,ex,e0,_⟩
   ·rw [ex];simp [Builtin.len_,run_underlying hu]
   ·rw [ex,e0];simp [Builtin.len_,run_underlying hu]
  ·rename_i b off len hx
   refine fin _ h fun E a w hop => ?_
   obtain ⟨r,q,n,c,ex,_⟩:=h21 (hx▸hop x mx)
   rw [ex];simp [Builtin.len_,run_underlying hu]
  ·rename_i b off len c hx
   refine fin _ h fun E a w hop => ?_
   obtain ⟨r,q,n,ex,_⟩:=Nj (hx▸hop x mx)
   rw [ex];simp [Builtin.len_,run_underlying hu]
  ·rename_i hx
   refine fin _ h fun E a w hop => ?_
   obtain ⟨ad,ex⟩:=Qz (hx▸hop x mx)
   rw [ex];simp [Builtin.len_,run_underlying hu]
  ·exact h.elim
 ·rename_i hk
  have hu:=Hw hT hk
  split at h
  ·rename_i l hx
   refine fin _ h fun E a w hop => ?_
   have ex:=Ks (hx▸hop x mx)
   rw [ex]
   simp only [Builtin.len_]
   simp [run_underlying hu]
   rfl
  ·exact h.elim
 ·rename_i n e hk
  obtain ⟨hu,_⟩:=Ku hT hk
  refine fin _ h fun E a w hop => ?_
  simp [Builtin.len_,run_underlying hu]
 ·rename_i kt et hk
  have hu:=i51 hT hk
  split at h
  ·rename_i b hx
   split at h
   ·rename_i f es hb
    refine ⟨_,_,_,h,.of fun E H' a w hR _ hop hrd _ => ?_⟩
    have hbr:=hR.blk b
    rw [hrd b (by simp),hb] at hbr
    obtain ⟨r,entries,clock,hp,_,_,hw,he,_,_⟩:=hbr
    obtain ⟨r',hr',ex⟩:=j29 (hx▸hop x mx)
    rw [hp] at hr'
    injection hr' with hr' _
    subst hr'
    have hlen:entries.size=es.length:=by have:=he.len;simpa using this.symm
    refine ⟨_,w,E,.inl (M4 ho hc ?_),.pure hR (C9 E _ _)⟩
    have:(Builtin.len_ #[t] o.type #[a.eval x]).run P w = .ok (goInt es.length) w:=by
     rw [ex]
     simp [Builtin.len_,run_underlying hu,MapKept.run_getObj_map hw,hlen]
    simp only [builtin,ha',ht',List.map_toArray,List.map_cons,List.map_nil,Sem.run_bind,this,Result.andThen_ok]
    rfl
   ·exact h.elim
  ·rename_i hx
   refine fin _ h fun E a w hop => ?_
   have ex:=O8 (hx▸hop x mx)
   rw [ex];simp [Builtin.len_,run_underlying hu]
  ·exact h.elim
 ·exact h.elim
theorem h25 {c:Call} {x y:Operand} (ho:o.op = .call c) (hc:c.callee = .builtin .min) (ha:c.args.toList=[x,y]) (h:Dn (ρ x) fun k a=>Dn (ρ y) fun _ b=>K [] [] (.int k (if b<a then b else a))):V9 P G o ρ H K:=by
 have mx:x∈o9 o.op:=by simp [o9,ho,Op.operands,Call.operands,hc,ha]
 have my:y∈o9 o.op:=by simp [o9,ho,Op.operands,Call.operands,hc,ha]
 have ha':c.args = #[x,y]:=by rw [←Array.toList_inj,ha]
 obtain ⟨k,a,hx,h⟩:=C5 h
 obtain ⟨k',b,hy,h⟩:=C5 h
 refine ⟨_,_,_,h,.pure fun E ac w hop=>⟨_,M4 ho hc ?_,C9 E _ _⟩⟩
 have ex:=K7 (hx▸hop x mx)
 have ey:=K7 (hy▸hop y my)
 simp [builtin,ha',ex,ey,Builtin.min_,Builtin.min2]
theorem h26 {c:Call} {x:Operand} {t:TypeId} (hT:v5 P T) (ho:o.op = .call c) (hc:c.callee = .builtin .cap) (ha:c.args.toList=[x]) (ht:c.argTypes.toList=[t])
  (h:j38 T t (ρ x) fun n=>K [] [] (.int .i64 n)):V9 P G o ρ H K:=by
 have mx:x∈o9 o.op:=by simp [o9,ho,Op.operands,Call.operands,hc,ha]
 have ha':c.args = #[x]:=by rw [←Array.toList_inj,ha]
 have ht':c.argTypes = #[t]:=by rw [←Array.toList_inj,ht]
 unfold j38 at h
 split at h
 ·rename_i e hk
  obtain ⟨hu,_⟩:=T5 hT hk
  split at h
  ·rename_i hx
   refine ⟨_,_,_,h,.pure fun E ac w hop=>⟨_,M4 ho hc ?_,C9 E _ _⟩⟩
   have ex:=O8 (hx▸hop x mx)
   simp [builtin,ha',ht',ex,Builtin.cap_,run_underlying hu,goInt]
  ·rename_i hx
   refine ⟨_,_,_,h,.pure fun E ac w hop=>⟨_,M4 ho hc ?_,C9 E _ _⟩⟩
   obtain ⟨ad,ex⟩:=Qz (hx▸hop x mx)
   simp [builtin,ha',ht',ex,Builtin.cap_,run_underlying hu,goInt]
  ·rename_i b off len cp hx
   refine ⟨_,_,_,h,.pure fun E ac w hop=>⟨_,M4 ho hc ?_,C9 E _ _⟩⟩
   obtain ⟨r,q,n,ex,_⟩:=Nj (hx▸hop x mx)
   simp [builtin,ha',ht',ex,Builtin.cap_,run_underlying hu,goInt]
  ·exact h.elim
 ·exact h.elim
theorem Z9 {w:World} {cs:List Value} {t:TypeId} {fz:Nat×Nat} (j:Nat):(w.alloc (.cells cs.toArray t fz)).cell? ⟨w.heap.size,j,none⟩=cs[j]?:=by
 simp only [World.cell?,heap_alloc_new]
 simp
theorem Nk {w:World} {cs:Array Value} {t:TypeId} (j:Nat):(w.alloc (.cells cs t)).frozen? ⟨w.heap.size,j,none⟩=false:=by
 simp only [World.frozen?,heap_alloc_new]
 simp
theorem birth_ext {E:y6} {key:Nat} (hk:E.pl key = .unborn) (r o:Nat) (l:t9) (top:Nat):Ext E (E.birth key r o l top):=y6.birth_ext hk r o l top
theorem q9.box {E:y6} {H:Nat->j6} {w:World} (hR:Q9 E H w) {key:Nat} (hk:E.pl key = .unborn) {x:AV} {cs:List Value} (hx:r6 E x cs) (t:TypeId) :
  ∃ E',q9 E H w [(key,.var x)] (.ptr key [] x.lay) (.pointer (some ⟨w.heap.size,0,none⟩)) E' (w.alloc (.cells cs.toArray t)):=by
 refine ⟨E.birth key w.heap.size 0 x.lay cs.length,q9.alloc hR hk (.cells cs.toArray t (0,0)) x.lay cs.length (by rw [hx.len];exact Nat.le_refl _) ?_ ?_⟩
 ·refine ⟨w.heap.size,0,cs,if_pos rfl,if_pos rfl,hx.ext (birth_ext hk _ _ _ _),?_,(if_pos rfl:(if key=key then cs.length else E.top key)=cs.length).trans (by omega),?_,?_⟩
  ·intro j hj
   show (w.alloc _).cell? _=_
   rw [Nat.zero_add,Z9,List.getElem?_eq_getElem hj]
  ·show 0+cs.length≤if key=key then cs.length else E.top key
   rw [if_pos rfl];omega
  ·intro j _ hj
   have hj:j<if key=key then cs.length else E.top key:=hj
   rw [if_pos rfl] at hj
   exact ⟨⟨_,by rw [Z9,List.getElem?_eq_getElem hj]⟩,Nk j⟩
 ·have:=r6.ptr (E:=E.birth key w.heap.size 0 x.lay cs.length) key [] x.lay w.heap.size 0 0 (if_pos rfl) (by
   show J6 (if key=key then x.lay else E.lay key) []=_
   rw [if_pos rfl,o6])
  exact .one this rfl
theorem h27 {t:TypeId} {x:Operand} {key:Nat} (hkey:H key = .dead) (ho:o.op = .box t x)
  (h:match Fb (ρ x),decide ((ρ x).lay=(T.get t).lay) with|true,true=>K [] [(key,.var (Z7 (ρ x)))] (.ptr key [] (T.get t).lay)|_,_=>False):V9 P G o ρ H K:=by
 have mx:x∈o9 o.op:=by simp [o9,ho,Op.operands]
 split at h
 ·rename_i hs hl
  have hl:=of_decide_eq_true hl
  refine ⟨_,_,_,h,.of fun E H' a w hR _ hop _ hwr => ?_⟩
  obtain ⟨cs,hcs,hcells,_⟩:=(Br (hop x mx)).inv (Jg _ hs)
  have hk:E.pl key = .unborn:=hwr _ (List.mem_cons_self ..) hkey
  obtain ⟨E',hst⟩:=q9.box hR hk hcs t
  refine ⟨_,_,E',.inl ?_,by rw [Mh,hl] at hst;exact hst⟩
  have hc:(a.eval x).cells=cs.toArray:=by rw [←Array.toList_inj,hcells]
  simp [execOp,ho,Instr.box,newVar,newRow,hc]
 ·exact h.elim
theorem f01 {t:TypeId} {key:Nat} (hkey:H key = .dead) (hT:v5 P T) (ho:o.op = .alloc t)
  (h:match Nat.blt 0 (T.get t).size with|true=>K [] [(key,.var (.dv (T.get t).zero))] (.ptr key [] (T.get t).lay)|false=>False):V9 P G o ρ H K:=by
 split at h
 ·rename_i hpos
  have ht:t∈T.keys:=by
   by_cases ht:t∈T.keys
   ·exact ht
   ·rw [Tr.get_mem ht] at hpos;cases hpos
  obtain ⟨i,d,z,zs,hi,hd,_,hsz,_,_,_,hzl,hz,hzc,hzr,_⟩:=(hT.entry ht).info
  refine ⟨_,_,_,h,.of fun E H' a w hR _ hop _ hwr => ?_⟩
  have hk:E.pl key = .unborn:=hwr _ (List.mem_cons_self ..) hkey
  obtain ⟨E',hst⟩:=q9.box hR hk (.dv (Ad E.rd hzr)) t
  refine ⟨_,_,E',.inl ?_,by rw [AV.lay,hzl] at hst;exact hst⟩
  have hc:z.cells=zs.toArray:=by rw [←Array.toList_inj,hzc]
  simp [execOp,ho,Instr.alloc,zeroValue,typeInfo,hi,hz,newVar,newRow,hc]
 ·exact h.elim
theorem q9.rowI {E:y6} {H:Nat->j6} {w:World} (hR:Q9 E H w) {key:Nat} (hk:E.pl key = .unborn) {k:IntKind} {l:List Int} {cs:List Value} (hcs:(cs.take l.length)=l.map (.int k)) (hle:l.length≤cs.length) (t:TypeId) (fz:Nat×Nat) (hfz:cs.length≤fz.1\/fz.2≤fz.1) :
  ∃ E',q9 E H w [(key,.rowI k l)] (.sl key [] .one 0 l.length) (.slice (some ⟨w.heap.size,0,none⟩) l.length cs.length) E' (w.alloc (.cells cs.toArray t fz)):=by
 refine ⟨E.birth key w.heap.size 0 (.arr l.length .one) cs.length,q9.alloc hR hk (.cells cs.toArray t fz) (.arr l.length .one) cs.length (by simp [t9.size];exact hle) ?_ ?_⟩
 ·refine ⟨if_pos rfl,.inr ⟨w.heap.size,0,if_pos rfl,?_,?_,?_⟩⟩
  ·intro j hj
   have hjl:j<l.length:=by simpa using hj
   show (w.alloc _).cell? _=_
   rw [Nat.zero_add,Z9,←List.getElem?_eq_getElem hj,←hcs,List.getElem?_take_of_lt hjl]
  ·show 0+l.length≤if key=key then cs.length else E.top key
   rw [if_pos rfl];omega
  ·intro j _ hj
   have hj:j<if key=key then cs.length else E.top key:=hj
   rw [if_pos rfl] at hj
   refine ⟨⟨_,by rw [Z9,List.getElem?_eq_getElem hj]⟩,?_⟩
   simp only [World.frozen?,heap_alloc_new,Bool.and_eq_false_iff,decide_eq_false_iff_not]
   omega
 ·have:=r6.sl (E:=E.birth key w.heap.size 0 (.arr l.length .one) cs.length) key [] .one 0 l.length w.heap.size 0 0 l.length cs.length (if_pos rfl) (by
   show J6 (if key=key then t9.arr l.length .one else E.lay key) []=_
   rw [if_pos rfl,o6]) (by omega) hle (by
   show 0+0+(0+cs.length)*t9.one.size≤if key=key then cs.length else E.top key
   rw [if_pos rfl];simp [t9.size])
  have e:(0:Nat)+0+0*t9.one.size=0:=by simp
  rw [e] at this
  exact .one this rfl
theorem q9.row {E:y6} {H:Nat->j6} {w:World} (hR:Q9 E H w) {key:Nat} (hk:E.pl key = .unborn) {la:t9} {n:Nat} {f:Nat->DV} {css:Nat->List Value} (hf:∀ i,i<n->u7 E.rd (f i) (css i)) (hfl:∀ i,i<n->(f i).lay=la)
  {cs:List Value} {c:Nat} (hnc:n≤c) (hlen:cs.length=c*la.size) (hcs:cs.take (n*la.size)=(List.range n).flatMap css) (t:TypeId) :
  ∃ E',q9 E H w [(key,.row la n f)] (.sl key [] la 0 n) (.slice (some ⟨w.heap.size,0,none⟩) n c) E' (w.alloc (.cells cs.toArray t)):=by
 have hle:n*la.size≤c*la.size:=Nat.mul_le_mul_right _ hnc
 have hsz:∀ i,i<n->(css i).length=la.size:=fun i hi=>by rw [(hf i hi).len,hfl i hi]
 refine ⟨E.birth key w.heap.size 0 (.arr n la) cs.length,q9.alloc hR hk (.cells cs.toArray t (0,0)) (.arr n la) cs.length (by simp only [t9.size];omega) ?_ ?_⟩
 ·refine ⟨if_pos rfl,.inr ⟨w.heap.size,0,css,if_pos rfl,hf,hfl,?_,?_,?_⟩⟩
  ·intro i hi j hj
   have hji:=hsz i hi
   have hmul:(i+1)*la.size≤n*la.size:=Nat.mul_le_mul_right _ hi
   rw [Nat.add_mul,Nat.one_mul] at hmul
   show (w.alloc _).cell? _=_
   rw [Nat.zero_add,Z9]
   have h1:cs[i*la.size+j]?=((List.range n).flatMap css)[i*la.size+j]?:=by
    rw [←hcs,List.getElem?_take_of_lt (by omega)]
   have h2:=Ij css la.size n i hsz hi
   rw [h1,←List.getElem?_eq_getElem hj]
   have h3:(css i)[j]?=((((List.range n).flatMap css).drop (i*la.size)).take la.size)[j]?:=by rw [h2]
   rw [h3,List.getElem?_take_of_lt (by omega),List.getElem?_drop]
  ·show 0+n*la.size≤if key=key then cs.length else E.top key
   rw [if_pos rfl];omega
  ·intro j _ hj
   have hj:j<if key=key then cs.length else E.top key:=hj
   rw [if_pos rfl] at hj
   exact ⟨⟨_,by rw [Z9,List.getElem?_eq_getElem hj]⟩,Nk j⟩
 ·have:=r6.sl (E:=E.birth key w.heap.size 0 (.arr n la) cs.length) key [] la 0 n w.heap.size 0 0 n c (if_pos rfl) (by
   show J6 (if key=key then t9.arr n la else E.lay key) []=_
   rw [if_pos rfl,o6]) (by omega) hnc (by
   show 0+0+(0+c)*la.size≤if key=key then cs.length else E.top key
   rw [if_pos rfl,hlen,Nat.zero_add,Nat.zero_add];exact Nat.le_refl _)
  have e:(0:Nat)+0+0*la.size=0:=by simp
  rw [e] at this
  exact .one this rfl
end
end Go.Eng

namespace Go.Eng
section
variable {P:Program} {G:G1} {T:Tr} {o:Oper} {ρ:Operand->AV} {H:Nat->j6} {K:V7}
theorem f59 (H:Nat->j6) (wr:List (Nat×j6)):h28 H wr=upds H wr:=by
 induction wr generalizing H with
 |nil=>rfl
 |cons x wr ih =>
  funext c
  obtain ⟨b,x⟩:=x
  show h28 (fun c=>match Nat.beq c b with|true=>x|false=>H c) wr c=upds (Pf H b x) wr c
  rw [ih]
  congr 1
  funext c
  unfold Pf
  cases h:Nat.beq c b with
  |true=>rw [Nat.eq_of_beq_eq_true h,if_pos rfl]
  |false=>rw [if_neg (Nat.ne_of_beq_eq_false h)]
theorem q9.keep {E:y6} {H:Nat->j6} {w:World} (hR:Q9 E H w) {b:Nat} {x:j6} (hx:H b=x) {v:AV} {u:Value} (hv:o0 E v u):q9 E H w [(b,x)] v u E w:=by
 have hH:upds H [(b,x)]=H:=by
  funext c
  show (if c=b then x else H c)=H c
  split
  ·rename_i e;rw [e,hx]
  ·rfl
 exact ⟨hv,by rw [hH];exact hR,.refl E,.refl E H w,fun _ h h'=>absurd h h',fun c hc=>by rw [hH] at hc;exact .inl hc,fun _ _ _ _ _ _=>rfl⟩
theorem q9.none_ {E:y6} {H:Nat->j6} {w:World} (hR:Q9 E H w):q9 E H w [] .any undef E w := .pure hR (.any E _)
theorem Sn {x:AV} {K:List Nat->List (Nat×j6)->DV->Prop} (h:Ub H x K):∃ rd wr d,K rd wr d/\(∀ y,y∈wr->H y.1 ≠ .dead) /\
  ∀ E H' w v,Q9 E H' w->(∀ b,b∈rd->H' b=H b)->o0 E x v->∃ E',q9 E H' w wr .any undef E' w/\u7 E'.rd d v.cells.toList/\v=q5 d.lay.isAgg v.cells.toList:=by
 simp only [Ub,Ua] at h
 split at h
 ·rename_i d
  refine ⟨_,_,_,h,(fun y hy=>by cases hy),fun E H' w v hR _ hv=>⟨E,.none_ hR,?_⟩⟩
  obtain ⟨cs,hcs,hc,e⟩:=hv.inv rfl
  rw [hc];exact ⟨hcs.dv_inv,e⟩
 ·rename_i b p l off len
  have hrow:∀ k li,p=[]->(H b = .rowI k li\/H b = .frzI k li)->K [b] [(b,.frzI k li)] (.roI k ((li.drop off).take len))->∃ rd wr d,K rd wr d/\(∀ y,y∈wr->H y.1 ≠ .dead) /\
    ∀ E H' w v,Q9 E H' w->(∀ b,b∈rd->H' b=H b)->o0 E (.sl b p l off len) v->∃ E',q9 E H' w wr .any undef E' w/\u7 E'.rd d v.cells.toList/\v=q5 d.lay.isAgg v.cells.toList:=by
   intro k li hp hb hk
   subst hp
   refine ⟨_,_,_,hk,(fun y hy=>by rw [List.mem_singleton] at hy;rw [hy];rcases hb with hb|hb<;>(rw [hb];intro e;cases e)),fun E H' w v hR hrd hv => ?_⟩
   have hHb:=hrd b (by simp)
   have hbr:=hR.blk b
   have hst:∃ E',q9 E H' w [(b,.frzI k li)] .any undef E' w/\E.lay b = .arr li.length .one/\∀ r q,E.pl b = .at r q->D1 E'.rd r q (li.map (.int k)):=by
    rw [hHb] at hbr
    rcases hb with hb|hb
    ·rw [hb] at hbr
     obtain ⟨hl,hn|⟨r,q,hp,hrs,hm⟩⟩:=hbr
     ·refine ⟨E,q9.told (x := .frzI k li) hR (.inr hn.1) (fun hx=>by cases hx) ⟨hl,.inl hn⟩ (.any E _),hl,fun r q hp => ?_⟩
      rw [hn.1] at hp;cases hp
     ·have hrd':∀ j,j<li.length->(fun r' j=>if r'=r/\q≤j/\j<q+li.length then w.cell? ⟨r,j,none⟩ else E.rd r' j) r (q+j)=w.cell? ⟨r,q+j,none⟩:=fun j hj=>if_pos ⟨rfl,by omega,by omega⟩
      have hreads:D1 (fun r' j=>if r'=r/\q≤j/\j<q+li.length then w.cell? ⟨r,j,none⟩ else E.rd r' j) r q (li.map (.int k)):=by
       intro j hj
       rw [hrd' j (by simpa using hj)]
       exact hrs j hj
      refine ⟨_,q9.shut (x := .frzI k li) hR (by rw [hHb,hb];rfl) hp hm.1 rfl rfl ⟨hl,.inr ⟨r,q,hp,hreads⟩⟩ (.any _ _),hl,fun r' q' hp' => ?_⟩
      rw [hp] at hp'
      injection hp' with h1 h2
      subst h1;subst h2
      exact hreads
    ·rw [hb] at hbr
     refine ⟨E,q9.keep hR (by rw [hHb,hb]) (.any E _),hbr.1,fun r q hp => ?_⟩
     obtain ⟨hl,hn|⟨r',q',hp',hrs⟩⟩:=hbr
     ·rw [hn.1] at hp;cases hp
     ·rw [hp] at hp'
      injection hp' with h1 h2
      subst h1;subst h2
      exact hrs
   obtain ⟨E',hst,hlay,hreads⟩:=hst
   refine ⟨E',hst,?_⟩
   rcases S1 hv with ⟨r,q,so,n,c,e,hp,hl,hn,hc,ht⟩|⟨a,so,n,e,e0,hp,hl,hn⟩
   ·rw [hlay,o6] at hl
    cases hl
    subst e
    have hlen:((li.drop off).take len).length=len:=by simp [List.length_take,List.length_drop];omega
    refine ⟨?_,rfl⟩
    show u7 E'.rd _ [_]
    have:=u7.roI (rd:=E'.rd) k ((li.drop off).take len) r (q+off) c (by rw [hlen];exact hc) (by rw [M9];exact (hreads r q hp).sub)
    rw [hlen] at this
    simpa [t9.size] using this
   ·subst e;subst e0
    refine ⟨?_,rfl⟩
    show u7 E'.rd _ [_]
    rw [List.take_zero]
    exact .roI0 k a 0 fun _=>rfl
  have hrowD:∀ la n f,p=[]->(H b = .row la n f\/H b = .frz la n f)->K [b] [(b,.frz la n f)] (.ro la len fun j=>f (off+j))->∃ rd wr d,K rd wr d/\(∀ y,y∈wr->H y.1 ≠ .dead) /\
    ∀ E H' w v,Q9 E H' w->(∀ b,b∈rd->H' b=H b)->o0 E (.sl b p l off len) v->∃ E',q9 E H' w wr .any undef E' w/\u7 E'.rd d v.cells.toList/\v=q5 d.lay.isAgg v.cells.toList:=by
   intro la n f hp hb hk
   subst hp
   refine ⟨_,_,_,hk,(fun y hy=>by rw [List.mem_singleton] at hy;rw [hy];rcases hb with hb|hb<;>(rw [hb];intro e;cases e)),fun E H' w v hR hrd hv => ?_⟩
   have hHb:=hrd b (by simp)
   have hbr:=hR.blk b
   have hst:∃ E',q9 E H' w [(b,.frz la n f)] .any undef E' w/\E.lay b = .arr n la/\∀ r q,E.pl b = .at r q->∃ css:Nat->List Value,(∀ i,i<n->u7 E'.rd (f i) (css i))/\(∀ i,i<n->(f i).lay=la)/\∀ i,i<n->D1 E'.rd r (q+i*la.size) (css i):=by
    rw [hHb] at hbr
    rcases hb with hb|hb
    ·rw [hb] at hbr
     obtain ⟨hl,hn|⟨r,q,css,hp,hf,hfl,hrs,hm⟩⟩:=hbr
     ·refine ⟨E,q9.told (x := .frz la n f) hR (.inr hn.1) (fun hx=>by cases hx) ⟨hl,.inl hn⟩ (.any E _),hl,fun r q hp => ?_⟩
      rw [hn.1] at hp;cases hp
     ·have hreads:∀ i,i<n->D1 (fun r' j=>if r'=r/\q≤j/\j<q+n*la.size then w.cell? ⟨r,j,none⟩ else E.rd r' j) r (q+i*la.size) (css i):=by
       intro i hi j hj
       have hci:(css i).length=la.size:=by rw [(hf i hi).len,hfl i hi]
       have hmul:(i+1)*la.size≤n*la.size:=Nat.mul_le_mul_right _ hi
       rw [Nat.add_mul,Nat.one_mul] at hmul
       show (if _ then _ else _)=_
       rw [if_pos ⟨rfl,by omega,by omega⟩]
       exact hrs i hi j hj
      have hmono:∀ r' j v,E.rd r' j=some v->(if r'=r/\q≤j/\j<q+n*la.size then w.cell? ⟨r,j,none⟩ else E.rd r' j)=some v:=by
       intro r' j v hv
       rw [if_neg]
       ·exact hv
       ·rintro ⟨e,_⟩;subst e;exact hR.apart b r' q j v (by rw [hHb,hb];rfl) hp hv
      have hf':∀ i,i<n->u7 (fun r' j=>if r'=r/\q≤j/\j<q+n*la.size then w.cell? ⟨r,j,none⟩ else E.rd r' j) (f i) (css i):=fun i hi=>(hf i hi).mono hmono
      refine ⟨_,q9.shut (x := .frz la n f) hR (by rw [hHb,hb];rfl) hp hm.1 rfl rfl ⟨hl,.inr ⟨r,q,css,hp,hf',hfl,hreads⟩⟩ (.any _ _),hl,fun r' q' hp' => ?_⟩
      rw [hp] at hp'
      injection hp' with h1 h2
      subst h1;subst h2
      exact ⟨css,hf',hfl,hreads⟩
    ·rw [hb] at hbr
     refine ⟨E,q9.keep hR (by rw [hHb,hb]) (.any E _),hbr.1,fun r q hp => ?_⟩
     obtain ⟨hl,hn|⟨r',q',css,hp',hf,hfl,hrs⟩⟩:=hbr
     ·rw [hn.1] at hp;cases hp
     ·rw [hp] at hp'
      injection hp' with h1 h2
      subst h1;subst h2
      exact ⟨css,hf,hfl,hrs⟩
   obtain ⟨E',hst,hlay,hreads⟩:=hst
   refine ⟨E',hst,?_⟩
   rcases S1 hv with ⟨r,q,so,m,c,e,hp,hl,hn,hc,ht⟩|⟨a,so,m,e,e0,hp,hl,hn⟩
   ·rw [hlay,o6] at hl
    cases hl
    subst e
    obtain ⟨css,hf,hfl,hrs⟩:=hreads r q hp
    refine ⟨?_,rfl⟩
    show u7 E'.rd _ [_]
    have:=u7.ro (rd:=E'.rd) l len (fun j=>f (off+j)) (fun j=>css (off+j)) r (q+off*l.size) c hc (fun i hi=>hf _ (by omega)) (fun i hi=>hfl _ (by omega)) (fun i hi=>by
     have:=hrs (off+i) (by omega)
     rw [Nat.add_mul,←Nat.add_assoc] at this
     exact this)
    simpa using this
   ·subst e;subst e0
    refine ⟨?_,rfl⟩
    show u7 E'.rd _ [_]
    exact .ro0 la _ a 0 fun _=>rfl
  split at h
  ·rename_i k li hb
   split at h
   ·exact hrow k li rfl (.inl hb) h
   ·exact h.elim
  ·rename_i k li hb
   split at h
   ·exact hrow k li rfl (.inr hb) h
   ·exact h.elim
  ·rename_i la n f hb
   split at h
   ·exact hrowD la n f rfl (.inl hb) h
   ·exact h.elim
  ·rename_i la n f hb
   split at h
   ·exact hrowD la n f rfl (.inr hb) h
   ·exact h.elim
  ·exact h.elim
 ·exact h.elim
def a43 (rd:Rd):List (Nat×DV)->List (Nat×Value)->Prop
 |[],[]=>True
 |(i,d)::ds,(j,v)::vs=>(i=j/\u7 rd d v.cells.toList/\v=q5 d.lay.isAgg v.cells.toList)/\a43 rd ds vs
 |_,_=>False
theorem a43.mono {rd rd':Rd} (hr:∀ r j v,rd r j=some v->rd' r j=some v):∀ {ds:List (Nat×DV)} {vs:List (Nat×Value)},a43 rd ds vs->a43 rd' ds vs
 |[],[],_=>trivial
 |(i,d)::ds,(j,v)::vs,h=>⟨⟨h.1.1,h.1.2.1.mono hr,h.1.2.2⟩,a43.mono hr h.2⟩
 |[],_::_,h=>h.elim
 |_::_,[],h=>h.elim
theorem Pi:∀ {H:Nat->j6} {ps:List (Nat×Operand)} {K:List Nat->List (Nat×j6)->List (Nat×DV)->Prop},Pk H (ps.map fun x=>(x.1,ρ x.2)) K->∃ rd wr ds,K rd wr ds/\(∀ y,y∈wr->H y.1 ≠ .dead) /\
  ∀ E H' (a:Act) w,Q9 E H' w->(∀ b,b∈rd->H' b=H b)->(∀ x,x∈ps->o0 E (ρ x.2) (a.eval x.2))->∃ E',q9 E H' w wr .any undef E' w/\a43 E'.rd ds (ps.map fun x=>(x.1,a.eval x.2))
 |H,[],K,h=>⟨[],[],[],h,(fun y hy=>by cases hy),fun E H' a w hR _ _=>⟨E,.none_ hR,trivial⟩⟩
 |H,(i,x)::ps,K,h=>by
  simp only [List.map_cons,Pk] at h
  obtain ⟨rd,wr,d,h,hwr,hrun⟩:=Sn h
  rw [f59] at h
  obtain ⟨rd',wr',ds,h,hwr',hrun'⟩:=Pi h
  refine ⟨rd++rd',wr++wr',(i,d)::ds,h,?_,fun E H' a w hR hrd hop => ?_⟩
  ·intro y hy
   rcases List.mem_append.1 hy with hy|hy
   ·exact hwr y hy
   ·have h1:=hwr' y hy
    by_cases hm:∃ z,z∈wr/\z.1=y.1
    ·obtain ⟨z,hz,e⟩:=hm
     rw [←e];exact hwr z hz
    ·rw [L7 fun z hz e=>hm ⟨z,hz,e⟩] at h1
     exact h1
  ·obtain ⟨E1,hs1,hd,hv⟩:=hrun E H' w (a.eval x) hR (fun b hb=>hrd b (List.mem_append.2 (.inl hb))) (Br (hop (i,x) (List.mem_cons_self ..)))
   have hagree:∀ b,b∈rd'->upds H' wr b=upds H wr b:=by
    intro b hb
    have:∀ (wr:List (Nat×j6)) (H' H:Nat->j6),H' b=H b->upds H' wr b=upds H wr b:=by
     intro wr
     induction wr with
     |nil=>intro H' H h;exact h
     |cons y wr ih =>
      intro H' H h
      obtain ⟨c,z⟩:=y
      refine ih _ _ ?_
      unfold Pf
      split
      ·rfl
      ·exact h
    exact this wr H' H (hrd b (List.mem_append.2 (.inr hb)))
   obtain ⟨E2,hs2,hds⟩:=hrun' E1 (upds H' wr) a w hs1.rel hagree fun y hy=>(hop y (List.mem_cons_of_mem _ hy)).ext hs1.ext
   refine ⟨E2,hs1.trans hR hs2,⟨rfl,hd.mono hs2.ext.rd,hv⟩,hds⟩
end
end Go.Eng

namespace Go.Eng
section
variable {P:Program} {G:G1} {T:Tr} {o:Oper} {ρ:Operand->AV} {H:Nat->j6} {K:V7}
theorem Yf (off:Nat):∀ (vs:List Value) (k:Nat) (cells:Array Value),off+k+vs.length≤cells.size ->
  ((vs.zipIdx k).foldl (fun cs (x:Value×Nat)=>cs.setIfInBounds (off+x.2) x.1) cells).toList=u5 cells.toList (off+k) vs
 |[],k,cells,_=>by simp [u5]
 |v::vs,k,cells,h=>by
  simp only [List.length_cons] at h
  rw [List.zipIdx_cons,List.foldl_cons,Yf off vs (k+1) _ (by simp;omega)]
  simp only [Array.toList_setIfInBounds]
  have hk:off+k<cells.toList.length:=by simp;omega
  rw [List.set_eq_take_append_cons_drop,if_pos hk]
  have e:cells.toList.take (off+k)++v::cells.toList.drop (off+k+1)=(cells.toList.take (off+k)++[v])++cells.toList.drop (off+k+1):=by simp
  have hl:(cells.toList.take (off+k)++[v]).length=off+(k+1):=by simp;omega
  rw [e]
  have:=Hv (cells.toList.take (off+k)++[v]) (cells.toList.drop (off+k+1)) vs 0
  rw [hl,show off+(k+1)+0=off+(k+1) from rfl] at this
  rw [this]
  unfold u5
  simp only [List.take_zero,List.nil_append,Nat.zero_add,List.drop_drop,List.length_cons,List.append_assoc,List.cons_append]
  congr 3
  congr 1
  omega
theorem Ra {place:Nat->Option (Nat×Nat)} {i:Nat} {v:Value} {rest:List (Nat×Value)} {cells:Array Value} {off size:Nat} (hp:place i=some (off,size)) (hs:v.cells.toList.length=size) (hle:off+size≤cells.size) :
  Instr.fill place cells ((i,v)::rest)=Instr.fill place (u5 cells.toList off v.cells.toList).toArray rest:=by
 have hs':v.cells.size=size:=by simpa using hs
 have hf:v.cells.zipIdx.foldl (fun cs (x:Value×Nat)=>cs.setIfInBounds (off+x.2) x.1) cells=(u5 cells.toList off v.cells.toList).toArray:=by
  rw [←Array.toList_inj,←Array.foldl_toList,Array.toList_zipIdx]
  have:=Yf off v.cells.toList 0 cells (by rw [hs];exact hle)
  exact this
 show (match place i with|none=>none|some (off,size)=>if v.cells.size≠size||off+v.cells.size>cells.size then none else Instr.fill place (v.cells.zipIdx.foldl (fun cs (x:Value×Nat)=>cs.setIfInBounds (off+x.2) x.1) cells) rest)=_
 rw [hp]
 simp only
 rw [if_neg (by simp [hs'];omega),hf]
theorem Wj {k:IntKind} {n:Nat}:∀ {ps:List (Nat×Operand)} {l:List Int} {K:List Int->Prop},Uc k n (ps.map fun x=>(x.1,ρ x.2)) l K->l.length=n->∃ l',K l'/\l'.length=n /\
  ∀ E (a:Act),(∀ x,x∈ps->o0 E (ρ x.2) (a.eval x.2))->Instr.fill (fun i=>some (i*1,1)) (l.map (Value.int k)).toArray (ps.map fun x=>(x.1,a.eval x.2))=some (l'.map (Value.int k)).toArray
 |[],l,K,h,hl=>⟨l,h,hl,fun E a _=>rfl⟩
 |(i,x)::ps,l,K,h,hl=>by
  simp only [List.map_cons,Uc] at h
  obtain ⟨k',v,hx,h⟩:=C5 h
  split at h
  ·rename_i hk hi
   obtain rfl:=F4 hk
   have hi:i<n:=by rw [Nat.blt_eq] at hi;exact hi
   obtain ⟨l',hK,hl',hrun⟩:=Wj h (by simpa using hl)
   refine ⟨l',hK,hl',fun E a hop => ?_⟩
   have e:=K7 (hx▸hop (i,x) (List.mem_cons_self ..))
   rw [List.map_cons,Ra (off:=i*1) (size:=1) rfl (by rw [e];rfl) (by simp;omega),e]
   have:=hrun E a fun y hy=>hop y (List.mem_cons_of_mem _ hy)
   rw [Jf k l i v (by omega)] at this
   simpa [Value.cells] using this
  ·exact h.elim
theorem So {rd:Rd} {n:Nat} {la:t9}:∀ {ds:List (Nat×DV)} {vs:List (Nat×Value)} {f:Nat->DV} {css:Nat->List Value},a43 rd ds vs->a48 n la ds=true->(∀ i,i<n->u7 rd (f i) (css i))->(∀ i,i<n->(f i).lay=la) ->
  ∃ css',Instr.fill (fun i=>some (i*la.size,la.size)) ((List.range n).flatMap css).toArray vs=some ((List.range n).flatMap css').toArray/\(∀ i,i<n->u7 rd (Lv f ds i) (css' i))/\∀ i,i<n->(Lv f ds i).lay=la
 |[],[],f,css,_,_,hf,hfl=>⟨css,rfl,hf,hfl⟩
 |(i,d)::ds,(j,v)::vs,f,css,hr,hl,hf,hfl=>by
  obtain ⟨⟨rfl,hd,_⟩,hr⟩:=hr
  simp only [a48] at hl
  split at hl
  ·rename_i hi hdl
   have hi:i<n:=by rw [Nat.blt_eq] at hi;exact hi
   have hdl:=of_decide_eq_true hdl
   have hlen:v.cells.toList.length=la.size:=by rw [hd.len,hdl]
   have hcl:∀ i,i<n->(css i).length=la.size:=fun i hi=>by rw [(hf i hi).len,hfl i hi]
   have hmul:(i+1)*la.size≤n*la.size:=Nat.mul_le_mul_right _ hi
   rw [Nat.add_mul,Nat.one_mul] at hmul
   have hstep:∀ j,(match Nat.beq j i with|true=>d|false=>f j)=if j=i then d else f j:=by
    intro j
    cases h:Nat.beq j i with
    |true=>rw [Nat.eq_of_beq_eq_true h,if_pos rfl]
    |false=>rw [if_neg (Nat.ne_of_beq_eq_false h)]
   obtain ⟨css',hfill,hrep,hlay⟩:=So (f:=fun j=>match Nat.beq j i with|true=>d|false=>f j) (css:=fun j=>if j=i then v.cells.toList else css j) hr hl
    (by
     intro j hj
     simp only [hstep]
     by_cases e:j=i
     ·rw [if_pos e,if_pos e];exact hd
     ·rw [if_neg e,if_neg e];exact hf j hj)
    (by
     intro j hj
     simp only [hstep]
     by_cases e:j=i
     ·rw [if_pos e];exact hdl
     ·rw [if_neg e];exact hfl j hj)
   refine ⟨css',?_,hrep,hlay⟩
   rw [Ra (off:=i*la.size) (size:=la.size) rfl hlen (by simp only [List.size_toArray];rw [v6 css la.size n hcl];omega)]
   have e:=Yp css v.cells.toList la.size n i hcl hlen hi
   rw [←hfill,e]
  ·cases hl
 |[],_::_,_,_,h,_,_,_=>h.elim
 |_::_,[],_,_,h,_,_,_=>h.elim
theorem d55 {fields:List Field} (h:∀ f,f∈fields->∃ i,P.info? f.type=some i) (w:World) :
  (fields.mapM (m:=Sem) fun f=>do pure (f.offset,←sizeOf f.type)).run P w = .ok (fields.map fun f=>(f.offset,P.cellsOf f.type)) w:=by
 induction fields with
 |nil=>rfl
 |cons f fs ih =>
  obtain ⟨i,hi⟩:=h f (List.mem_cons_self ..)
  rw [List.mapM_cons]
  simp only [Sem.run_bind,M8 hi,Result.andThen_ok,Sem.run_pure,ih fun g hg=>h g (List.mem_cons_of_mem _ hg),List.map_cons]
theorem Yg (hT:v5 P T) {t:TypeId} {fields:Array Field} (hu:P.underlying t=some (.struct fields)):∀ {ps:List (Nat×Operand)} {x:AV} {K:AV->Prop},f62 T t (ps.map fun x=>(x.1,ρ x.2)) x K->∃ y,K y /\
  ∀ E (a:Act) cs,r6 E x cs->(∀ x,x∈ps->o0 E (ρ x.2) (a.eval x.2))->∃ cs',r6 E y cs'/\y.lay=x.lay/\Instr.fill (fun i=>(fields.map fun f=>(f.offset,P.cellsOf f.type))[i]?) cs.toArray (ps.map fun x=>(x.1,a.eval x.2))=some cs'.toArray
 |[],x,K,h=>⟨x,h,fun E a cs hx _=>⟨cs,hx,rfl,rfl⟩⟩
 |(i,z)::ps,x,K,h=>by
  simp only [List.map_cons,f62] at h
  split at h
  ·rename_i hs
   obtain ⟨l',h,fields',fd,off,hu',hf,hoff,hloc,hfit,hne,inf,hi⟩:=Ni hT h
   rw [hu] at hu'
   cases hu'
   split at h
   ·rename_i hl
    have hl:=of_decide_eq_true hl
    split at h
    ·rename_i hxl
     have hxl:=of_decide_eq_true hxl
     obtain ⟨y,hK,hrun⟩:=Yg hT hu h
     refine ⟨y,hK,fun E a cs hx hop => ?_⟩
     obtain ⟨cz,hcz,hcells,_⟩:=(Br (hop (i,z) (List.mem_cons_self ..))).inv (Jg _ hs)
     have hset:=hx.setP hloc hcz (by rw [Mh,hl]) hxl
     obtain ⟨cs',hy,hyl,hfill⟩:=hrun E a _ hset fun w hw=>hop w (List.mem_cons_of_mem _ hw)
     refine ⟨cs',hy,hyl.trans hxl,?_⟩
     have hsz:P.cellsOf fd.type=l'.size:=A0 hT hfit
     have hlen:(a.eval z).cells.toList.length=l'.size:=by rw [hcells,hcz.len,Mh,hl]
     rw [List.map_cons,Ra (off:=off) (size:=l'.size) (by rw [Array.getElem?_map,hf,Option.map_some,hoff,hsz]) hlen (by simp only [List.size_toArray];rw [hx.len];exact R1 hloc),hcells]
     exact hfill
    ·exact h.elim
   ·exact h.elim
  ·exact h.elim
end
end Go.Eng

namespace Go.Eng
section
variable {P:Program} {G:G1} {T:Tr} {o:Oper} {ρ:Operand->AV} {H:Nat->j6} {K:V7}
theorem c06 {t:TypeId} {parts:Array (Nat×Operand)} (ho:o.op = .build t parts\/∃ n,o.op = .buildSlice t n parts):∀ x,x∈parts.toList->x.2∈o9 o.op:=by
 intro x hx
 rcases ho with ho|⟨n,ho⟩ <;>
 ·simp only [o9,ho,Op.operands]
  simp only [List.mem_map]
  exact ⟨x,hx,rfl⟩
theorem Sp (parts:Array (Nat×Operand)) (f:Operand->Value):(parts.map fun (i,x)=>(i,f x)).toList=parts.toList.map fun x=>(x.1,f x.2):=by
 simp
theorem q9.free {E E':y6} {H:Nat->j6} {w w':World} {wr:List (Nat×j6)} {x y:AV} {u v:Value} (h:q9 E H w wr x u E' w') (hv:o0 E' y v):q9 E H w wr y v E' w' :=
 ⟨hv,h.rel,h.ext,h.mem,h.born,h.live,h.others⟩
theorem Pj (z:List Value) (n:Nat):(List.range n).flatMap (fun _=>z)=(List.replicate n z).flatten:=by
 induction n with
 |zero=>rfl
 |succ n ih=>rw [List.range_succ,List.flatMap_append,ih,List.replicate_succ'];simp
theorem f02 {t:TypeId} {parts:Array (Nat×Operand)} (hT:v5 P T) (ho:o.op = .build t parts) (h:f07 T t (parts.toList.map fun (i,x)=>(i,ρ x)) H K):V9 P G o ρ H K:=by
 have mp:=c06 (.inl ho)
 have hex:∀ (a:Act) (w:World) (v:Value),(Instr.build t (parts.map fun (i,x)=>(i,a.eval x))).run P w = .ok v w->(execOp a.eval o).run P w = .ok (.value v) w:=by
  intro a w v h
  simp [execOp,ho,h]
 unfold f07 at h
 split at h
 ·rename_i n e hk
  obtain ⟨hu,ie,hie⟩:=Ku hT hk
  obtain ⟨it,d,z,zs,hit,hd,_,hsz,_,_,_,hzl,hz,hzc,hzr,_⟩:=(hT.entry (R2 (t:=t) (by rw [hk];intro h;cases h))).info
  have hrun:∀ (a:Act) (w:World) (cells:List Value) (s:Nat),P.cellsOf e=s->Instr.fill (fun i=>some (i*s,s)) zs.toArray (parts.toList.map fun x=>(x.1,a.eval x.2))=some cells.toArray ->
    (Instr.build t (parts.map fun (i,x)=>(i,a.eval x))).run P w = .ok (.agg cells.toArray) w:=by
   intro a w cells s hs hf
   have hzc':z.cells=zs.toArray:=by rw [←Array.toList_inj,hzc]
   have hl:=Sp parts a.eval
   have hs':(sizeOf e).run P w = .ok s w:=by rw [M8 hie w,hs]
   unfold Instr.build
   simp only [Sem.run_bind,zeroValue,typeInfo,run_program,Result.andThen_ok,hit,Sem.run_pure,hz,run_underlying hu,hs',hl,hzc',hf]
  split at h
  ·rename_i k m l hzero
   split at h
   ·rename_i h1 h2
    obtain rfl:=Nat.eq_of_beq_eq_true h1
    rw [hzero] at hzr
    simp only [Ac] at hzr
    split at hzr
    ·rename_i hln
     cases hzr
     obtain ⟨l',hK,hl',hf⟩:=Wj h hln
     refine ⟨_,_,_,hK,.pure fun E a w hop=>⟨_,hex a w _ (hrun a w _ 1 (A0 hT h2) (hf E a fun x hx=>hop _ (mp x hx))),?_⟩⟩
     exact .of (.dv (.ints k n l' hl')) rfl
    ·cases hzr
   ·exact h.elim
  ·rename_i m la f hzero
   obtain ⟨rd,wr,ds,hk5,hwr,hfr⟩:=Pi h
   split at hk5
   ·rename_i h1 h2 h3
    obtain rfl:=Nat.eq_of_beq_eq_true h1
    refine ⟨_,_,_,hk5,.of fun E H' a w hR hG hop hrd _ => ?_⟩
    obtain ⟨E',hst,hds⟩:=hfr E H' a w hR hrd fun x hx=>hop _ (mp x hx)
    have hz0:=Ad E'.rd hzr
    rw [hzero] at hz0
    cases hz0 with
    |fam _ _ _ css hf hfl =>
     obtain ⟨css',hfill,hrep,hlay⟩:=So hds h3 hf hfl
     refine ⟨_,w,E',.inl (hex a w _ (hrun a w _ la.size (A0 hT h2) hfill)),hst.free ?_⟩
     exact .of (.dv (.fam n la _ css' hrep hlay)) rfl
   ·exact hk5.elim
  ·exact h.elim
 ·rename_i fs hk
  obtain ⟨fields,hu,hfs,hinfo⟩:=Nu hT hk
  obtain ⟨it,d,z,zs,hit,hd,_,hsz,_,_,hagg,hzl,hz,hzc,hzr,_⟩:=(hT.entry (R2 (t:=t) (by rw [hk];intro h;cases h))).info
  obtain ⟨y,hK,hfr⟩:=Yg hT hu h
  refine ⟨_,_,_,hK,.pure fun E a w hop => ?_⟩
  obtain ⟨cs',hy,hyl,hf⟩:=hfr E a zs (.dv (Ad E.rd hzr)) fun x hx=>hop _ (mp x hx)
  have hya:y.isAgg=true:=by
   rw [hu] at hd
   cases hd
   unfold AV.isAgg
   rw [hyl,AV.lay,hzl,hagg];rfl
  refine ⟨_,hex a w _ ?_,.agg hy hya⟩
  have hzc':z.cells=zs.toArray:=by rw [←Array.toList_inj,hzc]
  have hl:=Sp parts a.eval
  have hm:(fields.mapM (m:=Sem) fun f=>do pure (f.offset,←sizeOf f.type)).run P w = .ok (fields.map fun f=>(f.offset,P.cellsOf f.type)) w:=by
   rw [Array.mapM_eq_mapM_toList]
   rw [Sem.run_map,d55 (fun f hf=>by
    obtain ⟨i,hi,_⟩:=hinfo (f.offset,f.type) (by rw [←hfs];exact List.mem_map.2 ⟨f,hf,rfl⟩)
    exact ⟨i,hi⟩) w]
   simp only [Result.andThen_ok]
   congr 1
   rw [←Array.toList_inj];simp
  unfold Instr.build
  simp only [Sem.run_bind,zeroValue,typeInfo,run_program,Result.andThen_ok,hit,Sem.run_pure,hz,run_underlying hu,hm,hl,hzc',hf]
 ·exact h.elim
theorem a44 (zs:List Value) (n:Nat) (hpos:0<zs.length):((Array.range (n*zs.length)).map fun j=>zs.toArray[j%zs.toArray.size]!)=((List.range n).flatMap fun _=>zs).toArray:=by
 rw [←Array.toList_inj]
 apply List.ext_getElem?
 intro j
 have hlen:=v6 (fun _=>zs) zs.length n (fun _ _=>rfl)
 by_cases hj:j<n*zs.length
 ·have hd:=Ij (fun _=>zs) zs.length n (j/zs.length) (fun _ _=>rfl) (Nat.div_lt_of_lt_mul (by rw [Nat.mul_comm];exact hj))
  have hm:=Nat.mod_lt j hpos
  have e1:((List.range n).flatMap fun _=>zs)[j]?=zs[j%zs.length]?:=by
   have h2:zs[j%zs.length]?=((((List.range n).flatMap fun _=>zs).drop (j/zs.length*zs.length)).take zs.length)[j%zs.length]?:=by rw [hd]
   rw [h2,List.getElem?_take_of_lt hm,List.getElem?_drop]
   congr 1
   have:=Nat.div_add_mod j zs.length
   rw [Nat.mul_comm] at this
   omega
  rw [e1]
  simp [hj,hm]
 ·rw [List.getElem?_eq_none (by simp;omega),List.getElem?_eq_none (by rw [hlen];omega)]
theorem c07:∀ {ps:List (Nat×Operand)} {i:Nat} {K:List AV->Prop},f63 i (ps.map fun x=>(x.1,ρ x.2)) K->∃ xs,K xs/\xs.length=ps.length/\(a35 xs).lay=Wg ps.length /\
  ∀ E (a:Act),(∀ x,x∈ps->o0 E (ρ x.2) (a.eval x.2))->∃ cs:List Value,cs.length=ps.length/\r6 E (a35 xs) cs /\
   ∀ pre tail:List Value,pre.length=i->tail.length=ps.length->Instr.fill (fun i=>some (i*1,1)) (pre++tail).toArray (ps.map fun x=>(x.1,a.eval x.2))=some (pre++cs).toArray
 |[],i,K,h=>⟨[],h,rfl,rfl,fun E a _=>⟨[],rfl,.dv .nil,fun pre tail _ ht=>by
   obtain rfl:=List.length_eq_zero_iff.1 ht
   rfl⟩⟩
 |(j,x)::ps,i,K,h=>by
  simp only [List.map_cons,f63] at h
  split at h
  ·rename_i h1 h2 h3
   obtain rfl:=Nat.eq_of_beq_eq_true h1
   obtain ⟨xs,hK,hl,hlay,hrest⟩:=c07 h
   have hone:(Z7 (ρ x)).lay = .one:=by rw [Mh];exact Cp h3
   refine ⟨Z7 (ρ x)::xs,hK,by simp [hl],?_,fun E a hop => ?_⟩
   ·show t9.pair (Z7 (ρ x)).lay (a35 xs).lay=_
    rw [hone,hlay];rfl
   ·obtain ⟨cs1,hc1,hv1,_⟩:=(Br (hop _ (List.mem_cons_self ..))).inv (Jg _ h2)
    have hlen1:cs1.length=1:=by rw [hc1.len,hone];rfl
    obtain ⟨c,rfl⟩:=List.length_eq_one_iff.1 hlen1
    obtain ⟨cs,hcl,hcs,hfill⟩:=hrest E a fun y hy=>hop y (List.mem_cons_of_mem _ hy)
    refine ⟨c::cs,by simp [hcl],.cons hc1 hcs,fun pre tail hp ht => ?_⟩
    obtain ⟨t0,tail,rfl⟩:∃ t0 tl,tail=t0::tl:=by
     cases tail with
     |nil=>simp at ht
     |cons t0 tl=>exact ⟨t0,tl,rfl⟩
    have hsz:(a.eval x).cells.size=1:=by rw [←Array.length_toList,hv1];rfl
    rw [List.map_cons,Ra (off:=i*1) (size:=1) rfl hsz (by simp;omega),hv1]
    have e:u5 (pre++t0::tail).toArray.toList (i*1) [c]=(pre++[c])++tail:=by
     rw [Nat.mul_one]
     subst hp
     simp [u5]
    rw [e,hfill (pre++[c]) tail (by simp [hp]) (by simpa using ht)]
    simp
  ·exact h.elim
theorem Zq {t:TypeId} {len:Nat} {parts:Array (Nat×Operand)} {key:Nat} (hT:v5 P T) (ho:o.op = .buildSlice t len parts)
  (hkey:H key = .dead) (h:Pl T key t len H (parts.toList.map fun (i,x)=>(i,ρ x)) K):V9 P G o ρ H K:=by
 have mp:=c06 (.inr ⟨len,ho⟩)
 have hex:∀ (a:Act) (w w':World) (v:Value),(Instr.buildSlice t len (parts.map fun (i,x)=>(i,a.eval x))).run P w = .ok v w'->(execOp a.eval o).run P w = .ok (.value v) w':=by
  intro a w w' v h
  simp [execOp,ho,h]
 unfold Pl at h
 split at h
 ·rename_i e hk
  obtain ⟨hu,ie0,hie0⟩:=T5 hT hk
  split at h
  ·rename_i hbig hfit
   have hcells:=A0 hT hfit
   obtain ⟨hs,_,hke⟩:=Bo hfit
   obtain ⟨ie,d,z,zs,hie,hd,_,hsz,_,hls,_,hzl,hz,hzc,hzr,_⟩:=(hT.entry hke).info
   have hzlen:zs.length=(T.get e).size:=by rw [(Ad (fun _ _=>none) hzr).len,hzl,hs]
   have hbig:len*(T.get e).size≤100000:=by
    have:=Nat.le_of_ble_eq_true hbig
    exact this
   have hrun:∀ (a:Act) (w:World) (cells:List Value),Instr.fill (fun i=>some (i*zs.length,zs.length)) ((List.range len).flatMap fun _=>zs).toArray (parts.toList.map fun x=>(x.1,a.eval x.2))=some cells.toArray ->
     (Instr.buildSlice t len (parts.map fun (i,x)=>(i,a.eval x))).run P w = .ok (.slice (some ⟨w.heap.size,0,none⟩) len len) (w.alloc (.cells cells.toArray e)):=by
    intro a w cells hf
    have hzc':z.cells=zs.toArray:=by rw [←Array.toList_inj,hzc]
    have hl:=Sp parts a.eval
    have hs':(sizeOf e).run P w = .ok zs.length w:=by rw [M8 hie w,hcells,hzlen,hs]
    have hnb:¬ (len*zs.length>2^24):=by rw [hzlen];omega
    unfold Instr.buildSlice
    simp only [Sem.run_bind,run_underlying hu,Result.andThen_ok,hs',Sem.run_ite,if_neg hnb,Sem.run_pure]
    by_cases h0:len*zs.length=0
    ·have e1:((List.range len).flatMap fun _=>zs)=[]:=by
      apply List.eq_nil_of_length_eq_zero
      rw [v6 (fun _=>zs) zs.length len fun _ _=>rfl];exact h0
     rw [e1] at hf
     simp only [if_pos h0,Result.andThen_ok,hl]
     have e2:((Array.range (len*zs.length)).map fun j=>(#[]:Array Value)[j%(#[]:Array Value).size]!) = #[]:=by rw [h0];simp
     rw [e2,hf]
     simp [newRow]
    ·have hpos:0<zs.length:=Nat.pos_of_ne_zero fun e=>h0 (by rw [e,Nat.mul_zero])
     simp only [if_neg h0,zeroValue,typeInfo,Sem.run_bind,run_program,Result.andThen_ok,hie,Sem.run_pure,hz,hl,hzc',a44 zs len hpos,hf]
     simp [newRow]
   split at h
   ·rename_i k zi hzero
    rw [hzero] at hzr hzl
    simp only [Ac] at hzr
    split at hzr
    ·cases hzr
     obtain ⟨l',hK,hl',hf⟩:=Wj h (by simp)
     refine ⟨_,_,_,hK,.of fun E H' a w hR hG hop _ hwr => ?_⟩
     have hb:E.pl key = .unborn:=hwr (key,_) (List.mem_singleton.2 rfl) hkey
     have hz1:((List.range len).flatMap fun _=>[Value.int k zi])=(List.replicate len zi).map (.int k):=by
      rw [Pj,List.map_replicate,List.flatten_replicate_singleton]
     have hrun':=hrun a w (l'.map (.int k)) (by rw [hz1];exact hf E a fun x hx=>hop _ (mp x hx))
     obtain ⟨E',hst⟩:=q9.rowI (k:=k) (l:=l') (cs:=l'.map (.int k)) hR hb (List.take_of_length_le (by rw [List.length_map];exact Nat.le_refl _)) (by rw [List.length_map];exact Nat.le_refl _) e (0,0) (.inr (Nat.le_refl _))
     refine ⟨_,_,E',.inl (hex a w _ _ hrun'),?_⟩
     rw [List.length_map,hl'] at hst
     exact hst
    ·cases hzr
   ·rename_i hzero
    rcases h with h|h
    case inr =>
     obtain ⟨xs,h,hxl,hxlay,hfr⟩:=c07 h
     split at h
     ·rename_i h1 h2
      have h1:=Nat.eq_of_beq_eq_true h1
      have h2:=Nat.eq_of_beq_eq_true h2
      refine ⟨_,_,_,h,.of fun E H' a w hR hG hop _ hwr => ?_⟩
      have hb:E.pl key = .unborn:=hwr (key,_) (List.mem_singleton.2 rfl) hkey
      obtain ⟨cs,hcl,hcs,hfill⟩:=hfr E a fun x hx=>hop _ (mp x hx)
      have hz1:zs.length=1:=by omega
      have hlen0:((List.range len).flatMap fun _=>zs).length=parts.toList.length:=by
       rw [v6 (fun _=>zs) zs.length len fun _ _=>rfl,hz1,Nat.mul_one,←hxl,h1]
      have hf:=hfill [] _ rfl hlen0
      have hrun':=hrun a w cs (by rw [hz1];exact hf)
      obtain ⟨E',hst⟩:=q9.box hR hb hcs e
      have hbr:=hst.rel.blk key
      have hHk:upds H' [(key,.var (a35 xs))] key = .var (a35 xs):=if_pos rfl
      rw [hHk] at hbr
      obtain ⟨r,o,_,hp,hla,_⟩:=hbr
      obtain ⟨r',q',off,ex,hp',hl'⟩:=X1 hst.val
      rw [o6] at hl'
      injection hl' with hl'
      injection hl' with hl' _
      rw [hp'] at hp
      injection hp with e1 e2
      injection ex with ex;injection ex with ex
      injection ex with ex1 ex2 _
      have hq:q'=0:=by omega
      have hpk:E'.pl key = .at w.heap.size 0:=by rw [hp',←ex1,hq]
      have hv:o0 E' (.vs key 0 len) (.slice (some ⟨w.heap.size,0,none⟩) len len):=by
       have:=r6.vs (E:=E') key 0 len w.heap.size 0 len len hpk (by rw [hla,hxlay,←hxl,h1]) (by omega) (Nat.le_refl _)
       exact .one this rfl
      exact ⟨_,_,E',.inl (hex a w _ _ hrun'),hst.free hv⟩
     ·exact h.elim
    obtain ⟨rd,wr,ds,hk5,hwr0,hfr⟩:=Pi h
    split at hk5
    ·rename_i hlay
     refine ⟨_,_,_,hk5,.of fun E H' a w hR hG hop hrd hwr => ?_⟩
     have hb:E.pl key = .unborn:=hwr (key,_) (List.mem_append.2 (.inr (List.mem_singleton.2 rfl))) hkey
     obtain ⟨E1,hst,hds⟩:=hfr E H' a w hR hrd fun x hx=>hop _ (mp x hx)
     obtain ⟨css',hfill,hrep,hlay'⟩:=So (f:=fun _=>(T.get e).zero) (css:=fun _=>zs) hds hlay (fun i _=>Ad E1.rd hzr) (fun i _=>hzl)
     have hs2:(T.get e).lay.size=zs.length:=by rw [hzlen,hs]
     rw [hs2] at hfill
     have hrun':=hrun a w _ hfill
     have hb1:E1.pl key = .unborn:=by
      refine Classical.byContradiction fun hne => ?_
      obtain ⟨y,hy,hyk⟩:=List.mem_map.1 (hst.born key hb hne)
      exact hwr0 y hy (by rw [hyk];exact hkey)
     obtain ⟨E',hst'⟩:=q9.row (f:=Lv (fun _=>(T.get e).zero) ds) hst.rel hb1 hrep hlay' (cs:=(List.range len).flatMap css') (Nat.le_refl len) (v6 css' _ len fun i hi=>by rw [(hrep i hi).len,hlay' i hi]) (by
      rw [List.take_of_length_le]
      rw [v6 css' (T.get e).lay.size len fun i hi=>by rw [(hrep i hi).len,hlay' i hi]]
      exact Nat.le_refl _) e
     exact ⟨_,_,E',.inl (hex a w _ _ hrun'),hst.trans hR hst'⟩
    ·exact hk5.elim
  ·exact h.elim
 ·exact h.elim
theorem a45 {t:TypeId} {l c:Operand} {key:Nat} (hT:v5 P T) (ho:o.op = .makeSlice t l c) (hkey:H key = .dead) (h:Sr T key t (ρ l) (ρ c) K):V9 P G o ρ H K:=by
 have ml:l∈o9 o.op:=by simp [o9,ho,Op.operands]
 have mc:c∈o9 o.op:=by simp [o9,ho,Op.operands]
 unfold Sr at h
 split at h
 ·rename_i e hk
  obtain ⟨hu,ie0,hie0⟩:=T5 hT hk
  split at h
  ·rename_i hfit
   obtain ⟨hs,_,hke⟩:=Bo hfit
   obtain ⟨ie,d,z,zs,hie,hd,_,hsz,hby,hls,_,hzl,hz,hzc,hzr,_⟩:=(hT.entry hke).info
   have hzlen:zs.length=(T.get e).size:=by rw [(Ad (fun _ _=>none) hzr).len,hzl,hs]
   have hcells:=A0 hT hfit
   obtain ⟨k1,n,hl,h⟩:=C5 h
   obtain ⟨k2,m,hc,h⟩:=C5 h
   obtain ⟨⟨h0,hnm,hmx,hbig⟩,h⟩:=h
   have hex:∀ (a:Act) (w:World),(∀ x,x∈o9 o.op->∃ E,o0 E (ρ x) (a.eval x)) ->
     (execOp a.eval o).run P w = .ok (.value (.slice (some ⟨w.heap.size,0,none⟩) n.toNat m.toNat)) (w.alloc (.cells ((List.range m.toNat).flatMap fun _=>zs).toArray e)):=by
    intro a w hop
    obtain ⟨E1,h1⟩:=hop l ml
    obtain ⟨E2,h2⟩:=hop c mc
    have e1:=K7 (hl▸h1)
    have e2:=K7 (hc▸h2)
    have hzc':z.cells=zs.toArray:=by rw [←Array.toList_inj,hzc]
    have hwn:IntKind.i64.wrap n=n:=by unfold IntKind.wrap;simp [IntKind.bits,IntKind.signed];omega
    have hwm:IntKind.i64.wrap m=m:=by unfold IntKind.wrap;simp [IntKind.bits,IntKind.signed];omega
    have hb1:(T.get e).bytes*m≤140737488355328:=by rw [Int.mul_comm];exact hbig
    have hbn:(ie.bytes:Int)*m≤281474976710656:=by rw [hby];omega
    have hm0:¬ (m<0):=by omega
    have hn0:¬ (n<0):=by omega
    have hnm':¬ (n>m):=by omega
    have hs':∀ w,(sizeOf e).run P w = .ok zs.length w:=fun w=>by rw [M8 hie w,hcells,hzlen,hs]
    have hti:∀ w,(typeInfo e).run P w = .ok ie w:=fun w=>by simp [typeInfo,hie]
    have hzv:∀ w,(zeroValue e).run P w = .ok z w:=fun w=>by simp [zeroValue,typeInfo,hie,hz]
    have hcond:((decide (m<0)||decide ((ie.bytes:Int)*m>2^48))||decide (n<0)||decide (n>m))=false:=by simp [hm0,hbn,hn0,hnm']
    have hrun:(Instr.makeSlice t (a.eval l) (a.eval c)).run P w = .ok (.slice (some ⟨w.heap.size,0,none⟩) n.toNat m.toNat) (w.alloc (.cells ((List.range m.toNat).flatMap fun _=>zs).toArray e)):=by
     unfold Instr.makeSlice
     simp only [e1,e2,asInt,asIntOf,Sem.run_bind,run_underlying hu,Result.andThen_ok,Sem.run_pure,hti,hwn,hwm,hcond,Bool.false_eq_true,if_false,run_askRoom,hs',Sem.run_ite]
     by_cases hz0:m.toNat*zs.length=0
     ·have e3:((List.range m.toNat).flatMap fun _=>zs)=[]:=by
       apply List.eq_nil_of_length_eq_zero
       rw [v6 (fun _=>zs) zs.length _ fun _ _=>rfl];exact hz0
      have e4:((Array.range (m.toNat*zs.length)).map fun j=>(#[]:Array Value)[j%(#[]:Array Value).size]!) = #[]:=by rw [hz0];simp
      simp only [if_pos hz0,Result.andThen_ok,e4,e3]
      simp [newRow]
     ·have hpos:0<zs.length:=Nat.pos_of_ne_zero fun e=>hz0 (by rw [e,Nat.mul_zero])
      simp only [if_neg hz0,hzv,Result.andThen_ok,hzc',a44 zs m.toNat hpos]
      simp [newRow]
    simp [execOp,ho,hrun]
   split at h
   ·rename_i k zi hzero
    rw [hzero] at hzr hzl
    simp only [Ac] at hzr
    split at hzr
    ·cases hzr
     have main:∀ E (H':Nat->j6) (a:Act) w,Q9 E H' w->(∀ x,x∈o9 o.op->o0 E (ρ x) (a.eval x))->E.pl key = .unborn->∃ u w' E',(execOp a.eval o).run P w = .ok (.value u) w'/\q9 E H' w [(key,.rowI k (List.replicate n.toNat zi))] (.sl key [] .one 0 n.toNat) u E' w'/\∃ ad,u = .slice ad n.toNat m.toNat:=by
      intro E H' a w hR hop hb
      have hrun:=hex a w fun x hx=>⟨E,hop x hx⟩
      have hz1:((List.range m.toNat).flatMap fun _=>[Value.int k zi])=(List.replicate m.toNat zi).map (.int k):=by
       rw [Pj,List.map_replicate,List.flatten_replicate_singleton]
      rw [hz1] at hrun
      obtain ⟨E',hst⟩:=q9.rowI (k:=k) (l:=List.replicate n.toNat zi) (cs:=(List.replicate m.toNat zi).map (.int k)) hR hb (by
       rw [List.length_replicate,List.map_replicate,List.map_replicate,List.take_replicate]
       congr 1
       omega) (by simp;omega) e (0,0) (.inr (Nat.le_refl _))
      rw [List.length_map,List.length_replicate,List.length_replicate] at hst
      exact ⟨_,_,E',hrun,hst,_,rfl⟩
     rcases h with h|⟨hm0,h⟩
     ·refine ⟨_,_,_,h,.of fun E H' a w hR hG hop _ hwr => ?_⟩
      obtain ⟨u,w',E',hr,hst,_⟩:=main E H' a w hR hop (hwr (key,_) (List.mem_singleton.2 rfl) hkey)
      exact ⟨_,_,E',.inl hr,hst⟩
     ·refine ⟨_,_,_,h,.of fun E H' a w hR hG hop _ hwr => ?_⟩
      obtain ⟨u,w',E',hr,hst,ad,rfl⟩:=main E H' a w hR hop (hwr (key,_) (List.mem_singleton.2 rfl) hkey)
      exact ⟨_,_,E',.inl hr,hst.free (h23 hst.val (by omega))⟩
    ·cases hzr
   ·refine ⟨_,_,_,h,.of fun E H' a w hR hG hop _ hwr => ?_⟩
    have hb:E.pl key = .unborn:=hwr (key,_) (List.mem_singleton.2 rfl) hkey
    have hrun:=hex a w fun x hx=>⟨E,hop x hx⟩
    have hs2:zs.length=(T.get e).lay.size:=by rw [hzlen,hs]
    obtain ⟨E',hst⟩:=q9.row (n:=n.toNat) (f:=fun _=>(T.get e).zero) (css:=fun _=>zs) (c:=m.toNat) (cs:=(List.range m.toNat).flatMap fun _=>zs) hR hb (fun i _=>Ad E.rd hzr) (fun i _=>hzl) (by omega)
     (by rw [v6 (fun _=>zs) zs.length _ fun _ _=>rfl,hs2]) (by
      have e1:m.toNat=n.toNat+(m.toNat-n.toNat):=by omega
      have e2:List.range m.toNat=List.range n.toNat++(List.range (m.toNat-n.toNat)).map (n.toNat + ·):=by
       rw [←List.range_add];congr 1
      rw [e2,List.flatMap_append,List.take_append_of_le_length (by rw [v6 (fun _=>zs) zs.length _ fun _ _=>rfl,hs2];exact Nat.le_refl _),List.take_of_length_le (by rw [v6 (fun _=>zs) zs.length _ fun _ _=>rfl,hs2];exact Nat.le_refl _)]) e
    exact ⟨_,_,E',.inl hrun,hst⟩
  ·exact h.elim
 ·exact h.elim
end
end Go.Eng

namespace Go.Eng
section
variable {P:Program} {G:G1} {T:Tr} {o:Oper} {ρ:Operand->AV} {H:Nat->j6} {K:V7}
theorem Wm {w:World} {r q n n' c s:Nat} {cs:List Value} (h:D1 (A5 w) r q cs) (hl:cs.length=n*s):(Builtin.firstCells s n (.slice (some ⟨r,q,none⟩) n' c)).run P w = .ok cs.toArray w:=by
 simp only [Builtin.firstCells]
 rw [←hl]
 exact run_loadCells_list (P:=P) w ⟨r,q,none⟩ cs h.list
theorem Nn {w:World} {a:Option Addr} {n' c s:Nat}:(Builtin.firstCells s 0 (.slice a n' c)).run P w = .ok #[] w:=by
 cases a<;>simp [Builtin.firstCells,loadCells,loadCellsFrom]
structure Pg (P:Program) (w:World) (v:Value) (m s:Nat) (cs:List Value):Prop where
 len:∀ w',(Builtin.lenOf v).run P w' = .ok m w'
 first:(Builtin.firstCells s m v).run P w = .ok cs.toArray w/\(Builtin.firstCells s m v).run P w.drew = .ok cs.toArray w.drew
 count:cs.length=m*s
 part:∀ n,n≤m->(Builtin.firstCells s n v).run P w = .ok (cs.take (n*s)).toArray w
theorem Pg.of_reads {w:World} {r q m c s:Nat} {cs:List Value} (h:D1 (A5 w) r q cs) (hl:cs.length=m*s):Pg P w (.slice (some ⟨r,q,none⟩) m c) m s cs :=
 ⟨fun w'=>by simp [Builtin.lenOf],⟨Wm h hl,Wm (w:=w.drew) h hl⟩,hl,fun n hn=>Wm (fun j hj=>by
  rw [List.getElem_take];exact h j (by rw [List.length_take] at hj;omega)) (by
  have:=Nat.mul_le_mul_right s hn
  rw [List.length_take];omega)⟩
theorem Pg.of_none {w:World} {a:Option Addr} {c s:Nat}:Pg P w (.slice a 0 c) 0 s [] :=
 ⟨fun w'=>by simp [Builtin.lenOf],⟨Nn,Nn⟩,by simp,fun n hn=>by
  obtain rfl:n=0:=by omega
  rw [Nat.zero_mul];exact Nn⟩
theorem Pg.of_string {w:World} {l:List UInt8}:Pg P w (.string ⟨⟨l⟩⟩) l.length 1 ((l.map fun b=>(b.toNat:Int)).map (Value.int .u8)):=by
 have hs:(⟨⟨l⟩⟩:ByteArray).size=l.length:=rfl
 have hf:∀ w:World,(Builtin.firstCells 1 l.length (.string ⟨⟨l⟩⟩)).run P w = .ok ((l.map fun b=>(b.toNat:Int)).map (Value.int .u8)).toArray w:=by
  intro w
  simp only [Builtin.firstCells,Sem.run_pure]
  congr 1
  rw [ByteArray.data_extract]
  rw [←Array.toList_inj]
  simp [List.extract_toArray]
 refine ⟨fun w'=>by simp only [Builtin.lenOf,Sem.run_pure,hs],⟨hf w,hf w.drew⟩,by simp,fun n hn => ?_⟩
 simp only [Builtin.firstCells,Sem.run_pure]
 congr 1
 rw [ByteArray.data_extract]
 rw [←Array.toList_inj]
 simp [List.extract_toArray,List.map_take]
 rfl
theorem Pm {t tx ty e:TypeId} {i:TypeInfo} {z:Value} {dx:TypeDesc} (hu:P.underlying t=some (.slice e)) (hx:P.underlying tx=some dx) (hdx:dx = .string\/∃ u,dx = .slice u) (hi:P.info? e=some i) (hz:i.zero=some z) {w:World}
  {base:Option Addr} {sLen sCap m:Nat} {xv:Value} {olds news:List Value} (ho:Pg P w (.slice base sLen sCap) sLen i.size olds) (hn:Pg P w xv m i.size news) (hg:sCap<sLen+m) (hb:0<i.bytes) (hfit:(sLen+m)*i.bytes≤140737488355328) :
  (Builtin.append_ #[t,tx] ty #[.slice base sLen sCap,xv]).run P w =
   .ok (.slice (some ⟨w.heap.size,0,none⟩) (sLen+m) (grownCap w (sLen+m) sCap e))
    (w.drew.alloc (.cells (olds++news++(Builtin.zeroCells z.cells (grownCap w (sLen+m) sCap e-(sLen+m))).toList).toArray e)):=by
 have hn':¬ (sLen+m≤sCap):=by omega
 have h48':¬ (281474976710656<Builtin.nextslicecap (sLen+m) sCap*i.bytes):=by
  have:=growslice_fits hg hfit;omega
 have hb0:i.bytes≠0:=by omega
 have hlen:=hn.len
 have h1:=ho.first.2
 have h2:=hn.first.2
 rcases hdx with rfl|⟨u,rfl⟩<;>simp [Builtin.append_,run_underlying hu,run_underlying hx,sizeOf,typeInfo,zeroValue,hi,hz,hlen,hn',h48',hb0,Question.forced,h1,h2,newRow,grownCap]<;>(congr 2;rw [←Array.toList_inj];simp)
theorem Fd {n:Nat} (h:n≤140737488355328):IntKind.i64.wrap (n:Int)=n:=by
 unfold IntKind.wrap;simp [IntKind.bits,IntKind.signed];omega
theorem Ud {t tx ty e:TypeId} {i:TypeInfo} {kx k:IntKind} (hu:P.underlying t=some (.slice e)) (hx:P.underlying tx=some (.int kx)) (hi:P.info? e=some i) {w:World} {ad:Option Addr} :
  (Builtin.append_ #[t,tx] ty #[.slice ad 0 0,.int k 0]).run P w = .ok (.slice ad 0 0) w:=by
 have hw:=Fd (n:=0) (by omega)
 cases ad<;>simp [Builtin.append_,run_underlying hu,run_underlying hx,sizeOf,typeInfo,hi,asInt,asIntOf,storeCells,show IntKind.i64.wrap 0=0 from hw]
theorem Wn {t tx ty e:TypeId} {i:TypeInfo} {z:Value} {kx k:IntKind} (hu:P.underlying t=some (.slice e)) (hx:P.underlying tx=some (.int kx)) (hi:P.info? e=some i) (hz:i.zero=some z) {w:World} {ad:Option Addr} {n:Nat} (h0:0<n) (hb:0<i.bytes) (hs:0<i.size) (hfit:n*i.bytes≤140737488355328) :
  (Builtin.append_ #[t,tx] ty #[.slice ad 0 0,.int k (n:Int)]).run P w =
   .ok (.slice (some ⟨w.heap.size,0,none⟩) n (grownCap w n 0 e)) (w.drew.alloc (.cells ((Builtin.zeroCells z.cells n).toList++(Builtin.zeroCells z.cells (grownCap w n 0 e-n)).toList).toArray e)):=by
 have hn':¬ (n≤0):=by omega
 have hnle:n≤140737488355328:=Nat.le_trans (Nat.le_mul_of_pos_right n hb) hfit
 have hw:=Fd hnle
 have h48':¬ (281474976710656<Builtin.nextslicecap n 0*i.bytes):=by
  have:=growslice_fits (old:=0) (by omega:0<n) hfit;omega
 have hb0:i.bytes≠0:=by omega
 have hp:¬ ((n:Int)<0):=by omega
 have h48:¬ (281474976710656<(n:Int)*(i.bytes:Int)):=by
  have h9:((n*i.bytes:Nat):Int)≤140737488355328:=Int.ofNat_le.2 hfit
  rw [Int.natCast_mul] at h9;omega
 have hmax:¬ (9223372036854775807<(n:Int)):=by omega
 have hsz1:¬ (n=0):=by omega
 have hsz2:¬ (i.size=0):=by omega
 have h1:(Builtin.firstCells i.size 0 (.slice ad 0 0)).run P w.drew = .ok #[] w.drew:=Nn
 simp [Builtin.append_,run_underlying hu,run_underlying hx,sizeOf,typeInfo,zeroValue,hi,hz,asInt,asIntOf,hw,hp,h48,hn',h48',hb0,hmax,hsz1,hsz2,Question.forced,newRow,grownCap,h1]
 rw [if_neg (by have:=Nat.mul_pos h0 hs;omega)]
 congr 3
 rw [←Array.toList_inj];simp
structure Wo (P:Program) (t tx ty e:TypeId) (w:World) (i:TypeInfo) (xv:Value) (m:Nat) (news:List Value):Prop where
 inn:∀ {base:Option Addr} {sLen sCap:Nat} {w':World},sLen+m≤sCap->(∀ a,base=some a->(storeCells (a.add (sLen*i.size)) news).run P w = .ok () w')->(base=none->w'=w) ->
  (Builtin.append_ #[t,tx] ty #[.slice base sLen sCap,xv]).run P w = .ok (.slice base (sLen+m) sCap) w'
 new:∀ {base:Option Addr} {sLen sCap:Nat} {olds:List Value} {z:Value},i.zero=some z->Pg P w (.slice base sLen sCap) sLen i.size olds->sCap<sLen+m->0<i.bytes->(sLen+m)*i.bytes≤140737488355328 ->
  (Builtin.append_ #[t,tx] ty #[.slice base sLen sCap,xv]).run P w =
   .ok (.slice (some ⟨w.heap.size,0,none⟩) (sLen+m) (grownCap w (sLen+m) sCap e))
    (w.drew.alloc (.cells (olds++news++(Builtin.zeroCells z.cells (grownCap w (sLen+m) sCap e-(sLen+m))).toList).toArray e))
 count:news.length=m*i.size
theorem Rt {t tx ty e:TypeId} {i:TypeInfo} {dx:TypeDesc} (hu:P.underlying t=some (.slice e)) (hx:P.underlying tx=some dx) (hdx:dx = .string\/∃ u,dx = .slice u) (hi:P.info? e=some i) {w w':World}
  {base:Option Addr} {sLen sCap m:Nat} {xv:Value} {news:List Value} (hn:Pg P w xv m i.size news) (hg:sLen+m≤sCap) (hst:∀ a,base=some a->(storeCells (a.add (sLen*i.size)) news).run P w = .ok () w') (hw:base=none->w'=w) :
  (Builtin.append_ #[t,tx] ty #[.slice base sLen sCap,xv]).run P w = .ok (.slice base (sLen+m) sCap) w':=by
 have hlen:=hn.len
 have h1:=hn.first.1
 cases base with
 |none =>
  obtain rfl:=hw rfl
  rcases hdx with rfl|⟨u,rfl⟩<;>simp [Builtin.append_,run_underlying hu,run_underlying hx,sizeOf,typeInfo,hi,hlen,hg,h1]
 |some a =>
  have:=hst a rfl
  rcases hdx with rfl|⟨u,rfl⟩<;>simp [Builtin.append_,run_underlying hu,run_underlying hx,sizeOf,typeInfo,hi,hlen,hg,h1,this]
theorem Wo.of_src {t tx ty e:TypeId} {i:TypeInfo} {dx:TypeDesc} (hu:P.underlying t=some (.slice e)) (hx:P.underlying tx=some dx) (hdx:dx = .string\/∃ u,dx = .slice u) (hi:P.info? e=some i) {w:World} {xv:Value} {m:Nat} {news:List Value} (hn:Pg P w xv m i.size news):Wo P t tx ty e w i xv m news :=
 ⟨fun hg hst hw=>Rt hu hx hdx hi hn hg hst hw,fun hz ho hg hb hfit=>Pm hu hx hdx hi hz ho hn hg hb hfit,hn.count⟩
theorem Wo.zeros {t tx ty e:TypeId} {i:TypeInfo} {z:Value} {kx k:IntKind} (hu:P.underlying t=some (.slice e)) (hx:P.underlying tx=some (.int kx)) (hi:P.info? e=some i) (hz:i.zero=some z) {w:World} {n:Nat} (hb:0<i.bytes) (hs:0<i.size) (hzs:z.cells.size=i.size) (hfit:n*i.bytes≤140737488355328) :
  Wo P t tx ty e w i (.int k (n:Int)) n (Builtin.zeroCells z.cells n).toList:=by
 have hnle:n≤140737488355328:=Nat.le_trans (Nat.le_mul_of_pos_right n hb) hfit
 have hw:=Fd hnle
 have hp:¬ ((n:Int)<0):=by omega
 have h48:¬ (281474976710656<(n:Int)*(i.bytes:Int)):=by
  have h9:((n*i.bytes:Nat):Int)≤140737488355328:=Int.ofNat_le.2 hfit
  rw [Int.natCast_mul] at h9;omega
 have hsz2:¬ (i.size=0):=by omega
 refine ⟨fun {base sLen sCap w'} hg hst hw' => ?_,fun {base sLen sCap olds z'} hz' ho hg hb hfit' => ?_,by rw [Array.length_toList,size_zeroCells,hzs]⟩
 ·by_cases h0:n=0
  ·subst h0
   have e0:(Builtin.zeroCells z.cells 0).toList=[]:=by simp [Builtin.zeroCells]
   rw [e0] at hst
   cases base with
   |none =>
    obtain rfl:=hw' rfl
    simp [Builtin.append_,run_underlying hu,run_underlying hx,sizeOf,typeInfo,hi,asInt,asIntOf,hw,show IntKind.i64.wrap 0=0 from Fd (n:=0) (by omega),hg]
    omega
   |some a =>
    have:=hst a rfl
    simp [Builtin.append_,run_underlying hu,run_underlying hx,sizeOf,typeInfo,hi,asInt,asIntOf,hw,show IntKind.i64.wrap 0=0 from Fd (n:=0) (by omega),hg,this]
    omega
  ·cases base with
   |none =>
    obtain rfl:=hw' rfl
    simp [Builtin.append_,run_underlying hu,run_underlying hx,sizeOf,typeInfo,zeroValue,hi,hz,asInt,asIntOf,hw,hp,h48,hg,h0,hsz2]
   |some a =>
    have:=hst a rfl
    simp [Builtin.append_,run_underlying hu,run_underlying hx,sizeOf,typeInfo,zeroValue,hi,hz,asInt,asIntOf,hw,hp,h48,hg,this]
    intro h;exact absurd h (by have:=Nat.mul_pos (Nat.pos_of_ne_zero h0) hs;omega)
 ·obtain rfl:=Option.some.inj (hz.symm.trans hz')
  have hn':¬ (sLen+n≤sCap):=by omega
  have h48':¬ (281474976710656<Builtin.nextslicecap (sLen+n) sCap*i.bytes):=by
   have:=growslice_fits hg hfit';omega
  have hb0:i.bytes≠0:=by omega
  have hle2:sLen+n≤140737488355328:=Nat.le_trans (Nat.le_mul_of_pos_right _ hb) hfit'
  have hmax:¬ (9223372036854775807<(sLen:Int)+(n:Int)):=by omega
  have h1:=ho.first.2
  by_cases h0:n=0
  ·subst h0
   have e0:(Builtin.zeroCells z.cells 0).toList=[]:=by simp [Builtin.zeroCells]
   simp only [Nat.add_zero,Int.natCast_zero,Int.add_zero] at *
   simp [Builtin.append_,run_underlying hu,run_underlying hx,sizeOf,typeInfo,zeroValue,hi,hz,asInt,asIntOf,hw,show IntKind.i64.wrap 0=0 from Fd (n:=0) (by omega),hn',h48',hb0,hmax,Question.forced,newRow,grownCap,h1,e0]
   congr 3
   rw [←Array.toList_inj];simp
  ·simp [Builtin.append_,run_underlying hu,run_underlying hx,sizeOf,typeInfo,zeroValue,hi,hz,asInt,asIntOf,hw,hp,h48,hn',h48',hb0,hmax,h0,hsz2,Question.forced,newRow,grownCap,h1]
   rw [if_neg (by have:=Nat.mul_pos (Nat.pos_of_ne_zero h0) hs;omega)]
   congr 3
   rw [←Array.toList_inj];simp
theorem a51 {k:IntKind} {x:AV} {m:List Int} (h:Wk k H x=some m):∀ {E:y6} {H':Nat->j6} {w:World} {v:Value},Q9 E H' w->(∀ b,b∈Bl x->H' b=H b)->o0 E x v->Pg P w v m.length 1 (m.map (.int k)):=by
 intro E H' w v hR hrd hv
 have hmap:∀ m:List Int,(m.map (Value.int k)).length=m.length*1:=by intro m;simp
 unfold Wk at h
 split at h
 ·rename_i k' l
  split at h
  ·rename_i hk
   cases h
   obtain rfl:=F4 hk
   rcases (Kl hv).slI with ⟨r,q,c,rfl,hc,hr⟩|⟨rfl,a,c,rfl,_⟩
   ·exact Pg.of_reads (fun j hj=>hR.rd _ _ _ (hr j hj)) (hmap m)
   ·exact Pg.of_none
  ·cases h
 ·cases h
  rw [O8 hv]
  exact Pg.of_none
 ·rename_i b p la off len
  have hHb:=hrd b (by simp [Bl])
  have hbr:=hR.blk b
  rw [hHb] at hbr
  have fin:∀ l:List Int,m=(l.drop off).take len->(∀ r q so n c,v = .slice (some ⟨r,q+so+off*la.size,none⟩) len c->E.pl b = .at r q->J6 (E.lay b) p=some (so,.arr n la)->off+len≤n->n=l.length/\la.size=1/\D1 (A5 w) r (q+so) (l.map (.int k)))->Pg P w v m.length 1 (m.map (.int k)):=by
   intro l hm hl
   rcases S1 hv with ⟨r,q,so,n,c,rfl,hp,hloc,hn,hc,ht⟩|⟨a,so,n,rfl,e0,hp,hloc,hn⟩
   ·obtain ⟨hnl,hla,hr⟩:=hl r q so n c rfl hp hloc hn
    have hml:m.length=len:=by rw [hm];simp [List.length_take,List.length_drop];omega
    rw [hml,hla,Nat.mul_one]
    refine Pg.of_reads ?_ (by rw [List.length_map,hml,Nat.mul_one])
    rw [hm,M9]
    exact hr.sub
   ·have:m=[]:=by rw [hm,e0];simp
    rw [this]
    exact Pg.of_none
  split at h
  ·rename_i k' l hb
   split at h
   ·rename_i hk
    cases h
    obtain rfl:=F4 hk
    rw [hb] at hbr
    obtain ⟨hlay,hn0|⟨r0,q0,hp0,hrs,_⟩⟩:=hbr
    ·refine fin l rfl fun r q so n c _ hp _ _ => ?_
     rw [hn0.1] at hp;cases hp
    ·refine fin l rfl fun r q so n c _ hp hloc hn => ?_
     rw [hp] at hp0
     injection hp0 with h1 h2
     subst h1;subst h2
     rw [hlay,o6] at hloc
     cases hloc
     exact ⟨rfl,rfl,hrs⟩
   ·cases h
  ·rename_i k' l hb
   split at h
   ·rename_i hk
    cases h
    obtain rfl:=F4 hk
    rw [hb] at hbr
    obtain ⟨hlay,hn0|⟨r0,q0,hp0,hrs⟩⟩:=hbr
    ·refine fin l rfl fun r q so n c _ hp _ _ => ?_
     rw [hn0.1] at hp;cases hp
    ·refine fin l rfl fun r q so n c _ hp hloc hn => ?_
     rw [hp] at hp0
     injection hp0 with h1 h2
     subst h1;subst h2
     rw [hlay,o6] at hloc
     cases hloc
     exact ⟨rfl,rfl,fun j hj=>hR.rd _ _ _ (hrs j hj)⟩
   ·cases h
  ·rename_i y hb
   split at h
   ·rename_i k' n' l hy
    split at h
    ·rename_i hk
     cases h
     obtain rfl:=F4 hk
     rw [hb] at hbr
     obtain ⟨r0,q0,cs,hp0,hlay,hya,hrs,_,_⟩:=hbr
     refine fin l rfl fun r q so n c _ hp hloc hn => ?_
     rw [hp] at hp0
     injection hp0 with h1 h2
     subst h1;subst h2
     rw [hlay] at hloc
     obtain ⟨hpa,hpl⟩:=hya.at hloc
     rw [hy] at hpa hpl
     have hpl:t9.arr n' .one = .arr n la:=hpl
     injection hpl with e1 e2
     subst e1;subst e2
     generalize hcs:(cs.drop so).take (t9.arr n' t9.one).size=cs' at hpa
     have hsub:=hrs.sub (off:=so) (s:=(t9.arr n' t9.one).size)
     rw [hcs] at hsub
     cases hpa.dv_inv with
     |ints _ _ _ hl=>exact ⟨hl.symm,rfl,hsub⟩
    ·cases h
   ·cases h
  ·cases h
 ·cases h
end
end Go.Eng

namespace Go.Eng
structure Ey (x:j6) (n:Nat) (la:t9) (C:Rd->List Value->Prop):Prop where
 own:x.own=true
 rel:∀ E b w,y9 E b w x↔E.lay b = .arr n la/\((E.pl b = .nowhere/\n=0)\/∃ r o cs,E.pl b = .at r o/\C E.rd cs/\D1 (A5 w) r o cs/\Fa E b w r o (n*la.size))
 len:∀ {rd cs},C rd cs->cs.length=n*la.size
 mono:∀ {rd rd':Rd} {cs},(∀ r j v,rd r j=some v->rd' r j=some v)->C rd cs->C rd' cs
 zero:n=0->∀ rd,C rd []
def c87 (k:IntKind) (l:List Int):Rd->List Value->Prop:=fun _ cs=>cs=l.map (.int k)
def Pn (la:t9) (n:Nat) (f:Nat->DV):Rd->List Value->Prop:=fun rd cs=>∃ css:Nat->List Value,(∀ i,i<n->u7 rd (f i) (css i))/\(∀ i,i<n->(f i).lay=la)/\cs=(List.range n).flatMap css
theorem Fe {rd:Rd} {r o n s:Nat} {css:Nat->List Value} (hs:∀ i,i<n->(css i).length=s):D1 rd r o ((List.range n).flatMap css)↔∀ i,i<n->D1 rd r (o+i*s) (css i):=by
 constructor
 ·intro h i hi j hj
  have hji:=hs i hi
  have hmul:(i+1)*s≤n*s:=Nat.mul_le_mul_right _ hi
  rw [Nat.add_mul,Nat.one_mul] at hmul
  have hl:=v6 css s n hs
  have:=h (i*s+j) (by omega)
  rw [←Nat.add_assoc] at this
  rw [this,←List.getElem?_eq_getElem,←List.getElem?_eq_getElem]
  have h3:(css i)[j]?=((((List.range n).flatMap css).drop (i*s)).take s)[j]?:=by rw [Ij css s n i hs hi]
  rw [h3,List.getElem?_take_of_lt (by omega),List.getElem?_drop]
 ·intro h j hj
  have hl:=v6 css s n hs
  rw [hl] at hj
  have hpos:0<s:=Nat.pos_of_ne_zero fun e=>by rw [e] at hj;omega
  have hi:j/s<n:=(Nat.div_lt_iff_lt_mul hpos).2 hj
  have hmod:j%s<s:=Nat.mod_lt _ hpos
  have hdm:j/s*s+j%s=j:=by rw [Nat.mul_comm];exact Nat.div_add_mod j s
  have:=h (j/s) hi (j%s) (by rw [hs _ hi];exact hmod)
  rw [Nat.add_assoc,hdm] at this
  rw [this,←List.getElem?_eq_getElem,←List.getElem?_eq_getElem]
  have h3:(css (j/s))[j%s]?=((((List.range n).flatMap css).drop (j/s*s)).take s)[j%s]?:=by rw [Ij css s n (j/s) hs hi]
  rw [h3,List.getElem?_take_of_lt hmod,List.getElem?_drop,hdm]
theorem Ey.ints (k:IntKind) (l:List Int):Ey (.rowI k l) l.length .one (c87 k l):=by
 refine ⟨rfl,fun E b w => ?_,fun h=>by rw [h];simp [t9.size],fun _ h=>h,fun h _=>by rw [List.eq_nil_of_length_eq_zero h];rfl⟩
 constructor
 ·rintro ⟨hl,hn|⟨r,o,hp,hr,hm⟩⟩
  ·exact ⟨hl,.inl ⟨hn.1,by rw [hn.2];rfl⟩⟩
  ·exact ⟨hl,.inr ⟨r,o,_,hp,rfl,hr,by rw [t9.size,Nat.mul_one];exact hm⟩⟩
 ·rintro ⟨hl,hn|⟨r,o,cs,hp,rfl,hr,hm⟩⟩
  ·exact ⟨hl,.inl ⟨hn.1,List.eq_nil_of_length_eq_zero hn.2⟩⟩
  ·exact ⟨hl,.inr ⟨r,o,hp,hr,by rw [t9.size,Nat.mul_one] at hm;exact hm⟩⟩
theorem Ey.parts (la:t9) (n:Nat) (f:Nat->DV):Ey (.row la n f) n la (Pn la n f):=by
 refine ⟨rfl,fun E b w => ?_,?_,?_,fun h rd=>⟨fun _=>[],fun i hi=>by omega,fun i hi=>by omega,by subst h;rfl⟩⟩
 ·constructor
  ·rintro ⟨hl,hn|⟨r,o,css,hp,hf,hfl,hr,hm⟩⟩
   ·exact ⟨hl,.inl hn⟩
   ·exact ⟨hl,.inr ⟨r,o,_,hp,⟨css,hf,hfl,rfl⟩,(Fe fun i hi=>by rw [(hf i hi).len,hfl i hi]).2 hr,hm⟩⟩
  ·rintro ⟨hl,hn|⟨r,o,cs,hp,⟨css,hf,hfl,rfl⟩,hr,hm⟩⟩
   ·exact ⟨hl,.inl hn⟩
   ·exact ⟨hl,.inr ⟨r,o,css,hp,hf,hfl,(Fe fun i hi=>by rw [(hf i hi).len,hfl i hi]).1 hr,hm⟩⟩
 ·rintro rd cs ⟨css,hf,hfl,rfl⟩
  exact v6 css _ n fun i hi=>by rw [(hf i hi).len,hfl i hi]
 ·rintro rd rd' cs hr ⟨css,hf,hfl,rfl⟩
  exact ⟨css,fun i hi=>(hf i hi).mono hr,hfl,rfl⟩
theorem b83 {la:t9} {n:Nat} {f:Nat->DV} {rd:Rd} {cs:List Value} (h:Pn la n f rd cs):∀ v,v∈cs->Iz v:=by
 obtain ⟨css,hf,_,rfl⟩:=h
 intro v hv
 obtain ⟨i,hi,hv⟩:=List.mem_flatMap.1 hv
 exact (hf i (List.mem_range.1 hi)).cells v hv
section
variable {P:Program} {G:G1} {T:Tr} {o:Oper} {ρ:Operand->AV} {H:Nat->j6} {K:V7}
theorem q9.rowB {E:y6} {H:Nat->j6} {w:World} (hR:Q9 E H w) {key:Nat} (hk:E.pl key = .unborn) {x:j6} {n:Nat} {la:t9} {C:Rd->List Value->Prop} (hB:Ey x n la C) {cs rest:List Value} (hC:C E.rd cs)
  {c:Nat} (hnc:n≤c) (hlen:(cs++rest).length=c*la.size) (t:TypeId) :
  ∃ E',q9 E H w [(key,x)] (.sl key [] la 0 n) (.slice (some ⟨w.heap.size,0,none⟩) n c) E' (w.alloc (.cells (cs++rest).toArray t)):=by
 have hle:n*la.size≤c*la.size:=Nat.mul_le_mul_right _ hnc
 refine ⟨E.birth key w.heap.size 0 (.arr n la) (c*la.size),q9.alloc hR hk (.cells (cs++rest).toArray t (0,0)) (.arr n la) (c*la.size) (by simp only [t9.size];omega) ?_ ?_⟩
 ·refine (hB.rel _ _ _).2 ⟨if_pos rfl,.inr ⟨w.heap.size,0,cs,if_pos rfl,hC,?_,?_,?_⟩⟩
  ·intro j hj
   show (w.alloc _).cell? _=_
   rw [Nat.zero_add,Z9,←List.getElem?_eq_getElem hj,List.getElem?_append_left hj]
  ·show 0+n*la.size≤if key=key then c*la.size else E.top key
   rw [if_pos rfl];omega
  ·intro j _ hj
   have hj:j<if key=key then c*la.size else E.top key:=hj
   rw [if_pos rfl,←hlen] at hj
   exact ⟨⟨_,by rw [Z9,List.getElem?_eq_getElem hj]⟩,Nk j⟩
 ·have:=r6.sl (E:=E.birth key w.heap.size 0 (.arr n la) (c*la.size)) key [] la 0 n w.heap.size 0 0 n c (if_pos rfl) (by
   show J6 (if key=key then t9.arr n la else E.lay key) []=_
   rw [if_pos rfl,o6]) (by omega) hnc (by
   show 0+0+(0+c)*la.size≤if key=key then c*la.size else E.top key
   rw [if_pos rfl,Nat.zero_add,Nat.zero_add];exact Nat.le_refl _)
  have e:(0:Nat)+0+0*la.size=0:=by simp
  rw [e] at this
  exact .one this rfl
theorem q9.emptyB {E:y6} {H:Nat->j6} {w:World} (hR:Q9 E H w) {key:Nat} (hk:E.pl key = .unborn) {x:j6} {n:Nat} {la:t9} {C:Rd->List Value->Prop} (hB:Ey x n la C) (hn:n=0) (a:Option Addr) :
  ∃ E',q9 E H w [(key,x)] (.sl key [] la 0 n) (.slice a 0 0) E' w:=by
 subst hn
 refine ⟨_,q9.empty hR hk la ((hB.rel _ _ _).2 ⟨if_pos rfl,.inl ⟨if_pos rfl,rfl⟩⟩) (.one (.sl0 key [] la 0 a 0 0 ?_ ?_ (Nat.le_refl _)) rfl)⟩
 ·show (if key=key then a59.nowhere else E.pl key) ≠ .unborn
  rw [if_pos rfl];exact fun e=>by cases e
 ·show J6 (if key=key then t9.arr 0 la else E.lay key) []=_
  rw [if_pos rfl,o6]
theorem Pg.drew {w:World} {v:Value} {m s:Nat} {cs:List Value} (h:Pg P w v m s cs):(Builtin.firstCells s m v).run P w.drew = .ok cs.toArray w.drew:=h.first.2
theorem Wp {z:Value} {news olds:List Value} {s n m c:Nat} (hz:z.cells.size=s) (ho:olds.length=n*s) (hn:news.length=m*s) (hc:n+m≤c):((olds++news)++(Builtin.zeroCells z.cells (c-(n+m))).toList).length=c*s:=by
 have h1:(Builtin.zeroCells z.cells (c-(n+m))).toList.length=(c-(n+m))*s:=by rw [Array.length_toList,size_zeroCells,hz]
 rw [List.length_append,List.length_append,h1,ho,hn,←Nat.add_mul,←Nat.add_mul]
 congr 1;omega
structure j32 (P:Program) (t tx e:TypeId) (s bytes:Nat) (z:Value):Prop where
 ht:P.underlying t=some (.slice e)
 hx:∃ dx,P.underlying tx=some dx/\(dx = .string\/∃ u,dx = .slice u)
 hi:∃ i,P.info? e=some i/\i.size=s/\i.bytes=bytes/\i.zero=some z
 hz:z.cells.size=s
 hb:0<bytes
theorem append_nil {E:y6} {H:Nat->j6} {w:World} (hR:Q9 E H w) {key:Nat} (hk:E.pl key = .unborn) {t tx e ty:TypeId} {bytes:Nat} {z xv:Value} {m:Nat} {la:t9} {news:List Value} (hT:j32 P t tx e la.size bytes z)
  {x:j6} {C:Rd->List Value->Prop} (hB:Ey x m la C) (hC:C E.rd news) (hn:Pg P w xv m la.size news) (hfit:m*bytes≤140737488355328) (ad:Option Addr) :
  ∃ u w' E',(Builtin.append_ #[t,tx] ty #[.slice ad 0 0,xv]).run P w = .ok u w'/\q9 E H w [(key,x)] (.sl key [] la 0 m) u E' w':=by
 obtain ⟨i,hi,hs,hby,hzi⟩:=hT.hi
 obtain ⟨dx,hx,hdx⟩:=hT.hx
 by_cases h0:m=0
 ·obtain ⟨E',hst⟩:=q9.emptyB hR hk hB h0 ad
  have hnil:news=[]:=List.eq_nil_of_length_eq_zero (by rw [hn.count,h0,Nat.zero_mul])
  refine ⟨_,_,E',Rt (w':=w) hT.ht hx hdx hi (hs▸hn) (by omega) (fun a ha=>by subst hnil;simp [storeCells]) (fun _=>rfl),?_⟩
  rw [show (0:Nat)+m=0 from by omega]
  exact hst
 ·have hg:(0:Nat)<0+m:=by omega
  have hrun:=Pm (ty:=ty) hT.ht hx hdx hi hzi (Pg.of_none (P:=P) (w:=w) (a:=ad) (c:=0) (s:=i.size)) (hs▸hn) hg (by rw [hby];exact hT.hb) (by rw [hby,Nat.zero_add];exact hfit)
  have hge:=grownCap_ge w (0+m) 0 e
  obtain ⟨E',hst⟩:=q9.rowB hR.drew hk hB hC (c:=grownCap w (0+m) 0 e) (rest:=(Builtin.zeroCells z.cells (grownCap w (0+m) 0 e-(0+m))).toList) (by omega)
   (Wp (olds:=[]) (n:=0) hT.hz (by simp) hn.count hge) e
  refine ⟨_,_,E',hrun,?_⟩
  have e1:w.drew.heap.size=w.heap.size:=rfl
  rw [e1] at hst
  rw [Nat.zero_add] at hst ⊢
  simp only [List.nil_append]
  exact hst.drew
theorem Po {E:y6} {H:Nat->j6} {w:World} (hR:Q9 E H w) {key:Nat} (hk:E.pl key = .unborn) {t tx e ty:TypeId} {bytes:Nat} {z xv sv:Value} {b off len n m:Nat} {la la':t9} {news:List Value} {i:TypeInfo} (hs:i.size=la.size) (hby:i.bytes=bytes) (hzi:i.zero=some z) (hzz:z.cells.size=la.size) (hb0:0<bytes)
  {x0 x:j6} {C0 C:Rd->List Value->Prop} (hB0:Ey x0 n la C0) (hb:H b=x0) (hB:Ey x (len+m) la C) (hv:o0 E (.sl b [] la' off len) sv)
  (hC:∀ cs,C0 E.rd cs->C E.rd ((cs.drop (off*la.size)).take (len*la.size)++news)) (hs1:∀ v,v∈news->Iz v) (hn:Wo P t tx ty e w i xv m news) (hfit:(len+m)*bytes≤140737488355328) :
  ∃ u w' E',(Builtin.append_ #[t,tx] ty #[sv,xv]).run P w = .ok u w'/\q9 E H w [(b,.dead),(key,x)] (.sl key [] la 0 (len+m)) u E' w'/\∀ ad c,sv = .slice (some ad) len c->0<c->len+m≤c->u = .slice (some ad) (len+m) c:=by
 have hbr:=(hB0.rel E b w).1 (hb▸hR.blk b)
 have hown:(H b).own=true:=by rw [hb];exact hB0.own
 have hdead:q9 E H w [(b,.dead)] .any undef E w:=q9.told hR (.inl rfl) (fun h=>by cases h) trivial (.any E _)
 have hbk:b≠key:=fun e=>D9 hR (U1 hown) (e▸hk)
 rcases S1 hv with ⟨r,q,so,n',c,rfl,hp,hloc,hn',hc,ht⟩|⟨a,so,n',rfl,e0,hp,hloc,hn'⟩
 ·rw [hbr.1,o6] at hloc
  cases hloc
  rcases hbr.2 with hn0|⟨r',q',cs,hp',hcs,hrs,hm⟩
  ·rw [hn0.1] at hp;cases hp
  ·rw [hp] at hp'
   injection hp' with h1 h2
   subst h1;subst h2
   have hlen:=hB0.len hcs
   have hmul:(off+len)*la.size≤n*la.size:=Nat.mul_le_mul_right _ hn'
   rw [Nat.add_mul] at hmul
   have hold:((cs.drop (off*la.size)).take (len*la.size)).length=len*la.size:=by rw [List.length_take,List.length_drop];omega
   have hrold:D1 (A5 w) r (q+0+off*la.size) ((cs.drop (off*la.size)).take (len*la.size)):=by
    rw [Nat.add_zero];exact hrs.sub
   by_cases hg:len+m≤c
   ·have hcm:(off+(len+m))*la.size≤(off+c)*la.size:=Nat.mul_le_mul_right _ (by omega)
    have e1:(off+(len+m))*la.size=off*la.size+len*la.size+m*la.size:=by rw [Nat.add_mul,Nat.add_mul];omega
    have hnl:=hn.count
    rw [hs] at hnl
    have hlo:q≤q+0+off*la.size+len*la.size:=by omega
    have hhi:q+0+off*la.size+len*la.size+news.length≤E.top b:=by omega
    have hw:=Qy (P:=P) (w:=w) (r:=r) (j:=q+0+off*la.size+len*la.size) (cy:=news) (hm.cells hlo hhi) hs1
    have hrun:=hn.inn (base:=some ⟨r,q+0+off*la.size,none⟩) (w':=w.setCells r (q+0+off*la.size+len*la.size) news) hg (fun a ha=>by
     cases ha
     rw [Cq,hs];exact hw) (fun h=>by cases h)
    obtain ⟨g1,g2,g3⟩:=Ph r news (q+0+off*la.size+len*la.size) w
    have hcell:=fun i=>Bp (w:=w) (r:=r) (j:=q+0+off*la.size+len*la.size) (cy:=news) (fun j hj=>(hm.cells hlo hhi j hj).1) i
    refine ⟨_,_,_,hrun,And.intro (q9.move hR hown hp hk (o':=q+0+off*la.size) (l := .arr (len+m) la) (by omega) (by simp only [t9.size];rw [Nat.add_mul];omega) g1 g2 g3 (Lh _ _ _ _)
     (fun r' hr=>Ix r _ _ w r' hr) (fun j hj => ?_) (fun j=>World.frozen?_setCells _ _ _ _ _) (Iy _ _ _ _ _) ?_ ?_) (fun ad c' e _ _=>by injection e with e1 _ e2;rw [e1,e2])⟩
    ·rw [hcell,dif_neg (by omega)]
    ·refine (hB.rel _ _ _).2 ⟨if_pos rfl,.inr ⟨r,q+0+off*la.size,_,if_pos rfl,hC cs hcs,?_,?_,?_⟩⟩
     ·intro j hj
      show (w.setCells _ _ _).cell? _=_
      rw [List.length_append,hold] at hj
      rw [hcell,←List.getElem?_eq_getElem]
      by_cases hj':j<len*la.size
      ·rw [dif_neg (by omega),List.getElem?_append_left (by omega)]
       have:=hrold j (by omega)
       rw [List.getElem?_eq_getElem (by omega)]
       exact this
      ·rw [dif_pos (by omega),List.getElem?_append_right (by omega),hold,List.getElem?_eq_getElem (by omega)]
       congr 2
       omega
     ·show _≤if key=key then E.top b else E.top key
      rw [if_pos rfl,Nat.add_mul];omega
     ·intro j hj hj'
      have hj':j<if key=key then E.top b else E.top key:=hj'
      rw [if_pos rfl] at hj'
      have h2:=hm.2 j (by omega) hj'
      refine ⟨?_,(World.frozen?_setCells _ _ _ _ _).trans h2.2⟩
      rw [hcell]
      split
      ·exact ⟨_,rfl⟩
      ·exact h2.1
    ·have:=r6.sl (E:=E.birth key r (q+0+off*la.size) (.arr (len+m) la) (E.top b)) key [] la 0 (len+m) r (q+0+off*la.size) 0 (len+m) c (if_pos rfl) (by
      show J6 (if key=key then t9.arr (len+m) la else E.lay key) []=_
      rw [if_pos rfl,o6]) (by omega) hg (by
      show q+0+off*la.size+0+(0+c)*la.size≤if key=key then E.top b else E.top key
      rw [if_pos rfl,Nat.zero_add]
      rw [Nat.add_mul] at ht
      omega)
     have e2:q+0+off*la.size+0+0*la.size=q+0+off*la.size:=by rw [Nat.zero_mul];rfl
     rw [e2] at this
     exact .one this rfl
   ·have hg:c<len+m:=by omega
    have ho:Pg P w (.slice (some ⟨r,q+0+off*la.size,none⟩) len c) len i.size ((cs.drop (off*la.size)).take (len*la.size)):=by rw [hs];exact Pg.of_reads hrold hold
    have hrun:=hn.new hzi ho hg (by rw [hby];exact hb0) (by rw [hby];exact hfit)
    have hge:=grownCap_ge w (len+m) c e
    have hk1:E.pl key = .unborn:=hk
    obtain ⟨E',hst⟩:=q9.rowB hdead.rel.drew hk1 hB (hC cs hcs) (c:=grownCap w (len+m) c e) (rest:=(Builtin.zeroCells z.cells (grownCap w (len+m) c e-(len+m))).toList) hge
     (Wp hzz hold (by rw [hn.count,hs]) hge) e
    have e1:w.drew.heap.size=w.heap.size:=rfl
    rw [e1] at hst
    have h2:=hdead.trans hR hst.drew
    refine ⟨_,_,E',?_,h2,fun ad c' e _ hle=>by injection e with _ _ e2;omega⟩
    exact hrun
 ·subst e0
  have hC0:C E.rd news:=by
   rcases hbr.2 with ⟨_,h0⟩|⟨r',q',cs,hp',hcs,hrs,hm⟩
   ·simpa using hC [] (hB0.zero h0 E.rd)
   ·simpa using hC cs hcs
  by_cases h0:m=0
  ·obtain ⟨E',hst⟩:=q9.emptyB hdead.rel hk hB (by omega) a
   refine ⟨_,_,E',hn.inn (w':=w) (by omega) (fun a' ha => ?_) (fun _=>rfl),?_⟩
   ·have:news=[]:=List.eq_nil_of_length_eq_zero (by rw [hn.count,h0,Nat.zero_mul])
    subst this
    rfl
   ·have:=hdead.trans hR hst
    rw [show (0:Nat)+m=0 from by omega] at this ⊢
    exact ⟨this,fun ad c' e hc _=>by injection e with _ _ e2;omega⟩
  ·have hg:(0:Nat)<0+m:=by omega
   have hrun:=hn.new hzi (Pg.of_none (P:=P) (w:=w) (a:=a) (c:=0) (s:=i.size)) hg (by rw [hby];exact hb0) (by rw [hby];exact hfit)
   have hge:=grownCap_ge w (0+m) 0 e
   have hk1:E.pl key = .unborn:=hk
   obtain ⟨E',hst⟩:=q9.rowB hdead.rel.drew hk1 hB hC0 (c:=grownCap w (0+m) 0 e) (rest:=(Builtin.zeroCells z.cells (grownCap w (0+m) 0 e-(0+m))).toList) hge
    (Wp (olds:=[]) (n:=0) hzz (by simp) (by rw [hn.count,hs]) hge) e
   have e1:w.drew.heap.size=w.heap.size:=rfl
   rw [e1] at hst
   have h2:=hdead.trans hR hst.drew
   exact ⟨_,_,E',hrun,h2,fun ad c' e hc _=>by injection e with _ _ e2;omega⟩
theorem a52 {E:y6} {H:Nat->j6} {w:World} (hR:Q9 E H w) {key:Nat} (hk:E.pl key = .unborn) {t tx e ty:TypeId} {bytes:Nat} {z xv sv:Value} {b off len n m:Nat} {la la':t9} {news:List Value} (hT:j32 P t tx e la.size bytes z)
  {x0 x:j6} {C0 C:Rd->List Value->Prop} (hB0:Ey x0 n la C0) (hb:H b=x0) (hB:Ey x (len+m) la C) (hv:o0 E (.sl b [] la' off len) sv)
  (hC:∀ cs,C0 E.rd cs->C E.rd ((cs.drop (off*la.size)).take (len*la.size)++news)) (hs1:∀ v,v∈news->Iz v) (hn:Pg P w xv m la.size news) (hfit:(len+m)*bytes≤140737488355328) :
  ∃ u w' E',(Builtin.append_ #[t,tx] ty #[sv,xv]).run P w = .ok u w'/\q9 E H w [(b,.dead),(key,x)] (.sl key [] la 0 (len+m)) u E' w':=by
 obtain ⟨i,hi,hs,hby,hzi⟩:=hT.hi
 obtain ⟨dx,hx,hdx⟩:=hT.hx
 obtain ⟨u,w',E',h1,h2,_⟩:=Po hR hk hs hby hzi hT.hz hT.hb hB0 hb hB hv hC hs1 (.of_src (ty:=ty) hT.ht hx hdx hi (hs▸hn)) hfit
 exact ⟨u,w',E',h1,h2⟩
end
end Go.Eng

namespace Go.Eng
section
variable {P:Program} {G:G1} {T:Tr} {o:Oper} {ρ:Operand->AV} {H:Nat->j6} {K:V7}
theorem d56 {k:IntKind} {t:TypeId} {x:AV} {m:List Int} (hT:v5 P T) (h:i52 T k H t x=some m) :
  (∃ dx,P.underlying t=some dx/\(dx = .string\/∃ u,dx = .slice u))/\∀ {E:y6} {H':Nat->j6} {w:World} {v:Value},Q9 E H' w->(∀ b,b∈Bl x->H' b=H b)->o0 E x v->Pg P w v m.length 1 (m.map (.int k)):=by
 unfold i52 at h
 split at h
 ·rename_i e hk
  obtain ⟨hu,_⟩:=T5 hT hk
  exact ⟨⟨_,hu,.inr ⟨_,rfl⟩⟩,fun hR hrd hv=>a51 h hR hrd hv⟩
 ·rename_i hk
  have hu:=Hw hT hk
  split at h
  ·cases h
   refine ⟨⟨_,hu,.inl rfl⟩,fun hR hrd hv => ?_⟩
   rw [Ks hv]
   have:=Pg.of_string (P:=P) (w := ‹World›) (l := ‹List UInt8›)
   rw [List.length_map]
   exact this
  ·cases h
 ·cases h
theorem Pp {x:AV} {n:Nat} {g:Nat->DV} {la:t9} (h:c84 H x=some (n,g)) (hl:Rb H x=some la):∀ {E:y6} {H':Nat->j6} {w:World} {v:Value},Q9 E H' w->(∀ b,b∈Bl x->H' b=H b)->o0 E x v ->
  ∃ cs,Pn la n g E.rd cs/\Pg P w v n la.size cs:=by
 intro E H' w v hR hrd hv
 simp only [c84,Ua] at h
 split at h
 ·rename_i la' n' f
  cases h
  simp only [Rb] at hl
  cases hl
  rcases (a40 hv).sl with ⟨r,q,cp,css,ex,hc,hf,hfl,hr⟩|⟨e0,ad,cp,ex,hn⟩
  ·subst ex
   have hsz:∀ i,i<n->(css i).length=la.size:=fun i hi=>by rw [(hf i hi).len,hfl i hi]
   exact ⟨_,⟨css,hf,hfl,rfl⟩,Pg.of_reads ((Fe hsz).2 fun i hi j hj=>hR.rd _ _ _ (hr i hi j hj)) (v6 css _ n hsz)⟩
  ·subst ex;subst e0
   exact ⟨[],⟨fun _=>[],fun i hi=>by omega,fun i hi=>by omega,rfl⟩,Pg.of_none⟩
 ·simp [Rb] at hl
 ·rename_i b p l off len
  have hHb:=hrd b (by simp [Bl])
  have hbr:=hR.blk b
  rw [hHb] at hbr
  have fin:∀ (la':t9) (n':Nat) (f:Nat->DV),la'=la->p=[]->n=len->g=(fun j=>f (off+j))->E.lay b = .arr n' la'->((E.pl b = .nowhere/\n'=0)\/∃ r o cs,E.pl b = .at r o/\Pn la' n' f E.rd cs/\D1 (A5 w) r o cs)->∃ cs,Pn la n g E.rd cs/\Pg P w v n la.size cs:=by
   intro la' n' f e1 e2 e3 e4 hlay hpl
   subst e1;subst e2;subst e3;subst e4
   rcases S1 hv with ⟨r,q,so,m,c,rfl,hp,hloc,hn,hc,ht⟩|⟨a,so,m,rfl,e0,hp,hloc,hn⟩
   ·rw [hlay,o6] at hloc
    cases hloc
    rcases hpl with h0|⟨r',q',cs,hp',⟨css,hf,hfl,rfl⟩,hr⟩
    ·rw [h0.1] at hp;cases hp
    ·rw [hp] at hp'
     injection hp' with h1 h2
     subst h1;subst h2
     have hsz:∀ i,i<n'->(css i).length=l.size:=fun i hi=>by rw [(hf i hi).len,hfl i hi]
     have hr':=(Fe hsz).1 hr
     have hsz':∀ i,i<n->(css (off+i)).length=l.size:=fun i hi=>hsz _ (by omega)
     refine ⟨_,⟨fun i=>css (off+i),fun i hi=>hf _ (by omega),fun i hi=>hfl _ (by omega),rfl⟩,Pg.of_reads ((Fe hsz').2 fun i hi => ?_) (v6 _ _ n hsz')⟩
     have:=hr' (off+i) (by omega)
     rw [Nat.add_mul,←Nat.add_assoc] at this
     exact this
   ·subst e0
    exact ⟨[],⟨fun _=>[],fun i hi=>by omega,fun i hi=>by omega,rfl⟩,Pg.of_none⟩
  split at h
  ·rename_i la' n' f hb
   split at h
   ·cases h
    simp only [Rb,hb] at hl
    cases hl
    rw [hb] at hbr
    obtain ⟨hlay,h2⟩:=((Ey.parts _ _ _).rel _ _ _).1 hbr
    exact fin _ _ f rfl rfl rfl rfl hlay (h2.imp id fun ⟨r,o,cs,h1,h2,h3,_⟩=>⟨r,o,cs,h1,h2,h3⟩)
   ·cases h
  ·rename_i la' n' f hb
   split at h
   ·cases h
    simp only [Rb,hb] at hl
    cases hl
    rw [hb] at hbr
    obtain ⟨hlay,h0|⟨r,q,css,hp,hf,hfl,hr⟩⟩:=hbr
    ·exact fin _ _ f rfl rfl rfl rfl hlay (.inl h0)
    ·exact fin _ _ f rfl rfl rfl rfl hlay (.inr ⟨r,q,_,hp,⟨css,hf,hfl,rfl⟩,(Fe fun i hi=>by rw [(hf i hi).len,hfl i hi]).2 fun i hi j hj=>hR.rd _ _ _ (hr i hi j hj)⟩)
   ·cases h
  ·cases h
 ·cases h
theorem Pq {k:IntKind} {l m:List Int} {off len:Nat} {rd:Rd}:∀ cs,c87 k l rd cs->c87 k ((l.drop off).take len++m) rd ((cs.drop (off*t9.one.size)).take (len*t9.one.size)++m.map (.int k)):=by
 rintro cs rfl
 simp [c87,t9.size,List.map_take,List.map_drop]
theorem a53 {α β:Type} {l:List α} {f g:α->List β} (h:∀ x,x∈l->f x=g x):l.flatMap f=l.flatMap g:=by
 induction l with
 |nil=>rfl
 |cons x l ih=>rw [List.flatMap_cons,List.flatMap_cons,h x (List.mem_cons_self ..),ih fun y hy=>h y (List.mem_cons_of_mem _ hy)]
theorem d57 {la:t9} {n m len off:Nat} {f g:Nat->DV} {rd:Rd} {news:List Value} (hle:off+len≤n\/len=0) (hn:Pn la m g rd news):∀ cs,Pn la n f rd cs ->
  Pn la (len+m) (fun j=>if j<len then f (off+j) else g (j-len)) rd ((cs.drop (off*la.size)).take (len*la.size)++news):=by
 rintro cs ⟨css,hf,hfl,rfl⟩
 obtain ⟨css',hf',hfl',rfl⟩:=hn
 have hle':∀ j,j<len->off+j<n:=fun j hj=>by omega
 refine ⟨fun j=>if j<len then css (off+j) else css' (j-len),fun i hi => ?_,fun i hi => ?_,?_⟩
 ·show u7 rd (if _ then _ else _) (if _ then _ else _)
  split
  ·rename_i h;exact hf _ (hle' _ h)
  ·exact hf' _ (by omega)
 ·show DV.lay (if _ then _ else _)=_
  split
  ·rename_i h;exact hfl _ (hle' _ h)
  ·exact hfl' _ (by omega)
 ·rw [List.range_add,List.flatMap_append]
  have hsz:∀ i,i<n->(css i).length=la.size:=fun i hi=>by rw [(hf i hi).len,hfl i hi]
  congr 1
  ·have e1:(List.range len).flatMap (fun j=>if j<len then css (off+j) else css' (j-len))=(List.range len).flatMap fun j=>css (off+j):=by
    refine a53 fun j hj => ?_
    rw [if_pos (List.mem_range.1 hj)]
   rw [e1]
   rcases hle with hle|rfl
   ·have e2:List.range n=List.range off++(List.range len).map (off + ·)++(List.range (n-off-len)).map (off+len + ·):=by
     rw [←List.range_add,←List.range_add];congr 1;omega
    have h1:((List.range off).flatMap css).length=off*la.size:=v6 css _ off fun i hi=>hsz i (by omega)
    have h2:(((List.range len).map (off + ·)).flatMap css).length=len*la.size:=by
     rw [List.flatMap_map]
     exact v6 _ _ len fun i hi=>hsz _ (by omega)
    rw [e2,List.flatMap_append,List.flatMap_append,List.append_assoc,←h1,List.drop_left,←h2,List.take_left,List.flatMap_map]
   ·simp
  ·rw [List.flatMap_map]
   refine a53 fun j _ => ?_
   rw [if_neg (by omega)]
   congr 1;omega
theorem d58 {c:Call} {s x:Operand} {key:Nat} (hT:v5 P T) (hkey:H key = .dead) (ho:o.op = .call c) (hc:c.callee = .builtin .append) (ha:c.args.toList=[s,x])
  (h:c85 T key c.argTypes.toList H (ρ s) (ρ x) K):V9 P G o ρ H K:=by
 have ms:s∈o9 o.op:=by simp [o9,ho,Op.operands,Call.operands,hc,ha]
 have mx:x∈o9 o.op:=by simp [o9,ho,Op.operands,Call.operands,hc,ha]
 have ha':c.args = #[s,x]:=by rw [←Array.toList_inj,ha]
 unfold c85 at h
 split at h
 ·rename_i t t2 hts
  have ht':c.argTypes = #[t,t2]:=by rw [←Array.toList_inj,hts]
  have hex:∀ (a:Act) w u w',(Builtin.append_ #[t,t2] o.type #[a.eval s,a.eval x]).run P w = .ok u w'->(execOp a.eval o).run P w = .ok (.value u) w':=by
   intro a w u w' hr
   refine M4 ho hc ?_
   simp only [builtin,ha',ht',List.map_toArray,List.map_cons,List.map_nil,Sem.run_bind,hr,Result.andThen_ok]
   rfl
  split at h
  ·rename_i e hk
   obtain ⟨hu,_⟩:=T5 hT hk
   split at h
   ·rename_i hfit hpos
    have hpos:0<(T.get e).bytes:=Nat.blt_eq▸hpos
    obtain ⟨hs,_,hke⟩:=Bo hfit
    obtain ⟨ie,d,z,zs,hie,hd,_,hsz,hby,hls,_,hzl,hz,hzc,hzr,_⟩:=(hT.entry hke).info
    have hzlen:z.cells.size=(T.get e).lay.size:=by
     have:=(Ad (fun _ _=>none) hzr).len
     rw [hzl] at this
     rw [←this,←hzc,Array.length_toList]
    have hAT:(∃ dx,P.underlying t2=some dx/\(dx = .string\/∃ u,dx = .slice u))->j32 P t t2 e (T.get e).lay.size (T.get e).bytes z :=
     fun hx=>⟨hu,hx,⟨ie,hie,by rw [hsz,hs],hby,hz⟩,hzlen,hpos⟩
    split at h
    ·rename_i k hkind
     split at h
     ·rename_i m hm hone
      obtain ⟨hone,_,_⟩:=Bo hone
      obtain ⟨hx,hsrc⟩:=d56 (P:=P) hT hm
      have hAT:=hAT hx
      have hone':(T.get e).lay.size=t9.one.size:=by rw [hs,←hone]
      rw [hone'] at hAT
      split at h
      ·rename_i hs0
       obtain ⟨hfit,h⟩:=h
       refine ⟨_,_,_,h,.of fun E H' a w hR _ hop hrd hwr => ?_⟩
       have hb:E.pl key = .unborn:=hwr (key,_) (List.mem_singleton.2 rfl) hkey
       have es:=O8 (hs0▸hop s ms)
       obtain ⟨u,w',E',hr,hst⟩:=append_nil (ty:=o.type) hR hb hAT (Ey.ints k m) (by rfl) (hsrc hR hrd (hop x mx)) (by omega) none
       rw [←es] at hr
       exact ⟨u,w',E',.inl (hex a w u w' hr),hst⟩
      ·rename_i hs0
       obtain ⟨hfit,h⟩:=h
       refine ⟨_,_,_,h,.of fun E H' a w hR _ hop hrd hwr => ?_⟩
       have hb:E.pl key = .unborn:=hwr (key,_) (List.mem_singleton.2 rfl) hkey
       obtain ⟨ad,es⟩:=Qz (hs0▸hop s ms)
       obtain ⟨u,w',E',hr,hst⟩:=append_nil (ty:=o.type) hR hb hAT (Ey.ints k m) (by rfl) (hsrc hR hrd (hop x mx)) (by omega) ad
       rw [←es] at hr
       exact ⟨u,w',E',.inl (hex a w u w' hr),hst⟩
      ·rename_i b p l off len hsv
       split at h
       ·rename_i k' li hbl
        split at h
        ·rename_i hkk
         obtain rfl:=F4 hkk
         obtain ⟨hfit,h⟩:=h
         refine ⟨_,_,_,h,.of fun E H' a w hR _ hop hrd hwr => ?_⟩
         have hb:E.pl key = .unborn:=hwr (key,_) (List.mem_cons_of_mem _ (List.mem_singleton.2 rfl)) hkey
         have hsv':=hsv▸hop s ms
         have hHb:=hrd b (by simp)
         rw [hbl] at hHb
         have hlen:((li.drop off).take len++m).length=len+m.length:=by
          have hbr:=hR.blk b
          rw [hHb] at hbr
          have:off+len≤li.length:=by
           rcases S1 hsv' with ⟨r,q,so,n,c,_,hp,hloc,hn,_⟩|⟨a,so,n,_,e0,hp,hloc,hn⟩ <;>
           ·rw [hbr.1,o6] at hloc
            cases hloc
            omega
          simp [List.length_take,List.length_drop];omega
         have hrow:=Ey.ints k ((li.drop off).take len++m)
         rw [hlen] at hrow
         obtain ⟨u,w',E',hr,hst⟩:=a52 (ty:=o.type) hR hb hAT (Ey.ints k li) hHb hrow hsv' Pq (fun v hv=>by
          obtain ⟨n,_,rfl⟩:=List.mem_map.1 hv;trivial) (hsrc hR (fun b' hb'=>hrd b' (List.mem_cons_of_mem _ hb')) (hop x mx)) (by
          have:(((len+m.length)*(T.get e).bytes:Nat):Int)≤140737488355328:=by push_cast;exact hfit
          omega)
         exact ⟨u,w',E',.inl (hex a w u w' hr),hst⟩
        ·exact h.elim
       ·exact h.elim
      ·rename_i b off len cp hsv
       split at h
       ·rename_i k' li hbl
        split at h
        ·rename_i hkk
         obtain rfl:=F4 hkk
         obtain ⟨⟨hc0,hcle,hfit⟩,h⟩:=h
         refine ⟨_,_,_,h,.of fun E H' a w hR _ hop hrd hwr => ?_⟩
         have hb:E.pl key = .unborn:=hwr (key,_) (List.mem_cons_of_mem _ (List.mem_singleton.2 rfl)) hkey
         have hsv0:o0 E (.slc b off len cp) (a.eval s):=hsv▸hop s ms
         have hsv':=h22 hsv0
         have hHb:=hrd b (by simp)
         rw [hbl] at hHb
         have hlen:((li.drop off).take len++m).length=len+m.length:=by
          have hbr:=hR.blk b
          rw [hHb] at hbr
          have:off+len≤li.length:=by
           obtain ⟨r,q,n,_,hp,hl,hn,_⟩:=Nj hsv0
           have:=hbr.1
           rw [hl] at this
           injection this
           omega
          simp [List.length_take,List.length_drop];omega
         have hrow:=Ey.ints k ((li.drop off).take len++m)
         rw [hlen] at hrow
         obtain ⟨dx,hxd,hdx⟩:=hAT.hx
         obtain ⟨i,hi,hs1,hby1,hz1⟩:=hAT.hi
         obtain ⟨u,w',E',hr,hst,hu⟩:=Po hR hb hs1 hby1 hz1 hAT.hz hAT.hb (Ey.ints k li) hHb hrow hsv' Pq (fun v hv=>by
          obtain ⟨n,_,rfl⟩:=List.mem_map.1 hv;trivial) (.of_src (ty:=o.type) hAT.ht hxd hdx hi (by rw [hs1];exact hsrc hR (fun b' hb'=>hrd b' (List.mem_cons_of_mem _ hb')) (hop x mx))) (by
          have:(((len+m.length)*(T.get e).bytes:Nat):Int)≤140737488355328:=by push_cast;exact hfit
          omega)
         obtain ⟨r,q,n,es,_⟩:=Nj hsv0
         have hu:=hu _ _ es hc0 hcle
         subst hu
         exact ⟨_,w',E',.inl (hex a w _ w' hr),hst.free (h23 hst.val hc0)⟩
        ·exact h.elim
       ·exact h.elim
      ·exact h.elim
     ·exact h.elim
    ·split at h
     ·rename_i hk2
      obtain ⟨hu2,_⟩:=T5 hT hk2
      split at h
      ·rename_i m g la hel hla
       split at h
       ·rename_i hdec
        have hdec:=of_decide_eq_true hdec
        subst hdec
        have hAT:=hAT ⟨_,hu2,.inr ⟨_,rfl⟩⟩
        split at h
        ·rename_i hs0
         obtain ⟨hfit,h⟩:=h
         refine ⟨_,_,_,h,.of fun E H' a w hR _ hop hrd hwr => ?_⟩
         have hb:E.pl key = .unborn:=hwr (key,_) (List.mem_singleton.2 rfl) hkey
         have es:=O8 (hs0▸hop s ms)
         obtain ⟨cs,hcs,hsrc⟩:=Pp (P:=P) hel hla hR hrd (hop x mx)
         obtain ⟨u,w',E',hr,hst⟩:=append_nil (ty:=o.type) hR hb hAT (Ey.parts _ m g) hcs hsrc (by omega) none
         rw [←es] at hr
         exact ⟨u,w',E',.inl (hex a w u w' hr),hst⟩
        ·rename_i hs0
         obtain ⟨hfit,h⟩:=h
         refine ⟨_,_,_,h,.of fun E H' a w hR _ hop hrd hwr => ?_⟩
         have hb:E.pl key = .unborn:=hwr (key,_) (List.mem_singleton.2 rfl) hkey
         obtain ⟨ad,es⟩:=Qz (hs0▸hop s ms)
         obtain ⟨cs,hcs,hsrc⟩:=Pp (P:=P) hel hla hR hrd (hop x mx)
         obtain ⟨u,w',E',hr,hst⟩:=append_nil (ty:=o.type) hR hb hAT (Ey.parts _ m g) hcs hsrc (by omega) ad
         rw [←es] at hr
         exact ⟨u,w',E',.inl (hex a w u w' hr),hst⟩
        ·rename_i b p l off len hsv
         split at h
         ·rename_i la' n f hbl
          split at h
          ·rename_i hla'
           have hla':=of_decide_eq_true hla'
           obtain ⟨hfit,h⟩:=h
           refine ⟨_,_,_,h,.of fun E H' a w hR _ hop hrd hwr => ?_⟩
           have hb:E.pl key = .unborn:=hwr (key,_) (List.mem_cons_of_mem _ (List.mem_singleton.2 rfl)) hkey
           have hsv':=hsv▸hop s ms
           have hHb:=hrd b (by simp)
           rw [hbl] at hHb
           obtain ⟨cs,hcs,hsrc⟩:=Pp (P:=P) hel hla hR (fun b' hb'=>hrd b' (List.mem_cons_of_mem _ hb')) (hop x mx)
           have hle:off+len≤n\/len=0:=by
            have hbr:=hR.blk b
            rw [hHb] at hbr
            rcases S1 hsv' with ⟨r,q,so,n',c,_,hp,hloc,hn,_⟩|⟨a,so,n',_,e0,hp,hloc,hn⟩
            ·rw [hbr.1,o6] at hloc
             cases hloc
             exact .inl hn
            ·exact .inr e0
           subst hla'
           obtain ⟨u,w',E',hr,hst⟩:=a52 (ty:=o.type) hR hb hAT (Ey.parts _ n f) hHb (Ey.parts _ (len+m) _) hsv' (d57 hle hcs) (b83 hcs) hsrc (by
            have:(((len+m)*(T.get e).bytes:Nat):Int)≤140737488355328:=by push_cast;exact hfit
            omega)
           exact ⟨u,w',E',.inl (hex a w u w' hr),hst⟩
          ·exact h.elim
         ·exact h.elim
        ·exact h.elim
       ·exact h.elim
      ·exact h.elim
     ·exact h.elim
   ·exact h.elim
  ·exact h.elim
 ·exact h.elim
theorem Hf {k:IntKind} {z:Int} (n:Nat):(Builtin.zeroCells #[Value.int k z] n).toList=(List.replicate n z).map (.int k):=by
 apply List.ext_getElem
 ·simp [Builtin.zeroCells]
 ·intro j h1 h2
  simp [Builtin.zeroCells,Nat.mod_one]
theorem c88 {E:y6} {H:Nat->j6} {w:World} (hR:Q9 E H w) {key:Nat} (hk:E.pl key = .unborn) {t tx e ty:TypeId} {bytes:Nat} {k kx kn:IntKind} {z:Int} {n:Nat} (ht:P.underlying t=some (.slice e)) (hx:P.underlying tx=some (.int kx))
  (hi:∃ i zv,P.info? e=some i/\i.size=1/\i.bytes=bytes/\i.zero=some zv/\zv.cells = #[Value.int k z]) (hb:0<bytes) (hfit:n*bytes≤140737488355328) (ad:Option Addr) :
  ∃ u w' E',(Builtin.append_ #[t,tx] ty #[.slice ad 0 0,.int kn (n:Int)]).run P w = .ok u w'/\q9 E H w [(key,.rowI k (List.replicate n z))] (.sl key [] .one 0 n) u E' w':=by
 obtain ⟨i,zv,hi,hs,hby,hz,hzv⟩:=hi
 have hB:=Ey.ints k (List.replicate n z)
 rw [List.length_replicate] at hB
 by_cases h0:n=0
 ·subst h0
  obtain ⟨E',hst⟩:=q9.emptyB hR hk hB rfl ad
  exact ⟨_,_,E',Ud ht hx hi,hst⟩
 ·have hrun:=Wn (ty:=ty) (k:=kn) (ad:=ad) (w:=w) ht hx hi hz (Nat.pos_of_ne_zero h0) (by omega) (by omega) (by rw [hby];exact hfit)
  have hge:=grownCap_ge w n 0 e
  obtain ⟨E',hst⟩:=q9.rowB hR.drew hk hB (cs:=(List.replicate n z).map (.int k)) rfl (c:=grownCap w n 0 e) (rest:=(Builtin.zeroCells #[Value.int k z] (grownCap w n 0 e-n)).toList) (by omega)
   (by rw [Hf];simp [t9.size];omega) e
  refine ⟨_,_,E',hrun,?_⟩
  have e1:w.drew.heap.size=w.heap.size:=rfl
  rw [e1] at hst
  rw [hzv,Hf n]
  exact hst.drew
theorem c89 {c:Call} {s x:Operand} {t t2:TypeId} {key:Nat} (hT:v5 P T) (hkey:H key = .dead) (ho:o.op = .call c) (hc:c.callee = .builtin .append) (ha:c.args.toList=[s,x]) (hts:c.argTypes.toList=[t,t2]) (hi2:f08 T t2=true)
  (h:a49 T key t H (ρ s) (ρ x) K):V9 P G o ρ H K:=by
 have ms:s∈o9 o.op:=by simp [o9,ho,Op.operands,Call.operands,hc,ha]
 have mx:x∈o9 o.op:=by simp [o9,ho,Op.operands,Call.operands,hc,ha]
 have ha':c.args = #[s,x]:=by rw [←Array.toList_inj,ha]
 have ht':c.argTypes = #[t,t2]:=by rw [←Array.toList_inj,hts]
 have hex:∀ (a:Act) w u w',(Builtin.append_ #[t,t2] o.type #[a.eval s,a.eval x]).run P w = .ok u w'->(execOp a.eval o).run P w = .ok (.value u) w':=by
  intro a w u w' hr
  refine M4 ho hc ?_
  simp only [builtin,ha',ht',List.map_toArray,List.map_cons,List.map_nil,Sem.run_bind,hr,Result.andThen_ok]
  rfl
 obtain ⟨kx,hu2⟩:∃ kx,P.underlying t2=some (.int kx):=by
  unfold f08 at hi2
  split at hi2
  ·rename_i kx hk;exact ⟨kx,Kt hT hk⟩
  ·cases hi2
 unfold a49 at h
 split at h
 ·rename_i e hk
  obtain ⟨hu,_⟩:=T5 hT hk
  split at h
  ·rename_i k z hfit hpos hzero
   have hpos:0<(T.get e).bytes:=Nat.blt_eq▸hpos
   obtain ⟨hs,_,hke⟩:=Bo hfit
   obtain ⟨ie,d,zv,zs,hie,hd,_,hsz,hby,hls,_,hzl,hz,hzc,hzr,_⟩:=(hT.entry hke).info
   have hinf:∃ i zv,P.info? e=some i/\i.size=1/\i.bytes=(T.get e).bytes/\i.zero=some zv/\zv.cells = #[Value.int k z]:=by
    refine ⟨ie,zv,hie,by rw [hsz,←hs];rfl,hby,hz,?_⟩
    rw [hzero] at hzr
    simp only [Ac] at hzr
    split at hzr
    ·cases hzr
     rw [←Array.toList_inj,hzc]
    ·cases hzr
   have main:∀ (sv:∀ E (a:Act),(∀ x,x∈o9 o.op->o0 E (ρ x) (a.eval x))->∃ ad,a.eval s = .slice ad 0 0),(Dn (ρ x) fun _ n=>(0≤n/\n*(T.get e).bytes≤140737488355328)/\K [] [(key,.rowI k (List.replicate n.toNat z))] (.sl key [] .one 0 n.toNat))->V9 P G o ρ H K:=by
    intro sv h
    obtain ⟨kn,n,hx,⟨h0,hfit'⟩,h⟩:=C5 h
    refine ⟨_,_,_,h,.of fun E H' a w hR _ hop hrd hwr => ?_⟩
    have hb:E.pl key = .unborn:=hwr (key,_) (List.mem_singleton.2 rfl) hkey
    obtain ⟨ad,es⟩:=sv E a hop
    have exx:a.eval x = .int kn (n.toNat:Int):=by
     have e1:a.eval x = .int kn n:=K7 (E:=E) (by rw [←hx];exact hop x mx)
     rw [e1,Int.toNat_of_nonneg h0]
    have hle:n.toNat*(T.get e).bytes≤140737488355328:=by
     have:((n.toNat*(T.get e).bytes:Nat):Int)≤140737488355328:=by
      rw [Int.natCast_mul,Int.toNat_of_nonneg h0];exact hfit'
     omega
    obtain ⟨u,w',E',hr,hst⟩:=c88 (ty:=o.type) (kn:=kn) hR hb hu hu2 hinf hpos hle ad
    rw [←es,←exx] at hr
    exact ⟨u,w',E',.inl (hex a w u w' hr),hst⟩
   split at h
   ·rename_i hs0;exact main (fun E a hop=>⟨none,O8 (hs0▸hop s ms)⟩) h
   ·rename_i hs0;exact main (fun E a hop=>Qz (hs0▸hop s ms)) h
   ·rename_i b p l off len hsv
    split at h
    ·rename_i k' li hbl
     split at h
     ·rename_i hkk
      obtain rfl:=F4 hkk
      obtain ⟨kn,n,hx,⟨h0,hfit'⟩,h⟩:=C5 h
      refine ⟨_,_,_,h,.of fun E H' a w hR _ hop hrd hwr => ?_⟩
      have hb:E.pl key = .unborn:=hwr (key,_) (List.mem_cons_of_mem _ (List.mem_singleton.2 rfl)) hkey
      have hsv':=hsv▸hop s ms
      have hHb:=hrd b (by simp)
      rw [hbl] at hHb
      have exx:a.eval x = .int kn (n.toNat:Int):=by
       have e1:a.eval x = .int kn n:=K7 (E:=E) (by rw [←hx];exact hop x mx)
       rw [e1,Int.toNat_of_nonneg h0]
      have hle:(len+n.toNat)*(T.get e).bytes≤140737488355328:=by
       have:(((len+n.toNat)*(T.get e).bytes:Nat):Int)≤140737488355328:=by
        rw [Int.natCast_mul,Int.natCast_add,Int.toNat_of_nonneg h0];exact hfit'
       omega
      have hle2:n.toNat*(T.get e).bytes≤140737488355328:=Nat.le_trans (Nat.mul_le_mul_right _ (Nat.le_add_left ..)) hle
      have hlen:((li.drop off).take len++List.replicate n.toNat z).length=len+n.toNat:=by
       have hbr:=hR.blk b
       rw [hHb] at hbr
       have:off+len≤li.length:=by
        rcases S1 hsv' with ⟨r,q,so,n,c,_,hp,hloc,hn,_⟩|⟨a,so,n,_,e0,hp,hloc,hn⟩ <;>
        ·rw [hbr.1,o6] at hloc
         cases hloc
         omega
       simp [List.length_take,List.length_drop];omega
      have hrow:=Ey.ints k ((li.drop off).take len++List.replicate n.toNat z)
      rw [hlen] at hrow
      obtain ⟨i,zv,hi,hs1,hby1,hz1,hzv⟩:=hinf
      have hzl:(Builtin.zeroCells zv.cells n.toNat).toList=(List.replicate n.toNat z).map (.int k):=by rw [hzv];exact Hf _
      have hrun:=Wo.zeros (P:=P) (t:=t) (tx:=t2) (ty:=o.type) (k:=kn) (w:=w) (n:=n.toNat) hu hu2 hi hz1 (by rw [hby1];exact hpos) (by omega) (by rw [hzv,hs1];rfl) (by rw [hby1];exact hle2)
      rw [hzl] at hrun
      obtain ⟨u,w',E',hr,hst,_⟩:=Po (la := .one) hR hb hs1 hby1 hz1 (by rw [hzv];rfl) hpos (Ey.ints k li) hHb hrow hsv' Pq (fun v hv=>by
       obtain ⟨n,_,rfl⟩:=List.mem_map.1 hv;trivial) hrun hle
      rw [←exx] at hr
      exact ⟨u,w',E',.inl (hex a w u w' hr),hst⟩
     ·exact h.elim
    ·exact h.elim
   ·exact h.elim
  ·exact h.elim
 ·exact h.elim
theorem b84 {t:TypeId} {x:Operand} (hT:v5 P T) (ho:o.op = .sliceToArrayPointer t x) (h:Wl T t H (ρ x) K):V9 P G o ρ H K:=by
 have mx:x∈o9 o.op:=by simp [o9,ho,Op.operands]
 unfold Wl at h
 split at h
 ·rename_i n e hk
  obtain ⟨hu,_⟩:=Ku hT hk
  split at h
  ·rename_i hn
   have hn:0<n:=Nat.blt_eq▸hn
   obtain ⟨rd,wr,d,h,hwr,hrun⟩:=Sn h
   split at h
   ·rename_i k l
    obtain ⟨hle,l',rfl,h⟩:=h
    refine ⟨_,_,_,h,.of fun E H' a w hR hG hop hrd _ => ?_⟩
    obtain ⟨E',hst,hrep,hu2⟩:=hrun E H' w (a.eval x) hR hrd (hop x mx)
    have hv:o0 E' (.dv (.roI k l)) (a.eval x) := .of (.dv hrep) hu2
    rcases (Kl hv).slI with ⟨r,q,c,e1,hc,hr⟩|⟨hl,a0,c,e1,_⟩
    ·refine ⟨.pointer (some ⟨r,q,none⟩),w,E',.inl ?_,hst.free (.one (.rp r q (.ints k n (l.take n) (by rw [List.length_take];omega)) fun j hj => ?_) rfl)⟩
     ·have hlt:¬ (l.length<n):=by omega
      simp [execOp,ho,e1,Instr.arrayAt,run_underlying hu,hlt]
     ·have hj':j<l.length:=by simp [List.length_take] at hj;omega
      have:=hr j (by simpa using hj')
      rw [this]
      simp
    ·subst hl
     simp at hle
     omega
   ·exact h.elim
  ·exact h.elim
 ·exact h.elim
end
end Go.Eng

namespace Go.Eng
section
variable {P:Program} {G:G1} {T:Tr} {o:Oper} {ρ:Operand->AV} {H:Nat->j6} {K:V7}
theorem a54 {l:List Int} {off len:Nat} {m:List Int} (h:off+len≤l.length):(T9 l off (m.take len)).length=l.length:=by
 unfold T9;simp only [List.length_append,List.length_take,List.length_drop];omega
theorem d59 {k:IntKind} {l:List Int} {off:Nat} {m:List Int}:(T9 l off m).map (Value.int k)=u5 (l.map (.int k)) off (m.map (.int k)):=by
 unfold T9 u5;simp [List.map_take,List.map_drop]
theorem h31 (l:List Int) (off:Nat):T9 l off []=l:=by unfold T9;simp
theorem Ue {t tx ty e:TypeId} {i:TypeInfo} (hu:P.underlying t=some (.slice e)) (hi:P.info? e=some i) {w w':World} {base:Option Addr} {dLen c m:Nat} {xv:Value} {cs:List Value} (hn:Pg P w xv m i.size cs)
  (hst:∀ a,base=some a->(storeCells a (cs.take (min m dLen*i.size))).run P w = .ok () w') (hw:base=none->w'=w) :
  (Builtin.copy_ #[t,tx] ty #[.slice base dLen c,xv]).run P w = .ok (goInt (min m dLen:Nat)) w':=by
 have hlen:=hn.len
 have h1:=hn.part (min m dLen) (Nat.min_le_left ..)
 have e1:Nat.min m dLen=min m dLen:=rfl
 cases base with
 |none =>
  obtain rfl:=hw rfl
  simp [Builtin.copy_,run_underlying hu,sizeOf,typeInfo,hi,hlen,h1,e1]
 |some a =>
  have:=hst a rfl
  simp [Builtin.copy_,run_underlying hu,sizeOf,typeInfo,hi,hlen,h1,this,e1]
theorem h33 {k:IntKind} {ts:List TypeId} {x:AV} {K:List Nat->List Int->Prop} (hT:v5 P T) (h:j31 T k H ts x K):∃ m,K (Bl x) m/\(∃ t1 t2,ts=[t1,t2]) /\
  ∀ {E:y6} {H':Nat->j6} {w:World} {v:Value},Q9 E H' w->(∀ b,b∈Bl x->H' b=H b)->o0 E x v->Pg P w v m.length 1 (m.map (.int k)):=by
 unfold j31 at h
 split at h
 ·split at h
  ·rename_i m hm
   exact ⟨m,h,⟨_,_,rfl⟩,(d56 hT hm).2⟩
  ·exact h.elim
 ·exact h.elim
theorem g43 {c:Call} {s x:Operand} (hT:v5 P T) (ho:o.op = .call c) (hc:c.callee = .builtin .copy) (ha:c.args.toList=[s,x])
  (h:h29 T c.argTypes.toList H (ρ s) (ρ x) K):V9 P G o ρ H K:=by
 have ms:s∈o9 o.op:=by simp [o9,ho,Op.operands,Call.operands,hc,ha]
 have mx:x∈o9 o.op:=by simp [o9,ho,Op.operands,Call.operands,hc,ha]
 have ha':c.args = #[s,x]:=by rw [←Array.toList_inj,ha]
 unfold h29 at h
 split at h
 ·rename_i t rest hts
  split at h
  ·rename_i e hk
   obtain ⟨hu,ie,hie⟩:=T5 hT hk
   split at h
   ·rename_i k hint
    have hkind:(T.get e).kind = .int k:=by
     unfold Gh at hint
     split at hint
     ·rename_i hh;cases hint;exact hh
     ·cases hint
    have hke:e∈T.keys:=R2 (by rw [hkind];exact fun e=>by cases e)
    have hsz1:ie.size=1:=by
     obtain ⟨i',d,z,zs,hi',hd,hkb,hsz,hby,hls,hag,_⟩:=(hT.entry hke).info
     rw [hie] at hi';cases hi'
     have hui:=Kt hT hkind
     rw [hd] at hui;cases hui
     have hone:=Cp (l:=(T.get e).lay) (by rw [hag];rfl)
     rw [hsz,←hls,hone];rfl
    obtain ⟨m,h,⟨t1,t3,hts3⟩,hsrc⟩:=h33 (P:=P) hT h
    have hex:∀ (a:Act) w u w',(∃ t2,c.argTypes = #[t,t2])->(∀ t2,(Builtin.copy_ #[t,t2] o.type #[a.eval s,a.eval x]).run P w = .ok u w')->(execOp a.eval o).run P w = .ok (.value u) w':=by
     intro a w u w' ⟨t2,ht2⟩ hr
     refine M4 ho hc ?_
     simp only [builtin,ha',ht2,List.map_toArray,List.map_cons,List.map_nil,Sem.run_bind,hr t2,Result.andThen_ok]
     rfl
    have hts2:∃ t2,c.argTypes = #[t,t2]:=by
     rw [hts] at hts3
     injection hts3 with _ h2
     exact ⟨t3,by rw [←Array.toList_inj,hts,h2]⟩
    split at h
    ·rename_i b p la off len hsv
     split at h
     ·rename_i k' li hbl
      split at h
      ·rename_i hkk
       obtain rfl:=F4 hkk
       refine ⟨_,_,_,h,.of fun E H' a w hR _ hop hrd hwr => ?_⟩
       have hsv':=hsv▸hop s ms
       have hHb:=hrd b (by simp)
       rw [hbl] at hHb
       have hsrc':=hsrc hR (fun b' hb'=>hrd b' (List.mem_cons_of_mem _ hb')) (hop x mx)
       have hbr:=hR.blk b
       rw [hHb] at hbr
       obtain ⟨hEl,hplc⟩:=hbr
       rcases S1 hsv' with ⟨r,q,so,n,cp,ex,hp,hloc,hn,hcp,ht⟩|⟨ad,so,n,ex,e0,hp,hloc,hn⟩
       ·rw [hEl,o6] at hloc
        cases hloc
        rcases hplc with hn0|⟨r',q',hp',hrs,hm⟩
        ·rw [hn0.1] at hp;cases hp
        rw [hp] at hp'
        injection hp' with h1 h2
        subst h1;subst h2
        have e1:q+0+off*t9.one.size=q+off:=by simp [t9.size]
        have e4:q+0+(off+cp)*t9.one.size=q+(off+cp):=by simp [t9.size]
        rw [e1] at ex
        rw [e4] at ht
        have hcy:((m.take len).map (Value.int k))=(m.map (.int k)).take (min m.length len*ie.size):=by
         rw [hsz1,Nat.mul_one,List.map_take]
         rw [Nat.min_def]
         split
         ·rename_i hle
          rw [List.take_of_length_le (by simpa using hle),List.take_of_length_le (by simp)]
         ·rfl
        have hcyl:((m.take len).map (Value.int k)).length≤len:=by rw [List.length_map,List.length_take];omega
        have h1:=hm.1
        have hw:=Qy (P:=P) (w:=w) (r:=r) (j:=q+off) (cy:=(m.take len).map (.int k)) (hm.cells (by omega) (by omega)) (fun v hv=>by
         obtain ⟨n,_,rfl⟩:=List.mem_map.1 hv;trivial)
        have hrun:=fun t2=>Ue (tx:=t2) (ty:=o.type) (c:=cp) hu hie (hsz1.symm▸hsrc') (base:=some ⟨r,q+off,none⟩) (dLen:=len) (w':=w.setCells r (q+off) ((m.take len).map (.int k))) (fun ad had=>by
         cases had;rw [←hcy];exact hw) (fun h=>by cases h)
        refine ⟨_,_,E,.inl (hex a w _ _ hts2 fun t2=>by rw [ex];exact hrun t2),q9.cells hR (by rw [hHb];rfl) hp hm (by omega) (by omega) ?_ (C9 E _ _)⟩
        refine ⟨by rw [hEl,a54 hn],.inr ⟨r,q,hp,?_,?_⟩⟩
        ·rw [d59]
         exact Ds hrs (by simp only [List.length_map] at hcyl ⊢;omega)
        ·rw [a54 hn];exact hm.write (by omega) (by omega) h1
       ·subst e0
        have hrun:=fun t2=>Ue (tx:=t2) (ty:=o.type) (c:=0) (w':=w) hu hie (hsz1.symm▸hsrc') (base:=ad) (dLen:=0) (fun ad had=>by
         rw [Nat.min_zero,Nat.zero_mul,List.take_zero];rfl) (fun _=>rfl)
        refine ⟨_,_,E,.inl (hex a w _ _ hts2 fun t2=>by rw [ex];exact hrun t2),q9.keep hR ?_ (C9 E _ _)⟩
        rw [List.take_zero,h31,hHb]
      ·exact h.elim
     ·rename_i y hbl
      split at h
      ·rename_i k' n li hy
       split at h
       ·rename_i hkk hlay
        obtain rfl:=F4 hkk
        have hlay:=of_decide_eq_true hlay
        refine ⟨_,_,_,h,.of fun E H' a w hR _ hop hrd hwr => ?_⟩
        have hsv':=hsv▸hop s ms
        have hHb:=hrd b (by simp)
        rw [hbl] at hHb
        have hsrc':=hsrc hR (fun b' hb'=>hrd b' (List.mem_cons_of_mem _ hb')) (hop x mx)
        have hbr:=hR.blk b
        rw [hHb] at hbr
        obtain ⟨r,q,cs,hp,hEl,hya,hrs,htop,hm⟩:=hbr
        have hwrite:∀ (so n':Nat),J6 (E.lay b) p=some (so,.arr n' la)->off+len≤n'->∀ (m':List Int),m'=m.take len->∃ cy:List Value,cy=m'.map (.int k)/\q≤q+so+off*la.size/\q+so+off*la.size+cy.length≤E.top b /\
          y9 E b (w.setCells r (q+so+off*la.size) cy) (.var (y.setP p (.dv (.ints k n (T9 li off m'))))):=by
         intro so n' hloc hn m' hm'
         rw [hEl] at hloc
         obtain ⟨hpa,hpl⟩:=hya.at hloc
         rw [hy] at hpa hpl
         have hpl:t9.arr n .one = .arr n' la:=hpl
         injection hpl with e1 e2
         subst e1;subst e2
         have hle:=R1 hloc
         rw [←hya.len] at hle
         simp only [t9.size,Nat.mul_one] at hle ⊢
         have e3:(t9.arr n t9.one).size=n:=by simp [t9.size]
         rw [e3] at hpa
         have hboth:li.length=n/\(cs.drop so).take n=li.map (.int k):=by
          generalize (cs.drop so).take n=c0 at hpa
          cases hpa.dv_inv with
          |ints _ _ _ hl=>exact ⟨hl,rfl⟩
         obtain ⟨hlil,hcells⟩:=hboth
         have hm'l:m'.length≤len:=by rw [hm',List.length_take];omega
         refine ⟨_,rfl,by omega,by rw [List.length_map,htop];omega,?_⟩
         have hcyl:(m'.map (Value.int k)).length≤len:=by rw [List.length_map];exact hm'l
         have hset:=hya.setP (p:=p) hloc (y := .dv (.ints k n (T9 li off m'))) (cy:=(T9 li off m').map (.int k)) (.dv (.ints k n _ (by rw [hm',a54 (by omega),hlil]))) rfl (by rw [hm'];exact hlay)
         rw [d59,←hcells,Mg _ _ _ _ _ (by omega) hle] at hset
         refine ⟨r,q,_,hp,by rw [hEl,hm',hlay],hset,?_,?_,?_⟩
         ·have:=Ds (w:=w) hrs (off:=so+off) (cy:=m'.map (.int k)) (by omega)
          rw [←Nat.add_assoc] at this
          exact this
         ·rw [htop];congr 1;unfold u5;simp only [List.length_append,List.length_take,List.length_drop];omega
         ·refine hm.write (by omega) (by omega) ?_
          rw [htop];unfold u5;simp only [List.length_append,List.length_take,List.length_drop];omega
        rcases S1 hsv' with ⟨r',q',so,n',cp,ex,hp',hloc,hn,hcp,ht⟩|⟨ad,so,n',ex,e0,hp',hloc,hn⟩
        ·rw [hp] at hp'
         injection hp' with h1 h2
         subst h1;subst h2
         obtain ⟨cy,hcy0,hlo,hhi,hblk⟩:=hwrite so n' hloc hn _ rfl
         subst hcy0
         have hcy:((m.take len).map (Value.int k))=(m.map (.int k)).take (min m.length len*ie.size):=by
          rw [hsz1,Nat.mul_one,List.map_take]
          rw [Nat.min_def]
          split
          ·rename_i hle
           rw [List.take_of_length_le (by simpa using hle),List.take_of_length_le (by simp)]
          ·rfl
         have hw:=Qy (P:=P) (w:=w) (r:=r) (j:=q+so+off*la.size) (cy:=(m.take len).map (.int k)) (hm.cells hlo hhi) (fun v hv=>by
          obtain ⟨n,_,rfl⟩:=List.mem_map.1 hv;trivial)
         have hrun:=fun t2=>Ue (tx:=t2) (ty:=o.type) (c:=cp) hu hie (hsz1.symm▸hsrc') (base:=some ⟨r,q+so+off*la.size,none⟩) (dLen:=len) (w':=w.setCells r (q+so+off*la.size) ((m.take len).map (.int k))) (fun ad had=>by
          cases had;rw [←hcy];exact hw) (fun h=>by cases h)
         exact ⟨_,_,E,.inl (hex a w _ _ hts2 fun t2=>by rw [ex];exact hrun t2),q9.cells hR (by rw [hHb];rfl) hp hm hlo hhi hblk (C9 E _ _)⟩
        ·subst e0
         obtain ⟨cy,hcy0,hlo,hhi,hblk⟩:=hwrite so n' hloc (by omega) _ rfl
         rw [List.take_zero] at hcy0 
         subst hcy0
         have hrun:=fun t2=>Ue (tx:=t2) (ty:=o.type) (c:=0) (w':=w) hu hie (hsz1.symm▸hsrc') (base:=ad) (dLen:=0) (fun ad had=>by
          rw [Nat.min_zero,Nat.zero_mul,List.take_zero];rfl) (fun _=>rfl)
         exact ⟨_,_,E,.inl (hex a w _ _ hts2 fun t2=>by rw [ex];exact hrun t2),q9.cells (cy:=[]) hR (by rw [hHb];rfl) hp hm hlo hhi hblk (C9 E _ _)⟩
       ·exact h.elim
      ·exact h.elim
     ·exact h.elim
    ·exact h.elim
   ·exact h.elim
  ·exact h.elim
 ·exact h.elim
end
end Go.Eng

namespace Go.Eng
section
variable {P:Program} {G:G1} {T:Tr} {o:Oper} {ρ:Operand->AV} {H:Nat->j6} {K:V7}
theorem c90 {k:IntKind} {x:AV} {m:List Int} (h:Wk k H x=some m) {E:y6} {v:Value} (hv:o0 E x v):∃ a n c,v = .slice a n c:=by
 unfold Wk at h
 split at h
 ·rcases (Kl hv).slI with ⟨r,q,c,rfl,hc,hr⟩|⟨rfl,a,c,rfl,_⟩
  ·exact ⟨_,_,_,rfl⟩
  ·exact ⟨_,_,_,rfl⟩
 ·exact ⟨_,_,_,O8 hv⟩
 ·rcases S1 hv with ⟨r,q,so,n,c,rfl,_⟩|⟨a,so,n,rfl,_⟩
  ·exact ⟨_,_,_,rfl⟩
  ·exact ⟨_,_,_,rfl⟩
 ·cases h
theorem Dt {s d:TypeId} {x:Operand} (ho:o.op = .convert s d x) {a:Act} {w w':World} {v:Value} (h:(convert s d (a.eval x)).run P w = .ok v w'):(execOp a.eval o).run P w = .ok (.value v) w':=by
 simp [execOp,ho,h]
theorem Pr {e:TypeId} {k:IntKind} (hT:v5 P T) (h:Gh T e=some k):P.underlying e=some (.int k):=by
 unfold Gh at h
 split at h
 ·rename_i hh;cases h;exact Kt hT hh
 ·cases h
theorem c91 {s d:TypeId} {x:Operand} {key:Nat} (hkey:H key = .dead) (hT:v5 P T) (ho:o.op = .convert s d x) (h:a50 T key s d H (ρ x) K):V9 P G o ρ H K:=by
 have mx:x∈o9 o.op:=by simp [o9,ho,Op.operands]
 unfold a50 at h
 split at h
 ·rename_i k hk
  have hd:=Kt hT hk
  split at h
  ·rename_i k0 hk0
   have hs:=Kt hT hk0
   obtain ⟨k1,n,hx,h⟩:=C5 h
   refine ⟨_,_,_,h,.pure fun E a w hop=>⟨_,Dt ho ?_,C9 E _ _⟩⟩
   have ex:=K7 (hx▸hop x mx)
   rw [ex]
   simp [convert,run_underlying hs,run_underlying hd,Conv.intToInt]
  ·exact h.elim
 ·rename_i hk
  have hd:=Hw hT hk
  split at h
  ·rename_i hk0
   have hs:=Hw hT hk0
   split at h
   ·rename_i l hx
    refine ⟨_,_,_,h,.pure fun E a w hop=>⟨_,Dt ho ?_,Us E _⟩⟩
    have ex:=Ks (hx▸hop x mx)
    rw [ex]
    simp [convert,run_underlying hs,run_underlying hd]
   ·exact h.elim
  ·rename_i e hk0
   obtain ⟨hs,_⟩:=T5 hT hk0
   split at h
   ·rename_i he
    have he:=Pr hT he
    split at h
    ·rename_i l hl
     refine ⟨_,_,_,h,.of fun E H' a w hR _ hop hrd _=>⟨_,w,E,.inl (Dt ho ?_),.pure hR (Us E _)⟩⟩
     have hsrc:=a51 (P:=P) hl hR hrd (hop x mx)
     obtain ⟨ad,n,c,ex⟩:=c90 hl (hop x mx)
     rw [ex] at hsrc ⊢
     have hn:n=l.length:=by
      have:=hsrc.len w
      simp only [Builtin.lenOf,Sem.run_pure] at this
      injection this
     subst hn
     rw [run_convert_bytes_string w s d e ad _ c hs he hd]
     have hf:=hsrc.first.1
     cases ad with
     |none =>
      simp only [Builtin.firstCells,Sem.run_pure] at hf
      injection hf with hf _
      have:l=[]:=by
       have:=congrArg Array.size hf
       simp at this
       exact List.eq_nil_of_length_eq_zero this.symm
      subst this
      simp [Conv.bytesToString]
      rfl
     |some ad =>
      simp only [Builtin.firstCells,Nat.mul_one] at hf
      rw [run_bytesToString w ad _ c l hf,foldl_push_bytes]
      simp [ByteArray.empty,ByteArray.emptyWithCapacity]
      rfl
    ·exact h.elim
   ·exact h.elim
  ·exact h.elim
 ·rename_i e hk
  obtain ⟨hd,_⟩:=T5 hT hk
  split at h
  ·rename_i hk0
   have hs:=Hw hT hk0
   split at h
   ·rename_i l hx he
    have he:=Pr hT he
    refine ⟨_,_,_,h,.of fun E H' a w hR _ hop hrd hwr => ?_⟩
    have hb:E.pl key = .unborn:=hwr (key,_) (List.mem_singleton.2 rfl) hkey
    have ex:=Ks (hx▸hop x mx)
    have hrun:=run_bytes_of_string (P:=P) w s d e ⟨⟨l⟩⟩ hs hd he
    have hsz:(⟨⟨l⟩⟩:ByteArray).size=l.length:=rfl
    rw [hsz] at hrun
    have hge:=grownCap_ge w l.length 0 e
    generalize hcap:grownCap w l.length 0 e=cap at hrun hge
    have hcs:bytesRow ⟨⟨l⟩⟩ cap=((l.map fun b:UInt8=>(b.toNat:Int)).map (Value.int .u8)++List.replicate (cap-l.length) (Value.int .u8 0)).toArray:=by
     rw [←Array.toList_inj]
     simp [bytesRow,hsz]
    rw [hcs] at hrun
    obtain ⟨cs,hrest⟩:∃ cs,cs=((l.map fun b:UInt8=>(b.toNat:Int)).map (Value.int .u8)++List.replicate (cap-l.length) (Value.int .u8 0)):=⟨_,rfl⟩
    rw [←hrest] at hrun
    have hlen:cs.length=cap:=by rw [hrest];simp;omega
    obtain ⟨E',hst⟩:=q9.rowI hR.drew (key:=key) hb (k := .u8) (l:=l.map fun b=>(b.toNat:Int)) (cs:=cs) (by
     rw [hrest,List.take_left' (by simp)]) (by rw [hlen,List.length_map];exact hge) e (cs.length,cs.length+1) (.inl (Nat.le_refl _))
    have e1:w.drew.heap.size=w.heap.size:=rfl
    have e2:cs.toArray.size=cs.length:=by simp
    rw [e1,List.length_map,hlen] at hst
    rw [e2,hlen] at hrun
    refine ⟨_,_,E',.inl (Dt ho ?_),hst.drew⟩
    rw [ex];exact hrun
   ·exact h.elim
  ·split at h
   ·rename_i b la off len hsd he hx
    have he:=Pr hT he
    have hsd:=Nat.eq_of_beq_eq_true hsd
    subst hsd
    split at h
    ·rename_i k l hHb
     refine ⟨_,_,_,h,.of fun E H' a w hR _ hop hrd _ => ?_⟩
     have hv:=hx▸hop x mx
     have hHb':H' b = .rowI k l:=by rw [hrd b (List.mem_singleton.2 rfl)];exact hHb
     rcases S1 hv with ⟨r,q,so,n,c,ev,hpl,hloc,hn,hc,htop⟩|⟨ad,so,n,_,hlen,_⟩
     ·have hb:=hR.blk b
      rw [hHb'] at hb
      obtain ⟨hl,hb|⟨r',o,hp,hr,hm⟩⟩:=hb
      ·rw [hb.1] at hpl;cases hpl
      rw [hp] at hpl
      cases hpl
      obtain ⟨C,ty,fz,hobj⟩:∃ C ty fz,w.heap[r]?=some (.cells C ty fz):=by
       have hq:0<l.length:=by
        rw [hl,o6] at hloc
        injection hloc with hloc
        injection hloc with _ h2
        injection h2 with h2 _
        omega
       obtain ⟨v0,hv0⟩:=(hm.2 q (Nat.le_refl _) (by have:=hm.1;omega)).1
       simp only [World.cell?] at hv0
       split at hv0
       ·exact ⟨_,_,_,by assumption⟩
       ·cases hv0
      have hsh:w.shape? r=some (ty,C.size):=by simp only [World.shape?,hobj]
      have hfr:(w.freeze ⟨r,C.size,none⟩ 1).heap=w.heap.modify r fun
       |.cells c elem (lo,hi) => .cells c elem (if lo==hi then (C.size,C.size+1) else (min lo C.size,max hi (C.size+1)))
       |o=>o:=by simp only [World.freeze];rfl
      have hoth:∀ r',r'≠r->(w.freeze ⟨r,C.size,none⟩ 1).heap[r']?=w.heap[r']?:=fun r' hr'=>by
       rw [hfr,Array.getElem?_modify,if_neg (Ne.symm hr')]
      have hsz:(w.freeze ⟨r,C.size,none⟩ 1).heap.size=w.heap.size:=by rw [hfr,Array.size_modify]
      have hcell:∀ j,(w.freeze ⟨r,C.size,none⟩ 1).cell? ⟨r,j,none⟩=w.cell? ⟨r,j,none⟩:=fun j=>by
       simp only [World.cell?]
       rw [hfr,Array.getElem?_modify,if_pos rfl,hobj]
       rfl
      have hst:=q9.shutB (n:=l.length) (x := .frzI k l) hR (b:=b) (by rw [hHb'];rfl) hp rfl (w':=w.freeze ⟨r,C.size,none⟩ 1) (by unfold World.freeze;split<;>rfl) (by unfold World.freeze;split<;>rfl) (by unfold World.freeze;split<;>rfl) hsz hoth hcell hm.1 rfl
       (by
        refine ⟨hl,.inr ⟨r,q,hp,fun j hj => ?_⟩⟩
        have hjl:j<l.length:=by simpa using hj
        show (if r=r/\q≤q+j/\q+j<q+l.length then _ else _)=_
        rw [if_pos ⟨rfl,by omega,by omega⟩]
        exact hr j hj) (v := .sl b [] la off (len+1)) (u:=a.eval x) (by
        rw [ev]
        exact .one (.sl b [] la off (len+1) r q so n c hp hloc hn hc htop) rfl)
      refine ⟨_,_,_,.inl (Dt ho ?_),hst⟩
      rw [ev]
      simp [convert,run_underlying hd,run_underlying he,markStringish,hsh]
     ·omega
    ·exact h.elim
   ·exact h.elim
  ·exact h.elim
 ·exact h.elim
end
end Go.Eng

namespace Go.Eng
structure a55 (E:y6) (H:Nat->j6) (w:World) (ids:List Nat) (E1:y6) (H1:Nat->j6):Prop where
 pl:E1.pl=E.pl
 lay:E1.lay=E.lay
 top:E1.top=E.top
 rd:∀ r j v,E.rd r j=some v->E1.rd r j=some v
 fx:E1.fx=E.fx
 rel:Q9 E1 H1 w
 blk:∀ b,H1 b=H b\/(H1 b = .dead/\(H b).own=true/\b∈ids)
 cells:∀ b r o,b∈ids->(H b).own=true->E.pl b = .at r o->∀ j v,o≤j->j<o+(E.lay b).size->w.cell? ⟨r,j,none⟩=some v->E1.rd r j=some v
theorem a55.none {E:y6} {H:Nat->j6} {w:World} (hR:Q9 E H w):a55 E H w [] E H :=
 ⟨rfl,rfl,rfl,fun _ _ _ h=>h,rfl,hR,fun _ => .inl rfl,fun _ _ _ h=>by cases h⟩
theorem k98 {E:y6} {H:Nat->j6} {w:World} (hR:Q9 E H w):∀ ids,∃ E1 H1,a55 E H w ids E1 H1
 |[]=>⟨E,H,.none hR⟩
 |b::ids=>by
  obtain ⟨E1,H1,hL⟩:=k98 hR ids
  have skip:((H1 b).own=true->∀ r o,E1.pl b ≠ .at r o)->∃ E2 H2,a55 E H w (b::ids) E2 H2:=by
   intro hno
   refine ⟨E1,H1,hL.pl,hL.lay,hL.top,hL.rd,hL.fx,hL.rel,fun c=>(hL.blk c).imp id fun h=>⟨h.1,h.2.1,List.mem_cons_of_mem _ h.2.2⟩,?_⟩
   intro c r o hc hco hcp j v h1 h2 h3
   rcases List.mem_cons.1 hc with e|hc
   ·subst e
    rcases hL.blk c with h|h
    ·exact absurd (hL.pl▸hcp) (hno (by rw [h];exact hco) r o)
    ·exact hL.cells c r o h.2.2 hco hcp j v h1 h2 h3
   ·exact hL.cells c r o hc hco hcp j v h1 h2 h3
  by_cases hb:(H1 b).own=true
  ·cases hp:E1.pl b with
   |unborn=>exact skip fun _ r o e=>by rw [hp] at e;cases e
   |nowhere=>exact skip fun _ r o e=>by rw [hp] at e;cases e
   | «at» r o =>
    have hst:=q9.shut (x := .dead) hL.rel hb hp (hL.rel.fit b r o hp) rfl rfl trivial (.any _ undef)
    have hHb:H1 b=H b:=by
     rcases hL.blk b with h|h
     ·exact h
     ·rw [h.1] at hb;cases hb
    refine ⟨{ E1 with rd:=fun r' j=>if r'=r/\o≤j/\j<o+(E1.lay b).size then w.cell? ⟨r,j,none⟩ else E1.rd r' j },_,hL.pl,hL.lay,hL.top,?_,hL.fx,hst.rel,?_,?_⟩
    ·intro r' j v hv
     exact hst.ext.rd r' j v (hL.rd r' j v hv)
    ·intro c
     show (if c=b then j6.dead else H1 c)=H c\/(if c=b then j6.dead else H1 c) = .dead/\_
     by_cases e:c=b
     ·subst e
      rw [if_pos rfl]
      exact .inr ⟨rfl,hHb▸hb,List.mem_cons_self ..⟩
     ·rw [if_neg e]
      exact (hL.blk c).imp id fun h=>⟨h.1,h.2.1,List.mem_cons_of_mem _ h.2.2⟩
    ·intro c r' o' hc hco hcp j v h1 h2 h3
     by_cases e:c=b
     ·subst e
      rw [hL.pl,hcp] at hp
      injection hp with e1 e2
      subst e1;subst e2
      show (if r'=r'/\o'≤j/\j<o'+(E1.lay c).size then _ else _)=some v
      rw [if_pos ⟨rfl,h1,by rw [hL.lay];exact h2⟩]
      exact h3
     ·have hc:c∈ids:=(List.mem_cons.1 hc).resolve_left e
      exact hst.ext.rd _ _ _ (hL.cells c r' o' hc hco hcp j v h1 h2 h3)
  ·exact skip fun h=>absurd h hb
theorem u7.free {rd:Rd} {d:DV} {cs:List Value} (h:u7 rd d cs) (hf:d.free=true) (rd':Rd):u7 rd' d cs:=by
 induction h with
 |sc v h=>exact .sc v h
 |bl b=>exact .bl b
 |str l=>exact .str l
 |ints k n l h=>exact .ints k n l h
 |nil=>exact .nil
 |cons h h' ih ih' =>
  simp only [DV.free] at hf
  split at hf
  ·rename_i h1;exact .cons (ih h1) (ih' hf)
  ·cases hf
 |fam=>cases hf
 |roI=>cases hf
 |roI0=>cases hf
 |ro=>cases hf
 |ro0=>cases hf
theorem r6.free {E E':y6} (hpl:E'.pl=E.pl) (hlay:E'.lay=E.lay) (htop:E'.top=E.top) {x:AV} {cs:List Value} (h:r6 E x cs) (hf:x.free=true):r6 E' x cs:=by
 induction h with
 |dv h=>exact .dv (h.free hf _)
 |cons h h' ih ih' =>
  simp only [AV.free] at hf
  split at hf
  ·rename_i h1;exact .cons (ih h1) (ih' hf)
  ·cases hf
 |ptr b p l r o off hp hl=>exact .ptr b p l r o off (hpl▸hp) (hlay▸hl)
 |rp=>cases hf
 |sl b p l off len r o so n c hp hl hn hc ht=>exact .sl b p l off len r o so n c (hpl▸hp) (hlay▸hl) hn hc (htop▸ht)
 |sl0 b p l off a so n hp hl hn=>exact .sl0 b p l off a so n (hpl▸hp) (hlay▸hl) hn
 |fn=>cases hf
 |mp b r hp hl=>exact .mp b r (hpl▸hp) (hlay▸hl)
 |stamp=>cases hf
 |yld=>cases hf
 |vs b off len r o n c hp hl hn hc=>exact .vs b off len r o n c (hpl▸hp) (hlay▸hl) hn hc
 |slc b off len c r o n hp hl hn hc ht=>exact .slc b off len c r o n (hpl▸hp) (hlay▸hl) hn hc (htop▸ht)
 |emp a=>exact .emp a
 |nq g n b h=>exact .nq g n b h
 |tup xs css hlen h ih =>
  refine .tup xs css hlen fun i hi => ?_
  simp only [AV.free,List.all_eq_true] at hf
  have hfi:=hf xs[i] (List.getElem_mem hi)
  refine ih i hi ?_
  split at hfi
  ·rename_i d hd;rw [hd];exact hfi
  ·rename_i hd;rw [hd];rfl
  ·rename_i hd;rw [hd];rfl
  ·rename_i hd;rw [hd];rfl
  ·rename_i hd;rw [hd];rfl
  ·rename_i hd;rw [hd];rfl
  ·rename_i hd;rw [hd];rfl
  ·cases hfi
 |ifc t h ih=>exact .ifc t (ih hf)
theorem o0.free {E E':y6} (hpl:E'.pl=E.pl) (hlay:E'.lay=E.lay) (htop:E'.top=E.top) {x:AV} {v:Value} (h:o0 E x v) (hf:x.free=true):o0 E' x v:=by
 rcases h with h|⟨cs,h,e⟩
 ·exact .inl h
 ·exact .inr ⟨cs,h.free hpl hlay htop hf,e⟩
theorem y9.free {E E':y6} (hpl:E'.pl=E.pl) (hlay:E'.lay=E.lay) (htop:E'.top=E.top) {b:Nat} {w:World} {x:j6} (h:y9 E b w x) (hf:x.free=true):y9 E' b w x:=by
 cases x with
 |dead=>trivial
 |var x =>
  obtain ⟨r,o,cs,h1,h2,h3,h4,h5,h6⟩:=h
  exact ⟨r,o,cs,hpl▸h1,hlay▸h2,h3.free hpl hlay htop hf,h4,htop▸h5,by unfold Fa at h6 ⊢;rw [htop];exact h6⟩
 |rowI k l =>
  obtain ⟨h1,h2|⟨r,o,h2,h3,h4⟩⟩:=h
  ·exact ⟨hlay▸h1,.inl (hpl▸h2)⟩
  ·exact ⟨hlay▸h1,.inr ⟨r,o,hpl▸h2,h3,by unfold Fa at h4 ⊢;rw [htop];exact h4⟩⟩
 |row=>cases hf
 |frzI=>cases hf
 |frz=>cases hf
 |mp=>cases hf
 |mpn=>cases hf
 |lp=>cases hf
theorem Km {c:Nat}:∀ {wr:List (Nat×j6)},c∈wr.map (·.1)->∃ x,(c,x)∈wr/\∀ H:Nat->j6,upds H wr c=x
 |[],h=>by cases h
 |(i,x)::wr,h=>by
  by_cases hc:c∈wr.map (·.1)
  ·obtain ⟨y,hy,he⟩:=Km hc
   exact ⟨y,List.mem_cons_of_mem _ hy,fun H=>he _⟩
  ·have e:c=i:=by
    rcases List.mem_cons.1 h with e|h
    ·exact e
    ·exact absurd h hc
   subst e
   refine ⟨x,List.mem_cons_self ..,fun H => ?_⟩
   show upds (Pf H c x) wr c=x
   rw [L7 fun z hz e=>hc (List.mem_map.2 ⟨z,hz,e⟩)]
   unfold Pf
   rw [if_pos rfl]
theorem a55.back {E:y6} {H:Nat->j6} {w:World} (hR:Q9 E H w) {ids:List Nat} {E1:y6} {H1:Nat->j6} (hL:a55 E H w ids E1 H1) {wr:List (Nat×j6)} {r:AV} {v:Value} {E2:y6} {w':World}
  (hS:q9 E1 H1 w wr r v E2 w') (hr:r.free=true) (hwr:∀ x,x∈wr->x.2.free=true) (hno:∀ x,x∈wr->x.1∈ids->(H x.1).own=true->False) :
  q9 E H w wr r v { E2 with rd:=E.rd } w':=by
 have hown1:∀ b,(H1 b).own=true->(H b).own=true:=by
  intro b hb
  rcases hL.blk b with h|h
  ·rw [←h];exact hb
  ·exact h.2.1
 have hlent:∀ c,(H c).own=true->(H1 c).own=true\/(H1 c = .dead/\c∈ids/\c ∉ wr.map (·.1)):=by
  intro c hc
  rcases hL.blk c with h|h
  ·exact .inl (by rw [h];exact hc)
  ·refine .inr ⟨h.1,h.2.2,fun hm => ?_⟩
   obtain ⟨x,hx,e⟩:=List.mem_map.1 hm
   exact hno x hx (by rw [e];exact h.2.2) (by rw [e];exact hc)
 have hE:Ext E E2:=⟨fun b hb=>by rw [hS.ext.pl b (by rw [hL.pl];exact hb),hL.pl],fun b hb=>by rw [hS.ext.lay b (by rw [hL.pl];exact hb),hL.lay],fun b hb=>by rw [hS.ext.top b (by rw [hL.pl];exact hb),hL.top],
  fun r j v hv=>hS.ext.rd r j v (hL.rd r j v hv),hS.ext.fx.trans hL.fx⟩
 have hE':Ext E { E2 with rd:=E.rd }:=⟨hE.pl,hE.lay,hE.top,fun _ _ _ h=>h,hE.fx⟩
 have hsame:∀ c q o,(H c).own=true->E.pl c = .at q o->c ∉ wr.map (·.1)->w'.heap[q]?=w.heap[q]?:=by
  intro c q o hc hp hn
  rcases hlent c hc with h|h
  ·exact hS.others c q o h (by rw [hL.pl];exact hp) hn
  ·refine hS.mem.same q (hR.old c q o hp) fun b o' hb hbp => ?_
   refine hR.sep b c q o' q o (fun e => ?_) (hown1 b hb) hc (by rw [←hL.pl];exact hbp) hp rfl
   rw [e,h.1] at hb;cases hb
 have hcase:∀ c,(upds H wr c).own=true->(upds H1 wr c).own=true\/(H1 c = .dead/\c∈ids/\c ∉ wr.map (·.1)/\(H c).own=true):=by
  intro c hc
  by_cases hm:c∈wr.map (·.1)
  ·obtain ⟨x,_,he⟩:=Km hm
   rw [he] at hc ⊢
   exact .inl hc
  ·rw [L7 fun z hz e=>hm (List.mem_map.2 ⟨z,hz,e⟩)] at hc
   rcases hlent c hc with h|h
   ·refine .inl ?_
    rw [L7 fun z hz e=>hm (List.mem_map.2 ⟨z,hz,e⟩)];exact h
   ·exact .inr ⟨h.1,h.2.1,hm,hc⟩
 have hne:∀ c c' q o q' o',(H1 c = .dead/\(H c).own=true)->E2.pl c = .at q o->(upds H1 wr c').own=true->E2.pl c' = .at q' o'->q≠q':=by
  intro c c' q o q' o' hc hp hc' hp'
  have hcb:E.pl c ≠ .unborn:=D9 hR (U1 hc.2)
  rw [hE.pl c hcb] at hp
  have fin:∀ b o'',(H1 b).own=true->E.pl b = .at q' o''->q≠q':=by
   intro b o'' hb hbp
   refine hR.sep c b q o q' o'' (fun e => ?_) hc.2 (hown1 b hb) hp hbp
   rw [←e,hc.1] at hb;cases hb
  by_cases hu:E1.pl c' = .unborn
  ·rcases hS.mem.new c' q' o' hu hp' with h|⟨b',o'',hb',hbp,_⟩
   ·have:=hR.old c q o hp
    omega
   ·exact fin b' o'' hb' (by rw [←hL.pl];exact hbp)
  ·rcases hS.live c' hc' with h|h
   ·exact fin c' o' h (by rw [←hL.pl,←hS.ext.pl c' hu];exact hp')
   ·exact absurd h hu
 refine ⟨hS.val.free (E:=E2) (E':={ E2 with rd:=E.rd }) rfl rfl rfl hr,⟨fun q j u hu=>hS.rel.rd q j u (hE.rd q j u hu),?_,?_,?_,hS.rel.old,?_,hS.rel.fit,hS.rel.fx,fun c q o ob h1 h2 h3 => ?fxa⟩,hE',⟨hS.mem.os,hS.mem.tape,hS.mem.output,hS.mem.size,?_,fun _ _ _ h => .inl h,?_⟩,?_,?_,hsame⟩
 case fxa =>
  rcases hcase c h1 with g|g
  ·exact hS.rel.fxa c q o ob g h2 h3
  ·have b1:=D9 hR (U1 g.2.2.2)
   exact hR.fxa c q o ob g.2.2.2 (by rw [←hE.pl c b1];exact h2) (by rw [←hE.fx];exact h3)
 ·intro c
  by_cases hm:c∈wr.map (·.1)
  ·obtain ⟨x,hx,he⟩:=Km hm
   have:=hS.rel.blk c
   rw [he] at this ⊢
   exact this.free (E:=E2) (E':={ E2 with rd:=E.rd }) rfl rfl rfl (hwr _ hx)
  ·rw [L7 fun z hz e=>hm (List.mem_map.2 ⟨z,hz,e⟩)]
   refine y9.ext hE' (fun hd=>D9 hR hd) ((hR.blk c).congr fun hco q o hcp => ?_)
   exact hsame c q o hco hcp hm
 ·intro c c' q o q' o' hcc h1 h2 h3 h4
  rcases hcase c h1 with g1|g1
  ·rcases hcase c' h2 with g2|g2
   ·exact hS.rel.sep c c' q o q' o' hcc g1 g2 h3 h4
   ·exact fun e=>hne c' c q' o' q o ⟨g2.1,g2.2.2.2⟩ h4 g1 h3 e.symm
  ·rcases hcase c' h2 with g2|g2
   ·exact hne c c' q o q' o' ⟨g1.1,g1.2.2.2⟩ h3 g2 h4
   ·have b1:=D9 hR (U1 g1.2.2.2)
    have b2:=D9 hR (U1 g2.2.2.2)
    exact hR.sep c c' q o q' o' hcc g1.2.2.2 g2.2.2.2 (by rw [←hE.pl c b1];exact h3) (by rw [←hE.pl c' b2];exact h4)
 ·intro c q o j u h1 h2 h3
  rcases hcase c h1 with g|g
  ·exact hS.rel.apart c q o j u g h2 (hE.rd q j u h3)
  ·have b1:=D9 hR (U1 g.2.2.2)
   exact hR.apart c q o j u g.2.2.2 (by rw [←hE.pl c b1];exact h2) h3
 ·intro c h1
  have h2:=hS.rel.born c h1
  by_cases hm:c∈wr.map (·.1)
  ·obtain ⟨x,hx,he⟩:=Km hm
   rw [he] at h2 ⊢;exact h2
  ·rw [L7 fun z hz e=>hm (List.mem_map.2 ⟨z,hz,e⟩)]
   refine hR.born c (Classical.byContradiction fun hu=>hu ?_)
   rw [←hE.pl c hu];exact h1
 ·exact fun q hq hn=>hS.mem.same q hq fun b o hb hp=>hn b o (hown1 b hb) (by rw [←hL.pl];exact hp)
 ·intro c q o hu hp
  rcases hS.mem.new c q o (by rw [hL.pl];exact hu) hp with h|⟨b',o',hb',hbp,h1,h2⟩
  ·exact .inl h
  ·exact .inr ⟨b',o',hown1 b' hb',by rw [←hL.pl];exact hbp,h1,by rw [←hL.top];exact h2⟩
 ·exact fun b hu hb=>hS.born b (by rw [hL.pl];exact hu) hb
 ·intro b hb
  rcases hcase b hb with h|h
  ·rcases hS.live b h with h|h
   ·exact .inl (hown1 b h)
   ·exact .inr (by rw [←hL.pl];exact h)
  ·exact .inl h.2.2.2
end Go.Eng

namespace Go.Eng
theorem h34 {E:y6} {la:t9} {n:Nat} {f g:Nat->DV} {v:Value} (h:o0 E (.dv (.ro la n f)) v) (hg:∀ j,j<n->g j=f j):o0 E (.dv (.ro la n g)) v:=by
 rcases h with h|⟨cs,h,e⟩
 ·cases h
 ·have h:=h.dv_inv
  cases h with
  |ro _ _ _ css r o c hc h1 h2 h3=>exact .inr ⟨_,.dv (.ro la n g css r o c hc (fun i hi=>by rw [hg i hi];exact h1 i hi) (fun i hi=>by rw [hg i hi];exact h2 i hi) h3),e⟩
  |ro0 _ _ a c hc=>exact .inr ⟨_,.dv (.ro0 la g a c hc),e⟩
theorem Yh {E:y6}:∀ {xs ys:List AV} {vs:List Value},a06 xs ys->Ly E ys vs->Ly E xs vs
 |[],[],_,_,h=>h
 |x::xs,y::ys,[],_,h=>by cases h.1
 |x::xs,y::ys,v::vs,h,hr=>by
  have h0:o0 E y v:=hr.2 0 (by simp) (by simp)
  have h1:o0 E x v:=by
   rcases h.1 with rfl|⟨la,n,f,g,rfl,rfl,hg⟩|⟨rfl,⟨k,rfl⟩|⟨la,f,rfl⟩⟩
   ·exact h0
   ·exact h34 h0 hg
   ·rcases h0 with h0|⟨cs,h0,e⟩
    ·cases h0
    ·have h0:=h0.dv_inv
     cases h0 with
     |sc _ _=>exact .inr ⟨_,.dv (.roI0 k none 0 fun _=>rfl),e⟩
   ·rcases h0 with h0|⟨cs,h0,e⟩
    ·cases h0
    ·have h0:=h0.dv_inv
     cases h0 with
     |sc _ _=>exact .inr ⟨_,.dv (.ro0 la f none 0 fun _=>rfl),e⟩
  have h2:=Yh (vs:=vs) h.2 ⟨by have:=hr.1;simpa using this,fun i hi hi'=>hr.2 (i+1) (by simpa using hi) (by simpa using hi')⟩
  refine ⟨by simp [h2.1],fun i hi hi' => ?_⟩
  cases i with
  |zero=>exact h1
  |succ i=>exact h2.2 i (by simpa using hi) (by simpa using hi')
 |[],_::_,_,h,_=>h.elim
 |_::_,[],_,h,_=>h.elim
section
variable {P:Program} {G:G1} {T:Tr} {o:Oper} {ρ:Operand->AV} {H:Nat->j6} {K:V7}
theorem a55.extd {E:y6} {H:Nat->j6} {w:World} {ids:List Nat} {E1:y6} {H1:Nat->j6} (hL:a55 E H w ids E1 H1):Ext E E1 :=
 ⟨fun _ _=>by rw [hL.pl],fun _ _=>by rw [hL.lay],fun _ _=>by rw [hL.top],hL.rd,hL.fx⟩
theorem h35 {E:y6} {H':Nat->j6} {w:World} {ids:List Nat} {E1:y6} {H1:Nat->j6} (hR:Q9 E H' w) (hL:a55 E H' w ids E1 H1) {x:AV} {v:Value} (hv:o0 E x v) (hin:∀ b,b∈x.refs->b∈ids) (hH:∀ b,b∈x.refs->H' b=H b):o0 E1 (h53 H x) v:=by
 have hv1:=hv.ext hL.extd
 have stay:o0 E1 x v:=hv1
 have inside:∀ {b r o:Nat} {cs:List Value} {off:Nat} {sub:List Value},b∈ids->(H' b).own=true->E.pl b = .at r o->D1 (A5 w) r (o+off) sub->off+sub.length≤(E.lay b).size->D1 E1.rd r (o+off) sub:=by
  intro b r o _ off sub hb hown hp hrs hle j hj
  exact hL.cells b r o hb hown hp _ _ (by omega) (by omega) (hrs j hj)
 cases x with
 |sl b p l off len =>
  have hHb:=hH b (by simp [AV.refs])
  have hbi:=hin b (by simp [AV.refs])
  have hbr:=hR.blk b
  simp only [h53,Ua]
  have rowcase:∀ (k:IntKind) (m:List Int),E.lay b = .arr m.length .one->(∀ r q,E.pl b = .at r q->D1 E1.rd r q (m.map (.int k)))->p=[]->o0 E1 (.dv (.roI k ((m.drop off).take len))) v:=by
   intro k m hlay hrs hp
   subst hp
   rcases S1 hv with ⟨r,q,so,n,c,rfl,hp,hl,hn,hc,ht⟩|⟨a,so,n,rfl,e0,hp,hl,hn⟩
   ·rw [hlay,o6] at hl
    cases hl
    have hlen:((m.drop off).take len).length=len:=by simp [List.length_take,List.length_drop];omega
    have:=u7.roI (rd:=E1.rd) k ((m.drop off).take len) r (q+off) c (by rw [hlen];exact hc) (by rw [M9];exact (hrs r q hp).sub)
    rw [hlen] at this
    refine .one (.dv ?_) rfl
    simpa [t9.size] using this
   ·subst e0
    rw [List.take_zero]
    exact .one (.dv (.roI0 k a 0 fun _=>rfl)) rfl
  have partcase:∀ (la:t9) (n:Nat) (f:Nat->DV),E.lay b = .arr n la->(∀ r q,E.pl b = .at r q->∃ css:Nat->List Value,(∀ i,i<n->u7 E1.rd (f i) (css i))/\(∀ i,i<n->(f i).lay=la)/\∀ i,i<n->D1 E1.rd r (q+i*la.size) (css i))->p=[] ->
    o0 E1 (.dv (.ro la len fun j=>f (off+j))) v:=by
   intro la n f hlay hrs hp
   subst hp
   rcases S1 hv with ⟨r,q,so,n',c,rfl,hp,hl,hn,hc,ht⟩|⟨a,so,n',rfl,e0,hp,hl,hn⟩
   ·rw [hlay,o6] at hl
    cases hl
    obtain ⟨css,hf,hfl,hr⟩:=hrs r q hp
    have:=u7.ro (rd:=E1.rd) l len (fun j=>f (off+j)) (fun j=>css (off+j)) r (q+off*l.size) c hc (fun i hi=>hf _ (by omega)) (fun i hi=>hfl _ (by omega)) (fun i hi=>by
     have:=hr (off+i) (by omega)
     rw [Nat.add_mul,←Nat.add_assoc] at this
     exact this)
    exact .one (.dv (by simpa using this)) rfl
   ·subst e0
    exact .one (.dv (.ro0 la _ a 0 fun _=>rfl)) rfl
  cases hb:H b with
  |dead=>exact stay
  |mp f0 es=>exact stay
  |mpn f0 es kd c=>exact stay
  |lp L s=>exact stay
  |rowI k m =>
   rw [hHb,hb] at hbr
   obtain ⟨hlay,hpl⟩:=hbr
   cases p with
   |cons i p=>exact stay
   |nil =>
    refine rowcase k m hlay (fun r q hp => ?_) rfl
    rcases hpl with hn|⟨r',q',hp',hrs,_⟩
    ·rw [hn.1] at hp;cases hp
    ·rw [hp] at hp'
     injection hp' with h1 h2
     subst h1;subst h2
     exact inside (off:=0) (cs:=[]) hbi (by rw [hHb,hb];rfl) hp hrs (by rw [hlay];simp [t9.size])
  |frzI k m =>
   rw [hHb,hb] at hbr
   obtain ⟨hlay,hpl⟩:=hbr
   cases p with
   |cons i p=>exact stay
   |nil =>
    refine rowcase k m hlay (fun r q hp => ?_) rfl
    rcases hpl with hn|⟨r',q',hp',hrs⟩
    ·rw [hn.1] at hp;cases hp
    ·rw [hp] at hp'
     injection hp' with h1 h2
     subst h1;subst h2
     exact fun j hj=>hL.rd _ _ _ (hrs j hj)
  |row la n f =>
   rw [hHb,hb] at hbr
   obtain ⟨hlay,hpl⟩:=hbr
   cases p with
   |cons i p=>exact stay
   |nil =>
    refine partcase la n f hlay (fun r q hp => ?_) rfl
    rcases hpl with hn|⟨r',q',css,hp',hf,hfl,hrs,_⟩
    ·rw [hn.1] at hp;cases hp
    ·rw [hp] at hp'
     injection hp' with h1 h2
     subst h1;subst h2
     refine ⟨css,fun i hi=>(hf i hi).mono hL.rd,hfl,fun i hi => ?_⟩
     refine inside (cs:=[]) hbi (by rw [hHb,hb];rfl) hp (hrs i hi) ?_
     have hmul:(i+1)*la.size≤n*la.size:=Nat.mul_le_mul_right _ hi
     rw [Nat.add_mul,Nat.one_mul] at hmul
     rw [hlay,(hf i hi).len,hfl i hi]
     simp only [t9.size]
     exact hmul
  |frz la n f =>
   rw [hHb,hb] at hbr
   obtain ⟨hlay,hpl⟩:=hbr
   cases p with
   |cons i p=>exact stay
   |nil =>
    refine partcase la n f hlay (fun r q hp => ?_) rfl
    rcases hpl with hn|⟨r',q',css,hp',hf,hfl,hrs⟩
    ·rw [hn.1] at hp;cases hp
    ·rw [hp] at hp'
     injection hp' with h1 h2
     subst h1;subst h2
     exact ⟨css,fun i hi=>(hf i hi).mono hL.rd,hfl,fun i hi j hj=>hL.rd _ _ _ (hrs i hi j hj)⟩
  |var y =>
   simp only
   split
   ·rename_i k n m hy
    rw [hHb,hb] at hbr
    obtain ⟨r0,q0,cs,hp0,hlay,hya,hrs,_,_⟩:=hbr
    rcases S1 hv with ⟨r,q,so,n',c,rfl,hp,hl,hn,hc,ht⟩|⟨a,so,n',rfl,e0,hp,hl,hn⟩
    ·rw [hp0] at hp
     injection hp with h1 h2
     subst h1;subst h2
     rw [hlay] at hl
     obtain ⟨hpa,hpl⟩:=hya.at hl
     have hle:=R1 hl
     rw [hy] at hpa hpl
     have hpl:t9.arr n .one = .arr n' l:=hpl
     injection hpl with e1 e2
     subst e1;subst e2
     have e3:(t9.arr n t9.one).size=n:=by simp [t9.size]
     rw [e3] at hpa hle
     have hsub:=hrs.sub (off:=so) (s:=n)
     have hboth:m.length=n/\(cs.drop so).take n=m.map (.int k):=by
      generalize (cs.drop so).take n=c0 at hpa
      cases hpa.dv_inv with
      |ints _ _ _ hl=>exact ⟨hl,rfl⟩
     rw [hboth.2] at hsub
     have hsub1:=inside (cs:=[]) hbi (by rw [hHb,hb];rfl) hp0 hsub (by rw [hlay,List.length_map,hboth.1];exact hle)
     have hlen:((m.drop off).take len).length=len:=by simp [List.length_take,List.length_drop];omega
     have:=u7.roI (rd:=E1.rd) k ((m.drop off).take len) r0 (q0+so+off) c (by rw [hlen];exact hc) (by rw [M9];exact hsub1.sub)
     rw [hlen] at this
     refine .one (.dv ?_) rfl
     simpa [t9.size] using this
    ·subst e0
     rw [List.take_zero]
     exact .one (.dv (.roI0 k a 0 fun _=>rfl)) rfl
   ·exact stay
 |slc b off len c =>
  have hHb:=hH b (by simp [AV.refs])
  have hbi:=hin b (by simp [AV.refs])
  have hbr:=hR.blk b
  simp only [h53]
  have rowcase:∀ (k:IntKind) (m:List Int),E.lay b = .arr m.length .one->(∀ r q,E.pl b = .at r q->D1 E1.rd r q (m.map (.int k)))->o0 E1 (.dv (.roI k ((m.drop off).take len))) v:=by
   intro k m hlay hrs
   obtain ⟨r,q,n,rfl,hp,hl,hn,hc,ht⟩:=Nj hv
   rw [hlay] at hl
   injection hl with hl
   have hlen:((m.drop off).take len).length=len:=by simp [List.length_take,List.length_drop];omega
   have:=u7.roI (rd:=E1.rd) k ((m.drop off).take len) r (q+off) c (by rw [hlen];exact hc) (by rw [M9];exact (hrs r q hp).sub)
   rw [hlen] at this
   exact .one (.dv this) rfl
  cases hb:H b with
  |rowI k m =>
   rw [hHb,hb] at hbr
   obtain ⟨hlay,hpl⟩:=hbr
   refine rowcase k m hlay (fun r q hp => ?_)
   rcases hpl with hn|⟨r',q',hp',hrs,_⟩
   ·rw [hn.1] at hp;cases hp
   ·rw [hp] at hp'
    injection hp' with h1 h2
    subst h1;subst h2
    exact inside (off:=0) (cs:=[]) hbi (by rw [hHb,hb];rfl) hp hrs (by rw [hlay];simp [t9.size])
  |frzI k m =>
   rw [hHb,hb] at hbr
   obtain ⟨hlay,hpl⟩:=hbr
   refine rowcase k m hlay (fun r q hp => ?_)
   rcases hpl with hn|⟨r',q',hp',hrs⟩
   ·rw [hn.1] at hp;cases hp
   ·rw [hp] at hp'
    injection hp' with h1 h2
    subst h1;subst h2
    exact fun j hj=>hL.rd _ _ _ (hrs j hj)
  |_=>exact stay
 |ptr b p l =>
  have hHb:=hH b (by simp [AV.refs])
  have hbi:=hin b (by simp [AV.refs])
  have hbr:=hR.blk b
  simp only [h53,Ua]
  cases hb:H b with
  |var y =>
   simp only
   split
   ·rename_i d hy
    split
    ·rename_i hdl
     have hdl:=of_decide_eq_true hdl
     rw [hHb,hb] at hbr
     obtain ⟨r0,q0,cs,hp0,hlay,hya,hrs,_,_⟩:=hbr
     obtain ⟨r,q,off,e,hp,hl⟩:=X1 hv
     rw [hp0] at hp
     injection hp with h1 h2
     subst h1;subst h2
     rw [hlay] at hl
     obtain ⟨hpa,hpl⟩:=hya.at hl
     have hle:=R1 hl
     rw [hy] at hpa
     have hsub:=hrs.sub (off:=off) (s:=l.size)
     have hsub1:=inside (cs:=[]) hbi (by rw [hHb,hb];rfl) hp0 hsub (by rw [hlay,List.length_take];omega)
     rw [e]
     exact .one (.rp r0 (q0+off) (hpa.dv_inv.mono hL.rd) hsub1) rfl
    ·exact stay
   ·exact stay
  |_=>exact stay
 |_=>exact stay
theorem Uf {l:List Nat} {b:Nat}:Dp l b=true↔b∈l:=by
 induction l with
 |nil=>simp [Dp]
 |cons x l ih =>
  unfold Dp
  split
  ·rename_i h;have:=Nat.eq_of_beq_eq_true h;subst this;simp
  ·rename_i h
   have:=Nat.ne_of_beq_eq_false h
   rw [ih,List.mem_cons]
   exact ⟨.inr,fun h=>h.resolve_left fun e=>this e.symm⟩
theorem Zz {lent:List Nat}:∀ {S:List (Nat×j6)},SOK H lent S->∀ x,x∈S->x.1 ∉ lent/\H x.1=x.2
 |[],_,x,hx=>by cases hx
 |(b,y)::S,h,x,hx=>by
  rcases List.mem_cons.1 hx with e|hx
  ·subst e
   exact ⟨fun hm=>Bool.noConfusion (h.1.1.symm.trans (Uf.2 hm)),h.1.2⟩
  ·exact Zz h.2 x hx
theorem Yi:∀ {wr:List (Nat×j6)},a05 wr=true->∀ x,x∈wr->x.2.free=true
 |[],_,x,hx=>by cases hx
 |(b,y)::wr,h,x,hx=>by
  simp only [a05] at h
  split at h
  ·rename_i hy
   rcases List.mem_cons.1 hx with e|hx
   ·subst e;exact hy
   ·exact Yi h x hx
  ·cases h
theorem g44 {x:j6} (h:a75 x=true):x = .dead:=by cases x<;>first|rfl|cases h
theorem Ss {S:List (Nat×j6)}:∀ {wr:List (Nat×j6)},Sx H S wr=true->∀ x,x∈wr->x.1∈S.map (·.1)\/H x.1 = .dead
 |[],_,x,hx=>by cases hx
 |(b,y)::wr,h,x,hx=>by
  simp only [Sx] at h
  have hb:Sx H S wr=true/\(b∈S.map (·.1)\/H b = .dead):=by
   split at h
   ·cases h
   ·rename_i hn
    refine ⟨h,?_⟩
    cases h1:Dp (S.map Prod.fst) b with
    |true=>exact .inl (Uf.1 h1)
    |false =>
     cases h2:a75 (H b) with
     |true=>exact .inr (g44 h2)
     |false=>exact absurd h2 (hn h1)
  rcases List.mem_cons.1 hx with e|hx
  ·subst e;exact hb.2
  ·exact Ss hb.1 x hx
theorem Ps {E:y6} {H':Nat->j6} {w:World} {ids:List Nat} {E1:y6} {H1:Nat->j6} (hR:Q9 E H' w) (hL:a55 E H' w ids E1 H1):∀ {m:List Bool} {xs:List AV} {vs:List Value},Ly E xs vs->(∀ b,b∈Jd m xs->b∈ids)->(∀ b,b∈Jd m xs->H' b=H b)->Ly E1 (Rj H m xs) vs
 |[],xs,vs,h,_,_=>⟨h.1,fun i hi hi'=>(h.2 i hi hi').ext hL.extd⟩
 |_::_,[],vs,h,_,_=>⟨h.1,fun i hi=>by cases hi⟩
 |b::m,x::xs,[],h,_,_=>by cases h.1
 |b::m,x::xs,v::vs,h,hin,hH=>by
  have htl:Ly E xs vs:=⟨by have:=h.1;simpa using this,fun i hi hi'=>h.2 (i+1) (by simpa using hi) (by simpa using hi')⟩
  have hhd:o0 E x v:=h.2 0 (by simp) (by simp)
  have fin:∀ y,o0 E1 y v->Ly E1 (Rj H m xs) vs->Ly E1 (y::Rj H m xs) (v::vs):=by
   intro y hy hr
   refine ⟨by simp [hr.1],fun i hi hi' => ?_⟩
   cases i with
   |zero=>exact hy
   |succ i=>exact hr.2 i (by simpa using hi) (by simpa using hi')
  cases b with
  |true =>
   exact fin _ (h35 hR hL hhd (fun b hb=>hin b (List.mem_append.2 (.inl hb))) (fun b hb=>hH b (List.mem_append.2 (.inl hb))))
    (Ps hR hL htl (fun b hb=>hin b (List.mem_append.2 (.inr hb))) (fun b hb=>hH b (List.mem_append.2 (.inr hb))))
  |false=>exact fin _ (hhd.ext hL.extd) (Ps hR hL htl hin hH)
theorem d60 {c:Call} {g:Operand} {f:FuncId} {caps:List AV} (ho:o.op = .call c) (hc:c.callee = .value g) (hg:ρ g = .fn f caps)
  (h:∃ m S r wr,h55 P G f (c.args.toList.map (fun x=>Z7 (ρ x))++caps) H m S r wr/\K (Jd m (c.args.toList.map (fun x=>Z7 (ρ x))++caps)++S.map Prod.fst) wr r):V9 P G o ρ H K:=by
 have mg:g∈o9 o.op:=by simp [o9,ho,Op.operands,Call.operands,hc]
 have mx:∀ x,x∈c.args.toList->x∈o9 o.op:=by intro x hx;simp [o9,ho,Op.operands,Call.operands,hc];simp at hx;exact .inr hx
 obtain ⟨m,S,r,wr,⟨⟨as,hFn,hveq⟩,hSOK,hOK⟩,hK⟩:=h
 refine ⟨_,_,_,hK,?_⟩
 intro E H' a w hR hG hop hrd hwr next Q hn
 generalize hids:Jd m (c.args.toList.map (fun x=>Z7 (ρ x))++caps)=ids at *
 have hborn:Sx H S wr=true:=by
  unfold i59 at hOK
  split at hOK
  ·exact hOK
  ·split at hOK
   ·exact hOK
   ·cases hOK
 have hrd1:∀ b,b∈ids->H' b=H b:=fun b hb=>hrd b (List.mem_append.2 (.inl hb))
 have hrd2:∀ x,x∈S->H' x.1=x.2:=fun x hx=>by rw [hrd x.1 (List.mem_append.2 (.inr (List.mem_map.2 ⟨x,hx,rfl⟩)))];exact (Zz hSOK x hx).2
 have hlent:∃ E1 H1,a55 E H' w ids E1 H1/\∀ v E2 w',q9 E1 H1 w wr r v E2 w'->∃ E',q9 E H' w wr r v E' w':=by
  unfold i59 at hOK
  split at hOK
  ·exact ⟨E,H',.none hR,fun v E2 w' h=>⟨E2,h⟩⟩
  ·split at hOK
   ·rename_i hr hfree
    obtain ⟨E1,H1,hL⟩:=k98 hR ids
    refine ⟨E1,H1,hL,fun v E2 w' h=>⟨_,hL.back hR h hr (Yi hfree) fun x hx hi hown => ?_⟩⟩
    rcases Ss hborn x hx with hm|hd
    ·obtain ⟨y,hy,e⟩:=List.mem_map.1 hm
     exact (Zz hSOK y hy).1 (by rw [e];exact hi)
    ·rw [hrd1 x.1 hi,hd] at hown;cases hown
   ·cases hOK
 obtain ⟨E1,H1,hL,hback⟩:=hlent
 have hgv:=hop g mg
 rw [hg] at hgv
 obtain ⟨css,hcl,hcr,hev⟩:∃ css:List (List Value),∃ hlen:css.length=caps.length,(∀ i (h:i<caps.length),r6 E caps[i] (css[i]'(hlen▸h)))/\a.eval g = .func (.func f) #[] ((caps.zip css).map fun x=>q5 x.1.isAgg x.2).toArray:=by
  rcases hgv with hgv|⟨cs,hr,e⟩
  ·cases hgv
  ·cases hr with
   |fn f caps css hlen h=>exact ⟨css,hlen,h,e⟩
 generalize hcv:((caps.zip css).map fun x=>q5 x.1.isAgg x.2)=cvs at hev
 have hreps:Ly E (c.args.toList.map (fun x=>Z7 (ρ x))++caps) (c.args.toList.map a.eval++cvs):=by
  have hcvl:cvs.length=caps.length:=by rw [←hcv,List.length_map,List.length_zip,hcl];omega
  refine ⟨by simp [hcvl],fun i hi hi' => ?_⟩
  by_cases hlt:i<c.args.toList.length
  ·rw [List.getElem_append_left (by simpa using hlt),List.getElem_append_left (by simpa using hlt),List.getElem_map,List.getElem_map]
   exact Br (hop _ (mx _ (List.getElem_mem hlt)))
  ·rw [List.getElem_append_right (by simpa using hlt),List.getElem_append_right (by simpa using hlt)]
   simp only [List.length_map]
   have hi2:i-c.args.toList.length<caps.length:=by simp at hi hlt ⊢;omega
   have:=o0.of (hcr _ hi2) rfl
   have e:cvs[i-c.args.toList.length]'(by rw [hcvl];exact hi2)=q5 (caps[i-c.args.toList.length]).isAgg (css[i-c.args.toList.length]'(by rw [hcl];exact hi2)):=by
    subst hcv
    simp
   rw [e]
   exact this
 have hcalls:=hFn.2 E1 H1 w (c.args.toList.map a.eval++cvs) hL.rel (hG.ext hL.extd) (fun x hx=>by
  rcases hL.blk x.1 with h|h
  ·rw [h];exact hrd2 x hx
  ·exact absurd h.2.2 (Zz hSOK x hx).1) (fun x hx=>by
  rcases Ss hborn x hx with hm|hd
  ·exact .inl hm
  ·rw [hL.pl];exact .inr (hwr x hx hd)) (Yh hveq (Ps hR hL hreps (fun b hb=>by rw [hids] at hb;exact hb) (fun b hb=>hrd1 b (by rw [hids] at hb;exact hb))))
 have hrun:(execOp a.eval o).run P w = .ok (.enter f (c.args.toList.map a.eval++cvs).toArray) w:=by
  have e:(#[]++c.args.map a.eval)++cvs.toArray=(c.args.toList.map a.eval++cvs).toArray:=by
   rw [←Array.toList_inj];simp
  simp only [execOp,ho,resolve,hc,hev,Deferred.ofValue,Sem.run_bind,Sem.run_pure,Result.andThen_ok,invoke,e]
  exact hFn.1 _ w
 unfold Oper.wp
 rw [hrun,Oper.upon_enter]
 refine hcalls.mono fun e w' ⟨v,E2,he,hst⟩ => ?_
 subst he
 obtain ⟨E',hst'⟩:=hback v E2 w' hst
 exact hn v E' w' hst'
end
end Go.Eng

namespace Go.Eng
theorem F1.get {rd:Rd}:∀ {es:List (DV×DV)} {ms:List MapEntry},F1 rd es ms->∀ {i:Nat} {e:DV×DV},es[i]?=some e->∃ m,ms[i]?=some m/\u7 rd e.1 m.key.cells.toList/\m.key=q5 e.1.lay.isAgg m.key.cells.toList/\u7 rd e.2 m.val.cells.toList/\m.val=q5 e.2.lay.isAgg m.val.cells.toList
 |[],[],_,i,e,he=>by simp at he
 |(k,v)::es,m::ms,h,i,e,he=>by
  cases i with
  |zero=>simp at he;subst he;exact ⟨m,by simp,h.1.1,h.1.2.1,h.1.2.2.1,h.1.2.2.2⟩
  |succ i =>
   obtain ⟨m',h1,h2⟩:=F1.get h.2 (i:=i) (e:=e) (by simpa using he)
   exact ⟨m',by simpa using h1,h2⟩
 |[],_::_,h,_,_,_=>h.elim
 |_::_,[],h,_,_,_=>h.elim
def h66 (rd:Rd) (e:DV×DV) (m:MapEntry):Prop:=u7 rd e.1 m.key.cells.toList/\m.key=q5 e.1.lay.isAgg m.key.cells.toList/\u7 rd e.2 m.val.cells.toList/\m.val=q5 e.2.lay.isAgg m.val.cells.toList
theorem F1.back {rd:Rd}:∀ {es:List (DV×DV)} {ms:List MapEntry},F1 rd es ms->∀ {m:MapEntry},m∈ms->∃ e,e∈es/\u7 rd e.1 m.key.cells.toList/\m.key=q5 e.1.lay.isAgg m.key.cells.toList
 |[],[],_,m,hm=>by cases hm
 |e::es,m'::ms,h,m,hm=>by
  rcases List.mem_cons.1 hm with e1|hm
  ·subst e1;exact ⟨e,.head _,h.1.1,h.1.2.1⟩
  ·obtain ⟨e',h1,h2⟩:=F1.back h.2 hm
   exact ⟨e',.tail _ h1,h2⟩
 |[],_::_,h,_,_=>h.elim
 |_::_,[],h,_,_=>h.elim
theorem F1.push {rd:Rd} {e:DV×DV} {m:MapEntry} (he:h66 rd e m):∀ {es:List (DV×DV)} {ms:List MapEntry},F1 rd es ms->F1 rd (es++[e]) (ms++[m])
 |[],[],_=>⟨he,trivial⟩
 |_::_,_::_,h=>⟨h.1,F1.push he h.2⟩
 |[],_::_,h=>h.elim
 |_::_,[],h=>h.elim
theorem F1.set {rd:Rd} {e:DV×DV} {m:MapEntry} (he:h66 rd e m):∀ {es:List (DV×DV)} {ms:List MapEntry} {i:Nat},F1 rd es ms->F1 rd (es.set i e) (ms.set i m)
 |[],[],_,_=>trivial
 |_::_,_::_,0,h=>⟨he,h.2⟩
 |_::_,_::_,i+1,h=>⟨h.1,F1.set he h.2⟩
 |[],_::_,_,h=>h.elim
 |_::_,[],_,h=>h.elim
inductive a87 (k:DV) (es:List (DV×DV)):Option (Nat×DV)->Prop where
 |no (h:c05 k es=none) (hs:∀ v,g39 k v es=es++[(k,v)]) (hd:g40 k es=es) (hn:∀ e,e∈es->a36 k e.1=false):a87 k es none
 |yes (j:Nat) (e:DV×DV) (he:es[j]?=some e) (hk:a36 k e.1=true) (h:c05 k es=some e.2) (hs:∀ v,g39 k v es=es.set j (k,v)) (hd:g40 k es=es.eraseIdx j):a87 k es (some (j,e.2))
theorem a87.cons {k:DV} {es:List (DV×DV)} {r:Option (Nat×DV)} (h:a87 k es r) {e:DV×DV} (he:a36 k e.1=false):a87 k (e::es) (r.map fun x=>(x.1+1,x.2)):=by
 cases h with
 |no h hs hd hn=>exact .no (by simp only [c05,he,h]) (fun v=>by simp only [g39,he,hs v];rfl) (by simp only [g40,he,hd]) (fun x hx=>by
   rcases List.mem_cons.1 hx with e1|hx
   ·rw [e1];exact he
   ·exact hn x hx)
 |yes j e' h1 h2 h hs hd=>exact .yes (j+1) e' (by simpa using h1) h2 (by simp only [c05,he,h]) (fun v=>by simp only [g39,he,hs v];rfl) (by simp only [g40,he,hd];rfl)
theorem a87.head {k:DV} {es:List (DV×DV)} {e:DV×DV} (he:a36 k e.1=true):a87 k (e::es) (some (0,e.2)) :=
 .yes 0 e (by simp) he (by simp only [c05,he]) (fun v=>by simp only [g39,he];rfl) (by simp only [g40,he];rfl)
section
variable {P:Program} {G:G1} {T:Tr} {o:Oper} {ρ:Operand->AV} {H:Nat->j6} {K:V7}
def Ans (ms:List MapEntry) (i:Nat) (r:Option (Nat×DV)) (a:Option (Nat×Value)):Prop:=match r with
 |none=>a=none
 |some (j,_)=>∃ m,ms[j]?=some m/\a=some (i+j,m.val)
theorem Ans.cons {ms:List MapEntry} {i:Nat} {r:Option (Nat×DV)} {a:Option (Nat×Value)} (h:Ans ms (i+1) r a) (m:MapEntry):Ans (m::ms) i (r.map fun x=>(x.1+1,x.2)) a:=by
 cases r with
 |none=>exact h
 |some x =>
  obtain ⟨e,h1,h2⟩:=h
  exact ⟨e,by simpa using h1,by rw [h2];congr 2;omega⟩
theorem q9.mapx {E:y6} {H:Nat->j6} {w:World} (hR:Q9 E H w) {b r:Nat} (hb:(H b).own=true) (hp:E.pl b = .at r 0) {entries:Array MapEntry} {clock:Nat} (hw:w.heap[r]?=some (.map entries clock)) (entries':Array MapEntry) (clock':Nat) {x:j6}
  (hblk:y9 E b { w with heap:=w.heap.setIfInBounds r (.map entries' clock') } x) {v:AV} {u:Value} (hv:o0 E v u) :
  q9 E H w [(b,x)] v u E { w with heap:=w.heap.setIfInBounds r (.map entries' clock') }:=by
 have hn:=MapKept.heap_set (o' := .map entries' clock') hw
 refine q9.write (w':={ w with heap:=w.heap.setIfInBounds r (.map entries' clock') }) (x:=x) hR hb hp rfl rfl rfl (by simp) (fun r' hr=>hn.2 r' hr) ?_ ?_ ?_ hblk hv
 ·intro j _
  simp only [World.cell?,hw,hn.1]
 ·intro j
  simp only [World.frozen?,hw,hn.1]
 ·simp only [World.shape?,hw,hn.1]
theorem q9.map {E:y6} {H:Nat->j6} {w:World} (hR:Q9 E H w) {b r:Nat} {f:KF} {es':List (DV×DV)} (hb:(H b).own=true) (hp:E.pl b = .at r 0) (hl:E.lay b = .unit) (ht:E.top b=0) {entries entries':Array MapEntry} {clock clock':Nat}
  (hw:w.heap[r]?=some (.map entries clock)) (he:F1 E.rd es' entries'.toList) (hes:∀ e,e∈es'->f.has e.1=true) (hst:MapKept.Stamped entries' clock') {v:AV} {u:Value} (hv:o0 E v u) :
  q9 E H w [(b,.mp f es')] v u E { w with heap:=w.heap.setIfInBounds r (.map entries' clock') } :=
 q9.mapx (x := .mp f es') hR hb hp hw entries' clock' ⟨r,entries',clock',hp,hl,ht,(MapKept.heap_set hw).1,he,hes,hst⟩ hv
end
end Go.Eng

namespace Go.Eng
section
variable {P:Program} {G:G1} {T:Tr} {o:Oper} {ρ:Operand->AV} {H:Nat->j6} {K:V7}
theorem f64 (hT:v5 P T) {key:Nat} (hkey:H key = .dead) (h:opK P G T key o.op ρ H K):V9 P G o ρ H K:=by
 generalize ho:o.op=op at h
 unfold opK at h
 split at h
 ·exact c29 (.inl ho) h
 ·exact c29 (.inr ho) h
 ·exact g60 ho h
 ·exact f01 hkey hT ho h
 ·exact h27 hkey ho h
 ·exact f02 hT ho h
 ·exact Zq hT ho hkey h
 ·exact g41 hT ho h
 ·exact e98 hT ho h
 ·exact b80 ho h
 ·exact h20 hT ho h
 ·exact i50 ho h
 ·exact c91 hkey hT ho h
 ·exact a45 hT ho hkey h
 ·exact f00 hT ho h
 ·exact a39 hT ho h
 ·exact e96 hT ho h
 ·exact a41 hT ho h
 ·exact e99 hT ho h
 ·exact c83 ho h
 ·rename_i c
  unfold j23 at h
  split at h
  ·rename_i g hc
   split at h
   ·rename_i f caps hg
    exact d60 ho hc hg h
   ·exact h.elim
  ·rename_i hc
   split at h
   ·rename_i x t hx ht
    exact h24 hT ho hc hx ht h
   ·exact h.elim
  ·rename_i hc
   split at h
   ·rename_i s x hx
    split at h
    ·rename_i t t2 hts
     split at h
     ·rename_i hi;exact c89 hT hkey ho hc hx hts hi h
     ·exact d58 hT hkey ho hc hx h
    ·exact h.elim
   ·exact h.elim
  ·rename_i hc
   split at h
   ·rename_i x y hx
    exact h25 ho hc hx h
   ·exact h.elim
  ·rename_i hc
   split at h
   ·rename_i x t hx ht
    exact h26 hT ho hc hx ht h
   ·exact h.elim
  ·rename_i hc
   split at h
   ·rename_i s x hx
    exact g43 hT ho hc hx h
   ·exact h.elim
  ·exact h.elim
 ·split at h
  ·exact b79 ho h
  ·exact h.elim
 ·exact b84 hT ho h
 ·exact h.elim
end
end Go.Eng

namespace Go.Eng
def Rx (x y:j6):Prop:=y=x\/∃ la n f g,x = .row la n f/\y = .row la n g/\∀ j,j<n->g j=f j
theorem Rx.own {x y:j6} (h:Rx x y):y.own=x.own:=by
 rcases h with rfl|⟨la,n,f,g,rfl,rfl,_⟩<;>rfl
theorem Rx.dead {x y:j6} (h:Rx x y):x = .dead->y = .dead:=by
 rintro rfl
 rcases h with rfl|⟨la,n,f,g,h,_⟩
 ·rfl
 ·cases h
theorem Rx.rel {x y:j6} (h:Rx x y) {E:y6} {b:Nat} {w:World} (hr:y9 E b w x):y9 E b w y:=by
 rcases h with rfl|⟨la,n,f,g,rfl,rfl,hfg⟩
 ·exact hr
 ·obtain ⟨hl,h|⟨r,o,css,hp,hf,hfl,hrs,hm⟩⟩:=hr
  ·exact ⟨hl,.inl h⟩
  ·exact ⟨hl,.inr ⟨r,o,css,hp,fun i hi=>by rw [hfg i hi];exact hf i hi,fun i hi=>by rw [hfg i hi];exact hfl i hi,hrs,hm⟩⟩
def Ov:List (Nat×j6)->List (Nat×j6)->Prop
 |[],[]=>True
 |(b,x)::r,(b',y)::r'=>(b=b'/\Rx x y)/\Ov r r'
 |_,_=>False
theorem Ov.ids:∀ {wr wr':List (Nat×j6)},Ov wr wr'->wr'.map (·.1)=wr.map (·.1)
 |[],[],_=>rfl
 |(b,x)::r,(b',y)::r',h=>by
  obtain ⟨⟨rfl,_⟩,h⟩:=h
  simp [Ov.ids h]
 |[],_::_,h=>h.elim
 |_::_,[],h=>h.elim
theorem Ov.upds:∀ {wr wr':List (Nat×j6)} {H H':Nat->j6},Ov wr wr'->(∀ b,Rx (H b) (H' b))->∀ b,Rx (upds H wr b) (upds H' wr' b)
 |[],[],_,_,_,h=>h
 |(b,x)::r,(b',y)::r',H,H',h,hh=>by
  obtain ⟨⟨rfl,hx⟩,h⟩:=h
  refine Ov.upds (wr:=r) (wr':=r') (H:=Pf H b x) (H':=Pf H' b y) h fun c => ?_
  unfold Pf
  split
  ·exact hx
  ·exact hh c
 |[],_::_,_,_,h,_=>h.elim
 |_::_,[],_,_,h,_=>h.elim
theorem Ov.mem:∀ {wr wr':List (Nat×j6)},Ov wr wr'->∀ y,y∈wr'->∃ x,x∈wr/\x.1=y.1
 |wr,wr',h,y,hy=>by
  have:y.1∈wr'.map (·.1):=List.mem_map.2 ⟨y,hy,rfl⟩
  rw [h.ids] at this
  obtain ⟨x,hx,e⟩:=List.mem_map.1 this
  exact ⟨x,hx,e⟩
def f84 (x y:AV):Prop:=∀ E v,o0 E x v->o0 E y v
theorem q9.retell {E E':y6} {H:Nat->j6} {w w':World} {wr wr':List (Nat×j6)} {x y:AV} {v:Value} (h:q9 E H w wr x v E' w') (hw:Ov wr wr') (hv:f84 x y):q9 E H w wr' y v E' w':=by
 have hs:=hw.upds (H:=H) (H':=H) (fun _ => .inl rfl)
 have ho:∀ b,(upds H wr' b).own=(upds H wr b).own:=fun b=>(hs b).own
 have hids:=hw.ids
 refine ⟨hv _ _ h.val,⟨h.rel.rd,fun b=>(hs b).rel (h.rel.blk b),fun b b' r o r' o' hb h1 h2=>h.rel.sep b b' r o r' o' hb (by rw [←ho];exact h1) (by rw [←ho];exact h2),fun b r o j u h1=>h.rel.apart b r o j u (by rw [←ho];exact h1),h.rel.old,fun b hb=>(hs b).dead (h.rel.born b hb),h.rel.fit,h.rel.fx,fun b r o ob h1=>h.rel.fxa b r o ob (by rw [←ho];exact h1)⟩,h.ext,h.mem,fun b h1 h2=>by rw [hids];exact h.born b h1 h2,fun b hb=>h.live b (by rw [←ho];exact hb),fun b r o h1 h2 h3=>h.others b r o h1 h2 (by rw [←hids];exact h3)⟩
theorem g63 {m:Nat} {x:j6} {K:j6->Prop} (h:h57 m x K):∃ y,Rx x y/\K y:=by
 unfold h57 at h
 split at h
 ·exact ⟨x,.inl rfl,h⟩
 ·split at h
  ·obtain ⟨n',g,⟨rfl,hg⟩,h⟩:=h
   exact ⟨_,.inr ⟨_,_,_,_,rfl,rfl,hg⟩,h⟩
  ·split at h
   ·exact ⟨_,.inl rfl,h⟩
   ·obtain ⟨l',rfl,h⟩:=h
    exact ⟨_,.inl rfl,h⟩
  ·obtain ⟨l',rfl,h⟩:=h
   exact ⟨_,.inl rfl,h⟩
  ·obtain ⟨l',rfl,h⟩:=h
   exact ⟨_,.inl rfl,h⟩
  ·exact ⟨_,.inl rfl,h⟩
theorem Xe {m:Nat}:∀ {wr:List (Nat×j6)} {K:List (Nat×j6)->Prop},d77 m wr K->∃ wr',Ov wr wr'/\K wr'
 |[],K,h=>⟨[],trivial,h⟩
 |(b,x)::r,K,h=>by
  obtain ⟨y,hy,h⟩:=g63 h
  obtain ⟨r',hr,h⟩:=Xe h
  exact ⟨(b,y)::r',⟨⟨rfl,hy⟩,hr⟩,h⟩
theorem Xf {m:Nat} {x:AV} {K:AV->Prop} (h:c24 m x K):∃ y,f84 x y/\K y:=by
 have triv:∀ x,f84 x x:=fun _ _ _ h=>h
 unfold c24 at h
 split at h
 ·split at h
  ·obtain ⟨o',l',⟨rfl,rfl⟩,h⟩:=h
   exact ⟨_,triv _,h⟩
  ·split at h
   ·obtain ⟨l',rfl,h⟩:=h
    exact ⟨_,triv _,h⟩
   ·obtain ⟨l',rfl,h⟩:=h
    exact ⟨_,triv _,h⟩
   ·obtain ⟨n',g,⟨rfl,hg⟩,h⟩:=h
    exact ⟨_,fun E v hv=>h34 hv hg,h⟩
   ·exact ⟨_,triv _,h⟩
  ·exact ⟨_,triv _,h⟩
 ·exact ⟨_,triv _,h⟩
theorem Rw.retell {P:Program} {G:G1} {o:Oper} {ρ:Operand->AV} {H:Nat->j6} {rd:List Nat} {wr wr':List (Nat×j6)} {x y:AV} (h:Rw P G o ρ H rd wr x) (hw:Ov wr wr') (hv:f84 x y):Rw P G o ρ H rd wr' y :=
 fun E H' a w hR hG hop hrd hwr next Q hn=>h E H' a w hR hG hop hrd (fun z hz hd=>by
  have hm:z.1∈wr'.map (·.1):=by rw [hw.ids];exact List.mem_map.2 ⟨z,hz,rfl⟩
  obtain ⟨z',hz',e⟩:=List.mem_map.1 hm
  rw [←e] at hd ⊢
  exact hwr z' hz' hd) next Q fun u E' w' hst=>hn u E' w' (hst.retell hw hv)
theorem f85 {b:Nat}:∀ {wr:List (Nat×j6)} {H H':Nat->j6},H b=H' b->upds H wr b=upds H' wr b
 |[],_,_,h=>h
 |(c,x)::r,H,H',h=>f85 (wr:=r) (H:=Pf H c x) (H':=Pf H' c x) (by unfold Pf;split;rfl;exact h)
theorem c35 {P:Program} {G:G1} {o:Oper} {ρ:Operand->AV} {H:Nat->j6} {m:Bool} {rd:List Nat} {wr:List (Nat×j6)} {v:AV} {K:V7} (h:d78 m H rd wr v K) (heff:Rw P G o ρ H rd wr v):∃ rd' wr' v',K rd' wr' v'/\Rw P G o ρ H rd' wr' v':=by
 unfold d78 at h
 split at h
 ·split at h
  ·rcases h with h|h
   ·exact ⟨_,_,_,h,heff⟩
   ·obtain ⟨rd2,wr2,d,h,hwr2,hrun⟩:=Sn h
    obtain ⟨y,hy,h⟩:=Xf h
    refine ⟨_,_,_,h,fun E H' a w hR hG hop hrd hwr next Q hn => ?_⟩
    refine heff E H' a w hR hG hop (fun b hb=>hrd b (List.mem_append_left _ hb)) (fun x hx hd=>hwr x (List.mem_append_left _ hx) hd) next Q fun u E' w' hst => ?_
    obtain ⟨E2,hst2,hrep,hu⟩:=hrun E' (upds H' wr) w' u hst.rel (fun b hb=>by rw [f59];exact f85 (hrd b (List.mem_append_right _ hb))) hst.val
    exact hn u E2 w' ((hst.trans hR hst2).free (hy _ _ (.of (.dv hrep) hu)))
  ·exact ⟨_,_,_,h,heff⟩
 ·exact ⟨_,_,_,h,heff⟩
theorem c36 {P:Program} {G:G1} {T:Tr} {key:Nat} {o:Op} {ρ:Operand->AV} {H:Nat->j6} {K:V7} (h:opK P G T key o ρ H K):∀ c,o ≠ .defer c:=by
 rintro c rfl
 exact h.elim
end Go.Eng

namespace Go.Eng
theorem g45 (v:Value) (K:Value->Prop):h56 v K=K v:=by cases v<;>rfl
theorem Rc:(d:DV)->(K:DV->Prop)->a76 d K=K d
 |.sc v,K=>g45 v _
 |.bl _,_=>rfl
 |.str _,_=>rfl
 |.ints _ _ _,_=>rfl
 |.nil,_=>rfl
 |.cons d ds,K=>(Rc d _).trans (Rc ds _)
 |.fam _ _ _,_=>rfl
 |.roI _ _,_=>rfl
 |.ro _ _ _,_=>rfl
theorem Lw:(x:t9)->(K:t9->Prop)->Ww x K=K x
 |.one,_=>rfl
 |.unit,_=>rfl
 |.pair a b,_=>(Lw a _).trans (Lw b _)
 |.arr _ l,_=>Lw l _
theorem Cy:(x:AV)->(K:AV->Prop)->Je x K=K x
 |.any,_=>rfl
 |.dv d,_=>Rc d _
 |.cons x xs,_=>(Cy x _).trans (Cy xs _)
 |.ptr _ _ l,_=>Lw l _
 |.rp d,_=>Rc d _
 |.sl _ _ l _ _,_=>Lw l _
 |.fn _ _,_=>rfl
 |.tup _,_=>rfl
 |.mp _,_=>rfl
 |.stamp _,_=>rfl
 |.yld _,_=>rfl
 |.vs _ _ _,_=>rfl
 |.slc _ _ _ _,_=>rfl
 |.emp,_=>rfl
 |.nq _ _,_=>rfl
 |.ifc _ x,_=>Cy x _
theorem c08 (x:j6) (K:j6->Prop):f17 x K=K x:=by
 cases x<;>first|rfl|exact Cy _ _
theorem Lx {α:Type}:∀ {l:List α} {i:Nat} {y:α} {K:List α->Prop},Sy l i y K->i<l.length/\K (l.set i y)
 |[],_,_,_,h=>h.elim
 |x::r,0,y,K,h=>⟨by simp,h⟩
 |x::r,i+1,y,K,h=>by
  obtain ⟨h1,h2⟩:=Lx (l:=r) (i:=i) h
  exact ⟨by simp;omega,h2⟩
theorem Pt (x:j6) (r:List j6) (c:Nat):G2 (x::r) c=match c with|0=>x|c+1=>G2 r c:=by
 cases c<;>simp [G2]
theorem U0:∀ {bs:List j6} {i:Nat} {y:j6} {K:List j6->Prop},Hh bs i y K->∃ bs',K bs'/\bs'.length=max bs.length (i+1)/\∀ c,G2 bs' c=if c=i then y else G2 bs c
 |[],0,y,K,h=>⟨[y],h,rfl,fun c=>by cases c<;>simp [G2]⟩
 |[],i+1,y,K,h=>by
  obtain ⟨bs',hK,hl,hc⟩:=U0 (bs:=[]) (i:=i) h
  refine ⟨_,hK,by simp [hl],fun c => ?_⟩
  rw [Pt]
  cases c with
  |zero=>simp [G2]
  |succ c=>simp only [hc];simp [G2]
 |x::r,0,y,K,h=>⟨y::r,h,by simp,fun c=>by rw [Pt,Pt];cases c<;>simp⟩
 |x::r,i+1,y,K,h=>by
  obtain ⟨bs',hK,hl,hc⟩:=U0 (bs:=r) (i:=i) h
  refine ⟨_,hK,by simp [hl],fun c => ?_⟩
  rw [Pt,Pt]
  cases c with
  |zero=>simp
  |succ c=>simp only [hc];simp
theorem c92:∀ {wr:List (Nat×j6)} {bs:List j6} {K:List j6->Prop},wrK bs wr K->∃ bs',K bs'/\G2 bs'=upds (G2 bs) wr/\bs.length≤bs'.length/\∀ x,x∈wr->x.1<bs'.length
 |[],bs,K,h=>⟨bs,h,rfl,Nat.le_refl _,fun x hx=>by cases hx⟩
 |(i,b)::r,bs,K,h=>by
  simp only [wrK,c08] at h
  obtain ⟨bs1,h1,hl,hc⟩:=U0 h
  obtain ⟨bs',hK,hH,hl2,hin⟩:=c92 h1
  refine ⟨bs',hK,?_,by omega,fun x hx => ?_⟩
  ·rw [hH]
   show _=upds (Pf (G2 bs) i b) r
   congr 1
   funext c
   rw [hc];rfl
  ·rcases List.mem_cons.1 hx with e|hx
   ·subst e;simp only;omega
   ·exact hin x hx
structure Ez where
 o:Oper
 run:Option (List Nat×List (Nat×j6)×AV)
def Ez.val (e:Ez):AV:=match e.run with|some (_,_,v)=>v|none => .tup []
theorem c09 (E:y6):o0 E (.tup []) undef := .one (.tup [] [] rfl fun i h=>absurd h (Nat.not_lt_zero _)) rfl
theorem g46 {E:y6} {u:Value} (h:o0 E (.tup []) u):u=undef:=by
 rcases h with h|⟨cs,h,e⟩
 ·cases h
 ·cases h with
  |tup xs css hlen _ =>
   obtain rfl:css=[]:=List.eq_nil_of_length_eq_zero hlen
   exact e
def Ez.wr (e:Ez):List (Nat×j6):=match e.run with|some (_,wr,_)=>wr|none=>[]
def Ez.foot (e:Ez):Kj:=match e.run with|some (rd,wr,_)=>(rd,wr.map Prod.fst)|none=>([],[])
def Cm:List Ez->Nat->(Nat->Bool)->Nat->AV->AV
 |[],_,_,_,x=>x
 |e::es,i,D,t,x=>Cm es (i+1) D t (if D i=true/\e.o.dst=some t then e.val else x)
def Z8:List Ez->Nat->(Nat->Bool)->(Nat->j6)->(Nat->j6)
 |[],_,_,H=>H
 |e::es,i,D,H=>Z8 es (i+1) D (if D i=true then upds H e.wr else H)
theorem Ff {D D':Nat->Bool} {t:Nat}:∀ {es:List Ez} {i:Nat} {x:AV},(∀ j e,es[j]?=some e->e.o.dst=some t->D (i+j)=D' (i+j))->Cm es i D t x=Cm es i D' t x
 |[],_,_,_=>rfl
 |e::es,i,x,h=>by
  have h0:(if D i=true/\e.o.dst=some t then e.val else x)=(if D' i=true/\e.o.dst=some t then e.val else x):=by
   by_cases hd:e.o.dst=some t
   ·have:=h 0 e rfl hd
    simp only [Nat.add_zero] at this
    rw [this]
   ·rw [if_neg fun h=>hd h.2,if_neg fun h=>hd h.2]
  simp only [Cm,h0]
  exact Ff fun j e' hj hd=>by
   have:=h (j+1) e' (by simpa using hj) hd
   rw [show i+1+j=i+(j+1) from by omega];exact this
theorem Fg {D D':Nat->Bool} {b:Nat}:∀ {es:List Ez} {i:Nat} {H H':Nat->j6},H b=H' b->(∀ j e,es[j]?=some e->b∈e.wr.map (·.1)->D (i+j)=D' (i+j))->Z8 es i D H b=Z8 es i D' H' b
 |[],_,_,_,hH,_=>hH
 |e::es,i,H,H',hH,h=>by
  show Z8 es (i+1) D _ b=Z8 es (i+1) D' _ b
  refine Fg ?_ fun j e' hj hd => ?_
  ·by_cases hm:b∈e.wr.map (·.1)
   ·have:=h 0 e rfl hm
    simp only [Nat.add_zero] at this
    rw [this]
    split
    ·obtain ⟨x,_,he⟩:=Km hm
     rw [he,he]
    ·exact hH
   ·have hu:∀ H:Nat->j6,upds H e.wr b=H b:=fun H=>L7 fun z hz e'=>hm (List.mem_map.2 ⟨z,hz,e'⟩)
    have hq:∀ (c:Bool) (H:Nat->j6),(if c=true then upds H e.wr else H) b=H b:=fun c H=>by
     split
     ·exact hu H
     ·rfl
    rw [hq,hq];exact hH
  ·have:=h (j+1) e' (by simpa using hj) hd
   rw [show i+1+j=i+(j+1) from by omega];exact this
theorem Kn {D:Nat->Bool} {t:Nat}:∀ {es es':List Ez} {i:Nat} {x:AV},Cm (es++es') i D t x=Cm es' (i+es.length) D t (Cm es i D t x)
 |[],es',i,x=>rfl
 |e::es,es',i,x=>by
  show Cm (es++es') (i+1) D t _=_
  rw [Kn]
  simp only [List.length_cons,Cm]
  rw [show i+1+es.length=i+(es.length+1) from by omega]
theorem Ko {D:Nat->Bool}:∀ {es es':List Ez} {i:Nat} {H:Nat->j6},Z8 (es++es') i D H=Z8 es' (i+es.length) D (Z8 es i D H)
 |[],es',i,x=>rfl
 |e::es,es',i,x=>by
  show Z8 (es++es') (i+1) D _=_
  rw [Ko]
  simp only [List.length_cons,Z8]
  rw [show i+1+es.length=i+(es.length+1) from by omega]
theorem Ug {D:Nat->Bool} {t:Nat}:∀ {es:List Ez} {i:Nat} {x:AV},(∀ j,i≤j->D j=false)->Cm es i D t x=x
 |[],_,_,_=>rfl
 |e::es,i,x,h=>by
  have:(if D i=true/\e.o.dst=some t then e.val else x)=x:=by rw [h i (Nat.le_refl _),if_neg];rintro ⟨h,_⟩;cases h
  simp only [Cm,this]
  exact Ug fun j hj=>h j (by omega)
theorem Pu {D:Nat->Bool}:∀ {es:List Ez} {i:Nat} {H:Nat->j6},(∀ j,i≤j->D j=false)->Z8 es i D H=H
 |[],_,_,_=>rfl
 |e::es,i,x,h=>by
  have:(if D i=true then upds x e.wr else x)=x:=by rw [h i (Nat.le_refl _),if_neg];intro h;cases h
  simp only [Z8,this]
  exact Pu fun j hj=>h j (by omega)
def Ki (j:Nat):Nat->Bool:=fun i=>decide (i<j)
def Wq:Nat->Bool:=fun _=>true
theorem g47 {es es':List Ez} {t:Nat} {x:AV}:Cm (es++es') 0 (Ki es.length) t x=Cm es 0 Wq t x:=by
 rw [Kn,Ug fun j hj=>by simp [Ki];omega]
 refine Ff fun j e hj _ => ?_
 have:=(List.getElem?_eq_some_iff.1 hj).1
 simp [Ki,Wq,this]
theorem g48 {es es':List Ez} {H:Nat->j6}:Z8 (es++es') 0 (Ki es.length) H=Z8 es 0 Wq H:=by
 rw [Ko,Pu fun j hj=>by simp [Ki];omega]
 funext b
 refine Fg rfl fun j e hj _ => ?_
 have:=(List.getElem?_eq_some_iff.1 hj).1
 simp [Ki,Wq,this]
def AEq (x y:AV):Prop:=∀ E v,o0 E x v↔o0 E y v
theorem AEq.refl (x:AV):AEq x x:=fun _ _ => .rfl
theorem j33 (b:Bool):AEq (.dv (.bl b)) (.dv (.sc (.bool b))):=fun E v =>
 ⟨fun h=>by rw [Xb h];exact Xc E trivial,fun h=>by rw [O8 h];exact Nt E b⟩
def evF (G:G1) (f:Nat->AV):Operand->AV
 |.tmp t=>f t
 |.const v=>Zy v
 |.global g=>G g
 |.func f => .fn f []
theorem h36 (G:G1) (ts:List AV):ev G ts=evF G fun t=>ts.getD t .any:=by
 funext x;cases x<;>rfl
theorem i53 {G:G1} {f g:Nat->AV} (h:∀ t,AEq (f t) (g t)) (x:Operand):AEq (evF G f x) (evF G g x):=by
 cases x<;>first|exact h _|exact .refl _
def Hg (all:List Oper) (o:Oper) (f:Nat->AV) (r:Bool):Prop:=match o.guard with
 |none=>r=true
 |some (g,want)=>∃ d,(all.getD g default).dst=some d/\((∃ c,(∀ E u,o0 E (f d) u->u = .bool c)/\r=(c==want))\/((∀ E u,o0 E (f d) u->u=undef)/\r=false))
section
variable (P:Program) (G:G1) (T:Tr)
def i54 (all:List Oper) (es:List Ez) (base:Nat->AV) (H0:Nat->j6) (n0:Nat) (j:Nat) (e:Ez):Prop :=
 Hg all e.o (fun t=>Cm es 0 (Ki j) t (base t)) e.run.isSome /\
 ∀ rd wr v,e.run=some (rd,wr,v)->(∀ c,e.o.op ≠ .defer c) /\
  (∀ x,x∈wr->Z8 es 0 (Ki j) H0 x.1 = .dead->n0≤x.1/\∀ i e',i<j->es[i]?=some e'->x.1 ∉ e'.wr.map (·.1)) /\
  ∀ E H' (a:Act) w,Q9 E H' w->GOK E G->(∀ x,x∈o9 e.o.op->o0 E (evF G (fun t=>Cm es 0 (Ki j) t (base t)) x) (a.eval x))->(∀ b,b∈rd->H' b=Z8 es 0 (Ki j) H0 b) ->
   (∀ x,x∈wr->Z8 es 0 (Ki j) H0 x.1 = .dead->E.pl x.1 = .unborn)->∀ next Q,(∀ u E' w',q9 E H' w wr v u E' w'->next (a.put e.o.dst u) w')->e.o.wp P a w next Q
end
section
variable {P:Program} {G:G1} {T:Tr}
theorem Wr {bs:List j6}:∀ {wr:List (Nat×j6)},a78 bs wr=true->∀ x,x∈wr->G2 bs x.1 = .dead->bs.length≤x.1
 |[],_,x,hx,_=>by cases hx
 |(b,y)::r,h,x,hx,hd=>by
  simp only [a78] at h
  have hb:a78 bs r=true/\(G2 bs b = .dead->bs.length≤b):=by
   split at h
   ·cases h
   ·rename_i hn
    refine ⟨h,fun hd => ?_⟩
    cases hlt:Nat.blt b bs.length with
    |true=>exact (hn (by rw [hd];rfl) hlt).elim
    |false =>
     refine Nat.le_of_not_lt fun hl => ?_
     have h3:Nat.blt b bs.length=true:=by rw [Nat.blt_eq];exact hl
     rw [h3] at hlt;cases hlt
  rcases List.mem_cons.1 hx with e|hx
  ·subst e;exact hb.2 hd
  ·exact Wr hb.1 x hx hd
theorem d61 {b:Bool} {K:Bool->Prop} (h:split b K):K b:=by
 cases b
 ·exact h.2 rfl
 ·exact h.1 rfl
theorem a56 {all:List Oper} {o:Oper} {ts:List AV} {K:Bool->List AV->Prop} (h:a79 all o ts K):∃ r ts1,K r ts1/\ts1.length=ts.length/\(∀ t,AEq (ts1.getD t .any) (ts.getD t .any))/\Hg all o (fun t=>ts.getD t .any) r:=by
 unfold a79 at h
 split at h
 ·rename_i hg
  exact ⟨true,ts,h,rfl,fun _ => .refl _,by unfold Hg;rw [hg]⟩
 ·rename_i j want hg
  split at h
  ·exact h.elim
  ·rename_i d hd
   split at h
   ·rename_i b hts
    have hb:∀ E u,o0 E (ts.getD d .any) u->u = .bool b:=fun E u hu=>by rw [hts] at hu;exact O8 hu
    have fin:∀ r,K r ts->r=(b==want)->∃ r ts1,K r ts1/\ts1.length=ts.length/\(∀ t,AEq (ts1.getD t .any) (ts.getD t .any))/\Hg all o (fun t=>ts.getD t .any) r :=
     fun r hK hr=>⟨r,ts,hK,rfl,fun _=>AEq.refl _,by unfold Hg;rw [hg];exact ⟨d,hd,.inl ⟨b,hb,hr⟩⟩⟩
    clear hb hts hg
    cases b<;>cases want<;>exact fin _ h rfl
   ·rename_i b hts
    have hb:∀ E u,o0 E (ts.getD d .any) u->u = .bool b:=fun E u hu=>by rw [hts] at hu;exact Xb hu
    have h2:=d61 h
    obtain ⟨hlt,h2⟩:=Lx h2
    have heq:∀ t,AEq ((ts.set d (.dv (.sc (.bool b)))).getD t .any) (ts.getD t .any):=by
     intro t
     by_cases e:t=d
     ·subst e
      have:(ts.set t (.dv (.sc (.bool b)))).getD t .any = .dv (.sc (.bool b)):=by simp [List.getD,hlt]
      rw [this,hts]
      exact fun E v=>(j33 b E v).symm
     ·have:(ts.set d (.dv (.sc (.bool b)))).getD t .any=ts.getD t .any:=by simp [List.getD,List.getElem?_set_ne (Ne.symm e)]
      rw [this]
      exact .refl _
    have fin:∀ r,K r (ts.set d (.dv (.sc (.bool b))))->r=(b==want)->∃ r ts1,K r ts1/\ts1.length=ts.length/\(∀ t,AEq (ts1.getD t .any) (ts.getD t .any))/\Hg all o (fun t=>ts.getD t .any) r :=
     fun r hK hr=>⟨r,_,hK,List.length_set,heq,by unfold Hg;rw [hg];exact ⟨d,hd,.inl ⟨b,hb,hr⟩⟩⟩
    clear hb hts hg heq h
    cases b<;>cases want<;>exact fin _ h2 rfl
   ·rename_i hts
    exact ⟨false,ts,h,rfl,fun _=>AEq.refl _,by unfold Hg;rw [hg];exact ⟨d,hd,.inr ⟨fun E u hu=>by have hu:o0 E (ts.getD d .any) u:=hu;rw [hts] at hu;exact g46 hu,rfl⟩⟩⟩
   ·exact h.elim
theorem Pv {ts:List AV} {d:Option Nat} {x:AV} {K:List AV->Prop} (h:a77 ts d x K):∃ ts',K ts'/\ts'.length=ts.length/\(∀ t,d=some t->t<ts.length)/\∀ t,ts'.getD t .any=if d=some t then x else ts.getD t .any:=by
 unfold a77 at h
 split at h
 ·exact ⟨ts,h,rfl,(fun t e=>by cases e),fun t=>by rw [if_neg];intro e;cases e⟩
 ·rename_i d
  rw [Cy] at h
  obtain ⟨hlt,h⟩:=Lx h
  refine ⟨_,h,List.length_set,(fun t e=>by cases e;exact hlt),fun t => ?_⟩
  by_cases e:d=t
  ·subst e;simp [List.getD,hlt]
  ·rw [if_neg fun h=>e (Option.some.inj h)]
   simp [List.getD,List.getElem?_set_ne e]
def f10 (P:Program) (G:G1) (all:List Oper) (base:Nat->AV) (H0:Nat->j6) (n0 n:Nat) (rest:List Oper) (es0:List Ez) (bs:List j6) (K:List AV->List j6->List Kj->Prop):Prop :=
 ∃ (es1:List Ez) (ts2:List AV) (bs2:List j6),es1.map (·.o)=rest/\K ts2 bs2 ((es0++es1).map (·.foot)).reverse/\ts2.length=n/\(∀ t,AEq (ts2.getD t .any) (Cm (es0++es1) 0 Wq t (base t)))/\G2 bs2=Z8 (es0++es1) 0 Wq H0 /\
   (∀ (i:Nat) (e:Ez),(es0++es1)[i]?=some e->∀ x,x∈e.wr->x.1<bs2.length)/\bs.length≤bs2.length/\(∀ e,e∈es1->∀ t,e.o.dst=some t->t<n)/\∀ j e,es1[j]?=some e->i54 P G all (es0++es1) base H0 n0 (es0.length+j) e
theorem c10 (hT:v5 P T) {O:List (List AV)} {all:List Oper} {base:Nat->AV} {H0:Nat->j6} {n0 n:Nat}:∀ {rest:List Oper} {es0:List Ez} {ts:List AV} {bs:List j6} {fs:List Kj} {K:List AV->List j6->List Kj->Prop},
  a80 P G T O noY all rest ts bs fs K->ts.length=n->(∀ t,AEq (ts.getD t .any) (Cm es0 0 Wq t (base t)))->G2 bs=Z8 es0 0 Wq H0->(∀ (i:Nat) (e:Ez),es0[i]?=some e->∀ x,x∈e.wr->x.1<bs.length)->n0≤bs.length->fs=(es0.map (·.foot)).reverse ->
  f10 P G all base H0 n0 n rest es0 bs K
 |[],es0,ts,bs,fs,K,h,hn,hts,hbs,hwr,hn0,hfs=>⟨[],ts,bs,rfl,by simp only [List.append_nil,←hfs];exact h,hn,by simpa using hts,by simpa using hbs,by simpa using hwr,Nat.le_refl _,(fun e he=>by cases he),fun j e h=>by simp at h⟩
 |o::rest,es0,ts,bs,fs,K,h,hn,hts,hbs,hwr,hn0,hfs=>by
  simp only [a80] at h
  obtain ⟨r,ts1,h,hl1,heq1,hg⟩:=a56 h
  have step:∀ (e:Ez) (ts':List AV) (bs':List j6),e.o=o->a80 P G T O noY all rest ts' bs' (e.foot::fs) K->ts'.length=n->(∀ t,o.dst=some t->t<n)->(∀ t,AEq (ts'.getD t .any) (if o.dst=some t then e.val else ts.getD t .any))->G2 bs'=upds (G2 bs) e.wr ->
    bs.length≤bs'.length->(∀ x,x∈e.wr->x.1<bs'.length)->(∀ es1,i54 P G all (es0++e::es1) base H0 n0 es0.length e)->f10 P G all base H0 n0 n (o::rest) es0 bs K:=by
   intro e ts' bs' ho hk hl hdst ht hb hle hin hgood
   obtain ⟨es1,ts2,bs2,g1,g2,g3,g4,g5,g6,g7,g9,g8⟩:=c10 hT (n0:=n0) (es0:=es0++[e]) hk hl (fun t E v=>by
    rw [Kn]
    simp only [Cm,Wq,true_and]
    refine (ht t E v).trans ?_
    rw [ho]
    split
    ·exact .rfl
    ·exact hts t E v) (by
    rw [Ko]
    simp only [Z8,Wq,if_true]
    rw [hb,hbs]) (fun i e' hi x hx=>by
    rw [List.getElem?_append] at hi
    split at hi
    ·exact Nat.lt_of_lt_of_le (hwr i e' hi x hx) hle
    ·rename_i hge
     have:i-es0.length=0:=by
      have:=(List.getElem?_eq_some_iff.1 hi).1
      simp at this;omega
     rw [this] at hi
     simp at hi
     subst hi
     exact hin x hx) (by omega) (by rw [hfs];simp)
   simp only [List.append_assoc,List.singleton_append] at g2 g4 g5 g6 g8
   refine ⟨e::es1,ts2,bs2,by simp [ho,g1],g2,g3,g4,g5,g6,by omega,?_,?_⟩
   ·intro e' he' t hdt
    rcases List.mem_cons.1 he' with e1|he'
    ·subst e1;exact hdst t (ho▸hdt)
    ·exact g9 e' he' t hdt
   ·intro j e' hj
    cases j with
    |zero=>simp at hj;subst hj;exact hgood es1
    |succ j =>
     have:=g8 j e' (by simpa using hj)
     rw [List.length_append,List.length_singleton] at this
     rw [show es0.length+(j+1)=es0.length+1+j from by omega]
     exact this
  have htv:∀ es1 (e:Ez) t,AEq (ts.getD t .any) (Cm (es0++e::es1) 0 (Ki es0.length) t (base t)):=by
   intro es1 e t
   rw [g47];exact hts t
  have hbv:∀ es1 (e:Ez),Z8 (es0++e::es1) 0 (Ki es0.length) H0=G2 bs:=by
   intro es1 e
   rw [g48];exact hbs.symm
  have hguard:∀ es1 (e:Ez),e.o=o->e.run.isSome=r->Hg all e.o (fun t=>Cm (es0++e::es1) 0 (Ki es0.length) t (base t)) e.run.isSome:=by
   intro es1 e ho hr
   rw [ho,hr]
   unfold Hg at hg ⊢
   split at hg
   ·exact hg
   ·obtain ⟨d,h1,⟨c,h2,h3⟩|⟨h2,h3⟩⟩:=hg
    ·exact ⟨d,h1,.inl ⟨c,fun E u hu=>h2 E u ((htv es1 e d E u).2 hu),h3⟩⟩
    ·exact ⟨d,h1,.inr ⟨fun E u hu=>h2 E u ((htv es1 e d E u).2 hu),h3⟩⟩
  cases r with
  |true =>
   simp only at h
   split at h
   ·exact h.elim
   have hdef:=c36 h
   obtain ⟨rd,wr0,v0,h,heff⟩:=f64 hT (by simp [G2]) h
   obtain ⟨wr,hsw,h⟩:=Xe h
   obtain ⟨v,hsv,h⟩:=Xf h
   have heff:=heff.retell hsw hsv
   obtain ⟨rd,wr,v,h,heff⟩:=c35 h heff
   split at h
   ·rename_i hnew
    obtain ⟨ts',h,hl,hlt,ht⟩:=Pv h
    obtain ⟨bs',h,hb,hle,hin⟩:=c92 h
    refine step ⟨o,some (rd,wr,v)⟩ ts' bs' rfl h (by omega) (fun t ht=>by rw [←hn,←hl1];exact hlt t ht) (fun t => ?_) hb hle hin fun es1=>⟨hguard es1 _ rfl rfl,?_⟩
    ·rw [ht]
     split
     ·exact .refl _
     ·exact heq1 t
    ·intro rd' wr' v' hrun
     cases hrun
     refine ⟨hdef,fun x hx hd => ?_,?_⟩
     ·rw [hbv] at hd
      have:=Wr hnew x hx hd
      refine ⟨by omega,fun i e' hi he' hm => ?_⟩
      rw [List.getElem?_append_left hi] at he'
      obtain ⟨y,hy,e⟩:=List.mem_map.1 hm
      have:=hwr i e' he' y hy
      omega
     ·intro E H' a w hR hG hop hrd hwr' next Q hnext
      refine heff E H' a w hR hG (fun x hx => ?_) (fun b hb=>by rw [hrd b hb,hbv]) (fun x hx hd=>hwr' x hx (by rw [hbv];exact hd)) next Q hnext
      rw [h36]
      refine (i53 (fun t E u=>(heq1 t E u).trans (htv es1 ⟨o,some (rd,wr,v)⟩ t E u)) x E (a.eval x)).2 (hop x hx)
   ·exact h.elim
  |false =>
   simp only at h
   obtain ⟨ts',h,hl,hlt,ht⟩:=Pv h
   refine step ⟨o,none⟩ ts' bs rfl h (by omega) (fun t ht=>by rw [←hn,←hl1];exact hlt t ht) (fun t => ?_) rfl (Nat.le_refl _) (fun x hx=>by cases hx) fun es1=>⟨hguard es1 _ rfl rfl,fun rd wr v hrun=>by cases hrun⟩
   rw [ht]
   split
   ·exact .refl _
   ·exact heq1 t
end
end Go.Eng

namespace Go.Eng
def Lt:Option Nat->Fence
 |none=>Fence.wide
 |some l=>Fence.wide.inRound l
theorem g49 (ro:Option Nat):(Lt ro).round=ro:=by cases ro<;>rfl
theorem St (ro:Option Nat) (f:FuncId):(Lt ro).fn f:=by cases ro<;>trivial
theorem Re (ro:Option Nat):(Lt ro).depth=none:=by cases ro<;>rfl
theorem h37 (ro:Option Nat) (n:Nat):(Lt ro).room n:=fun d hd=>by rw [Re] at hd;cases hd
theorem c11 {ro:Option Nat} {n:Nat} {P:Program} {f:FuncId} {args:Array Value} {w:World} {R:Ending->World->Prop} (h:Calls P f args w R):CallsIn (Lt ro) n P f args w R:=by
 cases ro with
 |none=>exact callsIn_wide.2 h
 |some l=>exact CallsIn.inRound l (callsIn_wide.2 h)
theorem h38 {ro:Option Nat} {n:Nat} {P:Program} {row:String} {args:Array Value} {w:World} {R:Value->World->Prop} (h:Rows P row args w R):RowsIn (Lt ro) n P row args w R:=by
 have:∀ (c:Frame) (cs:List Frame),∃ v w',R v w'/\StepsIn (Machine.fenced P Fence.wide) P (lone (Frame.ofRow P row args .normal) (c::cs) w) (lone (c.finish v) cs w') :=
  fun c cs=>let ⟨v,w',r,s⟩:=h c cs;⟨v,w',r,stepsIn_wide.2 s⟩
 cases ro with
 |none=>exact fun c cs _=>this c cs
 |some l=>exact fun c cs _=>this c cs
theorem h39 {ro:Option Nat} {n:Nat} {P:Program} {o:Oper} {a:Act} {w:World} {K:Act->World->Prop} {Q:Exit->Act->World->Prop} (hd:∀ c,o.op ≠ .defer c) (h:o.wp P a w K Q):o.wpIn (Lt ro) n P a w K Q:=by
 refine ⟨fun f _=>St ro f,?_⟩
 rw [Oper.semAt_eq _ _ _ hd]
 unfold Oper.wp at h
 generalize (execOp a.eval o).run P w=r at h ⊢
 have hdp:(Lt ro).depth.isSome=true->1≤n:=fun h=>by rw [Re] at h;cases h
 cases r with
 |ok x w'=>cases x<;>first|exact h|exact ⟨hdp,c11 h⟩|exact ⟨hdp,h38 h⟩|exact h.elim
 |halt x w'=>cases x<;>first|exact h|exact h.elim
def DF (m:Nat) (E:y6) (H:Nat->j6) (w:World) (ds:List Deferred):Prop :=
 ∀ d,d∈ds->∃ r,m≤r/\d={ target := .collected r,args := #[] }/\w.heap[r]?=some (.deferred (some []))/\∀ b o,(H b).own=true->E.pl b ≠ .at r o
structure OK3 (m:Nat) (Fs:List (List AV×Act)) (E:y6) (H:Nat->j6) (w:World) (ds:List Deferred):Prop where
 nd:(ds++Fs.flatMap fun x=>x.2.defers).Nodup
 df:DF m E H w ds
 size:∀ x,x∈Fs->x.2.tmps.size=x.1.length
 tmps:∀ x,x∈Fs->∀ t,o0 E (x.1.getD t .any) (x.2.tmps.getD t undef)
 out:∀ x,x∈Fs->DF m E H w x.2.defers
theorem DF.step {m:Nat} {E E':y6} {H:Nat->j6} {w w':World} {wr:List (Nat×j6)} {v:AV} {u:Value} {ds:List Deferred} (h:DF m E H w ds) (hs:q9 E H w wr v u E' w'):DF m E' (upds H wr) w' ds:=fun d hd=>by
 obtain ⟨r,hm,e,hr,hno⟩:=h d hd
 have hlt:r<w.heap.size:=(Array.getElem?_eq_some_iff.1 hr).1
 refine ⟨r,hm,e,?_,fun b o hb hp => ?_⟩
 ·rw [hs.mem.same r hlt fun b o h1 h2=>hno b o h1 h2];exact hr
 ·rcases hs.live b hb with h1|h1
  ·by_cases hu:E.pl b = .unborn
   ·rcases hs.mem.new b r o hu hp with h2|⟨b',o',h2,h3,_⟩
    ·omega
    ·exact hno b' o' h2 h3
   ·rw [hs.ext.pl b hu] at hp
    exact hno b o h1 hp
  ·rcases hs.mem.new b r o h1 hp with h2|⟨b',o',h2,h3,_⟩
   ·omega
   ·exact hno b' o' h2 h3
theorem OK3.step {m:Nat} {Fs:List (List AV×Act)} {E E':y6} {H:Nat->j6} {w w':World} {wr:List (Nat×j6)} {v:AV} {u:Value} {ds:List Deferred} (h:OK3 m Fs E H w ds) (hs:q9 E H w wr v u E' w'):OK3 m Fs E' (upds H wr) w' ds :=
 ⟨h.nd,h.df.step hs,h.size,fun x hx t=>(h.tmps x hx t).ext hs.ext,fun x hx=>(h.out x hx).step hs⟩
def Lj (D:Nat->Bool) (j:Nat):Nat->Bool:=fun i=>if i=j then true else D i
theorem d62 {es:List Ez} {j:Nat} {e:Ez} (h:es[j]?=some e):∃ a b,es=a++e::b/\a.length=j:=by
 obtain ⟨hlt,he⟩:=List.getElem?_eq_some_iff.1 h
 refine ⟨es.take j,es.drop (j+1),?_,by simp;omega⟩
 rw [←he,List.getElem_cons_drop,List.take_append_drop]
theorem h40 {es:List Ez} {D:Nat->Bool} {j:Nat} {e:Ez} {t:Nat} {x:AV} (h:es[j]?=some e) (hno:∀ i e',D i=true->j<i->es[i]?=some e'->e.o.dst=some t->e'.o.dst≠some t) :
  Cm es 0 (Lj D j) t x=if e.o.dst=some t then e.val else Cm es 0 D t x:=by
 split
 ·rename_i hd
  obtain ⟨l,r,rfl,hl⟩:=d62 h
  rw [Kn]
  simp only [Cm]
  rw [Nat.zero_add,hl,if_pos ⟨by simp [Lj],hd⟩]
  have:Cm r (j+1) (Lj D j) t e.val=Cm r (j+1) (fun _=>false) t e.val:=by
   refine Ff fun i e' hi hd' => ?_
   have hi':(l++e::r)[j+1+i]?=some e':=by
    rw [List.getElem?_append_right (by omega),hl,show j+1+i-j=i+1 from by omega];exact hi
   have:D (j+1+i)=false:=by
    cases hD:D (j+1+i) with
    |false=>rfl
    |true=>exact absurd hd' (hno _ e' hD (by omega) hi' hd)
   simp only [Lj,if_neg (show j+1+i≠j from by omega),this]
  rw [this,Ug fun _ _=>rfl]
 ·rename_i hd
  refine Ff fun i e' hi hd' => ?_
  rw [Nat.zero_add]
  unfold Lj
  rw [if_neg]
  intro e1
  subst e1
  rw [h] at hi;cases hi
  exact hd hd'
theorem d63 {es:List Ez} {D:Nat->Bool} {j:Nat} {e:Ez} {H:Nat->j6} (h:es[j]?=some e) (hno:∀ i e' b,D i=true->j<i->es[i]?=some e'->b∈e.wr.map (·.1)->b ∉ e'.wr.map (·.1)) :
  Z8 es 0 (Lj D j) H=upds (Z8 es 0 D H) e.wr:=by
 funext b
 by_cases hb:b∈e.wr.map (·.1)
 ·obtain ⟨l,r,rfl,hl⟩:=d62 h
  rw [Ko]
  simp only [Z8]
  rw [Nat.zero_add,hl,if_pos (by simp [Lj])]
  have:Z8 r (j+1) (Lj D j) (upds (Z8 l 0 (Lj D j) H) e.wr) b=Z8 r (j+1) (fun _=>false) (upds (Z8 l 0 (Lj D j) H) e.wr) b:=by
   refine Fg rfl fun i e' hi hm => ?_
   have hi':(l++e::r)[j+1+i]?=some e':=by
    rw [List.getElem?_append_right (by omega),hl,show j+1+i-j=i+1 from by omega];exact hi
   have:D (j+1+i)=false:=by
    cases hD:D (j+1+i) with
    |false=>rfl
    |true=>exact absurd hm (hno _ e' b hD (by omega) hi' hb)
   simp only [Lj,if_neg (show j+1+i≠j from by omega),this]
  rw [this,Pu fun _ _=>rfl]
  obtain ⟨x,_,he⟩:=Km hb
  rw [he,he]
 ·rw [L7 fun z hz e'=>hb (List.mem_map.2 ⟨z,hz,e'⟩)]
  refine Fg rfl fun i e' hi hm => ?_
  rw [Nat.zero_add]
  unfold Lj
  rw [if_neg]
  intro e1
  subst e1
  rw [h] at hi;cases hi
  exact hb hm
section
variable (P:Program) (G:G1) (Fs:List (List AV×Act))
structure l86 (E0:y6) (Ho:Nat->j6) (w0:World) (es:List Ez) (base:Nat->AV) (Hb:Nat->j6) (n0 n:Nat) (D:Nat->Bool) (a:Act) (w:World) (E:y6) (acc:List (Nat×j6)):Prop where
 step:q9 E0 Ho w0 acc .any undef E w
 H:upds Ho acc=Z8 es 0 D Hb
 size:a.tmps.size=n
 tmps:∀ t,o0 E (Cm es 0 D t (base t)) (a.tmps.getD t undef)
 glob:GOK E G
 unborn:∀ b,E.pl b ≠ .unborn->b<n0\/∃ i e,D i=true/\es[i]?=some e/\b∈e.wr.map (·.1)
 acc:∀ x,x∈acc->x.1<n0\/∃ (i:Nat) (e:Ez),es[i]?=some e/\x.1∈e.wr.map (·.1)
 defers:OK3 w0.heap.size Fs E (Z8 es 0 D Hb) w a.defers
def Inv (E0:y6) (Ho:Nat->j6) (w0:World) (es:List Ez) (base:Nat->AV) (Hb:Nat->j6) (n0 n:Nat) (D:Nat->Bool) (a:Act) (w:World):Prop:=∃ E acc,l86 G Fs E0 Ho w0 es base Hb n0 n D a w E acc
structure Fh (E0:y6) (Ho:Nat->j6) (w0:World) (ts:List AV) (bs:List j6) (a:Act) (w:World) (E:y6) (acc:List (Nat×j6)):Prop where
 step:q9 E0 Ho w0 acc .any undef E w
 H:upds Ho acc=G2 bs
 size:a.tmps.size=ts.length
 tmps:∀ t,o0 E (ts.getD t .any) (a.tmps.getD t undef)
 glob:GOK E G
 unborn:∀ b,E.pl b ≠ .unborn->b<bs.length
 acc:∀ x,x∈acc->x.1<bs.length
 defers:OK3 w0.heap.size Fs E (G2 bs) w a.defers
def Bn (E0:y6) (Ho:Nat->j6) (w0:World) (ts:List AV) (bs:List j6) (a:Act) (w:World):Prop:=∃ E acc,Fh G Fs E0 Ho w0 ts bs a w E acc
end
section
variable {P:Program} {G:G1} {Fs:List (List AV×Act)} {ro:Option Nat} {nn:Nat} {E0:y6} {Ho:Nat->j6} {w0:World} {es:List Ez} {base:Nat->AV} {Hb:Nat->j6} {n0 n:Nat} {all:List Oper}
theorem d64 (E:y6) (v:Value):o0 E (Zy v) v:=by
 unfold Zy
 split<;>first|exact Xc E trivial|exact .any E _|exact Us E _
theorem f65 {E:y6} {f:Nat->AV} {a:Act} {x:Operand} (hG:GOK E G) (h:∀ t,x = .tmp t->o0 E (f t) (a.tmps.getD t undef)):o0 E (evF G f x) (a.eval x):=by
 cases x with
 |tmp t=>exact h t rfl
 |const v=>exact d64 E v
 |global g=>exact hG.1 g
 |func f=>exact .one (.fn f [] [] rfl fun i hi=>by cases hi) rfl
theorem a57 {a:Act} {d:Option Tmp} {v:Value} {n:Nat} (hs:a.tmps.size=n) (hd:∀ t,d=some t->t<n) (t:Nat):(a.put d v).tmps.getD t undef=if d=some t then v else a.tmps.getD t undef:=by
 cases d with
 |none=>rw [if_neg (by intro e;cases e)];rfl
 |some d =>
  have hlt:d<a.tmps.size:=by rw [hs];exact hd d rfl
  by_cases e:d=t
  ·subst e
   rw [if_pos rfl]
   simp [Act.put,hlt]
  ·rw [if_neg fun h=>e (Option.some.inj h)]
   simp [Act.put,Array.getElem?_setIfInBounds_ne e]
theorem a58 (a:Act) (d:Option Tmp) (v:Value):(a.put d v).tmps.size=a.tmps.size:=by
 cases d<;>simp [Act.put]
theorem Su (a:Act) (d:Option Tmp) (v:Value):(a.put d v).defers=a.defers:=by
 cases d<;>rfl
theorem b85 {o:Oper} {t:Nat} (h:Operand.tmp t∈o9 o.op):t∈Px all o:=by
 unfold Px
 refine List.mem_append.2 (.inl (List.mem_filterMap.2 ⟨_,h,rfl⟩))
theorem Uh {E:y6} {a:Act} {o:Oper} {f g:Nat->AV} {r:Bool} (h:Hg all o f r) (hfg:∀ t,t∈Px all o->g t=f t) (ht:∀ t,o0 E (g t) (a.tmps.getD t undef)):Region.wanted o (yielded all.toArray a.tmps)=r:=by
 unfold Hg at h
 unfold Region.wanted
 split at h
 ·rename_i hg;rw [hg,h]
 ·rename_i k want hg
  obtain ⟨d,h1,hcase⟩:=h
  rw [hg]
  simp only
  have hd:d∈Px all o:=by
   unfold Px
   refine List.mem_append.2 (.inr ?_)
   rw [hg];simp only;rw [h1];exact List.mem_singleton.2 rfl
  have hk:(all.toArray[k]?).bind (·.dst)=some d:=by
   rw [List.getElem?_toArray]
   rw [List.getD_eq_getElem?_getD] at h1
   cases hx:all[k]? with
   |none=>rw [hx] at h1;cases h1
   |some x=>rw [hx] at h1;exact h1
  rcases hcase with ⟨c,h2,h3⟩|⟨h2,h3⟩
  ·have hv:=h2 E _ (hfg d hd▸ht d)
   have hy:yielded all.toArray a.tmps k=some c:=by
    unfold yielded
    rw [hk]
    simp only [Option.bind_some]
    have hlt:a.tmps[d]?=some (.bool c):=by
     cases hx:a.tmps[d]? with
     |none=>simp [hx,undef] at hv
     |some u=>simp [hx] at hv;rw [hv]
    rw [hlt]
   rw [hy,h3]
   cases c<;>cases want<;>rfl
  ·have hv:=h2 E _ (hfg d hd▸ht d)
   have hy:yielded all.toArray a.tmps k=none:=by
    unfold yielded
    rw [hk]
    simp only [Option.bind_some]
    cases hx:a.tmps[d]? with
    |none=>rfl
    |some u =>
     have:u=undef:=by simpa [hx] using hv
     rw [this];rfl
   rw [hy,h3]
   cases want<;>rfl
theorem h41 {D:Nat->Bool} {a:Act} {w:World} {j:Nat} {e:Ez} {Q:Exit->Act->World->Prop} {K:Act->World->Prop} (hR0:Q9 E0 Ho w0) (hgood:i54 P G all es base Hb n0 j e) (hj:es[j]?=some e) (hall:all[j]?=some e.o) (hn:∀ t,e.o.dst=some t->t<n)
  (hrd:∀ t,t∈Px all e.o->Cm es 0 D t (base t)=Cm es 0 (Ki j) t (base t)) (hrb:∀ b,b∈e.foot.1->Z8 es 0 D Hb b=Z8 es 0 (Ki j) Hb b)
  (hdst:∀ i e' d,D i=true->j<i->es[i]?=some e'->e.o.dst=some d->e'.o.dst≠some d)
  (hwr:∀ i e' b,D i=true->j<i->es[i]?=some e'->b∈e.wr.map (·.1)->b ∉ e'.wr.map (·.1))
  (hDj:D j=false) (hI:Inv G Fs E0 Ho w0 es base Hb n0 n D a w) (hK:∀ a' w',Inv G Fs E0 Ho w0 es base Hb n0 n (Lj D j) a' w'->K a' w'):wpOpIn (Lt ro) nn P all.toArray Q j K a w:=by
 obtain ⟨E,acc,hI⟩:=hI
 have hw:=Uh (all:=all) (a:=a) hgood.1 hrd hI.tmps
 unfold wpOpIn
 rw [List.getElem?_toArray,hall]
 simp only
 have next:∀ (u:Value) (E':y6) (acc':List (Nat×j6)) (w':World),OK3 w0.heap.size Fs E' (upds (Z8 es 0 D Hb) e.wr) w' a.defers->q9 E0 Ho w0 acc' .any undef E' w'->upds Ho acc'=upds (Z8 es 0 D Hb) e.wr->Ext E E'->o0 E' e.val u->(∀ b,E.pl b = .unborn->E'.pl b ≠ .unborn->b∈e.wr.map (·.1))->(∀ x,x∈acc'->x∈acc\/x∈e.wr) ->
   K (a.put e.o.dst u) w':=by
  intro u E' acc' w' hok hst hH hE hv hb hacc
  refine hK _ _ ⟨E',acc',hst,by rw [d63 hj hwr,hH],by rw [a58,hI.size],fun t => ?_,hI.glob.ext hE,fun b hb' => ?_,fun x hx => ?_,by rw [Su,d63 hj hwr];exact hok⟩
  ·rw [h40 hj fun i e' h1 h2 h3 h4=>hdst i e' t h1 h2 h3 h4,a57 hI.size hn]
   split
   ·exact hv
   ·exact (hI.tmps t).ext hE
  ·by_cases hu:E.pl b = .unborn
   ·exact .inr ⟨j,e,by simp [Lj],hj,hb b hu hb'⟩
   ·rcases hI.unborn b hu with h|⟨i,e',h1,h2,h3⟩
    ·exact .inl h
    ·exact .inr ⟨i,e',by unfold Lj;split<;>first|rfl|exact h1,h2,h3⟩
  ·rcases hacc x hx with h|h
   ·exact hI.acc x h
   ·exact .inr ⟨j,e,hj,List.mem_map.2 ⟨x,h,rfl⟩⟩
 cases hrun:e.run with
 |none =>
  rw [hrun] at hw
  simp only [hw,Option.isSome_none,Bool.false_eq_true,if_false]
  have hew:e.wr=[]:=by unfold Ez.wr;rw [hrun]
  exact ⟨fun f _=>St ro f,next undef E acc w (by rw [hew];exact hI.defers) hI.step (by rw [hew];exact hI.H) (.refl E) (by unfold Ez.val;rw [hrun];exact c09 E) (fun b h1 h2=>absurd h1 h2) (fun x hx => .inl hx)⟩
 |some r =>
  obtain ⟨rd,wr,v⟩:=r
  rw [hrun] at hw
  simp only [hw,Option.isSome_some,if_true]
  have hew:e.wr=wr:=by unfold Ez.wr;rw [hrun]
  have hev:e.val=v:=by unfold Ez.val;rw [hrun]
  have hef:e.foot.1=rd:=by unfold Ez.foot;rw [hrun]
  obtain ⟨hdef,hnew,heff⟩:=hgood.2 rd wr v hrun
  refine h39 hdef (heff E _ a w hI.step.rel hI.glob (fun x hx=>f65 hI.glob fun t ht => ?_) (fun b hb => ?_) (fun x hx hd => ?_) _ _ fun u E' w' hst => ?_)
  ·subst ht
   rw [←hrd t (b85 hx)]
   exact hI.tmps t
  ·rw [hI.H];exact hrb b (by rw [hef];exact hb)
  ·obtain ⟨h1,h2⟩:=hnew x hx hd
   refine Classical.byContradiction fun hu => ?_
   rcases hI.unborn x.1 hu with h|⟨i,e',h3,h4,h5⟩
   ·omega
   ·rcases Nat.lt_trichotomy i j with hlt|heq|hgt
    ·exact h2 i e' hlt h4 h5
    ·subst heq;rw [hDj] at h3;cases h3
    ·exact hwr i e' x.1 h3 hgt h4 (by rw [hew];exact List.mem_map.2 ⟨x,hx,rfl⟩) h5
  ·have htr:=(hI.step.trans hR0 hst)
   refine next u E' (acc++wr) w' (by rw [hew,←hI.H];exact (hI.H▸hI.defers).step hst) (htr.free (.any _ _)) (by rw [Gk,hI.H,hew]) hst.ext (by rw [hev];exact hst.val) (fun b h1 h2=>by rw [hew];exact hst.born b h1 h2) fun x hx => ?_
   rw [hew];exact List.mem_append.1 hx
end
end Go.Eng

namespace Go.Eng
theorem d66 {l:List Nat} {b:Nat} (h:Dp l b=true):b∈l:=Uf.1 h
theorem Bq {l:List Nat} {b:Nat} (h:b∈l):Dp l b=true:=Uf.2 h
theorem Pw {l m:List Nat} (h:c26 l m=false):∀ x,x∈l->x ∉ m:=by
 induction l with
 |nil=>intro x hx;cases hx
 |cons y l ih =>
  unfold c26 at h
  split at h
  ·cases h
  ·rename_i hy
   intro x hx hm
   rcases List.mem_cons.1 hx with e|hx
   ·subst e;rw [Bq hm] at hy;cases hy
   ·exact ih h x hx hm
theorem a62 {d:Option Nat} {l:List Nat} (h:i60 d l=false):∀ t,d=some t->t ∉ l:=by
 intro t hd hm
 subst hd
 unfold i60 at h
 simp only at h
 rw [Bq hm] at h;cases h
theorem d67 {d e:Option Nat} (h:h59 d e=false):∀ t,d=some t->e≠some t:=by
 intro t hd he
 subst hd;subst he
 have:Nat.beq t t=true:=Nat.beq_refl t
 unfold h59 at h
 simp only at h
 rw [this] at h;cases h
theorem Kp {all:List Oper} {oi oj:Oper} {fi fj:Kj} (h:Ym all oi fi oj fj=false) :
  (∀ t,oi.dst=some t->t ∉ Px all oj)/\(∀ t,oj.dst=some t->t ∉ Px all oi)/\(∀ t,oi.dst=some t->oj.dst≠some t)/\(∀ b,b∈fi.2->b ∉ fj.1)/\(∀ b,b∈fi.2->b ∉ fj.2)/\(∀ b,b∈fi.1->b ∉ fj.2):=by
 unfold Ym at h
 split at h
 ·rename_i h1 h2 h3 h4 h5 h6
  exact ⟨a62 h1,a62 h2,d67 h3,Pw h4,Pw h5,Pw h6⟩
 ·cases h
theorem Yj {all:List Oper} {oj:Oper} {fj:Kj} {anc:List Nat}:∀ {i:Nat} {os:List Oper} {fs:List Kj},Kq all oj fj anc i os fs=true->∀ k o f,os[k]?=some o->fs[k]?=some f->i+k∈anc\/Ym all o f oj fj=false
 |_,[],_,_,k,o,f,h1,_=>by simp at h1
 |_,_::_,[],_,k,o,f,_,h2=>by simp at h2
 |i,oi::os,fi::fs,h,k,o,f,h1,h2=>by
  simp only [Kq] at h
  have hhd:(i∈anc\/Ym all oi fi oj fj=false)/\Kq all oj fj anc (i+1) os fs=true:=by
   split at h
   ·rename_i hm;exact ⟨.inl (d66 hm),h⟩
   ·split at h
    ·cases h
    ·rename_i hc;exact ⟨.inr hc,h⟩
  cases k with
  |zero=>simp at h1 h2;subst h1;subst h2;exact hhd.1
  |succ k =>
   have:=Yj hhd.2 k o f (by simpa using h1) (by simpa using h2)
   rw [show i+1+k=i+(k+1) from by omega] at this
   exact this
theorem Ui {j:Nat}:∀ {l:List Nat},Uq j l=true->∀ e,e∈l->e<j
 |[],_,e,h=>by cases h
 |x::r,h,e,he=>by
  simp only [Uq] at h
  split at h
  ·rename_i hx
   rcases List.mem_cons.1 he with e1|he
   ·subst e1;rw [Nat.blt_eq] at hx;exact hx
   ·exact Ui h e he
  ·cases h
theorem a63 {all:List Oper} {fs:List Kj} {an:List (List Nat)}:∀ {j:Nat} {l:List Oper},d00 all fs an j l=true->∀ k o,l[k]?=some o->(∀ e,e∈X2 o->e<j+k)/\Kq all o (fs.getD (j+k) ([],[])) (an.getD (j+k) []) 0 (all.take (j+k)) fs=true
 |_,[],_,k,o,h=>by simp at h
 |j,oj::r,h,k,o,hk=>by
  simp only [d00] at h
  split at h
  ·rename_i h1 h2
   cases k with
   |zero=>simp at hk;subst hk;exact ⟨fun e he=>by have:=Ui h1 e he;omega,h2⟩
   |succ k =>
    have:=a63 h k o (by simpa using hk)
    rw [show j+1+k=j+(k+1) from by omega] at this
    exact this
  ·cases h
theorem Ws {i:Nat}:∀ {l a:List Nat},i∈d79 l a->i∈a\/i∈l
 |[],a,h => .inl h
 |x::r,a,h=>by
  unfold d79 at h
  split at h
  ·exact (Ws h).imp id (List.mem_cons_of_mem _)
  ·rcases Ws h with h|h
   ·rcases List.mem_cons.1 h with rfl|h
    ·exact .inr (.head _)
    ·exact .inl h
   ·exact .inr (.tail _ h)
theorem Wt {acc:List (List Nat)} {i:Nat}:∀ {es a:List Nat},i∈a81 acc es a->i∈a\/i∈es.flatMap fun e=>e::acc.getD e []
 |[],a,h => .inl h
 |e::r,a,h=>by
  unfold a81 at h
  rw [List.flatMap_cons]
  split at h
  ·exact (Wt h).imp id fun h=>List.mem_append_right _ h
  ·rcases Wt h with h|h
   ·rcases Ws h with h|h
    ·rcases List.mem_cons.1 h with rfl|h
     ·exact .inr (List.mem_append_left _ (.head _))
     ·exact .inl h
    ·exact .inr (List.mem_append_left _ (.tail _ h))
   ·exact .inr (List.mem_append_right _ h)
theorem d68:∀ {l:List Oper} {acc:List (List Nat)},(∀ k,k<acc.length->(Up l acc).getD k []=acc.getD k [])/\∀ k o,l[k]?=some o->∃ acc':List (List Nat),(Up l acc).getD (acc.length+k) []=a81 acc' (X2 o) []/\acc'.length=acc.length+k/\∀ i,i<acc'.length->acc'.getD i []=(Up l acc).getD i []
 |[],acc=>⟨fun _ _=>rfl,fun k o h=>by simp at h⟩
 |o::r,acc=>by
  obtain ⟨h1,h2⟩:=d68 (l:=r) (acc:=acc++[a81 acc (X2 o) []])
  have hkeep:∀ k,k<acc.length->(Up (o::r) acc).getD k []=acc.getD k []:=by
   intro k hk
   show (Up r _).getD k []=_
   rw [h1 k (by simp;omega)]
   simp [List.getD,List.getElem?_append_left hk]
  refine ⟨hkeep,fun k o' hk => ?_⟩
  cases k with
  |zero =>
   simp at hk;subst hk
   refine ⟨acc,?_,rfl,fun i hi=>(hkeep i hi).symm⟩
   show (Up r _).getD _ []=_
   rw [Nat.add_zero,h1 acc.length (by simp)]
   simp [List.getD]
  |succ k =>
   obtain ⟨acc',g1,g2,g3⟩:=h2 k o' (by simpa using hk)
   refine ⟨acc',?_,by rw [g2];simp;omega,g3⟩
   show (Up r _).getD _ []=_
   rw [←g1]
   congr 1
   simp;omega
theorem a64 {all:List Oper} {D:Nat->Bool} (hbelow:∀ j o,all[j]?=some o->∀ e,e∈X2 o->e<j) (hclosed:∀ j o,all[j]?=some o->D j=true->∀ e,e∈X2 o->D e=true) :
  ∀ j o,all[j]?=some o->(∀ e,e∈X2 o->D e=true)->∀ i,i∈(Up all []).getD j []->D i=true:=by
 intro j
 induction j using Nat.strongRecOn with
 |_ j ih =>
  intro o hj hD i hi
  obtain ⟨acc',h1,h2,h3⟩:=(d68 (l:=all) (acc:=[])).2 j o hj
  simp only [List.length_nil,Nat.zero_add] at h1 h2
  rw [h1] at hi
  have hi:=(Wt hi).resolve_left (by intro h;cases h)
  obtain ⟨e,he,hi⟩:=List.mem_flatMap.1 hi
  have hlt:=hbelow j o hj e he
  rcases List.mem_cons.1 hi with e1|hi
  ·subst e1;exact hD _ he
  ·rw [h3 e (by omega)] at hi
   have hlen:e<all.length:=by
    have:=(List.getElem?_eq_some_iff.1 hj).1;omega
   have hee:all[e]?=some all[e]:=List.getElem?_eq_getElem hlen
   exact ih e hlt _ hee (fun e' he'=>hclosed e _ hee (hD e he) e' he') i hi
theorem g50 {l:List Nat} {p q:Nat->Bool} (h:∀ x,q x=true->p x=true) {y:Nat} (hy:y∈l) (hp:p y=true) (hq:q y=false):l.countP q<l.countP p:=by
 induction l with
 |nil=>cases hy
 |cons x l ih =>
  have hle:l.countP q≤l.countP p:=List.countP_mono_left fun x _ hx=>h x hx
  rw [List.countP_cons,List.countP_cons]
  rcases List.mem_cons.1 hy with e|hy
  ·subst e;rw [hp,hq];simp;omega
  ·have:=ih hy
   cases h1:q x with
   |true=>rw [h x h1];simp;omega
   |false =>
    simp only [Bool.false_eq_true,if_false]
    split<;>omega
section
variable {P:Program} {G:G1} {Fs:List (List AV×Act)} {ro:Option Nat} {nn:Nat} {E0:y6} {Ho:Nat->j6} {w0:World} {es:List Ez} {base:Nat->AV} {Hb:Nat->j6} {n0 n:Nat} {all:List Oper}
theorem h42 {o:Oper} {e:Edge} (he:e∈o.after) (hb:Region.binds .any e=true):e.on∈X2 o:=by
 unfold X2
 refine List.mem_filterMap.2 ⟨e,by simpa using he,?_⟩
 rw [hb]
theorem h43 {o:Oper} {i:Nat} (h:i∈X2 o):∃ e,e∈o.after/\Region.binds .any e=true/\e.on=i:=by
 unfold X2 at h
 obtain ⟨e,he,h⟩:=List.mem_filterMap.1 h
 split at h
 ·rename_i hb;cases h;exact ⟨e,by simpa using he,hb,rfl⟩
 ·cases h
theorem i55 {Q:Exit->Act->World->Prop} (hR0:Q9 E0 Ho w0) (hgood:∀ j e,es[j]?=some e->i54 P G all es base Hb n0 j e) (hall:es.map (·.o)=all) (hn:∀ e,e∈es->∀ t,e.o.dst=some t->t<n)
  (hdraw:f76 all (es.map (·.foot))=true)
  (hQ:∀ D a w,(∀ j,j<es.length->D j=true)->Inv G Fs E0 Ho w0 es base Hb n0 n D a w->Q .normal a w) :
  ∀ fuel (listed:Array Bool) a w,listed.size=all.length->(List.range all.length).countP (fun i => !listed.getD i false)≤fuel ->
   (∀ j o,all[j]?=some o->listed.getD j false=true->∀ e,e∈X2 o->listed.getD e false=true) ->
   Inv G Fs E0 Ho w0 es base Hb n0 n (fun i=>listed.getD i false) a w->wpAnyIn (Lt ro) nn P .any all.toArray Q fuel listed a w:=by
 have hlen:es.length=all.length:=by rw [←hall,List.length_map]
 have hgo:∀ k o,all[k]?=some o->(∀ e,e∈X2 o->e<k)/\Kq all o ((es.map (·.foot)).getD k ([],[])) ((Up all []).getD k []) 0 (all.take k) (es.map (·.foot))=true:=by
  intro k o hk
  have:=a63 hdraw k o hk
  rw [Nat.zero_add] at this
  exact this
 have hbelow:=fun j o hj=>(hgo j o hj).1
 have hoe:∀ (j:Nat) (e:Ez),es[j]?=some e->all[j]?=some e.o:=fun j e h=>by rw [←hall,List.getElem?_map,h];rfl
 have hclash:∀ (i j:Nat) (ei ej:Ez),es[i]?=some ei->es[j]?=some ej->i<j->i∈(Up all []).getD j []\/Ym all ei.o ei.foot ej.o ej.foot=false:=by
  intro i j ei ej hi hj hij
  have h1:=(hgo j ej.o (hoe j ej hj)).2
  have h2:=Yj h1 i ei.o ei.foot (by rw [List.getElem?_take_of_lt hij];exact hoe i ei hi) (by rw [List.getElem?_map,hi];rfl)
  rw [Nat.zero_add] at h2
  rw [show (es.map (·.foot)).getD j ([],[])=ej.foot from by simp [List.getD,List.getElem?_map,hj]] at h2
  exact h2
 have hwrf:∀ (e:Ez) b,b∈e.wr.map (·.1)->b∈e.foot.2:=by
  intro e b hb
  unfold Ez.wr at hb
  unfold Ez.foot
  cases hr:e.run with
  |none=>rw [hr] at hb;cases hb
  |some x=>rw [hr] at hb;obtain ⟨x1,x2,x3⟩:=x;exact hb
 have ready_all:∀ (listed:Array Bool),listed.size=all.length->Region.ready .any all.toArray listed=[]->∀ j,j<all.length->listed.getD j false=true:=by
  intro listed hls hr j
  induction j using Nat.strongRecOn with
  |_ j ih =>
   intro hj
   cases hl:listed.getD j false with
   |true=>rfl
   |false =>
    have:j∈Region.ready .any all.toArray listed:=by
     rw [mem_ready]
     refine ⟨?_,all[j],by simp [hj],fun e he hb => ?_⟩
     ·have hjs:j<listed.size:=by omega
      simp [hjs] at hl ⊢;exact hl
     ·have:=h42 he hb
      have hlt:=hbelow j all[j] (List.getElem?_eq_getElem hj) _ this
      exact ih e.on hlt (by omega)
    rw [hr] at this;cases this
 intro fuel
 induction fuel with
 |zero =>
  intro listed a w hls hc hcl hI
  have hall':∀ j,j<all.length->listed.getD j false=true:=by
   intro j hj
   cases hl:listed.getD j false with
   |true=>rfl
   |false =>
    have:0<(List.range all.length).countP (fun i => !listed.getD i false):=List.countP_pos_iff.2 ⟨j,List.mem_range.2 hj,by rw [hl];rfl⟩
    omega
  refine ⟨?_,hQ _ a w (fun j hj=>hall' j (by omega)) hI⟩
  refine List.eq_nil_iff_forall_not_mem.2 fun j hj => ?_
  rw [mem_ready] at hj
  obtain ⟨h1,o,h2,_⟩:=hj
  have hjl:j<all.length:=by
   have:=(Array.getElem?_eq_some_iff.1 h2).1;simpa using this
  have:=hall' j hjl
  have hjs:j<listed.size:=by omega
  simp [hjs] at h1 this
  rw [h1] at this;cases this
 |succ fuel ih =>
  intro listed a w hls hc hcl hI
  refine ⟨fun hr=>hQ _ a w (fun j hj=>ready_all listed hls hr j (by omega)) hI,fun j hj => ?_⟩
  rw [mem_ready] at hj
  obtain ⟨hun,o,ho,hedge⟩:=hj
  have hjl:j<all.length:=by
   have:=(Array.getElem?_eq_some_iff.1 ho).1;simpa using this
  have hjs:j<listed.size:=by omega
  have hje:es[j]?=some (es[j]'(by omega)):=List.getElem?_eq_getElem _
  generalize (es[j]'(by omega))=e at hje
  have hao:=hoe j e hje
  have hoo:o=e.o:=by
   rw [List.getElem?_toArray,hao] at ho
   exact (Option.some.inj ho).symm
  subst hoo
  have hDj:listed.getD j false=false:=by simp [hjs] at hun ⊢;exact hun
  have hed:∀ i,i∈X2 e.o->listed.getD i false=true:=by
   intro i hi
   obtain ⟨ed,h1,h2,h3⟩:=h43 hi
   rw [←h3];exact hedge ed h1 h2
  have hanc:∀ i,i∈(Up all []).getD j []->listed.getD i false=true:=a64 (D:=fun i=>listed.getD i false) hbelow hcl j e.o hao hed
  have hancD:∀ (i:Nat) (ei:Ez),es[i]?=some ei->listed.getD i false=true->∀ k,k∈(Up all []).getD i []->listed.getD k false=true :=
   fun i ei hi hD=>a64 (D:=fun i=>listed.getD i false) hbelow hcl i ei.o (hoe i ei hi) (hcl i ei.o (hoe i ei hi) hD)
  -- what is listed behind j does not clash with it;what is not listed ahead of it neither
  have hbehind:∀ (i:Nat) (ei:Ez),es[i]?=some ei->listed.getD i false=true->j<i->Ym all e.o e.foot ei.o ei.foot=false:=by
   intro i ei hi hD hji
   rcases hclash j i e ei hje hi hji with h|h
   ·have:=hancD i ei hi hD j h
    rw [hDj] at this;cases this
   ·exact h
  have hahead:∀ (i:Nat) (ei:Ez),es[i]?=some ei->listed.getD i false=false->i<j->Ym all ei.o ei.foot e.o e.foot=false:=by
   intro i ei hi hD hij
   rcases hclash i j ei e hi hje hij with h|h
   ·have:=hanc i h
    rw [hD] at this;cases this
   ·exact h
  have hagree:∀ (i:Nat) (ei:Ez),es[i]?=some ei->((∃ t,ei.o.dst=some t/\t∈Px all e.o)\/∃ b,b∈ei.wr.map (·.1)/\b∈e.foot.1)->listed.getD i false=Ki j i:=by
   intro i ei hi hh
   rcases Nat.lt_trichotomy i j with hlt|heq|hgt
   ·rw [show Ki j i=true from by simp [Ki,hlt]]
    cases hD:listed.getD i false with
    |true=>rfl
    |false =>
     have hc:=Kp (hahead i ei hi hD hlt)
     rcases hh with ⟨t,h1,h2⟩|⟨b,h1,h2⟩
     ·exact absurd h2 (hc.1 t h1)
     ·exact absurd h2 (hc.2.2.2.1 b (hwrf ei b h1))
   ·subst heq
    rw [hDj];simp [Ki]
   ·rw [show Ki j i=false from by simp [Ki];omega]
    cases hD:listed.getD i false with
    |false=>rfl
    |true =>
     have hc:=Kp (hbehind i ei hi hD hgt)
     rcases hh with ⟨t,h1,h2⟩|⟨b,h1,h2⟩
     ·exact absurd h2 (hc.2.1 t h1)
     ·exact absurd (hwrf ei b h1) (hc.2.2.2.2.2 b h2)
  refine h41 hR0 (hgood j e hje) hje hao (hn e (List.mem_of_getElem? hje)) (fun t ht => ?_) (fun b hb => ?_) (fun i ei d hD hji hi h1 h2 => ?_) (fun i ei b hD hji hi h1 h2 => ?_) hDj hI fun a' w' hI' => ?_
  ·refine Ff fun i ei hi hd => ?_
   rw [Nat.zero_add]
   exact hagree i ei hi (.inl ⟨t,hd,ht⟩)
  ·refine Fg rfl fun i ei hi hm => ?_
   rw [Nat.zero_add]
   exact hagree i ei hi (.inr ⟨b,hm,hb⟩)
  ·exact (Kp (hbehind i ei hi hD hji)).2.2.1 d h1 h2
  ·exact (Kp (hbehind i ei hi hD hji)).2.2.2.2.1 b (hwrf e b h1) (hwrf ei b h2)
  ·have hset:∀ i,(listed.setIfInBounds j true).getD i false=Lj (fun i=>listed.getD i false) j i:=by
    intro i
    unfold Lj
    split
    ·rename_i e1;subst e1;simp [hjs]
    ·rename_i e1;rw [getD_set_ne false (Ne.symm e1)]
   refine ih (listed.setIfInBounds j true) a' w' (by simp [hls]) ?_ (fun i oi hi hD => ?_) ?_
   ·have:(List.range all.length).countP (fun i => !(listed.setIfInBounds j true).getD i false)<(List.range all.length).countP (fun i => !listed.getD i false):=by
     refine g50 (y:=j) (fun x hx => ?_) (List.mem_range.2 hjl) (by rw [hDj];rfl) (by rw [hset];simp [Lj])
     rw [hset] at hx
     unfold Lj at hx
     split at hx
     ·cases hx
     ·exact hx
    omega
   ·intro e' he'
    rw [hset] at hD ⊢
    unfold Lj at hD ⊢
    split
    ·rfl
    ·split at hD
     ·rename_i e1;subst e1
      rw [hao] at hi;cases hi
      exact hed e' he'
     ·exact hcl i oi hi hD e' he'
   ·rw [show (fun i=>(listed.setIfInBounds j true).getD i false)=Lj (fun i=>listed.getD i false) j from funext hset]
    exact hI'
end
end Go.Eng

namespace Go.Eng
structure Mp (A B:y6) (σ:List (Nat×Nat)) (p:Nat->Bool):Prop where
 pl:∀ b,p b=true->B.pl (q8 σ b)=A.pl b
 lay:∀ b,p b=true->B.lay (q8 σ b)=A.lay b
 top:∀ b,p b=true->B.top (q8 σ b)=A.top b
theorem Lz {p:Nat->Bool}:∀ {l:List AV},d80 p l=true->∀ x,x∈l->x.inB1 p=true
 |[],_,x,h=>by cases h
 |y::l,h,x,hx=>by
  simp only [d80] at h
  split at h
  ·rename_i hy
   rcases List.mem_cons.1 hx with e|hx
   ·subst e;exact hy
   ·exact Lz h x hx
  ·cases h
theorem Uj (σ:List (Nat×Nat)):(x:AV)->(x.ren σ).lay=x.lay
 |.any=>rfl
 |.dv _=>rfl
 |.cons x xs=>by show t9.pair (x.ren σ).lay (xs.ren σ).lay=_;rw [Uj σ x,Uj σ xs];rfl
 |.ptr _ _ _=>rfl
 |.rp _=>rfl
 |.sl _ _ _ _ _=>rfl
 |.fn _ _=>rfl
 |.tup _=>rfl
 |.mp _=>rfl
 |.stamp _=>rfl
 |.yld _=>rfl
 |.vs _ _ _=>rfl
 |.slc _ _ _ _=>rfl
 |.emp=>rfl
 |.nq _ _=>rfl
 |.ifc _ _=>rfl
theorem Rf (σ:List (Nat×Nat)) (x:AV):(x.ren σ).isAgg=x.isAgg:=by unfold AV.isAgg;rw [Uj]
theorem f11 (σ:List (Nat×Nat)) (x:AV):(x.ren1 σ).isAgg=x.isAgg:=by cases x<;>rfl
section
variable {A B:y6} {σ:List (Nat×Nat)} {p:Nat->Bool}
theorem c93 (h:Mp A B σ p) {b:Nat} {q:List Nat} {l:t9} {cs:List Value} (hb:p b=true):r6 A (.ptr b q l) cs↔r6 B (.ptr (q8 σ b) q l) cs:=by
 constructor
 ·intro hr
  cases hr with
  |ptr b p l r o off hp hl=>exact .ptr _ q l r o off (by rw [h.pl b hb];exact hp) (by rw [h.lay b hb];exact hl)
 ·intro hr
  cases hr with
  |ptr _ p l r o off hp hl=>exact .ptr _ q l r o off (by rw [←h.pl b hb];exact hp) (by rw [←h.lay b hb];exact hl)
theorem f66 (h:Mp A B σ p) {b:Nat} {q:List Nat} {l:t9} {i n:Nat} {cs:List Value} (hb:p b=true):r6 A (.sl b q l i n) cs↔r6 B (.sl (q8 σ b) q l i n) cs:=by
 constructor
 ·intro hr
  cases hr with
  |sl b p l off len r o so m c hp hl hn hc ht=>exact .sl _ q l i _ r o so m c (by rw [h.pl b hb];exact hp) (by rw [h.lay b hb];exact hl) hn hc (by rw [h.top b hb];exact ht)
  |sl0 b p l off a so n hp hl hn=>exact .sl0 _ q l i a so _ (by rw [h.pl b hb];exact hp) (by rw [h.lay b hb];exact hl) hn
 ·intro hr
  cases hr with
  |sl _ p l off len r o so m c hp hl hn hc ht=>exact .sl _ q l i _ r o so m c (by rw [←h.pl b hb];exact hp) (by rw [←h.lay b hb];exact hl) hn hc (by rw [←h.top b hb];exact ht)
  |sl0 _ p l off a so n hp hl hn=>exact .sl0 _ q l i a so _ (by rw [←h.pl b hb];exact hp) (by rw [←h.lay b hb];exact hl) hn
theorem f67 (h:Mp A B σ p) {b i n:Nat} {cs:List Value} (hb:p b=true):r6 A (.vs b i n) cs↔r6 B (.vs (q8 σ b) i n) cs:=by
 constructor
 ·intro hr
  cases hr with
  |vs b off len r o n c hp hl hn hc=>exact .vs _ _ _ r o n c (by rw [h.pl b hb];exact hp) (by rw [h.lay b hb];exact hl) hn hc
 ·intro hr
  cases hr with
  |vs _ off len r o n c hp hl hn hc=>exact .vs _ _ _ r o n c (by rw [←h.pl b hb];exact hp) (by rw [←h.lay b hb];exact hl) hn hc
theorem c94 (h:Mp A B σ p) {b i n c:Nat} {cs:List Value} (hb:p b=true):r6 A (.slc b i n c) cs↔r6 B (.slc (q8 σ b) i n c) cs:=by
 constructor
 ·intro hr
  cases hr with
  |slc b off len c r o n hp hl hn hc ht=>exact .slc _ _ _ _ r o n (by rw [h.pl b hb];exact hp) (by rw [h.lay b hb];exact hl) hn hc (by rw [h.top b hb];exact ht)
 ·intro hr
  cases hr with
  |slc _ off len c r o n hp hl hn hc ht=>exact .slc _ _ _ _ r o n (by rw [←h.pl b hb];exact hp) (by rw [←h.lay b hb];exact hl) hn hc (by rw [←h.top b hb];exact ht)
theorem c95 {A B:y6} {cs:List Value} (h:r6 A .emp cs):r6 B .emp cs:=by
 cases h with
 |emp a=>exact .emp a
theorem j21 {A B:y6} {g:Bool} {n:Nat} {cs:List Value} (h:r6 A (.nq g n) cs):r6 B (.nq g n) cs:=by
 cases h with
 |nq g n b h=>exact .nq g n b h
theorem f68 (h:Mp A B σ p) {b:Nat} {cs:List Value} (hb:p b=true):r6 A (.mp b) cs↔r6 B (.mp (q8 σ b)) cs:=by
 constructor
 ·intro hr
  cases hr with
  |mp b r hp hl=>exact .mp _ r (by rw [h.pl b hb];exact hp) (by rw [h.lay b hb];exact hl)
 ·intro hr
  cases hr with
  |mp _ r hp hl=>exact .mp _ r (by rw [←h.pl b hb];exact hp) (by rw [←h.lay b hb];exact hl)
theorem d69 (h:Mp A B σ p) {b:Nat} {cs:List Value} (hb:p b=true):r6 A (.stamp b) cs↔r6 B (.stamp (q8 σ b)) cs:=by
 constructor
 ·intro hr
  cases hr with
  |stamp b n hp hl=>exact .stamp _ n (by rw [h.pl b hb];exact hp) (by rw [h.top b hb];exact hl)
 ·intro hr
  cases hr with
  |stamp _ n hp hl=>exact .stamp _ n (by rw [←h.pl b hb];exact hp) (by rw [←h.top b hb];exact hl)
theorem h44 (h:Mp A B σ p) {b:Nat} {cs:List Value} (hb:p b=true):r6 A (.yld b) cs↔r6 B (.yld (q8 σ b)) cs:=by
 constructor
 ·intro hr
  cases hr with
  |yld b r hp=>exact .yld _ r (by rw [h.pl b hb];exact hp)
 ·intro hr
  cases hr with
  |yld _ r hp=>exact .yld _ r (by rw [←h.pl b hb];exact hp)
theorem f12 (h:Mp A B σ p) (hrd:∀ r j v,A.rd r j=some v->B.rd r j=some v) {x:AV} {cs:List Value} (hx:x.inB1 p=true) (hr:r6 A x cs):r6 B (x.ren1 σ) cs:=by
 cases x with
 |ptr b q l=>exact (c93 h hx).1 hr
 |sl b q l i n=>exact (f66 h hx).1 hr
 |mp b=>exact (f68 h hx).1 hr
 |vs b i n=>exact (f67 h hx).1 hr
 |slc b i n c=>exact (c94 h hx).1 hr
 |emp=>exact c95 hr
 |dv d=>exact .dv (hr.dv_inv.mono hrd)
 |rp d =>
  cases hr with
  |rp r o hd hs=>exact .rp r o (hd.mono hrd) fun j hj=>hrd _ _ _ (hs j hj)
 |any=>cases hr
 |_=>cases hx
theorem a65 (h:Mp A B σ p) (hrd:∀ r j v,B.rd r j=some v->A.rd r j=some v) {x:AV} {cs:List Value} (hx:x.inB1 p=true) (hr:r6 B (x.ren1 σ) cs):r6 A x cs:=by
 cases x with
 |ptr b q l=>exact (c93 h hx).2 hr
 |sl b q l i n=>exact (f66 h hx).2 hr
 |mp b=>exact (f68 h hx).2 hr
 |vs b i n=>exact (f67 h hx).2 hr
 |slc b i n c=>exact (c94 h hx).2 hr
 |emp=>exact c95 hr
 |dv d=>exact .dv (hr.dv_inv.mono hrd)
 |rp d =>
  have hr:r6 B (.rp d) cs:=hr
  cases hr with
  |rp r o hd hs=>exact .rp r o (hd.mono hrd) fun j hj=>hrd _ _ _ (hs j hj)
 |any =>
  have hr:r6 B .any cs:=hr
  cases hr
 |_=>cases hx
theorem a00 {xs:List AV} {css:List (List Value)}:((xs.map (AV.ren1 σ)).zip css).map (fun x=>q5 x.1.isAgg x.2)=(xs.zip css).map fun x=>q5 x.1.isAgg x.2:=by
 induction xs generalizing css with
 |nil=>rfl
 |cons x xs ih =>
  cases css with
  |nil=>rfl
  |cons cs css=>simp only [List.map_cons,List.zip_cons_cons,ih,f11]
theorem r6.to (h:Mp A B σ p) (hrd:∀ r j v,A.rd r j=some v->B.rd r j=some v):(x:AV)->∀ {cs:List Value},x.inB p=true->r6 A x cs->r6 B (x.ren σ) cs
 |.any,cs,_,hr=>by cases hr
 |.dv d,cs,_,hr => .dv (hr.dv_inv.mono hrd)
 |.cons x xs,cs,hx,hr=>by
  simp only [AV.inB] at hx
  split at hx
  ·rename_i h1
   cases hr with
   |cons g g'=>exact .cons (r6.to h hrd x h1 g) (r6.to h hrd xs hx g')
  ·cases hx
 |.ptr b q l,cs,hx,hr=>(c93 h hx).1 hr
 |.rp d,cs,_,hr=>f12 (x := .rp d) h hrd rfl hr
 |.sl b q l i n,cs,hx,hr=>(f66 h hx).1 hr
 |.mp b,cs,hx,hr=>(f68 h hx).1 hr
 |.stamp b,cs,hx,hr=>(d69 h hx).1 hr
 |.yld b,cs,hx,hr=>(h44 h hx).1 hr
 |.vs b i n,cs,hx,hr=>(f67 h hx).1 hr
 |.slc b i n c,cs,hx,hr=>(c94 h hx).1 hr
 |.emp,cs,_,hr=>c95 hr
 |.nq _ _,cs,_,hr=>j21 hr
 |.fn f caps,cs,hx,hr=>by
  cases hr with
  |fn f caps css hlen g =>
   have:=r6.fn (E:=B) f (caps.map (AV.ren1 σ)) css (by simp [hlen]) fun i hi=>by
    have hi':i<caps.length:=by simpa using hi
    rw [List.getElem_map]
    exact f12 h hrd (Lz hx _ (List.getElem_mem hi')) (g i hi')
   rw [a00] at this
   exact this
 |.tup xs,cs,hx,hr=>by
  cases hr with
  |tup xs css hlen g =>
   have:=r6.tup (E:=B) (xs.map (AV.ren1 σ)) css (by simp [hlen]) fun i hi=>by
    have hi':i<xs.length:=by simpa using hi
    rw [List.getElem_map]
    exact f12 h hrd (Lz hx _ (List.getElem_mem hi')) (g i hi')
   rw [a00] at this
   exact this
 |.ifc t x,cs,hx,hr=>by
  cases hr with
  |ifc t g =>
   have:=r6.ifc (E:=B) t (r6.to h hrd x hx g)
   rw [Rf] at this
   exact this
theorem r6.back (h:Mp A B σ p) (hrd:∀ r j v,B.rd r j=some v->A.rd r j=some v):(x:AV)->∀ {cs:List Value},x.inB p=true->r6 B (x.ren σ) cs->r6 A x cs
 |.any,cs,_,hr=>by
  have hr:r6 B .any cs:=hr
  cases hr
 |.dv d,cs,_,hr => .dv (hr.dv_inv.mono hrd)
 |.cons x xs,cs,hx,hr=>by
  simp only [AV.inB] at hx
  split at hx
  ·rename_i h1
   have hr:r6 B (.cons (x.ren σ) (xs.ren σ)) cs:=hr
   cases hr with
   |cons g g'=>exact .cons (r6.back h hrd x h1 g) (r6.back h hrd xs hx g')
  ·cases hx
 |.ptr b q l,cs,hx,hr=>(c93 h hx).2 hr
 |.rp d,cs,_,hr=>a65 (x := .rp d) h hrd rfl hr
 |.sl b q l i n,cs,hx,hr=>(f66 h hx).2 hr
 |.mp b,cs,hx,hr=>(f68 h hx).2 hr
 |.stamp b,cs,hx,hr=>(d69 h hx).2 hr
 |.yld b,cs,hx,hr=>(h44 h hx).2 hr
 |.vs b i n,cs,hx,hr=>(f67 h hx).2 hr
 |.slc b i n c,cs,hx,hr=>(c94 h hx).2 hr
 |.emp,cs,_,hr=>c95 hr
 |.nq _ _,cs,_,hr=>j21 hr
 |.fn f caps,cs,hx,hr=>by
  have hr:r6 B (.fn f (caps.map (AV.ren1 σ))) cs:=hr
  cases hr with
  |fn _ _ css hlen g =>
   have hlen':css.length=caps.length:=by simpa using hlen
   have:=r6.fn (E:=A) f caps css hlen' fun i hi=>by
    have:=g i (by simpa using hi)
    rw [List.getElem_map] at this
    exact a65 h hrd (Lz hx _ (List.getElem_mem hi)) this
   rw [a00]
   exact this
 |.tup xs,cs,hx,hr=>by
  have hr:r6 B (.tup (xs.map (AV.ren1 σ))) cs:=hr
  cases hr with
  |tup _ css hlen g =>
   have hlen':css.length=xs.length:=by simpa using hlen
   have:=r6.tup (E:=A) xs css hlen' fun i hi=>by
    have:=g i (by simpa using hi)
    rw [List.getElem_map] at this
    exact a65 h hrd (Lz hx _ (List.getElem_mem hi)) this
   rw [a00]
   exact this
 |.ifc t x,cs,hx,hr=>by
  have hr:r6 B (.ifc t (x.ren σ)) cs:=hr
  cases hr with
  |ifc t g =>
   have:=r6.ifc (E:=A) t (r6.back h hrd x hx g)
   rw [Rf]
   exact this
theorem i56 {x:AV} (h:x.ren σ = .any):x = .any:=by cases x<;>first|rfl|cases h
theorem o0.to (h:Mp A B σ p) (hrd:∀ r j v,A.rd r j=some v->B.rd r j=some v) {x:AV} {v:Value} (hx:x.inB p=true) (hr:o0 A x v):o0 B (x.ren σ) v:=by
 rcases hr with e|⟨cs,hr,e⟩
 ·subst e;exact .any B v
 ·exact .inr ⟨cs,r6.to h hrd x hx hr,by rw [Rf];exact e⟩
theorem o0.back (h:Mp A B σ p) (hrd:∀ r j v,B.rd r j=some v->A.rd r j=some v) {x:AV} {v:Value} (hx:x.inB p=true) (hr:o0 B (x.ren σ) v):o0 A x v:=by
 rcases hr with e|⟨cs,hr,e⟩
 ·rw [i56 e];exact .any A v
 ·exact .inr ⟨cs,r6.back h hrd x hx hr,by rw [Rf] at e;exact e⟩
theorem Fa.to {b c:Nat} {w:World} {r o s:Nat} (h:B.top c=A.top b):Fa B c w r o s↔Fa A b w r o s:=by unfold Fa;rw [h]
theorem y9.to (h:Mp A B σ p) (hrd:∀ r j v,A.rd r j=some v->B.rd r j=some v) {b:Nat} {w:World} {x:j6} (hb:p b=true) (hx:x.inB p=true) (hr:y9 A b w x):y9 B (q8 σ b) w (x.ren σ):=by
 cases x with
 |dead=>trivial
 |var y =>
  obtain ⟨r,o,cs,h1,h2,h3,h4,h5,h6⟩:=hr
  exact ⟨r,o,cs,by rw [h.pl b hb];exact h1,by rw [h.lay b hb,Uj];exact h2,r6.to h hrd y hx h3,h4,by rw [h.top b hb];exact h5,(Fa.to (h.top b hb)).2 h6⟩
 |rowI k l =>
  obtain ⟨h1,h2|⟨r,o,h2,h3,h4⟩⟩:=hr
  ·exact ⟨by rw [h.lay b hb];exact h1,.inl ⟨by rw [h.pl b hb];exact h2.1,h2.2⟩⟩
  ·exact ⟨by rw [h.lay b hb];exact h1,.inr ⟨r,o,by rw [h.pl b hb];exact h2,h3,(Fa.to (h.top b hb)).2 h4⟩⟩
 |row la n f =>
  obtain ⟨h1,h2|⟨r,o,css,h2,h3,h4,h5,h6⟩⟩:=hr
  ·exact ⟨by rw [h.lay b hb];exact h1,.inl ⟨by rw [h.pl b hb];exact h2.1,h2.2⟩⟩
  ·exact ⟨by rw [h.lay b hb];exact h1,.inr ⟨r,o,css,by rw [h.pl b hb];exact h2,fun i hi=>(h3 i hi).mono hrd,h4,h5,(Fa.to (h.top b hb)).2 h6⟩⟩
 |mp f0 es =>
  obtain ⟨r,entries,clock,h1,h2,h3,h4,h5⟩:=hr
  exact ⟨r,entries,clock,by rw [h.pl b hb];exact h1,by rw [h.lay b hb];exact h2,by rw [h.top b hb];exact h3,h4,h5.1.mono hrd,h5.2⟩
 |mpn f0 es kd c =>
  have hc:p c=true:=hx
  obtain ⟨h0,r,entries,clock,h1,h2,h3,h4,h5,h6,h7,j,v,m,h8,h9,h10⟩:=hr
  exact ⟨by rw [h.pl c hc];exact h0,r,entries,clock,by rw [h.pl b hb];exact h1,by rw [h.lay b hb];exact h2,by rw [h.top b hb];exact h3,h4,h5.mono hrd,h6,h7,j,v,m,h8,h9,by rw [h.top c hc];exact h10⟩
 |lp L s =>
  obtain ⟨r,h1,h2,h3,h4⟩:=hr
  exact ⟨r,by rw [h.pl b hb];exact h1,by rw [h.lay b hb];exact h2,by rw [h.top b hb];exact h3,h4⟩
 |frzI k l =>
  obtain ⟨h1,h2|⟨r,o,h2,h3⟩⟩:=hr
  ·exact ⟨by rw [h.lay b hb];exact h1,.inl ⟨by rw [h.pl b hb];exact h2.1,h2.2⟩⟩
  ·exact ⟨by rw [h.lay b hb];exact h1,.inr ⟨r,o,by rw [h.pl b hb];exact h2,fun j hj=>hrd _ _ _ (h3 j hj)⟩⟩
 |frz la n f =>
  obtain ⟨h1,h2|⟨r,o,css,h2,h3,h4,h5⟩⟩:=hr
  ·exact ⟨by rw [h.lay b hb];exact h1,.inl ⟨by rw [h.pl b hb];exact h2.1,h2.2⟩⟩
  ·exact ⟨by rw [h.lay b hb];exact h1,.inr ⟨r,o,css,by rw [h.pl b hb];exact h2,fun i hi=>(h3 i hi).mono hrd,h4,fun i hi j hj=>hrd _ _ _ (h5 i hi j hj)⟩⟩
theorem y9.back (h:Mp A B σ p) (hrd:∀ r j v,B.rd r j=some v->A.rd r j=some v) {b:Nat} {w:World} {x:j6} (hb:p b=true) (hx:x.inB p=true) (hr:y9 B (q8 σ b) w (x.ren σ)):y9 A b w x:=by
 cases x with
 |dead=>trivial
 |var y =>
  obtain ⟨r,o,cs,h1,h2,h3,h4,h5,h6⟩:=hr
  exact ⟨r,o,cs,by rw [←h.pl b hb];exact h1,by rw [←h.lay b hb,h2,Uj],r6.back h hrd y hx h3,h4,by rw [←h.top b hb];exact h5,(Fa.to (h.top b hb)).1 h6⟩
 |rowI k l =>
  obtain ⟨h1,h2|⟨r,o,h2,h3,h4⟩⟩:=hr
  ·exact ⟨by rw [←h.lay b hb];exact h1,.inl ⟨by rw [←h.pl b hb];exact h2.1,h2.2⟩⟩
  ·exact ⟨by rw [←h.lay b hb];exact h1,.inr ⟨r,o,by rw [←h.pl b hb];exact h2,h3,(Fa.to (h.top b hb)).1 h4⟩⟩
 |row la n f =>
  obtain ⟨h1,h2|⟨r,o,css,h2,h3,h4,h5,h6⟩⟩:=hr
  ·exact ⟨by rw [←h.lay b hb];exact h1,.inl ⟨by rw [←h.pl b hb];exact h2.1,h2.2⟩⟩
  ·exact ⟨by rw [←h.lay b hb];exact h1,.inr ⟨r,o,css,by rw [←h.pl b hb];exact h2,fun i hi=>(h3 i hi).mono hrd,h4,h5,(Fa.to (h.top b hb)).1 h6⟩⟩
 |mp f0 es =>
  obtain ⟨r,entries,clock,h1,h2,h3,h4,h5⟩:=hr
  exact ⟨r,entries,clock,by rw [←h.pl b hb];exact h1,by rw [←h.lay b hb];exact h2,by rw [←h.top b hb];exact h3,h4,h5.1.mono hrd,h5.2⟩
 |mpn f0 es kd c =>
  have hc:p c=true:=hx
  obtain ⟨h0,r,entries,clock,h1,h2,h3,h4,h5,h6,h7,j,v,m,h8,h9,h10⟩:=hr
  exact ⟨by rw [←h.pl c hc];exact h0,r,entries,clock,by rw [←h.pl b hb];exact h1,by rw [←h.lay b hb];exact h2,by rw [←h.top b hb];exact h3,h4,h5.mono hrd,h6,h7,j,v,m,h8,h9,by rw [←h.top c hc];exact h10⟩
 |lp L s =>
  obtain ⟨r,h1,h2,h3,h4⟩:=hr
  exact ⟨r,by rw [←h.pl b hb];exact h1,by rw [←h.lay b hb];exact h2,by rw [←h.top b hb];exact h3,h4⟩
 |frzI k l =>
  obtain ⟨h1,h2|⟨r,o,h2,h3⟩⟩:=hr
  ·exact ⟨by rw [←h.lay b hb];exact h1,.inl ⟨by rw [←h.pl b hb];exact h2.1,h2.2⟩⟩
  ·exact ⟨by rw [←h.lay b hb];exact h1,.inr ⟨r,o,by rw [←h.pl b hb];exact h2,fun j hj=>hrd _ _ _ (h3 j hj)⟩⟩
 |frz la n f =>
  obtain ⟨h1,h2|⟨r,o,css,h2,h3,h4,h5⟩⟩:=hr
  ·exact ⟨by rw [←h.lay b hb];exact h1,.inl ⟨by rw [←h.pl b hb];exact h2.1,h2.2⟩⟩
  ·exact ⟨by rw [←h.lay b hb];exact h1,.inr ⟨r,o,css,by rw [←h.pl b hb];exact h2,fun i hi=>(h3 i hi).mono hrd,h4,fun i hi j hj=>hrd _ _ _ (h5 i hi j hj)⟩⟩
theorem Fw (x:j6):(x.ren σ).own=x.own:=by cases x<;>rfl
theorem d70 {x:j6} (h:x.ren σ = .dead):x = .dead:=by cases x<;>first|rfl|cases h
end
def y6.pull (E:y6) (σ:List (Nat×Nat)) (n:Nat):y6 :=
 {pl:=fun b=>if b<n then E.pl (q8 σ b) else .unborn,lay:=fun b=>E.lay (q8 σ b),top:=fun b=>E.top (q8 σ b),rd:=E.rd,fx:=E.fx }
theorem c12 {n b:Nat}:Yn n b=true↔b<n:=by unfold Yn;rw [Nat.blt_eq]
theorem y6.pull_mp (E:y6) (σ:List (Nat×Nat)) (n:Nat):Mp (E.pull σ n) E σ (Yn n) :=
 ⟨fun b hb=>by show _=if b<n then _ else _;rw [if_pos (c12.1 hb)],fun _ _=>rfl,fun _ _=>rfl⟩
theorem Q9.pull {E:y6} {H H':Nat->j6} {w:World} (hR:Q9 E H w) {σ:List (Nat×Nat)} {n:Nat} (hH:∀ b,b<n->H' b = .dead\/H (q8 σ b)=(H' b).ren σ) (hn:∀ b,n≤b->H' b = .dead)
  (hin:∀ b,b<n->(H' b).inB (Yn n)=true) (hinj:∀ b b',b<n->b'<n->q8 σ b=q8 σ b'->b=b'):Q9 (E.pull σ n) H' w:=by
 have hlt:∀ b,H' b ≠ .dead->b<n:=fun b hb=>Nat.lt_of_not_le fun h=>hb (hn b h)
 have hpl:∀ b,b<n->(E.pull σ n).pl b=E.pl (q8 σ b):=fun b hb=>if_pos hb
 have hown:∀ b,(H' b).own=true->b<n/\(H (q8 σ b)).own=true:=by
  intro b hb
  have h1:=hlt b (U1 hb)
  rcases hH b h1 with h|h
  ·exact absurd h (U1 hb)
  ·exact ⟨h1,by rw [h,Fw];exact hb⟩
 have hat:∀ b r o,(E.pull σ n).pl b = .at r o->b<n/\E.pl (q8 σ b) = .at r o:=by
  intro b r o h
  by_cases hb:b<n
  ·exact ⟨hb,(hpl b hb)▸h⟩
  ·have:(if b<n then E.pl (q8 σ b) else a59.unborn) = .at r o:=h
   rw [if_neg hb] at this;cases this
 refine ⟨hR.rd,fun b => ?_,fun b b' r o r' o' hbb h1 h2 h3 h4 => ?_,fun b r o j v h1 h2 h3 => ?_,fun b r o h=>hR.old _ r o (hat b r o h).2,fun b h => ?_,fun b r o h=>hR.fit _ r o (hat b r o h).2,hR.fx,fun b r o ob h1 h2 h3=>hR.fxa _ r o ob (hown b h1).2 (hat b r o h2).2 h3⟩
 ·by_cases hb:b<n
  ·rcases hH b hb with h|h
   ·rw [h];trivial
   ·exact y9.back (E.pull_mp σ n) (fun _ _ _ h=>h) (c12.2 hb) (hin b hb) (h▸hR.blk (q8 σ b))
  ·rw [hn b (Nat.le_of_not_lt hb)];trivial
 ·have g1:=hown b h1
  have g2:=hown b' h2
  exact hR.sep _ _ r o r' o' (fun e=>hbb (hinj b b' g1.1 g2.1 e)) g1.2 g2.2 (hat b r o h3).2 (hat b' r' o' h4).2
 ·exact hR.apart _ r o j v (hown b h1).2 (hat b r o h2).2 h3
 ·by_cases hb:b<n
  ·rw [hpl b hb] at h
   rcases hH b hb with h'|h'
   ·exact h'
   ·rw [hR.born _ h] at h'
    exact d70 h'.symm
  ·exact hn b (Nat.le_of_not_lt hb)
end Go.Eng
