/-
  A CALCULATOR OVER THE MODEL: part 4 of 4. It holds for every program; its own names only.
-/
import Derived.Test.YtmgnanajcnnlgaaDoorEngC
import Derived.ChangeArms
import Derived.OpenShut
import Derived.Carry
import Derived.ChangeSame
import Derived.Deep.DeepHandedRow
import Derived.LaidLaws
import Derived.JoinedOf
set_option linter.unusedVariables false
set_option linter.unusedSimpArgs false
namespace Go.Eng
def resOne (T : Tr) (ts : List AV) (bs : List Blk) : ResultVar -> Option AV
 | .tmp t => some (norm (ts.getD t .any))
 | .cell a ty => match ts.getD a .any with
  | .ptr b p l => (match hOf bs b, fits T ty l with
   | .var x, true => some (norm (x.at p))
   | _, _ => none)
  | _ => none
def resList (T : Tr) (ts : List AV) (bs : List Blk) : List ResultVar -> Option (List AV)
 | [] => some []
 | v :: r => match resOne T ts bs v, resList T ts bs r with
  | some x, some xs => some (x :: xs)
  | _, _ => none
def allSolid : List AV -> Bool
 | [] => true
 | x :: r => match solid x with | true => allSolid r | false => false
def endK (T : Tr) (fn : Func) (R : AV -> List Blk -> Prop) (ts : List AV) (bs : List Blk) : Prop :=
 match resList T ts bs fn.results.toList with
 | some [x] => R x bs
 | some xs => (match allSolid xs with | true => R (.tup xs) bs | false => False)
 | none => False
def retK (T : Tr) (fn : Func) (R : AV -> List Blk -> Prop) : Post
 | .normal, ts, bs => ∃ (n : Nat) (N : List (Nat × Blk)) (M : List (Nat × List Nat × Blk)), padN n bs fun bs => nilsK N ts bs fun ts bs => nilsB M bs fun bs => endK T fn R ts bs
 | .ret, ts, bs => ∃ (n : Nat) (N : List (Nat × Blk)) (M : List (Nat × List Nat × Blk)), padN n bs fun bs => nilsK N ts bs fun ts bs => nilsB M bs fun bs => endK T fn R ts bs
 | _, _, _ => False
def leaves (bs : List Blk) : List Nat -> List Blk -> Prop
 | [], [] => True
 | j :: js, x :: xs => bs.getD j .dead = x /\ leaves bs js xs
 | _, _ => False
def renAll (τ : List (Nat × Nat)) : List Nat -> List Blk -> List (Nat × Blk)
 | j :: js, x :: xs => (look τ j, x.ren τ) :: renAll τ js xs
 | _, _ => []
def liveAll : List Blk -> Bool
 | [] => true
 | x :: r => match isDead x with | true => false | false => liveAll r
def inAll (p : Nat -> Bool) : List AV -> Bool
 | [] => true
 | x :: r => match x.inB p with | true => inAll p r | false => false
def inAllB (p : Nat -> Bool) : List Blk -> Bool
 | [] => true
 | x :: r => match x.inB p with | true => inAllB p r | false => false
def fromK (k : Nat) : List Nat -> Bool
 | [] => true
 | j :: r => match Nat.ble k j with | true => fromK k r | false => false
def bodyB (as0 : List AV) (bs0 : List Blk) (news : List Nat) (r : AV) (ws : List Blk) : Bool :=
 match liveAll bs0, inAll (below bs0.length) as0, inAllB (below bs0.length) bs0, fromK bs0.length news, r.inB (memN (List.range bs0.length ++ news)), inAllB (memN (List.range bs0.length ++ news)) ws with
 | true, true, true, true, true, true => true
 | _, _, _, _, _, _ => false
theorem liveAll_get : ∀ {l : List Blk}, liveAll l = true -> ∀ b, b < l.length -> hOf l b ≠ .dead
 | [], _, b, h => by cases h
 | x :: r, h, b, hb => by
  simp only [liveAll] at h
  split at h
  ·cases h
  ·rename_i hx
   cases b with
   | zero => intro e; rw [show hOf (x :: r) 0 = x from rfl] at e; rw [e] at hx; cases hx
   | succ b => exact liveAll_get h b (by simpa using hb)
theorem inAll_get {p : Nat -> Bool} : ∀ {l : List AV}, inAll p l = true -> ∀ (i : Nat) (h : i < l.length), l[i].inB p = true
 | [], _, i, h => by cases h
 | x :: r, h, i, hi => by
  simp only [inAll] at h
  split at h
  ·rename_i hx
   cases i with
   | zero => exact hx
   | succ i => exact inAll_get h i (by simpa using hi)
  ·cases h
theorem inAllB_get {p : Nat -> Bool} : ∀ {l : List Blk}, inAllB p l = true -> ∀ b, b < l.length -> (hOf l b).inB p = true
 | [], _, b, h => by cases h
 | x :: r, h, b, hb => by
  simp only [inAllB] at h
  split at h
  ·rename_i hx
   cases b with
   | zero => exact hx
   | succ b => exact inAllB_get h b (by simpa using hb)
  ·cases h
theorem inAllB_mem {p : Nat -> Bool} : ∀ {l : List Blk}, inAllB p l = true -> ∀ x, x ∈ l -> x.inB p = true
 | [], _, x, h => by cases h
 | y :: r, h, x, hx => by
  simp only [inAllB] at h
  split at h
  ·rename_i hy
   rcases List.mem_cons.1 hx with e | hx
   ·subst e; exact hy
   ·exact inAllB_mem h x hx
  ·cases h
theorem fromK_mem {k : Nat} : ∀ {l : List Nat}, fromK k l = true -> ∀ j, j ∈ l -> k ≤ j
 | [], _, j, h => by cases h
 | i :: r, h, j, hj => by
  simp only [fromK] at h
  split at h
  ·rename_i hi
   rcases List.mem_cons.1 hj with e | hj
   ·subst e; exact Nat.le_of_ble_eq_true hi
   ·exact fromK_mem h j hj
  ·cases h
theorem leaves_ren {bs : List Blk} {τ : List (Nat × Nat)} : ∀ {js : List Nat} {xs : List Blk}, leaves bs js xs -> js.map (fun j => (look τ j, (hOf bs j).ren τ)) = renAll τ js xs /\ ∀ j, j ∈ js -> hOf bs j ∈ xs
 | [], [], _ => ⟨rfl, fun j h => by cases h⟩
 | [], _ :: _, h => h.elim
 | _ :: _, [], h => h.elim
 | j :: js, x :: xs, h => by
  obtain ⟨h1, h2⟩ := h
  obtain ⟨g1, g2⟩ := leaves_ren (τ := τ) h2
  have h1 : hOf bs j = x := h1
  refine ⟨?_, fun i hi => ?_⟩
  ·show (look τ j, (hOf bs j).ren τ) :: js.map _ = (look τ j, x.ren τ) :: renAll τ js xs
   rw [g1, h1]
  ·rcases List.mem_cons.1 hi with e | hi
   ·subst e; rw [h1]; exact List.mem_cons_self ..
   ·exact List.mem_cons_of_mem _ (g2 i hi)
section
variable {P : Program} {G : Glob} {T : Tr}
def resRun (tmps : Array Value) : ResultVar -> Sem Value
 | .tmp t => pure (tmps.getD t undef)
 | .cell c t => do loadVar t (← asAddr (tmps.getD c undef))
theorem res_one (hT : TabOK P T) {ts : List AV} {bs : List Blk} {v : ResultVar} {x : AV} (h : resOne T ts bs v = some x) {E : Env} {a : Act} {w : World} (hR : Rel E (hOf bs) w) (ht : ∀ t, RepV E (ts.getD t .any) (a.tmps.getD t undef)) :
  ∃ u, (resRun a.tmps v).run P w = .ok u w /\ RepV E x u := by
 cases v with
 | tmp t => cases h; exact ⟨_, rfl, norm_rep (ht t)⟩
 | cell c ty =>
  unfold resOne at h
  simp only at h
  split at h
  ·rename_i b p l hc
   split at h
   ·rename_i y hb hf
    cases h
    obtain ⟨r, j, off, e, hp, hl⟩ := rep_ptr (hc ▸ ht c)
    have hbr := hR.blk b
    rw [hb] at hbr
    obtain ⟨r', o', cs, hp', hlay, hy, hrs, _, _⟩ := hbr
    rw [hp] at hp'
    injection hp' with h1 h2
    subst h1; subst h2
    rw [hlay] at hl
    obtain ⟨hya, hyl⟩ := hy.at hl
    have hlen : ((cs.drop off).take l.size).length = l.size := by rw [hya.len, hyl]
    refine ⟨ofCells l.isAgg ((cs.drop off).take l.size), ?_, norm_rep (.of hya ?_)⟩
    ·simp only [resRun, e, asAddr, Sem.run_bind, Sem.run_pure, Result.andThen_ok]
     exact run_loadVar hT hf hrs.sub hlen
    ·unfold AV.isAgg; rw [hyl]
   ·cases h
  ·cases h
theorem res_all (hT : TabOK P T) {ts : List AV} {bs : List Blk} {E : Env} {a : Act} {w : World} (hR : Rel E (hOf bs) w) (ht : ∀ t, RepV E (ts.getD t .any) (a.tmps.getD t undef)) : ∀ {l : List ResultVar} {xs : List AV}, resList T ts bs l = some xs ->
  ∃ us : List Value, (l.mapM (resRun a.tmps)).run P w = .ok us w /\ us.length = xs.length /\ ∀ (i : Nat) (h : i < xs.length) (h' : i < us.length), RepV E xs[i] us[i]
 | [], xs, h => by cases h; exact ⟨[], by simp, rfl, fun i h => by cases h⟩
 | v :: r, xs, h => by
  simp only [resList] at h
  split at h
  ·rename_i x ys hx hy
   cases h
   obtain ⟨u, h1, h2⟩ := res_one hT hx hR ht
   obtain ⟨us, h3, h4, h5⟩ := res_all hT hR ht hy
   refine ⟨u :: us, ?_, by simp [h4], fun i hi hi' => ?_⟩
   ·rw [List.mapM_cons]
    simp only [Sem.run_bind, h1, Result.andThen_ok, h3, Sem.run_pure]
   ·cases i with
    | zero => exact h2
    | succ i => exact h5 i (by simpa using hi) (by simpa using hi')
  ·cases h
theorem allSolid_mem : ∀ {l : List AV}, allSolid l = true -> ∀ x, x ∈ l -> solid x = true
 | [], _, x, h => by cases h
 | y :: l, h, x, hx => by
  simp only [allSolid] at h
  split at h
  ·rename_i hy
   rcases List.mem_cons.1 hx with e | hx
   ·subst e; exact hy
   ·exact allSolid_mem h x hx
  ·cases h
theorem end_run (hT : TabOK P T) {fn : Func} {R : AV -> List Blk -> Prop} {ts : List AV} {bs : List Blk} (h : endK T fn R ts bs) {E : Env} {a : Act} {w : World} (hR : Rel E (hOf bs) w) (ht : ∀ t, RepV E (ts.getD t .any) (a.tmps.getD t undef)) :
  ∃ r v, R r bs /\ (results fn a.tmps).run P w = .ok v w /\ RepV E r v := by
 have hrun : ∀ xs, resList T ts bs fn.results.toList = some xs -> ∃ us : List Value, (results fn a.tmps).run P w = .ok (if h : us.toArray.size = 1 then us.toArray[0] else .tuple us.toArray) w /\ us.length = xs.length /\ ∀ (i : Nat) (h : i < xs.length) (h' : i < us.length), RepV E xs[i] us[i] := by
  intro xs hxs
  obtain ⟨us, h1, h2, h3⟩ := res_all hT hR ht hxs
  refine ⟨us, ?_, h2, h3⟩
  have e : results fn a.tmps = (do
    let vs ← fn.results.mapM (resRun a.tmps)
    pure (if h : vs.size = 1 then vs[0] else .tuple vs)) := by
   have e1 : resRun a.tmps = fun (v : ResultVar) => (match v with
     | .tmp t => (pure (a.tmps.getD t undef) : Sem Value)
     | .cell c t => do loadVar t (← asAddr (a.tmps.getD c undef))) := by
    funext v; cases v <;> rfl
   rw [e1]; rfl
  rw [e, ← Array.toArray_toList (xs := fn.results), List.mapM_toArray]
  simp only [Sem.run_bind, Sem.run_map, h1]
  rfl
 unfold endK at h
 split at h
 ·rename_i x hx
  obtain ⟨us, h1, h2, h3⟩ := hrun _ hx
  match us, h2 with
  | [u], _ =>
   refine ⟨_, _, h, h1, ?_⟩
   exact h3 0 (by simp) (by simp)
 ·rename_i xs hne hx
  obtain ⟨us, h1, h2, h3⟩ := hrun _ hx
  split at h
  ·rename_i hs
   refine ⟨_, _, h, h1, ?_⟩
   have hl : ¬ us.toArray.size = 1 := by
    intro hl
    have : xs.length = 1 := by rw [← h2]; simpa using hl
    match xs, this with
    | [x], _ => exact hne x rfl
   rw [dif_neg hl]
   have hrep : ∀ i (hi : i < xs.length), ∃ cs, RepA E xs[i] cs /\ us[i]'(h2 ▸ hi) = ofCells (xs[i]).isAgg cs := by
    intro i hi
    have hsol : solid xs[i] = true := allSolid_mem hs _ (List.getElem_mem hi)
    obtain ⟨cs, h4, _, h5⟩ := (h3 i hi (h2 ▸ hi)).inv hsol
    exact ⟨cs, h4, h5⟩
   let css : List (List Value) := (List.range xs.length).map fun i => if hi : i < xs.length then Classical.choose (hrep i hi) else []
   have hcl : css.length = xs.length := by simp [css]
   have hci : ∀ i (hi : i < xs.length), css[i]'(by simp [css, hi]) = Classical.choose (hrep i hi) := by
    intro i hi; simp [css, hi]
   have := RepA.tup (E := E) xs css hcl fun i hi => by
    have h5 := (Classical.choose_spec (hrep i hi)).1
    rw [hci i hi]; exact h5
   refine .one (v := _) (?_ : RepA E (.tup xs) [_]) rfl
   have e2 : us = (xs.zip css).map fun x => ofCells x.1.isAgg x.2 := by
    apply List.ext_getElem
    ·simp [hcl, h2]
    ·intro i hi hi2
     have hi' : i < xs.length := by rw [← h2]; exact hi
     have h5 := (Classical.choose_spec (hrep i hi')).2
     rw [h5, List.getElem_map, List.getElem_zip]
     simp only [hci i hi']
   rw [e2]
   exact this
  ·exact h.elim
 ·exact h.elim
theorem Fn.body (hT : TabOK P T) (hm : P.follows .mixedOrders = true) (hG0 : GPlain G) {f : FuncId} {fn : Func} {c : Code} (hf : P.funcs[f]? = some fn) (hname : (fn.name == "runtime.NumGoroutine") = false) (hb : fn.body = some c)
  (τ : List (Nat × Nat)) (as0 : List AV) (bs0 : List Blk) (news : List Nat) (r0 : AV) (ws : List Blk) (hchk : bodyB as0 bs0 news r0 ws = true)
  (hL : ∀ i j, i ∈ List.range bs0.length ++ news -> j ∈ List.range bs0.length ++ news -> look τ i = look τ j -> i = j)
  (dp : Nat) (h : vc P G T (itN P G T dp) bs0.length c (retK T fn fun r bs => r = r0 /\ leaves bs (List.range bs0.length ++ news) ws) (as0 ++ List.replicate (fn.ntmps - as0.length) .any) bs0) :
  Fn P G f (as0.map (AV.ren τ)) (renAll τ (List.range bs0.length) bs0) (r0.ren τ) (renAll τ (List.range bs0.length ++ news) ws) := by
 unfold bodyB at hchk
 split at hchk
 case h_2 => cases hchk
 rename_i hlive hargs hblks hnews hrin hwin
 have hinj : ∀ i j, i < bs0.length -> j < bs0.length -> look τ i = look τ j -> i = j := fun i j hi hj => hL i j (List.mem_append.2 (.inl (List.mem_range.2 hi))) (List.mem_append.2 (.inl (List.mem_range.2 hj)))
 have hnj : ∀ i j, i ∈ news -> j ∈ news -> look τ i = look τ j -> i = j := fun i j hi hj => hL i j (List.mem_append.2 (.inr hi)) (List.mem_append.2 (.inr hj))
 refine ⟨fun args w => ?_, fun E H w vs hR hG hS hwr hvs => ?_⟩
 ·have hname' : fn.name ≠ "runtime.NumGoroutine" := by simpa using hname
  simp [callFunc, hf, hname', hb]
 ·have hSl : leaves bs0 (List.range bs0.length) bs0 := by
   have : ∀ (n : Nat) (l : List Blk), n + l.length = bs0.length -> (∀ i, i < l.length -> bs0.getD (n + i) .dead = l.getD i .dead) -> leaves bs0 (List.range' n l.length) l := by
    intro n l
    induction l generalizing n with
    | nil => intro _ _; trivial
    | cons x l ih =>
     intro h1 h2
     refine ⟨h2 0 (by simp), ih (n + 1) (by simp at h1; omega) fun i hi => ?_⟩
     have := h2 (i + 1) (by simpa using hi)
     rw [show n + (i + 1) = n + 1 + i from by omega] at this
     simpa [List.getD] using this
   have := this 0 bs0 (by simp) (fun i hi => by rw [Nat.zero_add])
   rwa [← List.range_eq_range'] at this
  have hH : ∀ b, b < bs0.length -> H (look τ b) = (hOf bs0 b).ren τ := by
   intro b hb
   have := (leaves_ren (τ := τ) hSl).1
   refine hS (look τ b, (hOf bs0 b).ren τ) ?_
   rw [← this]
   exact List.mem_map.2 ⟨b, List.mem_range.2 hb, rfl⟩
  have hR0 : Rel (E.pull τ bs0.length) (hOf bs0) w := hR.pull (fun b hb => .inr (hH b hb)) (fun b hb => hOf_off hb) (fun b hb => inAllB_get hblks b hb) (fun b b' hb hb' e => hinj b b' hb hb' e)
  have hE0 : ∀ b, (E.pull τ bs0.length).pl b ≠ .unborn -> b < bs0.length := fun b hb => Nat.lt_of_not_le fun hle => hb (if_neg (Nat.not_lt.2 hle))
  have hvl : vs.length = as0.length := by have := hvs.1; simpa using this
  have hsim : Sim G [] (E.pull τ bs0.length) (hOf bs0) w (as0 ++ List.replicate (fn.ntmps - as0.length) .any) bs0 { tmps := vs.toArray ++ Array.replicate (fn.ntmps - vs.toArray.size) undef, defers := [] } w := by
   refine ⟨E.pull τ bs0.length, [], Step.pure hR0 (.any _ _), rfl, by simp [hvl], fun t => ?_, GOK.pull (E := E) (E' := E.pull τ bs0.length) hG0 (fun _ _ _ h => h) rfl hG, hE0, (fun x hx => by cases hx), ⟨.nil, (fun d hd => by cases hd), (fun x hx => by cases hx), (fun x hx => by cases hx), (fun x hx => by cases hx)⟩⟩
   by_cases ht : t < as0.length
   ·have h1 : (as0 ++ List.replicate (fn.ntmps - as0.length) AV.any).getD t .any = as0[t] := by
     simp [List.getD, List.getElem?_append_left ht, List.getElem?_eq_getElem ht]
    have h2 : (vs.toArray ++ Array.replicate (fn.ntmps - vs.toArray.size) undef).getD t undef = vs[t]'(by omega) := by
     have : t < vs.length := by omega
     simp [Array.getElem?_append, this]
    rw [h1, h2]
    have h3 := hvs.2 t (by simpa using ht) (by omega)
    rw [List.getElem_map] at h3
    exact RepV.back (E.pull_mp τ bs0.length) (fun _ _ _ h => h) (inAll_get hargs t ht) h3
   ·have h1 : (as0 ++ List.replicate (fn.ntmps - as0.length) AV.any).getD t .any = .any := by
     rw [List.getD_eq_getElem?_getD, List.getElem?_append_right (by omega), List.getElem?_replicate]
     split <;> rfl
    rw [h1]; exact .any _ _
  have hwp := vcB_sound (nn := 0) hT hm hR0 hG0 hE0 (itN_ok hT hm hR0 hG0 hE0 dp) (Fs1 := []) noY_ok c none false none [] _ _ _ _ _ (fun h => by cases h) ⟨[], rfl⟩ h hsim
  refine calls_body (K := retK T fn fun r bs => r = r0 /\ leaves bs (List.range bs0.length ++ news) ws) hR0 hf hb hwp ?_ (fun _ _ _ h => h) (fun _ _ _ h => h)
  intro e ts bs tmps w' E1 acc he hk hs
  obtain ⟨n0, N, M, hk⟩ : ∃ (n : Nat) (N : List (Nat × Blk)) (M : List (Nat × List Nat × Blk)), padN n bs fun bs => nilsK N ts bs fun ts bs => nilsB M bs fun bs => endK T fn (fun r bs => r = r0 /\ leaves bs (List.range bs0.length ++ news) ws) ts bs := by rcases he with rfl | rfl <;> exact hk
  obtain ⟨bs, hk, hs⟩ := padN_sim hk ⟨E1, acc, hs⟩
  obtain ⟨ts, bs, hk, hs, _⟩ := nilsK_sound hR0 hk hs
  obtain ⟨bs, hend, hs, _⟩ := nilsB_sound hR0 hk hs
  obtain ⟨E1, acc, hs⟩ := hs
  obtain ⟨r, v, ⟨hr0, hlv⟩, hrun, hrep⟩ := end_run (P := P) hT (w := w') hend (hs.H ▸ hs.step.rel) hs.tmps
  subst hr0
  obtain ⟨g1, g2⟩ := leaves_ren (τ := τ) hlv
  have := Step.push (news := news) hR rfl hH (fun b hb => liveAll_get hlive b hb) hinj hnj (fromK_mem hnews) (fun j hj => ?_) hs.step hs.H hrep hrin (fun j hj => inAllB_mem hwin _ (g2 j hj))
  ·rw [g1] at this
   exact ⟨v, hrun, v, _, rfl, this⟩
  ·have hjm : (look τ j, (hOf bs j).ren τ) ∈ renAll τ (List.range bs0.length ++ news) ws := by
    rw [← g1]; exact List.mem_map.2 ⟨j, List.mem_append.2 (.inr hj), rfl⟩
   rcases hwr _ hjm with hm | hm
   ·rw [← (leaves_ren (τ := τ) hSl).1, List.map_map] at hm
    obtain ⟨b, hb, e⟩ := List.mem_map.1 hm
    have hbj : b = j := hL b j (List.mem_append.2 (.inl hb)) (List.mem_append.2 (.inr hj)) e
    have := fromK_mem hnews j hj
    have := List.mem_range.1 hb
    omega
   ·exact hm
end
end Go.Eng

namespace Go.Eng
section
variable (P : Program) (G : Glob) (T : Tr)
noncomputable def opsR (O : List (List AV)) (Y : RoundT) (all : List Oper) (l : List Oper) : List AV -> List Blk -> List Foot -> (List AV -> List Blk -> List Foot -> Prop) -> Prop :=
 List.rec (motive := fun _ => List AV -> List Blk -> List Foot -> (List AV -> List Blk -> List Foot -> Prop) -> Prop)
  (fun ts bs fs K => K ts bs fs)
  (fun o _ ih ts bs fs K => guardK all o ts fun b ts => (match b with
  | true => (match yldOf (ev G ts) o.op with
   | some (yb, args) => Y yb (ts :: O) args (fun b bs' => putK ts o.dst (.dv (.sc (.bool b))) fun ts' => ih ts' bs' (([], []) :: fs) K) bs
   | none => opK P G T bs.length o.op (ev G ts) (hOf bs) fun rd wr v => hintW (hintOp o.op) wr fun wr => hintV (hintOp o.op) v fun v => shutK (shutOp o.op) (hOf bs) rd wr v fun rd wr v => (match newOK bs wr with
    | true => putK ts o.dst v fun ts' => wrK bs wr fun bs' => ih ts' bs' ((rd, wr.map Prod.fst) :: fs) K
    | false => False))
  | false => putK ts o.dst (.tup []) fun ts' => ih ts' bs (([], []) :: fs) K)) l
theorem opsR_eq (O : List (List AV)) (Y : RoundT) (all : List Oper) : ∀ (l : List Oper), opsR P G T O Y all l = opsK P G T O Y all l
 | [] => rfl
 | o :: r => by
  funext ts bs fs K
  have ih := opsR_eq O Y all r
  show (guardK all o ts fun b ts => (match b with
  | true => (match yldOf (ev G ts) o.op with
   | some (yb, args) => Y yb (ts :: O) args (fun b bs' => putK ts o.dst (.dv (.sc (.bool b))) fun ts' => opsR P G T O Y all r ts' bs' (([], []) :: fs) K) bs
   | none => opK P G T bs.length o.op (ev G ts) (hOf bs) fun rd wr v => hintW (hintOp o.op) wr fun wr => hintV (hintOp o.op) v fun v => shutK (shutOp o.op) (hOf bs) rd wr v fun rd wr v => (match newOK bs wr with
    | true => putK ts o.dst v fun ts' => wrK bs wr fun bs' => opsR P G T O Y all r ts' bs' ((rd, wr.map Prod.fst) :: fs) K
    | false => False))
  | false => putK ts o.dst (.tup []) fun ts' => opsR P G T O Y all r ts' bs (([], []) :: fs) K)) = _
  rw [ih]; rfl
noncomputable def vcR (It : ItT) (k : Nat) (Y : RoundT) (c : Code) : Bool -> List (List AV) -> Option Nat -> Post -> List AV -> List Blk -> Prop :=
 Code.rec (motive := fun _ => Bool -> List (List AV) -> Option Nat -> Post -> List AV -> List Blk -> Prop)
  (fun _ _ o K ts bs => match o with | none => K .normal ts bs | some _ => False)
  (fun _ ops d _ O o K ts bs => match o with
   | none => (match d with
    | false => opsR P G T O Y ops.toList ops.toList ts bs [] fun ts bs _ => K .normal ts bs
    | true => opsR P G T O noY ops.toList ops.toList ts bs [] fun ts bs fs => (match drawB ops.toList fs.reverse with
     | true => K .normal ts bs
     | false => False))
   | some _ => False)
  (fun a _ iha ihb ir O o K ts bs => match o with
   | none => iha ir O none (thenK (ihb ir O none K) K) ts bs
   | some l => (match (findLabel a l).isSome with
    | true => iha ir O (some l) (thenK (ihb ir O none K) K) ts bs
    | false => ihb ir O (some l) K ts bs))
  (fun c a b iha ihb ir O o K ts bs => match o with
   | none => (match c with
    | .tmp t => (match ts.getD t .any with
     | .dv (.sc (.bool b')) => (match b' with | true => iha ir O none K ts bs | false => ihb ir O none K ts bs)
     | .nq g n => (match g with
      | false => (match leavesC a, leavesC b with
       | false, false => JoinP k O (wrs a ++ wrs b) (fun K => (n = 0 -> iha ir O none K ts bs) /\ ihb ir O none K ts bs) K ts bs
       | _, _ => (n = 0 -> iha ir O none K ts bs) /\ ihb ir O none K ts bs)
      | true => (match leavesC a, leavesC b with
       | false, false => JoinP k O (wrs a ++ wrs b) (fun K => iha ir O none K ts bs /\ (n = 0 -> ihb ir O none K ts bs)) K ts bs
       | _, _ => iha ir O none K ts bs /\ (n = 0 -> ihb ir O none K ts bs)))
     | .dv (.bl b') => (match leavesC a, leavesC b with
      | false, false => JoinP k O (t :: (wrs a ++ wrs b)) (fun K => split b' fun b'' => setK ts t (.dv (.sc (.bool b''))) fun ts => match b'' with | true => iha ir O none K ts bs | false => ihb ir O none K ts bs) K ts bs
      | _, _ => split b' fun b'' => setK ts t (.dv (.sc (.bool b''))) fun ts => match b'' with | true => iha ir O none K ts bs | false => ihb ir O none K ts bs)
     | _ => False)
    | .const (.bool b') => (match b' with | true => iha ir O none K ts bs | false => ihb ir O none K ts bs)
    | _ => False)
   | some _ => False)
  (fun id b ih ir O o K ts bs => match o with | none => JoinP k O (wrs b) (fun K => ih ir O none (blockK id K) ts bs) K ts bs | some _ => False)
  (fun b ih ir O o K ts bs => match o with | none => LoopQ k O (wrs b) (ih ir O none) K ts bs | some _ => False)
  (fun g ps _ _ iha ihb ir O o K ts bs => match o with
   | none => (match ir, ev G ts g with
    | false, .fn f caps => ∀ L : Loop, padK bs bs.length .dead fun bs0 => padK bs0 bs0.length (.lp L .ready) fun bs1 =>
     It f k ([.yld bs0.length] :: ts :: O) (.yld bs0.length :: caps) (roundK L (fun O' => ihb true O' none) (fun O' => iha true O' none) bs0.length ts ps.toList) (afterK bs0.length ts K) bs1
    | _, _ => False)
   | some _ => False)
  (fun i _ _ o K ts bs => match o with | none => K (.exit i) ts bs | some _ => False)
  (fun b ih ir O o K ts bs => match o with | none => ih ir O none (scopeK (jumps k O (wrs b) (fun l => ih ir O (some l)) K 4) K) ts bs | some _ => False)
  (fun l' _ _ o K ts bs => match o with | none => K .normal ts bs | some l => (match l' == l with | true => K .normal ts bs | false => False))
  (fun l _ _ o K ts bs => match o with | none => K (.goto l) ts bs | some _ => False)
  (fun _ _ o K ts bs => match o with | none => K .ret ts bs | some _ => False)
  (fun _ _ _ _ _ _ _ => False) c
theorem vcR_eq (It : ItT) (k : Nat) (Y : RoundT) : ∀ (c : Code) (ir : Bool), vcR P G T It k Y c ir = vcB P G T It k Y ir c
 | .skip, ir => by funext O o K ts bs; cases o <;> rfl
 | .region _ ops d, ir => by
  funext O o K ts bs
  cases o with
  | none =>
   show (match d with
    | false => opsR P G T O Y ops.toList ops.toList ts bs [] fun ts bs _ => K .normal ts bs
    | true => opsR P G T O noY ops.toList ops.toList ts bs [] fun ts bs fs => (match drawB ops.toList fs.reverse with
     | true => K .normal ts bs
     | false => False)) = _
   rw [opsR_eq, opsR_eq]; rfl
  | some l => rfl
 | .seq a b, ir => by
  funext O o K ts bs
  have iha := vcR_eq It k Y a ir
  have ihb := vcR_eq It k Y b ir
  cases o with
  | none =>
   show vcR P G T It k Y a ir O none (thenK (vcR P G T It k Y b ir O none K) K) ts bs = _
   rw [iha, ihb]; rfl
  | some l =>
   show (match (findLabel a l).isSome with
    | true => vcR P G T It k Y a ir O (some l) (thenK (vcR P G T It k Y b ir O none K) K) ts bs
    | false => vcR P G T It k Y b ir O (some l) K ts bs) = _
   rw [iha, ihb]; rfl
 | .cond c a b, ir => by
  funext O o K ts bs
  have iha := vcR_eq It k Y a ir
  have ihb := vcR_eq It k Y b ir
  cases o with
  | none =>
   show (match c with
    | .tmp t => (match ts.getD t .any with
     | .dv (.sc (.bool b')) => (match b' with | true => vcR P G T It k Y a ir O none K ts bs | false => vcR P G T It k Y b ir O none K ts bs)
     | .nq g n => (match g with
      | false => (match leavesC a, leavesC b with
       | false, false => JoinP k O (wrs a ++ wrs b) (fun K => (n = 0 -> vcR P G T It k Y a ir O none K ts bs) /\ vcR P G T It k Y b ir O none K ts bs) K ts bs
       | _, _ => (n = 0 -> vcR P G T It k Y a ir O none K ts bs) /\ vcR P G T It k Y b ir O none K ts bs)
      | true => (match leavesC a, leavesC b with
       | false, false => JoinP k O (wrs a ++ wrs b) (fun K => vcR P G T It k Y a ir O none K ts bs /\ (n = 0 -> vcR P G T It k Y b ir O none K ts bs)) K ts bs
       | _, _ => vcR P G T It k Y a ir O none K ts bs /\ (n = 0 -> vcR P G T It k Y b ir O none K ts bs)))
     | .dv (.bl b') => (match leavesC a, leavesC b with
      | false, false => JoinP k O (t :: (wrs a ++ wrs b)) (fun K => split b' fun b'' => setK ts t (.dv (.sc (.bool b''))) fun ts => match b'' with | true => vcR P G T It k Y a ir O none K ts bs | false => vcR P G T It k Y b ir O none K ts bs) K ts bs
      | _, _ => split b' fun b'' => setK ts t (.dv (.sc (.bool b''))) fun ts => match b'' with | true => vcR P G T It k Y a ir O none K ts bs | false => vcR P G T It k Y b ir O none K ts bs)
     | _ => False)
    | .const (.bool b') => (match b' with | true => vcR P G T It k Y a ir O none K ts bs | false => vcR P G T It k Y b ir O none K ts bs)
    | _ => False) = _
   rw [iha, ihb]; rfl
  | some l => rfl
 | .block id b, ir => by
  funext O o K ts bs
  have ih := vcR_eq It k Y b ir
  cases o with
  | none => show JoinP k O (wrs b) (fun K => vcR P G T It k Y b ir O none (blockK id K) ts bs) K ts bs = _; rw [ih]; rfl
  | some l => rfl
 | .loop b, ir => by
  funext O o K ts bs
  have ih := vcR_eq It k Y b ir
  cases o with
  | none => show LoopQ k O (wrs b) (vcR P G T It k Y b ir O none) K ts bs = _; rw [ih]; rfl
  | some l => rfl
 | .rangeFunc g ps a b, ir => by
  funext O o K ts bs
  have iha := vcR_eq It k Y a true
  have ihb := vcR_eq It k Y b true
  cases o with
  | none =>
   show (match ir, ev G ts g with
    | false, .fn f caps => ∀ L : Loop, padK bs bs.length .dead fun bs0 => padK bs0 bs0.length (.lp L .ready) fun bs1 =>
     It f k ([.yld bs0.length] :: ts :: O) (.yld bs0.length :: caps) (roundK L (fun O' => vcR P G T It k Y b true O' none) (fun O' => vcR P G T It k Y a true O' none) bs0.length ts ps.toList) (afterK bs0.length ts K) bs1
    | _, _ => False) = _
   rw [iha, ihb]; rfl
  | some l => rfl
 | .exit i, ir => by funext O o K ts bs; cases o <;> rfl
 | .scope b, ir => by
  funext O o K ts bs
  have ih := vcR_eq It k Y b ir
  cases o with
  | none => show vcR P G T It k Y b ir O none (scopeK (jumps k O (wrs b) (fun l => vcR P G T It k Y b ir O (some l)) K 4) K) ts bs = _; rw [ih]; rfl
  | some l => rfl
 | .label l', ir => by funext O o K ts bs; cases o <;> rfl
 | .goto l, ir => by funext O o K ts bs; cases o <;> rfl
 | .ret, ir => by funext O o K ts bs; cases o <;> rfl
 | .refuse _, ir => by funext O o K ts bs; cases o <;> rfl
noncomputable def anysK (n : Nat) : (List AV -> Prop) -> Prop :=
 Nat.rec (fun K => K []) (fun _ ih K => ih fun r => K (.any :: r)) n
noncomputable def startT (as : List AV) (n : Nat) (K : List AV -> Prop) : Prop :=
 List.rec (motive := fun _ => ((List AV -> Prop) -> Prop)) (anysK (n - as.length)) (fun x _ ih K => ih fun r => K (x :: r)) as K
theorem anysK_eq : ∀ (n : Nat) (K : List AV -> Prop), anysK n K = K (List.replicate n .any)
 | 0, _ => rfl
 | n + 1, K => by
  show anysK n (fun r => K (.any :: r)) = _
  rw [anysK_eq n]; rfl
theorem startT_eq (as : List AV) (n : Nat) (K : List AV -> Prop) : startT as n K = K (as ++ List.replicate (n - as.length) .any) := by
 have key : ∀ (l : List AV) (m : Nat) (K : List AV -> Prop), (List.rec (motive := fun _ => ((List AV -> Prop) -> Prop)) (anysK m) (fun x _ ih K => ih fun r => K (x :: r)) l K : Prop) = K (l ++ List.replicate m .any) := by
  intro l
  induction l with
  | nil => intro m K; exact anysK_eq m K
  | cons x r ih => intro m K; exact ih m fun r => K (x :: r)
 exact key as _ K
noncomputable def itR : Nat -> ItT
 | 0 => noIt
 | n + 1 => fun f k O args Y K bs => ∃ fn c, (P.funcs[f]? = some fn /\ fn.body = some c /\ (fn.name == "runtime.NumGoroutine") = false /\ fn.results = #[]) /\
  startT args fn.ntmps fun ts => vcR P G T (itR n) k Y c false O none (itPost K) ts bs
theorem itR_eq : ∀ n, itR P G T n = itN P G T n
 | 0 => rfl
 | n + 1 => by
  funext f k O args Y K bs
  have ih := itR_eq n
  show (∃ (fn : Func) (c : Code), _ /\ startT args fn.ntmps fun ts => vcR P G T (itR P G T n) k Y c false O none (itPost K) ts bs) = _
  rw [ih]
  simp only [startT_eq, vcR_eq]
  rfl
end
end Go.Eng

namespace Go.Eng
section
variable {P : Program} {G : Glob} {f : FuncId} {args : List AV} {S wr : List (Nat × Blk)} {r : AV}
theorem look_mem {τ : List (Nat × Nat)} {i : Nat} (h : i ∈ τ.map Prod.fst) : (look τ i) ∈ τ.map Prod.snd := by
 induction τ with
 | nil => cases h
 | cons x r ih =>
  unfold look
  split
  ·exact .head _
  ·rename_i hne
   rcases List.mem_cons.1 h with e | h
   ·rw [e, Nat.beq_refl] at hne; cases hne
   ·exact .tail _ (ih h)
theorem look_inj {τ : List (Nat × Nat)} (hn : (τ.map Prod.snd).Nodup) : ∀ i j, i ∈ τ.map Prod.fst -> j ∈ τ.map Prod.fst -> look τ i = look τ j -> i = j := by
 induction τ with
 | nil => intro i j h; cases h
 | cons x r ih =>
  intro i j hi hj h
  rw [List.map_cons, List.nodup_cons] at hn
  have step : ∀ i, i ∈ (x :: r).map Prod.fst -> (i = x.1 /\ look (x :: r) i = x.2) \/ (i ∈ r.map Prod.fst /\ look (x :: r) i = look r i) := by
   intro i hi
   have e0 : look (x :: r) i = match Nat.beq i x.1 with | true => x.2 | false => look r i := rfl
   cases hb : Nat.beq i x.1 with
   | true => exact .inl ⟨Nat.eq_of_beq_eq_true hb, by rw [e0, hb]⟩
   | false =>
    rcases List.mem_cons.1 hi with e | hi
    ·rw [e, Nat.beq_refl] at hb; cases hb
    ·exact .inr ⟨hi, by rw [e0, hb]⟩
  rcases step i hi with ⟨e1, e2⟩ | ⟨h1, e2⟩ <;> rcases step j hj with ⟨g1, g2⟩ | ⟨k1, g2⟩
  ·rw [e1, g1]
  ·rw [e2, g2] at h
   exact absurd (h ▸ look_mem k1) hn.1
  ·rw [e2, g2] at h
   exact absurd (h ▸ look_mem h1) hn.1
  ·rw [e2, g2] at h
   exact ih hn.2 i j h1 k1 h
theorem Fn.bodyN {T : Tr} (hT : TabOK P T) (hm : P.follows .mixedOrders = true) (hG0 : GPlain G) {fn : Func} {c : Code} (hf : P.funcs[f]? = some fn) (hname : (fn.name == "runtime.NumGoroutine") = false) (hb : fn.body = some c)
  (τ : List (Nat × Nat)) (as0 : List AV) (bs0 : List Blk) (news : List Nat) (r0 : AV) (ws : List Blk) (hchk : bodyB as0 bs0 news r0 ws = true)
  (hk : τ.map Prod.fst = List.range bs0.length ++ news) (hn : (τ.map Prod.snd).Nodup)
  (dp : Nat) (h : vcR P G T (itR P G T dp) bs0.length noY c false [] none (retK T fn fun r bs => r = r0 /\ leaves bs (List.range bs0.length ++ news) ws) (as0 ++ List.replicate (fn.ntmps - as0.length) .any) bs0) :
  Fn P G f (as0.map (AV.ren τ)) (renAll τ (List.range bs0.length) bs0) (r0.ren τ) (renAll τ (List.range bs0.length ++ news) ws) :=
 Fn.body hT hm hG0 hf hname hb τ as0 bs0 news r0 ws hchk (by rw [← hk]; exact look_inj hn) dp (by rw [itR_eq, vcR_eq] at h; exact h)
end
end Go.Eng

namespace Go.Eng
def ShF (S : TypeId -> DV -> Prop) : List (Nat × TypeId) -> DV -> Prop
 | [], x => x = .nil
 | (_, ft) :: r, x => ∃ a b, x = .cons a b /\ S ft a /\ ShF S r b
def Sh (T : Tr) (N : Nat) (dz : TypeId -> DV) : Nat -> TypeId -> DV -> Prop
 | 0, _, _ => False
 | d + 1, t, x => match (T.get t).kind with
  | .int k => ∃ n, x = .sc (.int k n) /\ k.min ≤ n /\ n ≤ k.max
  | .bool => ∃ b, x = .bl b
  | .str => ∃ l, x = .str l /\ l.length ≤ N
  | .arr n e => (match (T.get e).kind with
   | .int k => ∃ l, x = .ints k n l /\ l.length = n /\ ∀ y, y ∈ l -> k.min ≤ y /\ y ≤ k.max
   | _ => ∃ f, x = .fam n (T.get e).lay f /\ (∀ i, i < n -> Sh T N dz d e (f i)) /\ ∀ i, n ≤ i -> f i = dz e)
  | .struct fs => ShF (Sh T N dz d) fs x
  | .sli e => (match (T.get e).kind with
   | .int k => ∃ l, x = .roI k l /\ l.length ≤ N /\ ∀ y, y ∈ l -> k.min ≤ y /\ y ≤ k.max
   | _ => ∃ n f, x = .ro (T.get e).lay n f /\ n ≤ N /\ (∀ i, i < n -> Sh T N dz d e (f i)) /\ ∀ i, n ≤ i -> f i = dz e)
  | _ => False
def layF (T : Tr) : List (Nat × TypeId) -> Lay
 | [] => .unit
 | (_, ft) :: r => .pair (T.get ft).lay (layF T r)
def offF (T : Tr) : Nat -> List (Nat × TypeId) -> Bool
 | _, [] => true
 | o, (o', ft) :: r => Nat.beq o o' && offF T (o + (T.get ft).size) r
def shB (T : Tr) : Nat -> TypeId -> Bool
 | 0, _ => false
 | d + 1, t => match (T.get t).kind with
  | .int _ | .bool | .str => decide ((T.get t).lay = .one)
  | .arr n e => shB T d e && decide ((T.get t).lay = .arr n (T.get e).lay)
  | .struct fs => fs.all (fun f => shB T d f.2) && decide ((T.get t).lay = layF T fs) && offF T 0 fs
  | .sli e => shB T d e && decide ((T.get t).lay = .one) && Nat.blt 0 (T.get e).size
  | _ => false
section
variable {P : Program} {T : Tr} {W : World} {H : Type} {enc : TypeId × Value -> H} {Q : DataW H -> Prop} {N : Nat} {dz : TypeId -> DV}
theorem shB_key {d : Nat} {t : TypeId} (h : shB T d t = true) : t ∈ T.keys := by
 cases d with
 | zero => cases h
 | succ d =>
  refine mem_of_kind fun e => ?_
  unfold shB at h
  rw [e] at h
  cases h
theorem cellsOf_eq (hT : TabOK P T) {t : TypeId} (ht : t ∈ T.keys) : P.cellsOf t = (T.get t).size := by
 obtain ⟨i, d, z, cs, hi, hd, _, hs, _⟩ := (hT.entry ht).info
 simp [Program.cellsOf, hi, hs]
theorem lay_size (hT : TabOK P T) {t : TypeId} (ht : t ∈ T.keys) : (T.get t).lay.size = (T.get t).size := by
 obtain ⟨i, d, z, cs, hi, hd, _, hs, _, hl, _⟩ := (hT.entry ht).info
 exact hl
structure Bnd (Q : DataW H -> Prop) (N : Nat) : Prop where
 str : ∀ l, Q (.lit (.string l)) -> l.length ≤ maxLen -> l.length ≤ N
 sli : ∀ es sp, Q (.slice es sp) -> es.length ≤ maxLen -> es.length ≤ N /\ ∀ e, e ∈ es -> Q e
 agg : ∀ ps, Q (.agg ps) -> ∀ p, p ∈ ps -> Q p
theorem mapM_len {α β : Type} {f : α -> Option β} : ∀ {l : List α} {r : List β}, l.mapM f = some r -> r.length = l.length /\ ∀ (i : Nat) (x : α), l[i]? = some x -> f x = r[i]?
 | [], r, h => by simp at h; subst h; exact ⟨rfl, fun i x h => by simp at h⟩
 | y :: l, r, h => by
  simp only [List.mapM_cons, Option.pure_def, Option.bind_eq_bind, Option.bind_eq_some_iff, Option.some.injEq] at h
  obtain ⟨a, h1, b, h2, rfl⟩ := h
  obtain ⟨h3, h4⟩ := mapM_len h2
  refine ⟨by simp [h3], fun i x hi => ?_⟩
  cases i with
  | zero => simp at hi; subst hi; simp [h1]
  | succ i => simpa using h4 i x (by simpa using hi)
theorem cells_get {a : Addr} {n : Nat} {cs : List Value} (h : W.cells? 0 a n = some cs) : cs.length = n /\ ∀ i (hi : i < cs.length), W.cell? (a.add i) = some cs[i] := by
 unfold World.cells? at h
 rw [if_pos (Nat.zero_le _)] at h
 obtain ⟨h1, h2⟩ := mapM_len h
 have hl : cs.length = n := by rw [h1]; simp
 refine ⟨hl, fun i hi => ?_⟩
 have := h2 i i (by rw [List.getElem?_range (by omega)])
 rw [List.getElem?_eq_getElem hi] at this; exact this
theorem reads_of_cells {r o n : Nat} {cs : List Value} (h : W.cells? 0 ⟨r, o, none⟩ n = some cs) : Reads (cellAt W) r o cs := fun j hj => by
 have := (cells_get h).2 j hj
 rwa [add_at] at this
theorem spot_none {a : Addr} {n : Nat} {cs : List Value} (h : W.cells? 0 a n = some cs) (hn : 0 < n) : a.spot = none := by
 obtain ⟨h1, h2⟩ := cells_get h
 have := h2 0 (by omega)
 unfold World.cell? at this
 split at this
 ·split at this
  ·cases this
  ·rename_i hs
   simpa [Addr.add] using hs
 ·cases this
theorem fields_cells (hT : TabOK P T) {S : TypeId -> DV -> Prop} {cs : List Value} : ∀ {fs : List (Nat × TypeId)} {o : Nat}, offF T o fs = true -> (∀ f, f ∈ fs -> f.2 ∈ T.keys) -> (∀ f, f ∈ fs -> ∃ x, S f.2 x /\ x.lay = (T.get f.2).lay /\ RepD (cellAt W) x ((cs.drop f.1).take (T.get f.2).size)) ->
  ∃ x, ShF S fs x /\ x.lay = layF T fs /\ RepD (cellAt W) x ((cs.drop o).take (layF T fs).size)
 | [], o, _, _, _ => ⟨.nil, rfl, rfl, by rw [show (layF T []).size = 0 from rfl, List.take_zero]; exact .nil⟩
 | (o', ft) :: r, o, ho, hk, h => by
  simp only [offF, Bool.and_eq_true] at ho
  obtain rfl := Nat.eq_of_beq_eq_true ho.1
  obtain ⟨a, h1, h2, h3⟩ := h (o, ft) (.head _)
  obtain ⟨b, h4, h5, h6⟩ := fields_cells hT ho.2 (fun f hf => hk f (.tail _ hf)) (fun f hf => h f (.tail _ hf))
  refine ⟨.cons a b, ⟨a, b, rfl, h1, h4⟩, by rw [DV.lay, h2, h5]; rfl, ?_⟩
  have hs := lay_size hT (hk (o, ft) (.head _))
  have e : (cs.drop o).take (layF T ((o, ft) :: r)).size = (cs.drop o).take (T.get ft).size ++ (cs.drop (o + (T.get ft).size)).take (layF T r).size := by
   rw [show (layF T ((o, ft) :: r)).size = (T.get ft).lay.size + (layF T r).size from rfl, hs, ← List.drop_drop]
   exact List.take_add
  rw [e]
  exact .cons h3 h6
theorem read_sh (hT : TabOK P T) (hQ : Bnd Q N) : ∀ (dep : Nat) (t : TypeId), shB T dep t = true -> ∀ (n : Nat) (cs : List Value) (d : DataW H) (ps : List MemPlace), DataW.trod enc P W 0 (fun _ => true) true n t cs = some (d, ps) -> Q d ->
  ∃ x, Sh T N dz dep t x /\ x.lay = (T.get t).lay /\ RepD (cellAt W) x cs
 | 0, _, hb, _, _, _, _, _, _ => by cases hb
 | dep + 1, t, hb, n, cs, d, ps, h, hq => by
  have hk0 := shB_key hb
  unfold shB at hb
  unfold Sh
  split at hb
  ·rename_i k hk
   obtain ⟨m, rfl, hx, hw⟩ := DataW.trod_int (und_int hT hk) h
   simp only [Lit.wf, Bool.and_eq_true, decide_eq_true_eq] at hw
   exact ⟨.sc (.int k m), ⟨m, rfl, hw.1, hw.2⟩, (of_decide_eq_true hb).symm, .sc _ trivial⟩
  ·rename_i hk
   obtain ⟨b, rfl, hx⟩ := DataW.trod_bool (und_bool hT hk) h
   exact ⟨.bl b, ⟨b, rfl⟩, (of_decide_eq_true hb).symm, .bl b⟩
  ·rename_i hk
   obtain ⟨s, rfl, hx, hs⟩ := DataW.trod_string (und_str hT hk) h
   obtain ⟨⟨l⟩⟩ := s
   cases hx
   exact ⟨.str l, ⟨l, rfl, hQ.str l hq hs⟩, (of_decide_eq_true hb).symm, .str l⟩
  ·rename_i m e hk
   simp only [Bool.and_eq_true, decide_eq_true_eq] at hb
   obtain ⟨hu, i, hi⟩ := und_arr hT hk
   have hke := shB_key hb.1
   have hce := cellsOf_eq hT hke
   obtain ⟨xs, m', rfl, hx, hlen, hxl, hel⟩ := DataW.trod_array hu h
   cases hx
   have hsz : cs.length = m * (T.get e).size := by
    rw [hlen, cellsOf_eq hT hk0, ← lay_size hT hk0, hb.2, Lay.size, lay_size hT hke]
   have each : ∀ j, j < m -> ∃ x, Sh T N dz dep e x /\ x.lay = (T.get e).lay /\ RepD (cellAt W) x ((cs.drop (j * (T.get e).size)).take (T.get e).size) := by
    intro j hj
    have h1 := hel j hj
    rw [hce] at h1
    have hj' : j < xs.length := by omega
    rw [List.getElem?_eq_getElem hj'] at h1
    exact read_sh hT hQ dep _ hb.1 _ _ _ _ h1 (hQ.agg _ hq _ (List.mem_map.2 ⟨_, List.getElem_mem hj', rfl⟩))
   have key : (∃ k, (T.get e).kind = .int k) \/ ∀ k, (T.get e).kind ≠ .int k := by
    cases hke' : (T.get e).kind <;> first | exact .inl ⟨_, rfl⟩ | exact .inr (fun k h => by cases h)
   rcases key with ⟨k, hkk⟩ | hne
   ·simp only [hkk]
    have hlo : (T.get e).lay = .one := by
     have := hb.1
     cases dep with
     | zero => cases this
     | succ dep => unfold shB at this; rw [hkk] at this; exact of_decide_eq_true this
    have hs1 : (T.get e).size = 1 := by rw [← lay_size hT hke, hlo]; rfl
    rw [hs1, Nat.mul_one] at hsz
    have each' : ∀ j (hj : j < cs.length), ∃ y, cs[j] = .int k y /\ k.min ≤ y /\ y ≤ k.max := by
     intro j hj
     obtain ⟨x, h1, h2, h3⟩ := each j (by omega)
     cases dep with
     | zero => exact h1.elim
     | succ dep =>
      unfold Sh at h1
      rw [hkk] at h1
      obtain ⟨y, rfl, h4, h5⟩ := h1
      rw [hs1, Nat.mul_one] at h3
      have e1 : (cs.drop j).take 1 = [cs[j]] := by
       rw [List.drop_eq_getElem_cons hj]; rfl
      rw [e1] at h3
      have := int_inv h3
      exact ⟨y, this, h4, h5⟩
    obtain ⟨l, hl⟩ : ∃ l : List Int, cs = l.map (.int k) /\ ∀ y, y ∈ l -> k.min ≤ y /\ y ≤ k.max := by
     clear hel hlen each h hsz
     induction cs with
     | nil => exact ⟨[], rfl, fun y h => by cases h⟩
     | cons c cs ih =>
      obtain ⟨y, h1, h2⟩ := each' 0 (by simp)
      obtain ⟨l, h3, h4⟩ := ih (fun j hj => by
       have := each' (j + 1) (by simpa using hj)
       simpa using this)
      refine ⟨y :: l, by simp at h1; rw [List.map_cons, ← h3, h1], fun z hz => ?_⟩
      rcases List.mem_cons.1 hz with rfl | hz
      ·exact h2
      ·exact h4 z hz
    obtain ⟨rfl, hr⟩ := hl
    have hll : l.length = m := by simpa using hsz
    exact ⟨.ints k m l, ⟨l, rfl, hll, hr⟩, by rw [hb.2, hlo]; rfl, .ints k m l hll⟩
   ·have goal : ∃ x, (∃ f, x = DV.fam m (T.get e).lay f /\ (∀ i, i < m -> Sh T N dz dep e (f i)) /\ ∀ i, m ≤ i -> f i = dz e) /\ x.lay = (T.get t).lay /\ RepD (cellAt W) x cs := by
     let f : Nat -> DV := fun j => if hj : j < m then Classical.choose (each j hj) else dz e
     have hf : ∀ j (hj : j < m), Sh T N dz dep e (f j) /\ (f j).lay = (T.get e).lay /\ RepD (cellAt W) (f j) ((cs.drop (j * (T.get e).size)).take (T.get e).size) := fun j hj => by
      have := Classical.choose_spec (each j hj)
      simp only [f, hj, dif_pos]; exact this
     refine ⟨.fam m (T.get e).lay f, ⟨f, rfl, fun i hi => (hf i hi).1, fun i hi => dif_neg (by omega)⟩, by rw [hb.2]; rfl, ?_⟩
     have := RepD.fam (rd := cellAt W) m (T.get e).lay f (fun j => (cs.drop (j * (T.get e).size)).take (T.get e).size) (fun i hi => (hf i hi).2.2) (fun i hi => (hf i hi).2.1)
     have e2 : ∀ (q : Nat), q * (T.get e).size ≤ cs.length -> (List.range q).flatMap (fun j => (cs.drop (j * (T.get e).size)).take (T.get e).size) = cs.take (q * (T.get e).size) := by
      intro q
      induction q with
      | zero => intro _; simp
      | succ q ih =>
       intro hq'
       rw [Nat.succ_mul] at hq' ⊢
       rw [List.range_succ, List.flatMap_append, ih (by omega)]
       simp only [List.flatMap_cons, List.flatMap_nil, List.append_nil]
       exact List.take_add.symm
     rw [e2 m (by omega), List.take_of_length_le (by omega)] at this
     exact this
    cases hke' : (T.get e).kind <;> first | (exact absurd hke' (hne _)) | exact goal
  ·rename_i fs hk
   simp only [Bool.and_eq_true, decide_eq_true_eq, List.all_eq_true] at hb
   obtain ⟨⟨hb1, hb2⟩, hb3⟩ := hb
   obtain ⟨fields, hu, hfs, hinfo⟩ := und_struct hT hk
   obtain ⟨xs, m', rfl, hx, hlen, hxl, hel⟩ := DataW.trod_struct hu h
   cases hx
   have hkeys : ∀ f, f ∈ fs -> f.2 ∈ T.keys := fun f hf => shB_key (hb1 f hf)
   obtain ⟨x, h1, h2, h3⟩ := fields_cells hT (S := Sh T N dz dep) (cs := cs) (o := 0) hb3 hkeys (fun f hf => by
    rw [← hfs] at hf
    obtain ⟨fd, hfd, e⟩ := List.mem_map.1 hf
    obtain ⟨i, hi, hfi⟩ := List.mem_iff_getElem.1 hfd
    have hfi' : fields[i]? = some fd := by
     have : fields.toList[i]? = some fd := by rw [List.getElem?_eq_getElem hi, hfi]
     simpa using this
    have h1 := hel i fd hfi'
    have hi' : i < xs.length := by rw [hxl]; simpa using hi
    rw [List.getElem?_eq_getElem hi'] at h1
    subst e
    have hmem : (fd.offset, fd.type) ∈ fs := by rw [← hfs]; exact hf
    rw [cellsOf_eq hT (hkeys _ hmem)] at h1
    exact read_sh hT hQ dep _ (hb1 _ hmem) _ _ _ _ h1 (hQ.agg _ hq _ (List.mem_map.2 ⟨_, List.getElem_mem hi', rfl⟩)))
   refine ⟨x, h1, by rw [hb2]; exact h2, ?_⟩
   rw [List.drop_zero, List.take_of_length_le (by rw [hlen, cellsOf_eq hT hk0, ← lay_size hT hk0, hb2]; exact Nat.le_refl _)] at h3
   exact h3
  ·rename_i e hk
   simp only [Bool.and_eq_true, decide_eq_true_eq] at hb
   obtain ⟨⟨hb1, hb2⟩, hb3⟩ := hb
   have hpos : 0 < (T.get e).size := by simpa [Nat.blt_eq] using hb3
   obtain ⟨hu, i, hi⟩ := und_sli hT hk
   have hke := shB_key hb1
   have hce := cellsOf_eq hT hke
   have key : (∃ k, (T.get e).kind = .int k) \/ ∀ k, (T.get e).kind ≠ .int k := by
    cases hke' : (T.get e).kind <;> first | exact .inl ⟨_, rfl⟩ | exact .inr (fun k h => by cases h)
   rcases DataW.trod_slice hu h with ⟨rfl, hx⟩ | ⟨a, len, cap, elems, rest, m', rfl, rfl, hx, _, hlc, hcm, hel, hget, _, _⟩
   ·cases hx
    rcases key with ⟨k, hkk⟩ | hne
    ·simp only [hkk]
     exact ⟨.roI k [], ⟨[], rfl, Nat.zero_le _, fun y h => by cases h⟩, hb2.symm, .roI0 k none 0 (fun _ => rfl)⟩
    ·have goal : ∃ x, (∃ n f, x = DV.ro (T.get e).lay n f /\ n ≤ N /\ (∀ i, i < n -> Sh T N dz dep e (f i)) /\ ∀ i, n ≤ i -> f i = dz e) /\ x.lay = (T.get t).lay /\ RepD (cellAt W) x [.slice none 0 0] :=
      ⟨.ro (T.get e).lay 0 (fun _ => dz e), ⟨0, _, rfl, Nat.zero_le _, fun i hi => by omega, fun _ _ => rfl⟩, hb2.symm, .ro0 _ _ none 0 (fun _ => rfl)⟩
     cases hke' : (T.get e).kind <;> first | (exact absurd hke' (hne _)) | exact goal
   ·cases hx
    have hq' := hQ.sli _ _ hq (by simp only [List.length_map]; omega)
    simp only [List.length_map, hel] at hq'
    have each : ∀ j, j < len -> ∃ x cs', Sh T N dz dep e x /\ x.lay = (T.get e).lay /\ RepD (cellAt W) x cs' /\ W.cells? 0 (a.add (j * (T.get e).size)) (T.get e).size = some cs' := by
     intro j hj
     have h1 := hget j hj
     rw [hce] at h1
     have hj' : j < elems.length := by omega
     rw [List.getElem?_eq_getElem hj'] at h1
     obtain ⟨cs', hc, h2⟩ := Option.bind_eq_some_iff.1 h1
     obtain ⟨x, h3, h4, h5⟩ := read_sh hT hQ dep _ hb1 _ _ _ _ h2 (hq'.2 _ (List.mem_map.2 ⟨_, List.getElem_mem hj', rfl⟩))
     exact ⟨x, cs', h3, h4, h5, hc⟩
    by_cases h0 : len = 0
    ·subst h0
     rcases key with ⟨k, hkk⟩ | hne
     ·simp only [hkk]
      exact ⟨.roI k [], ⟨[], rfl, Nat.zero_le _, fun y h => by cases h⟩, hb2.symm, .roI0 k (some a) cap (fun h => by cases h)⟩
     ·have goal : ∃ x, (∃ n f, x = DV.ro (T.get e).lay n f /\ n ≤ N /\ (∀ i, i < n -> Sh T N dz dep e (f i)) /\ ∀ i, n ≤ i -> f i = dz e) /\ x.lay = (T.get t).lay /\ RepD (cellAt W) x [.slice (some a) 0 cap] :=
       ⟨.ro (T.get e).lay 0 (fun _ => dz e), ⟨0, _, rfl, Nat.zero_le _, fun i hi => by omega, fun _ _ => rfl⟩, hb2.symm, .ro0 _ _ (some a) cap (fun h => by cases h)⟩
      cases hke' : (T.get e).kind <;> first | (exact absurd hke' (hne _)) | exact goal
    ·have hsp : a.spot = none := by
      obtain ⟨x, cs', _, _, _, hc⟩ := each 0 (by omega)
      have := spot_none hc hpos
      simpa [Addr.add] using this
     obtain ⟨r, o, sp⟩ := a
     simp only at hsp
     subst hsp
     let f : Nat -> DV := fun j => if hj : j < len then Classical.choose (each j hj) else dz e
     let g : Nat -> List Value := fun j => if hj : j < len then Classical.choose (Classical.choose_spec (each j hj)) else []
     have hf : ∀ j (hj : j < len), Sh T N dz dep e (f j) /\ (f j).lay = (T.get e).lay /\ RepD (cellAt W) (f j) (g j) /\ W.cells? 0 ⟨r, o + j * (T.get e).size, none⟩ (T.get e).size = some (g j) := fun j hj => by
      have := Classical.choose_spec (Classical.choose_spec (each j hj))
      simp only [f, g, hj, dif_pos]
      exact ⟨this.1, this.2.1, this.2.2.1, (congrArg (fun q => W.cells? 0 q (T.get e).size = some (Classical.choose (Classical.choose_spec (each j hj)))) (add_at r o (j * (T.get e).size))).mp this.2.2.2⟩
     rcases key with ⟨k, hkk⟩ | hne
     ·simp only [hkk]
      have hlo : (T.get e).lay = .one := by
       cases dep with
       | zero => cases hb1
       | succ dep => unfold shB at hb1; rw [hkk] at hb1; exact of_decide_eq_true hb1
      have hs1 : (T.get e).size = 1 := by rw [← lay_size hT hke, hlo]; rfl
      have each' : ∀ j, j < len -> ∃ y, W.cell? ⟨r, o + j, none⟩ = some (.int k y) /\ k.min ≤ y /\ y ≤ k.max := by
       intro j hj
       obtain ⟨h1, h2, h3, h4⟩ := hf j hj
       rw [hs1, Nat.mul_one] at h4
       obtain ⟨hl, hg⟩ := cells_get h4
       cases dep with
       | zero => exact h1.elim
       | succ dep =>
        unfold Sh at h1
        rw [hkk] at h1
        obtain ⟨y, hy, h5, h6⟩ := h1
        rw [hy] at h3
        have hgj : g j = [.int k y] := by
         generalize g j = q at h3
         cases h3; rfl
        have := hg 0 (by omega)
        rw [add_at, Nat.add_zero] at this
        refine ⟨y, ?_, h5, h6⟩
        rw [this]
        simp [hgj]
      let l : List Int := (List.range len).map fun j => if hj : j < len then Classical.choose (each' j hj) else 0
      have hll : l.length = len := by simp [l]
      have hl : ∀ j (hj : j < len), W.cell? ⟨r, o + j, none⟩ = some (.int k (l[j]'(by omega))) /\ k.min ≤ l[j]'(by omega) /\ l[j]'(by omega) ≤ k.max := fun j hj => by
       have := Classical.choose_spec (each' j hj)
       have e1 : l[j]'(by omega) = Classical.choose (each' j hj) := by simp [l, hj]
       rw [e1]; exact this
      refine ⟨.roI k l, ⟨l, rfl, by omega, fun y hy => ?_⟩, hb2.symm, ?_⟩
      ·obtain ⟨j, hj, rfl⟩ := List.mem_iff_getElem.1 hy
       exact (hl j (by omega)).2
      ·have := RepD.roI (rd := cellAt W) k l r o cap (by omega) (fun j hj => by
        have hj' : j < len := by simp at hj; omega
        rw [List.getElem_map]
        exact (hl j hj').1)
       rwa [hll] at this
     ·have goal : ∃ x, (∃ n f, x = DV.ro (T.get e).lay n f /\ n ≤ N /\ (∀ i, i < n -> Sh T N dz dep e (f i)) /\ ∀ i, n ≤ i -> f i = dz e) /\ x.lay = (T.get t).lay /\ RepD (cellAt W) x [.slice (some ⟨r, o, none⟩) len cap] := by
       refine ⟨.ro (T.get e).lay len f, ⟨len, f, rfl, hq'.1, fun i hi => (hf i hi).1, fun i hi => dif_neg (by omega)⟩, hb2.symm, ?_⟩
       refine .ro (T.get e).lay len f g r o cap hlc (fun i hi => (hf i hi).2.2.1) (fun i hi => (hf i hi).2.1) (fun i hi => ?_)
       rw [lay_size hT hke]
       exact reads_of_cells (hf i hi).2.2.2
      cases hke' : (T.get e).kind <;> first | (exact absurd hke' (hne _)) | exact goal
  ·cases hb
theorem scalar_value {t : TypeId} {v : Value} {x : DV} (hT : TabOK P T) {dep : Nat} (hb : shB T dep t = true) (hv : Value.okWide P W .any 0 t v) (hx : RepD (cellAt W) x v.cells.toList) (hl : x.lay = (T.get t).lay) : v = ofCells x.lay.isAgg v.cells.toList := by
 obtain ⟨i, d, z, cs, hi, hd, hkb, _, _, _, hagg, _⟩ := (hT.entry (shB_key hb)).info
 rw [hl, hagg]
 unfold Value.okWide at hv
 rw [hd] at hv
 cases dep with
 | zero => cases hb
 | succ dep =>
  unfold shB at hb
  have one : ∀ (v : Value), (∀ q, v ≠ .agg q) -> v = ofCells false v.cells.toList := fun v h => by
   cases v <;> first | rfl | exact absurd rfl (h _)
  have cell : ∀ (v : Value), aggB d = false -> (d = .bool \/ d = .string \/ (∃ k, d = .int k) \/ ∃ e, d = .slice e) -> Cell.okWide P W .any 0 t v -> v = ofCells (aggB d) v.cells.toList := fun v hd' hdd hc => by
   rw [hd']
   refine one v fun q e => ?_
   subst e
   unfold Cell.okWide Cell.ok at hc
   rcases hdd with rfl | rfl | ⟨k, rfl⟩ | ⟨e, rfl⟩ <;> simp [hd] at hc
  cases d <;> first
   | (obtain ⟨cs', rfl, _⟩ := hv; rfl)
   | exact cell v rfl (.inl rfl) hv
   | exact cell v rfl (.inr (.inl rfl)) hv
   | exact cell v rfl (.inr (.inr (.inl ⟨_, rfl⟩))) hv
   | exact cell v rfl (.inr (.inr (.inr ⟨_, rfl⟩))) hv
   | (exfalso; cases hk : (T.get t).kind <;> rw [hk] at hkb hb <;> first | (cases hkb; done) | (cases hb; done) | (simp [kindB] at hkb; done) | (simp at hb; done))
theorem open_arg (hT : TabOK P T) (hQ : Bnd Q N) {dep : Nat} {t : TypeId} (hb : shB T dep t = true) {v : Value} {d : DataW H} {ps : List MemPlace} (hv : Value.okWide P W .any 0 t v) (h : DataW.Trod enc P W 0 (fun _ => true) true t v d ps) (hq : Q d) :
  ∃ x, Sh T N dz dep t x /\ ∀ E : Env, E.rd = cellAt W -> RepV E (.dv x) v := by
 obtain ⟨n, hn⟩ := h
 obtain ⟨x, h1, h2, h3⟩ := read_sh hT hQ dep t hb n _ d ps hn hq
 refine ⟨x, h1, fun E hE => .of (.dv (hE ▸ h3)) ?_⟩
 exact scalar_value hT hb hv h3 h2
def env0 (W : World) : Env := { pl := fun _ => .unborn, lay := fun _ => .one, top := fun _ => 0, rd := cellAt W, fx := fun r => W.heap[r]? }
theorem rel0 (W : World) : Rel (env0 W) (fun _ => .dead) W :=
 ⟨fun _ _ _ h => h, fun _ => trivial, fun _ _ _ _ _ _ _ h => by (cases h), fun _ _ _ _ _ h => by (cases h), fun _ _ _ h => by (cases h), fun _ _ => rfl, fun _ _ _ h => by (cases h), fun _ _ h => h, fun _ _ _ _ _ h => by (cases h)⟩
theorem carry_all (hl : laidOutB P = true) {W' : World} (hsame : ∀ r, r < W.heap.size -> W'.heap[r]? = W.heap[r]?) {sp : Nat -> Bool} : ∀ {ts : List TypeId} {vs : List Value} {ds : List (DataW H)} {ps : List MemPlace},
  (∀ t, t ∈ ts -> P.readableRec t = true /\ t < P.types.size) -> DataW.TrodAll enc P W 0 (fun _ => true) true ts vs ds ps -> (∀ p, p ∈ ps -> p.block < W.heap.size) -> (∀ p, p ∈ ps -> sp p.block = true) -> DataW.TrodAll enc P W' 0 sp true ts vs ds ps
 | [], [], [], _, _, h, _, _ => h
 | t :: ts, v :: vs, d :: ds, ps, ht, h, hlt, hsp => by
  obtain ⟨p, q, h1, h2, rfl⟩ := h
  refine ⟨p, q, ?_, carry_all hl hsame (fun t ht' => ht t (.tail _ ht')) h2 (fun x hx => hlt x (List.mem_append_right _ hx)) (fun x hx => hsp x (List.mem_append_right _ hx)), rfl⟩
  refine WideElems.Trod_stays hl (ht t (.head _)).1 (ht t (.head _)).2 h1 (fun x hx => ?_) (fun x hx => hsp x (List.mem_append_left _ hx))
  have := hsame _ (hlt x (List.mem_append_left _ hx))
  cases x with
  | cell b o => exact World.cell?_of_block (w := W) this
  | map b => exact this
 | [], _ :: _, _, _, _, h, _, _ => h.elim
 | [], [], _ :: _, _, _, h, _, _ => h.elim
 | _ :: _, [], _, _, _, h, _, _ => h.elim
 | _ :: _, _ :: _, [], _, _, h, _, _ => h.elim
open Go.ChangeShapes Go.WideShapes Go.RowKit in
theorem law_post {G : Glob} {f : FuncId} {fn : Func} {s : ChangeSpec} {apart fresh handsOn again : Bool} {args : Array Value} {ds gs : List (DataW H)} {before : List MemPlace} {as : List AV} {tb : TypeId}
  (hl : laidOutB P = true) (hp : ∀ t, t ∈ fn.params.toList -> P.readableRec t = true /\ t < P.types.size) (hrt : fn.resultTypes = #[tb]) (hb : P.underlying tb = some .bool) (hvars : s.vars = [])
  (hs : s.fn H (ds ++ gs) = { results := [.lit (.bool true)], args := ds }) (hW : DataW.Whole enc P fn.params.toList s.vars apart W args.toList ds gs before)
  (hF : Fn P G f as [] (.bl true) []) (hG : GOK (env0 W) G) (hargs : RepVs (env0 W) as args.toList) :
  Calls P f args W fun e W' => ∃ v, e = .returned v /\ s.post enc P fn apart fresh handsOn again W args v W' := by
 have hc := hF.2 (env0 W) (fun _ => .dead) W args.toList (rel0 W) hG (fun _ h => by cases h) (fun _ h => by cases h) hargs
 rw [Array.toArray_toList] at hc
 refine hc.mono fun e W' => ?_
 rintro ⟨v, E', rfl, hst⟩
 have hv : v = .bool true := rep_bl hst.val
 subst hv
 refine ⟨_, rfl, ?_⟩
 have hsame : ∀ r, r < W.heap.size -> W'.heap[r]? = W.heap[r]? := fun r hr => hst.mem.same r hr fun _ _ h => by cases h
 have hW' := hW
 obtain ⟨p, q, hA, hV, rfl, hz, hn⟩ := hW
 obtain ⟨rfl, rfl⟩ : gs = [] /\ q = [] := by
  rw [hvars] at hV
  cases gs with
  | nil => exact ⟨rfl, hV⟩
  | cons g r => exact absurd hV (by intro h; cases h)
 rw [List.append_nil] at hW' hz hs
 have hlt : ∀ x, x ∈ p -> x.block < W.heap.size := fun x hx => by simpa using hW'.lt x hx
 have hargs' : ∀ sp : Nat -> Bool, (∀ x ∈ p, sp x.block = true) -> DataW.TrodAll enc P W' 0 sp true fn.params.toList args.toList ds p := fun sp hsp => carry_all hl hsame hp hA hlt hsp
 have hres : ∀ (b : Nat) (sp : Nat -> Bool) (hd : Bool), DataW.TrodAll enc P W' b sp hd fn.resultTypes.toList ((Value.bool true).resultList fn.resultTypes.size) [.lit (.bool true)] [] := by
  intro b sp hd
  rw [hrt]
  exact ⟨[], [], shut_bool hb true, rfl, rfl⟩
 have hfz : ∀ a : Addr, a.block < W.heap.size -> W'.frozen? a = W.frozen? a := fun a ha => by simp only [World.frozen?, hsame _ ha]
 have hk : W.keptBut W' (· ∈ p) := by
  refine ⟨hst.mem.os, hst.mem.output, fun i hi => ?_⟩
  rw [hsame i hi]
  cases hw : W.heap[i]? with
  | none => trivial
  | some o => cases o <;> simp
 have hvv : DataW.TrodVars enc P W' (fun _ => true) s.vars [] [] := by rw [hvars]; rfl
 have hold : ∀ x ∈ p, (fun b => decide (b < W.heap.size)) x.block = true := fun x hx => by simpa using hlt x hx
 refine ⟨ds, [], p, [], p, [], hW', by rw [List.append_nil, hs]; exact hres _ _ _, by rw [List.append_nil, hs]; exact hargs' _ hold, by rw [List.append_nil, hs, hvars]; rfl, World.keptBut_mono (fun x hx => ⟨hx, .inr (.inl hx)⟩) hk, fun _ => ?_⟩
 refine ⟨ok_one (by rw [hrt]) rfl (okWide_bool_mk hb true), _, _, ([] ++ p) ++ [], ⟨[] ++ p, [], trodAll_append (hargs' _ (fun _ _ => rfl)) (hres _ _ _), hvv, rfl, ?_, ?_⟩, ?_⟩
 ·intro b off hx
  have hx' : MemPlace.cell b off ∈ p := by simpa using hx
  rw [hfz _ (hlt _ hx')]
  exact hz b off hx'
 ·intro ha
  have := hn ha
  simpa using this
 ·intro x hx _
  simpa using hx
theorem bnd_all : Bnd (H := H) (fun _ => True) maxLen := ⟨fun _ _ h => h, fun _ _ _ h => ⟨h, fun _ _ => trivial⟩, fun _ _ _ _ => trivial⟩
end
end Go.Eng

namespace Go.Eng
theorem bnd {α β : Type} {o : Option α} {f : α -> Option β} {b : β} (h : o.bind f = some b) : ∃ a, o = some a /\ f a = some b := Option.bind_eq_some_iff.1 h
theorem cond_t {α : Type} {b : Bool} {x y z : α} (h : cond b x y = z) (hb : b = true) : x = z := by rw [hb] at h; exact h
theorem cond_f {α : Type} {b : Bool} {x y z : α} (h : cond b x y = z) (hb : b = false) : y = z := by rw [hb] at h; exact h
theorem gd {α : Type} {p : Prop} [Decidable p] {x : Option α} {z : α} (h : (if p then x else none) = some z) : p /\ x = some z := by
 split at h
 ·exact ⟨‹_›, h⟩
 ·cases h
theorem some_in {α : Type} {a b : α} (h : some a = some b) : a = b := Option.some.inj h
theorem no_none {α : Type} {p : Prop} {a : α} (h : (none : Option α) = some a) : p := nomatch h
def nm {α β : Type} (a : α) (f : α -> β) : β := f a
theorem nm_at {α β : Type} {a : α} {f : α -> β} {z : β} (x : α) (hx : x = a) (h : nm a f = z) : f x = z := by subst hx; exact h
def rw_ {α : Type} (dv : α -> DV) (z : α) (l : List α) : Nat -> DV := fun j => dv (l.getD j z)
def lk {κ α : Type} [BEq κ] (k : κ) : List (κ × α) -> Option α
 | [] => none
 | x :: r => match k == x.1 with
  | true => some x.2
  | false => lk k r
def st {κ α : Type} [BEq κ] (k : κ) (v : α) : List (κ × α) -> List (κ × α)
 | [] => [(k, v)]
 | x :: r => match k == x.1 with
  | true => (k, v) :: r
  | false => x :: st k v r
section
variable {κ α : Type} [BEq κ] {kf : κ -> DV} {vf : α -> DV}
end
theorem ve_full (k : IntKind) (l : List Int) : ViewEq (.dv (.roI k l)) (.dv (.roI k ((l.drop 0).take l.length))) := .inl (by simp)
theorem cut_full (l : List Int) : l = (l.drop 0).take l.length := by simp
theorem cut_0 (l : List Int) (n : Nat) : l.take n = (l.drop 0).take n := rfl
theorem ln_full (l : List Int) : l.length = ((l.drop 0).take l.length).length := by simp
theorem ln_0 (l : List Int) (n : Nat) : (l.take n).length = ((l.drop 0).take n).length := rfl
theorem app_cut {a a' b b' : List Int} (h : a = a') (h' : b = b') : a ++ b = a' ++ b' := by rw [h, h']
theorem app_ln {a b b' : List Int} (h : b.length = b'.length) : (a ++ b).length = a.length + b'.length := by rw [List.length_append, h]
theorem cut_ln {l b b' : List Int} {n : Nat} (hg : n ≤ l.length) (h : b.length = b'.length) : (l.take n ++ b).length = n + b'.length := by rw [List.length_append, List.length_take, h, Nat.min_eq_left hg]
theorem cut_ln2 {l b b' : List Int} {o n : Nat} (hg : o + n ≤ l.length) (h : b.length = b'.length) : ((l.drop o).take n ++ b).length = n + b'.length := by rw [List.length_append, List.length_take, List.length_drop, h, Nat.min_eq_left (by omega)]
theorem le_of_ln {n m : Nat} {c d : Int} (h : n = m) (hg : (n : Int) * c ≤ d) : (m : Int) * c ≤ d := h ▸ hg
theorem le_of_ln2 {n m : Nat} {a c d : Int} (h : n = m) (hg : (a + n) * c ≤ d) : (a + m) * c ≤ d := h ▸ hg
def FUEL : Nat := 18446744073709551616
theorem Fn.bodyE {P : Program} {G : Glob} {T : Tr} (hT : TabOK P T) (hm : P.follows .mixedOrders = true) (hG0 : GPlain G) {f : FuncId} {fn : Func} {c : Code} (hf : P.funcs[f]? = some fn) (hname : (fn.name == "runtime.NumGoroutine") = false) (hb : fn.body = some c)
  (τ : List (Nat × Nat)) (as0 : List AV) (bs0 : List Blk) (news : List Nat) (r0 : AV) (ws : List Blk) {args : List AV} {S wr : List (Nat × Blk)} {r : AV}
  (ha : as0.map (AV.ren τ) = args) (hS : renAll τ (List.range bs0.length) bs0 = S) (hr : r0.ren τ = r) (hw : renAll τ (List.range bs0.length ++ news) ws = wr) (hchk : bodyB as0 bs0 news r0 ws = true)
  (hk : τ.map Prod.fst = List.range bs0.length ++ news) (hn : (τ.map Prod.snd).Nodup) (dp : Nat)
  (h : startT as0 fn.ntmps fun ts => vcR P G T (itR P G T dp) bs0.length noY c false [] none (retK T fn fun r bs => r = r0 /\ leaves bs (List.range bs0.length ++ news) ws) ts bs0) :
  Fn P G f args S r wr := by
 subst ha; subst hS; subst hr; subst hw
 rw [startT_eq] at h
 exact Fn.bodyN hT hm hG0 hf hname hb τ as0 bs0 news r0 ws hchk hk hn dp h
end Go.Eng

namespace Go.Eng
def okB (k : IntKind) (N : Nat) (l : List Int) : Prop := l.length ≤ N /\ ∀ y, y ∈ l -> k.min ≤ y /\ y ≤ k.max
def ErrsOK (ep : TypeId) (er : Nat -> TypeId × Value) (I : List Nat) (fx : Nat -> Option Obj) : Prop :=
 (∀ i, i ∈ I -> ∃ a c t, er i = (ep, .pointer (some a)) /\ fx a.block = some (.cells c t (0, 0))) /\ ∀ i j, i ∈ I -> j ∈ I -> i ≠ j -> er i ≠ er j
def isM (I : List Nat) (a b : Nat) : Option Bool := if a ∈ I /\ b ∈ I then some (decide (a = b)) else none
theorem isM_inv {I : List Nat} {a b : Nat} {r : Bool} (h : isM I a b = some r) : a ∈ I /\ b ∈ I /\ decide (a = b) = r := by
 unfold isM at h
 split at h
 ·rename_i hab; exact ⟨hab.1, hab.2, Option.some.inj h⟩
 ·cases h
theorem callable_of {P : Program} {f : FuncId} {fn : Func} {c : Code} (hf : P.funcs[f]? = some fn) (hname : (fn.name == "runtime.NumGoroutine") = false) (hb : fn.body = some c) : Callable P f := fun args w => by
 have hname' : fn.name ≠ "runtime.NumGoroutine" := by simpa using hname
 simp [callFunc, hf, hname', hb]
section
variable {P : Program} {W : World}
theorem laid_err {nm : String} {ep es : TypeId} (h1 : ∀ u, P.typeName? 3 u = some nm -> u = ep) (hep : P.underlying ep = some (.pointer es)) (hes : P.cellsOf es = 1) : ∀ {l : List (String × DataW Unit)} {ps : List MemPlace}, DataW.LaidVars P W l ps -> (∀ b off, MemPlace.cell b off ∈ ps -> ∀ u v, W.cell? ⟨b, off, none⟩ = some (.iface u v) -> Value.okWide P W .any 0 u v) -> ∀ {n : String} {d : DataW Unit}, (n, DataW.iface nm (.ptr d)) ∈ l -> ∀ {g : Nat} {ti : TypeId} {ms : Array (String × TypeId)},
  P.globalNamed n = some g -> (P.globals[g]?).map (·.type) = some ti -> P.underlying ti = some (.interface ms) -> ∃ a, W.cell? ⟨g, 0, none⟩ = some (.iface ep (.pointer (some a))) /\ MemPlace.cell a.block a.off ∈ ps /\ a.spot = none
 | [], _, _, _, _, _, hm, _, _, _, _, _, _ => by cases hm
 | (n', d') :: r, _, h, hok, n, d, hm, g, ti, ms, hg, hty, hu => by
  obtain ⟨g', t, cs, fuel, p, q, k1, k2, k3, k4, k5, rfl⟩ := h
  rcases List.mem_cons.1 hm with e | hm
  ·cases e
   obtain rfl := Option.some.inj (hg.symm.trans k1)
   obtain rfl := Option.some.inj (hty.symm.trans k2)
   obtain ⟨f2, u, v, hcs, hn, ht⟩ := iface_of_trod hu k4
   obtain rfl := h1 u hn
   obtain ⟨f3, a, cs', q', hv, hc, _, rfl⟩ := ptr_of_trod hep ht
   have hcs' : cs = #[.iface u v] := by rw [← Array.toList_inj, hcs]
   subst hcs'
   have hcell : W.cell? ⟨g, 0, none⟩ = some (.iface u v) := by simpa using World.var?_cell k1 k3 0
   have hw := hok g 0 (by simp [MemPlace.row]) u v hcell
   have hvv : v = .pointer (some a) := by
    have key : ∀ v : Value, (∀ q, v ≠ .agg q) -> v.cells.toList = [.pointer (some a)] -> v = .pointer (some a) := fun v h e => by
     have : v.cells = #[v] := by cases v <;> first | rfl | exact absurd rfl (h _)
     rw [this] at e; simpa using e
    refine key v (fun q e => ?_) hv
    subst e
    unfold Value.okWide Cell.okWide Cell.ok at hw
    simp [hep] at hw
   subst hvv
   refine ⟨a, hcell, ?_, spot_none hc (by rw [hes]; exact Nat.one_pos)⟩
   rw [hes]
   simp [MemPlace.row]
  ·obtain ⟨a, e1, e2, e3⟩ := laid_err h1 hep hes k5 (fun b off hb => hok b off (List.mem_append_right _ hb)) hm hg hty hu
   exact ⟨a, e1, List.mem_append_right _ e2, e3⟩
theorem laid_apart {nm : String} {ep es : TypeId} (h1 : ∀ u, P.typeName? 3 u = some nm -> u = ep) (hep : P.underlying ep = some (.pointer es)) (hes : P.cellsOf es = 1) : ∀ {l : List (String × DataW Unit)} {ps : List MemPlace}, DataW.LaidVars P W l ps -> ps.Nodup -> (∀ b off, MemPlace.cell b off ∈ ps -> ∀ u v, W.cell? ⟨b, off, none⟩ = some (.iface u v) -> Value.okWide P W .any 0 u v) -> ∀ {n n' : String} {d d' : DataW Unit}, n ≠ n' -> (n, DataW.iface nm (.ptr d)) ∈ l -> (n', DataW.iface nm (.ptr d')) ∈ l -> ∀ {g g' : Nat} {ti ti' : TypeId} {ms ms' : Array (String × TypeId)},
  P.globalNamed n = some g -> (P.globals[g]?).map (·.type) = some ti -> P.underlying ti = some (.interface ms) -> P.globalNamed n' = some g' -> (P.globals[g']?).map (·.type) = some ti' -> P.underlying ti' = some (.interface ms') -> ∀ a a', W.cell? ⟨g, 0, none⟩ = some (.iface ep (.pointer (some a))) -> W.cell? ⟨g', 0, none⟩ = some (.iface ep (.pointer (some a'))) -> a ≠ a'
 | [], _, _, _, _, _, _, _, _, _, hm, _, _, _, _, _, _, _, _, _, _, _, _, _, _, _, _, _ => by cases hm
 | (m, dm) :: r, _, h, hn, hok, n, n', d, d', hne, hm, hm', g, g', ti, ti', ms, ms', hg, hty, hu, hg', hty', hu', a, a', hc, hc' => by
  have hall := h
  obtain ⟨g0, t, cs, fuel, p, q, k1, k2, k3, k4, k5, rfl⟩ := h
  -- the head's place and the rest's
  have two : ∀ {n n' : String} {d d' : DataW Unit} {g g' : Nat} {ti ti' : TypeId} {ms ms' : Array (String × TypeId)}, (n, DataW.iface nm (.ptr d)) = (m, dm) -> (n', DataW.iface nm (.ptr d')) ∈ r -> P.globalNamed n = some g -> (P.globals[g]?).map (·.type) = some ti -> P.underlying ti = some (.interface ms) -> P.globalNamed n' = some g' -> (P.globals[g']?).map (·.type) = some ti' -> P.underlying ti' = some (.interface ms') -> ∀ a a', W.cell? ⟨g, 0, none⟩ = some (.iface ep (.pointer (some a))) -> W.cell? ⟨g', 0, none⟩ = some (.iface ep (.pointer (some a'))) -> a ≠ a' := by
   intro n n' d d' g g' ti ti' ms ms' e hr hg hty hu hg' hty' hu' a a' hc hc' ea
   subst ea
   cases e
   have one : DataW.LaidVars P W [(m, DataW.iface nm (.ptr d))] (MemPlace.row ⟨g0, 0, none⟩ cs.size ++ p ++ []) := ⟨g0, t, cs, fuel, p, [], k1, k2, k3, k4, rfl, rfl⟩
   rw [List.append_nil] at one
   obtain ⟨a1, e1, e2, _⟩ := laid_err h1 hep hes one (fun b off hb => hok b off (List.mem_append_left _ hb)) (List.mem_singleton.2 rfl) hg hty hu
   obtain ⟨a2, e3, e4, _⟩ := laid_err h1 hep hes k5 (fun b off hb => hok b off (List.mem_append_right _ hb)) hr hg' hty' hu'
   rw [hc] at e1; rw [hc'] at e3
   injection e1 with e1; injection e1 with _ e1; injection e1 with e1; injection e1 with e1
   injection e3 with e3; injection e3 with _ e3; injection e3 with e3; injection e3 with e3
   subst e1; subst e3
   exact (List.nodup_append.1 hn).2.2 _ e2 _ e4 rfl
  rcases List.mem_cons.1 hm with e | hm
  ·rcases List.mem_cons.1 hm' with e' | hm'
   ·rw [← e'] at e; injection e with e; exact absurd e hne
   ·exact two e hm' hg hty hu hg' hty' hu' a a' hc hc'
  ·rcases List.mem_cons.1 hm' with e' | hm'
   ·exact fun ea => two e' hm hg' hty' hu' hg hty hu a' a hc' hc ea.symm
   ·exact laid_apart h1 hep hes k5 (List.nodup_append.1 hn).2.1 (fun b off hb => hok b off (List.mem_append_right _ hb)) hne hm hm' hg hty hu hg' hty' hu' a a' hc hc'
theorem errs_laid {nm0 : String} {ep es : TypeId} (h1 : ∀ u, P.typeName? 3 u = some nm0 -> u = ep) (hep : P.underlying ep = some (.pointer es)) (hes : P.cellsOf es = 1) {l : List (String × DataW Unit)} (h : laidMet P l W) {I : List Nat} {nm : Nat -> String} {gl : Nat -> Nat}
  (hI : ∀ i, i ∈ I -> (∃ d, (nm i, DataW.iface nm0 (.ptr d)) ∈ l) /\ P.globalNamed (nm i) = some (gl i) /\ ∃ ti ms, (P.globals[gl i]?).map (·.type) = some ti /\ P.underlying ti = some (.interface ms))
  (hinj : ∀ i, i ∈ I -> ∀ j, j ∈ I -> i ≠ j -> nm i ≠ nm j) : ∃ er, ErrsOK ep er I (env0 W).fx /\ ∀ i, i ∈ I -> W.cell? ⟨gl i, 0, none⟩ = some (.iface (er i).1 (er i).2) := by
 obtain ⟨ps, hv, hn, hok⟩ := h
 have hok' : ∀ b off, MemPlace.cell b off ∈ ps -> ∀ u v, W.cell? ⟨b, off, none⟩ = some (.iface u v) -> Value.okWide P W .any 0 u v := fun b off hb => (hok b off hb).2
 have each : ∀ i, i ∈ I -> ∃ a, W.cell? ⟨gl i, 0, none⟩ = some (.iface ep (.pointer (some a))) /\ MemPlace.cell a.block a.off ∈ ps /\ a.spot = none := fun i hi => by
  obtain ⟨⟨d, hd⟩, hg, ti, ms, ht, hu⟩ := hI i hi
  exact laid_err h1 hep hes hv hok' hd hg ht hu
 let er : Nat -> TypeId × Value := fun i => if hi : i ∈ I then (ep, .pointer (some (Classical.choose (each i hi)))) else (0, .nilIface)
 have her : ∀ i (hi : i ∈ I), er i = (ep, .pointer (some (Classical.choose (each i hi)))) := fun i hi => dif_pos hi
 refine ⟨er, ⟨fun i hi => ?_, fun i j hi hj hij e => ?_⟩, fun i hi => ?_⟩
 ·obtain ⟨_, h2, _⟩ := Classical.choose_spec (each i hi)
  obtain ⟨⟨c, t, hc⟩, _⟩ := hok _ _ h2
  exact ⟨_, c, t, her i hi, hc⟩
 ·rw [her i hi, her j hj] at e
  injection e with _ e; injection e with e; injection e with e
  obtain ⟨⟨d, hd⟩, hg, ti, ms, ht, hu⟩ := hI i hi
  obtain ⟨⟨d', hd'⟩, hg', ti', ms', ht', hu'⟩ := hI j hj
  exact laid_apart h1 hep hes hv hn hok' (hinj i hi j hj hij) hd hd' hg ht hu hg' ht' hu' _ _ (Classical.choose_spec (each i hi)).1 (Classical.choose_spec (each j hj)).1 e
 ·rw [her i hi]; exact (Classical.choose_spec (each i hi)).1
theorem laid_ints : ∀ {l : List (String × DataW Unit)} {ps : List MemPlace}, DataW.LaidVars P W l ps -> ∀ {n : String} {k : IntKind} {ns : List Int}, (n, DataW.agg (ns.map fun x => DataW.lit (.int k x))) ∈ l -> ∀ {g : Nat} {ti e : TypeId} {N : Nat},
  P.globalNamed n = some g -> (P.globals[g]?).map (·.type) = some ti -> P.underlying ti = some (.array N e) -> P.underlying e = some (.int k) -> P.cellsOf e = 1 -> P.cellsOf ti = ns.length -> N = ns.length -> ∀ j (h : j < ns.length), W.cell? ⟨g, j, none⟩ = some (.int k ns[j])
 | [], _, _, _, _, _, hm, _, _, _, _, _, _, _, _, _, _, _ => by cases hm
 | (n', d') :: r, _, h, n, k, ns, hm, g, ti, e, N, hg, hty, hu, he, hce, hct, hN => by
  obtain ⟨g', t, cs, fuel, p, q, h1, h2, h3, h4, h5, _⟩ := h
  rcases List.mem_cons.1 hm with e' | hm
  ·cases e'
   obtain rfl := Option.some.inj (hg.symm.trans h1)
   obtain rfl := Option.some.inj (hty.symm.trans h2)
   obtain ⟨xs, m, _, hx, hl, hxl, hel⟩ := DataW.trod_array hu h4
   intro j hj
   have hx1 : xs.map (·.1) = ns.map fun x => DataW.lit (.int k x) := by
    injection hx with hx _
    injection hx with hx
    exact hx.symm
   have hjx : j < xs.length := by omega
   have hj1 := hel j (by omega)
   rw [List.getElem?_eq_getElem hjx, hce, Nat.mul_one] at hj1
   obtain ⟨v, hv1, hv2, _⟩ := DataW.trod_int he hj1
   have hfst : (xs[j]).1 = DataW.lit (.int k ns[j]) := by
    have : (xs.map (·.1))[j]'(by simpa using hjx) = (ns.map fun x => DataW.lit (.int k x))[j]'(by simpa using hj) := by simp only [hx1]
    simpa using this
   rw [hv2] at hfst
   have hvn : v = ns[j] := by
    injection hfst with hfst; injection hfst
   subst hvn
   have hjc : j < cs.size := by
    have : cs.toList.length = cs.size := Array.length_toList
    omega
   have hcell := World.var?_cell h1 h3 j
   rw [hcell, ← Array.getElem?_toList]
   have : (cs.toList.drop j).take 1 = [cs.toList[j]'(by simpa using hjc)] := by
    rw [List.drop_eq_getElem_cons (by simpa using hjc)]; rfl
   rw [this] at hv1
   rw [List.getElem?_eq_getElem (by simpa using hjc)]
   exact congrArg some (List.cons.inj hv1).1
  ·exact laid_ints h5 hm hg hty hu he hce hct hN
theorem table_cell {W : World} {g N : Nat} {k : IntKind} {ns : List Int} (hN : ns.length = N) (h : ∀ j (h : j < ns.length), W.cell? ⟨g, j, none⟩ = some (.int k ns[j])) : RepV (env0 W) (.rp (.ints k N ns)) (.pointer (some ⟨g, 0, none⟩)) :=
 .one (.rp g 0 (.ints k N ns hN) (fun j hj => by
  have hj' : j < ns.length := by simpa using hj
  have := h j hj'
  rw [Nat.zero_add, List.getElem_map]
  exact this)) rfl
theorem err_cell {W : World} {g : Nat} {u : TypeId} {v : Value} (hc : W.cell? ⟨g, 0, none⟩ = some (.iface u v)) : RepV (env0 W) (.rp (.sc (.iface u v))) (.pointer (some ⟨g, 0, none⟩)) :=
 .one (.rp g 0 (.sc (.iface u v) trivial) (fun j hj => by
  obtain rfl : j = 0 := by simpa using hj
  exact hc)) rfl
end
end Go.Eng
