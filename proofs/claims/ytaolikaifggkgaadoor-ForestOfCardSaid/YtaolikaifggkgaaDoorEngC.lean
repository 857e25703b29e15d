/-
  A CALCULATOR OVER THE MODEL: part 3 of 3. It holds for every program; its own names only.
-/
import Derived.Test.YtaolikaifggkgaaDoorEngB
import Derived.Orders
import Derived.Scope
namespace Go.Eng

def setD (D : Nat → Bool) (j : Nat) : Nat → Bool := fun i => if i = j then true else D i

theorem split_at {es : List Ent} {j : Nat} {e : Ent} (h : es[j]? = some e) : ∃ a b, es = a ++ e :: b ∧ a.length = j := by
  obtain ⟨hlt, he⟩ := List.getElem?_eq_some_iff.1 h
  refine ⟨es.take j, es.drop (j + 1), ?_, by simp; omega⟩
  rw [← he, List.getElem_cons_drop, List.take_append_drop]

theorem tval_set {es : List Ent} {D : Nat → Bool} {j : Nat} {e : Ent} {t : Nat} {x : AV} (h : es[j]? = some e) (hno : ∀ i e', D i = true → j < i → es[i]? = some e' → e.o.dst = some t → e'.o.dst ≠ some t) :
    tval es 0 (setD D j) t x = if e.o.dst = some t then e.val else tval es 0 D t x := by
  split
  · rename_i hd
    obtain ⟨l, r, rfl, hl⟩ := split_at h
    rw [tval_append]
    simp only [tval]
    rw [Nat.zero_add, hl, if_pos ⟨by simp [setD], hd⟩]
    have : tval r (j + 1) (setD D j) t e.val = tval r (j + 1) (fun _ => false) t e.val := by
      refine tval_congr fun i e' hi hd' => ?_
      have hi' : (l ++ e :: r)[j + 1 + i]? = some e' := by
        rw [List.getElem?_append_right (by omega), hl, show j + 1 + i - j = i + 1 from by omega]; exact hi
      have : D (j + 1 + i) = false := by
        cases hD : D (j + 1 + i) with
        | false => rfl
        | true => exact absurd hd' (hno _ e' hD (by omega) hi' hd)
      simp only [setD, if_neg (show j + 1 + i ≠ j from by omega), this]
    rw [this, tval_off fun _ _ => rfl]
  · rename_i hd
    refine tval_congr fun i e' hi hd' => ?_
    rw [Nat.zero_add]
    unfold setD
    rw [if_neg]
    intro e1
    subst e1
    rw [h] at hi; cases hi
    exact hd hd'
theorem bval_set {es : List Ent} {D : Nat → Bool} {j : Nat} {e : Ent} {H : Nat → Blk} (h : es[j]? = some e) (hno : ∀ i e' b, D i = true → j < i → es[i]? = some e' → b ∈ e.wr.map (·.1) → b ∉ e'.wr.map (·.1)) :
    bval es 0 (setD D j) H = upds (bval es 0 D H) e.wr := by
  funext b
  by_cases hb : b ∈ e.wr.map (·.1)
  · obtain ⟨l, r, rfl, hl⟩ := split_at h
    rw [bval_append]
    simp only [bval]
    rw [Nat.zero_add, hl, if_pos (by simp [setD])]
    have : bval r (j + 1) (setD D j) (upds (bval l 0 (setD D j) H) e.wr) b = bval r (j + 1) (fun _ => false) (upds (bval l 0 (setD D j) H) e.wr) b := by
      refine bval_congr rfl fun i e' hi hm => ?_
      have hi' : (l ++ e :: r)[j + 1 + i]? = some e' := by
        rw [List.getElem?_append_right (by omega), hl, show j + 1 + i - j = i + 1 from by omega]; exact hi
      have : D (j + 1 + i) = false := by
        cases hD : D (j + 1 + i) with
        | false => rfl
        | true => exact absurd hm (hno _ e' b hD (by omega) hi' hb)
      simp only [setD, if_neg (show j + 1 + i ≠ j from by omega), this]
    rw [this, bval_off fun _ _ => rfl]
    obtain ⟨x, _, he⟩ := upds_in hb
    rw [he, he]
  · rw [upds_notin fun z hz e' => hb (List.mem_map.2 ⟨z, hz, e'⟩)]
    refine bval_congr rfl fun i e' hi hm => ?_
    rw [Nat.zero_add]
    unfold setD
    rw [if_neg]
    intro e1
    subst e1
    rw [h] at hi; cases hi
    exact hb hm

section
variable (P : Program) (G : Nat → AV)

/-- A run so far: of the operations of D. -/
structure InvE (E0 : Env) (Ho : Nat → Blk) (w0 : World) (es : List Ent) (base : Nat → AV) (Hb : Nat → Blk) (n0 n : Nat) (D : Nat → Bool) (a : Act) (w : World) (E : Env) (acc : List (Nat × Blk)) : Prop where
  step : Step E0 Ho w0 acc .any undef E w
  H : upds Ho acc = bval es 0 D Hb
  size : a.tmps.size = n
  tmps : ∀ t, RepV E (tval es 0 D t (base t)) (a.tmps.getD t undef)
  glob : GOK E G
  unborn : ∀ b, E.pl b ≠ .unborn → b < n0 ∨ ∃ i e, D i = true ∧ es[i]? = some e ∧ b ∈ e.wr.map (·.1)
  acc : ∀ x, x ∈ acc → x.1 < n0 ∨ ∃ (i : Nat) (e : Ent), es[i]? = some e ∧ x.1 ∈ e.wr.map (·.1)
  defers : a.defers = []
def Inv (E0 : Env) (Ho : Nat → Blk) (w0 : World) (es : List Ent) (base : Nat → AV) (Hb : Nat → Blk) (n0 n : Nat) (D : Nat → Bool) (a : Act) (w : World) : Prop := ∃ E acc, InvE G E0 Ho w0 es base Hb n0 n D a w E acc

/-- A state that is as told. -/
structure SimE (E0 : Env) (Ho : Nat → Blk) (w0 : World) (ts : List AV) (bs : List Blk) (a : Act) (w : World) (E : Env) (acc : List (Nat × Blk)) : Prop where
  step : Step E0 Ho w0 acc .any undef E w
  H : upds Ho acc = hOf bs
  size : a.tmps.size = ts.length
  tmps : ∀ t, RepV E (ts.getD t .any) (a.tmps.getD t undef)
  glob : GOK E G
  unborn : ∀ b, E.pl b ≠ .unborn → b < bs.length
  acc : ∀ x, x ∈ acc → x.1 < bs.length
  defers : a.defers = []
def Sim (E0 : Env) (Ho : Nat → Blk) (w0 : World) (ts : List AV) (bs : List Blk) (a : Act) (w : World) : Prop := ∃ E acc, SimE G E0 Ho w0 ts bs a w E acc
end

section
variable {P : Program} {G : Nat → AV} {E0 : Env} {Ho : Nat → Blk} {w0 : World} {es : List Ent} {base : Nat → AV} {Hb : Nat → Blk} {n0 n : Nat} {all : List Oper}

theorem ofConst_rep (E : Env) (v : Value) : RepV E (ofConst v) v := by
  unfold ofConst
  split <;> first | exact sc_rep E trivial | exact .any E _ | exact str_rep E _

theorem evF_rep {E : Env} {f : Nat → AV} {a : Act} {x : Operand} (hG : GOK E G) (h : ∀ t, x = .tmp t → RepV E (f t) (a.tmps.getD t undef)) : RepV E (evF G f x) (a.eval x) := by
  cases x with
  | tmp t => exact h t rfl
  | const v => exact ofConst_rep E v
  | global g => exact hG g
  | func f => exact .one (.fn f [] [] rfl fun i hi => by cases hi) rfl

theorem put_tmps {a : Act} {d : Option Tmp} {v : Value} {n : Nat} (hs : a.tmps.size = n) (hd : ∀ t, d = some t → t < n) (t : Nat) : (a.put d v).tmps.getD t undef = if d = some t then v else a.tmps.getD t undef := by
  cases d with
  | none => rw [if_neg (by intro e; cases e)]; rfl
  | some d =>
    have hlt : d < a.tmps.size := by rw [hs]; exact hd d rfl
    by_cases e : d = t
    · subst e
      rw [if_pos rfl]
      simp [Act.put, hlt]
    · rw [if_neg fun h => e (Option.some.inj h)]
      simp [Act.put, Array.getElem?_setIfInBounds_ne e]
theorem put_size (a : Act) (d : Option Tmp) (v : Value) : (a.put d v).tmps.size = a.tmps.size := by
  cases d <;> simp [Act.put]
theorem put_defers (a : Act) (d : Option Tmp) (v : Value) : (a.put d v).defers = a.defers := by
  cases d <;> rfl

theorem operand_reads {o : Oper} {t : Nat} (h : Operand.tmp t ∈ opnds o.op) : t ∈ reads all o := by
  unfold reads
  refine List.mem_append.2 (.inl (List.mem_filterMap.2 ⟨_, h, rfl⟩))

theorem guard_wanted {E : Env} {a : Act} {o : Oper} {f g : Nat → AV} {r : Bool} (h : GuardR all o f r) (hfg : ∀ t, t ∈ reads all o → g t = f t) (ht : ∀ t, RepV E (g t) (a.tmps.getD t undef)) : Region.wanted o (yielded all.toArray a.tmps) = r := by
  unfold GuardR at h
  unfold Region.wanted
  split at h
  · rename_i hg; rw [hg, h]
  · rename_i k want hg
    obtain ⟨d, c, h1, h2, h3⟩ := h
    rw [hg]
    simp only
    have hd : d ∈ reads all o := by
      unfold reads
      refine List.mem_append.2 (.inr ?_)
      rw [hg]; simp only; rw [h1]; exact List.mem_singleton.2 rfl
    have hv := h2 E _ (hfg d hd ▸ ht d)
    have hy : yielded all.toArray a.tmps k = some c := by
      unfold yielded
      have hk : (all.toArray[k]?).bind (·.dst) = some d := by
        rw [List.getElem?_toArray]
        rw [List.getD_eq_getElem?_getD] at h1
        cases hx : all[k]? with
        | none => rw [hx] at h1; cases h1
        | some x => rw [hx] at h1; exact h1
      rw [hk]
      simp only [Option.bind_some]
      have hlt : a.tmps[d]? = some (.bool c) := by
        cases hx : a.tmps[d]? with
        | none => simp [hx, undef] at hv
        | some u => simp [hx] at hv; rw [hv]
      rw [hlt]
    rw [hy, h3]
    cases c <;> cases want <;> rfl

theorem exec_one {D : Nat → Bool} {a : Act} {w : World} {j : Nat} {e : Ent} {Q : Exit → Act → World → Prop} {K : Act → World → Prop} (hR0 : Rel E0 Ho w0) (hgood : Good P G all es base Hb n0 j e) (hj : es[j]? = some e) (hall : all[j]? = some e.o) (hn : ∀ t, e.o.dst = some t → t < n)
    (hrd : ∀ t, t ∈ reads all e.o → tval es 0 D t (base t) = tval es 0 (upto j) t (base t)) (hrb : ∀ b, b ∈ e.foot.1 → bval es 0 D Hb b = bval es 0 (upto j) Hb b)
    (hdst : ∀ i e' d, D i = true → j < i → es[i]? = some e' → e.o.dst = some d → e'.o.dst ≠ some d)
    (hwr : ∀ i e' b, D i = true → j < i → es[i]? = some e' → b ∈ e.wr.map (·.1) → b ∉ e'.wr.map (·.1))
    (hDj : D j = false) (hI : Inv G E0 Ho w0 es base Hb n0 n D a w) (hK : ∀ a' w', Inv G E0 Ho w0 es base Hb n0 n (setD D j) a' w' → K a' w') : wpOp P all.toArray Q j K a w := by
  obtain ⟨E, acc, hI⟩ := hI
  have hw := guard_wanted (all := all) (a := a) hgood.1 hrd hI.tmps
  unfold wpOp
  rw [List.getElem?_toArray, hall]
  simp only
  have next : ∀ (u : Value) (E' : Env) (acc' : List (Nat × Blk)) (w' : World), Step E0 Ho w0 acc' .any undef E' w' → upds Ho acc' = upds (bval es 0 D Hb) e.wr → Ext E E' → RepV E' e.val u → (∀ b, E.pl b = .unborn → E'.pl b ≠ .unborn → b ∈ e.wr.map (·.1)) → (∀ x, x ∈ acc' → x ∈ acc ∨ x ∈ e.wr) →
      K (a.put e.o.dst u) w' := by
    intro u E' acc' w' hst hH hE hv hb hacc
    refine hK _ _ ⟨E', acc', hst, by rw [bval_set hj hwr, hH], by rw [put_size, hI.size], fun t => ?_, hI.glob.ext hE, fun b hb' => ?_, fun x hx => ?_, by rw [put_defers, hI.defers]⟩
    · rw [tval_set hj fun i e' h1 h2 h3 h4 => hdst i e' t h1 h2 h3 h4, put_tmps hI.size hn]
      split
      · exact hv
      · exact (hI.tmps t).ext hE
    · by_cases hu : E.pl b = .unborn
      · exact .inr ⟨j, e, by simp [setD], hj, hb b hu hb'⟩
      · rcases hI.unborn b hu with h | ⟨i, e', h1, h2, h3⟩
        · exact .inl h
        · exact .inr ⟨i, e', by unfold setD; split <;> first | rfl | exact h1, h2, h3⟩
    · rcases hacc x hx with h | h
      · exact hI.acc x h
      · exact .inr ⟨j, e, hj, List.mem_map.2 ⟨x, h, rfl⟩⟩
  cases hrun : e.run with
  | none =>
    rw [hrun] at hw
    simp only [hw, Option.isSome_none, Bool.false_eq_true, if_false]
    have hew : e.wr = [] := by unfold Ent.wr; rw [hrun]
    exact next undef E acc w hI.step (by rw [hew]; exact hI.H) (.refl E) (by unfold Ent.val; rw [hrun]; exact .any E _) (fun b h1 h2 => absurd h1 h2) (fun x hx => .inl hx)
  | some r =>
    obtain ⟨rd, wr, v⟩ := r
    rw [hrun] at hw
    simp only [hw, Option.isSome_some, if_true]
    have hew : e.wr = wr := by unfold Ent.wr; rw [hrun]
    have hev : e.val = v := by unfold Ent.val; rw [hrun]
    have hef : e.foot.1 = rd := by unfold Ent.foot; rw [hrun]
    obtain ⟨hnew, heff⟩ := hgood.2 rd wr v hrun
    refine .inl (heff E _ a w hI.step.rel hI.glob (fun x hx => evF_rep hI.glob fun t ht => ?_) (fun b hb => ?_) (fun x hx hd => ?_) _ _ fun u E' w' hst => ?_)
    · subst ht
      rw [← hrd t (operand_reads hx)]
      exact hI.tmps t
    · rw [hI.H]; exact hrb b (by rw [hef]; exact hb)
    · obtain ⟨h1, h2⟩ := hnew x hx hd
      refine Classical.byContradiction fun hu => ?_
      rcases hI.unborn x.1 hu with h | ⟨i, e', h3, h4, h5⟩
      · omega
      · rcases Nat.lt_trichotomy i j with hlt | heq | hgt
        · exact h2 i e' hlt h4 h5
        · subst heq; rw [hDj] at h3; cases h3
        · exact hwr i e' x.1 h3 hgt h4 (by rw [hew]; exact List.mem_map.2 ⟨x, hx, rfl⟩) h5
    · have htr := (hI.step.trans hR0 hst)
      refine next u E' (acc ++ wr) w' (htr.free (.any _ _)) (by rw [upds_append, hI.H, hew]) hst.ext (by rw [hev]; exact hst.val) (fun b h1 h2 => by rw [hew]; exact hst.born b h1 h2) fun x hx => ?_
      rw [hew]; exact List.mem_append.1 hx

theorem upto_succ (j : Nat) : setD (upto j) j = upto (j + 1) := by
  funext i
  unfold setD upto
  split
  · rename_i h; subst h; simp
  · rename_i h; simp; omega

/-- In the text's order. -/
theorem ops_text {Q : Exit → Act → World → Prop} (hR0 : Rel E0 Ho w0) (hgood : ∀ j e, es[j]? = some e → Good P G all es base Hb n0 j e) (hall : es.map (·.o) = all) (hn : ∀ e, e ∈ es → ∀ t, e.o.dst = some t → t < n)
    (hQ : ∀ a w, Inv G E0 Ho w0 es base Hb n0 n (upto es.length) a w → Q .normal a w) : ∀ k j a w, j + k = es.length → Inv G E0 Ho w0 es base Hb n0 n (upto j) a w → wpOps P all.toArray Q (List.range' j k) a w
  | 0, j, a, w, hk, hI => by
    obtain rfl : j = es.length := by omega
    exact hQ a w hI
  | k + 1, j, a, w, hk, hI => by
    have hlt : j < es.length := by omega
    have hj : es[j]? = some es[j] := List.getElem?_eq_getElem hlt
    rw [List.range'_succ, wpOps_cons]
    refine exec_one hR0 (hgood j _ hj) hj (by rw [← hall, List.getElem?_map, hj]; rfl) (hn _ (List.getElem_mem hlt)) (fun _ _ => rfl) (fun _ _ => rfl) (fun i e' d h1 h2 => ?_) (fun i e' b h1 h2 => ?_) (by simp [upto]) hI fun a' w' hI' => ?_
    · simp [upto] at h1; omega
    · simp [upto] at h1; omega
    · rw [upto_succ] at hI'
      exact ops_text hR0 hgood hall hn hQ k (j + 1) a' w' (by omega) hI'

end
end Go.Eng

namespace Go.Eng

/- ## Any order -/

theorem memN_mem {l : List Nat} {b : Nat} (h : memN l b = true) : b ∈ l := memN_iff.1 h
theorem mem_memN {l : List Nat} {b : Nat} (h : b ∈ l) : memN l b = true := memN_iff.2 h

theorem meetN_false {l m : List Nat} (h : meetN l m = false) : ∀ x, x ∈ l → x ∉ m := by
  induction l with
  | nil => intro x hx; cases hx
  | cons y l ih =>
    unfold meetN at h
    split at h
    · cases h
    · rename_i hy
      intro x hx hm
      rcases List.mem_cons.1 hx with e | hx
      · subst e; rw [mem_memN hm] at hy; cases hy
      · exact ih h x hx hm
theorem hasN_false {d : Option Nat} {l : List Nat} (h : hasN d l = false) : ∀ t, d = some t → t ∉ l := by
  intro t hd hm
  subst hd
  unfold hasN at h
  simp only at h
  rw [mem_memN hm] at h; cases h
theorem sameN_false {d e : Option Nat} (h : sameN d e = false) : ∀ t, d = some t → e ≠ some t := by
  intro t hd he
  subst hd; subst he
  have : Nat.beq t t = true := Nat.beq_refl t
  unfold sameN at h
  simp only at h
  rw [this] at h; cases h

theorem clash_false {all : List Oper} {oi oj : Oper} {fi fj : Foot} (h : clash all oi fi oj fj = false) :
    (∀ t, oi.dst = some t → t ∉ reads all oj) ∧ (∀ t, oj.dst = some t → t ∉ reads all oi) ∧ (∀ t, oi.dst = some t → oj.dst ≠ some t) ∧ (∀ b, b ∈ fi.2 → b ∉ fj.1) ∧ (∀ b, b ∈ fi.2 → b ∉ fj.2) ∧ (∀ b, b ∈ fi.1 → b ∉ fj.2) := by
  unfold clash at h
  split at h
  · rename_i h1 h2 h3 h4 h5 h6
    exact ⟨hasN_false h1, hasN_false h2, sameN_false h3, meetN_false h4, meetN_false h5, meetN_false h6⟩
  · cases h

theorem drawRow_mem {all : List Oper} {oj : Oper} {fj : Foot} {anc : List Nat} : ∀ {i : Nat} {os : List Oper} {fs : List Foot}, drawRow all oj fj anc i os fs = true → ∀ k o f, os[k]? = some o → fs[k]? = some f → i + k ∈ anc ∨ clash all o f oj fj = false
  | _, [], _, _, k, o, f, h1, _ => by simp at h1
  | _, _ :: _, [], _, k, o, f, _, h2 => by simp at h2
  | i, oi :: os, fi :: fs, h, k, o, f, h1, h2 => by
    simp only [drawRow] at h
    have hhd : (i ∈ anc ∨ clash all oi fi oj fj = false) ∧ drawRow all oj fj anc (i + 1) os fs = true := by
      split at h
      · rename_i hm; exact ⟨.inl (memN_mem hm), h⟩
      · split at h
        · cases h
        · rename_i hc; exact ⟨.inr hc, h⟩
    cases k with
    | zero => simp at h1 h2; subst h1; subst h2; exact hhd.1
    | succ k =>
      have := drawRow_mem hhd.2 k o f (by simpa using h1) (by simpa using h2)
      rw [show i + 1 + k = i + (k + 1) from by omega] at this
      exact this
theorem allBelow_mem {j : Nat} : ∀ {l : List Nat}, allBelow j l = true → ∀ e, e ∈ l → e < j
  | [], _, e, h => by cases h
  | x :: r, h, e, he => by
    simp only [allBelow] at h
    split at h
    · rename_i hx
      rcases List.mem_cons.1 he with e1 | he
      · subst e1; rw [Nat.blt_eq] at hx; exact hx
      · exact allBelow_mem h e he
    · cases h
theorem drawGo_mem {all : List Oper} {fs : List Foot} {an : List (List Nat)} : ∀ {j : Nat} {l : List Oper}, drawGo all fs an j l = true → ∀ k o, l[k]? = some o → (∀ e, e ∈ edgesOf o → e < j + k) ∧ drawRow all o (fs.getD (j + k) ([], [])) (an.getD (j + k) []) 0 (all.take (j + k)) fs = true
  | _, [], _, k, o, h => by simp at h
  | j, oj :: r, h, k, o, hk => by
    simp only [drawGo] at h
    split at h
    · rename_i h1 h2
      cases k with
      | zero => simp at hk; subst hk; exact ⟨fun e he => by have := allBelow_mem h1 e he; omega, h2⟩
      | succ k =>
        have := drawGo_mem h k o (by simpa using hk)
        rw [show j + 1 + k = j + (k + 1) from by omega] at this
        exact this
    · cases h

/-- What is ahead of j, from what is ahead of its neighbours. -/
theorem ancs_get : ∀ {l : List Oper} {acc : List (List Nat)}, (∀ k, k < acc.length → (ancs l acc).getD k [] = acc.getD k []) ∧ ∀ k o, l[k]? = some o → ∃ acc' : List (List Nat), (ancs l acc).getD (acc.length + k) [] = (edgesOf o).flatMap (fun e => e :: acc'.getD e []) ∧ acc'.length = acc.length + k ∧ ∀ i, i < acc'.length → acc'.getD i [] = (ancs l acc).getD i []
  | [], acc => ⟨fun _ _ => rfl, fun k o h => by simp at h⟩
  | o :: r, acc => by
    obtain ⟨h1, h2⟩ := ancs_get (l := r) (acc := acc ++ [(edgesOf o).flatMap fun e => e :: acc.getD e []])
    have hkeep : ∀ k, k < acc.length → (ancs (o :: r) acc).getD k [] = acc.getD k [] := by
      intro k hk
      show (ancs r _).getD k [] = _
      rw [h1 k (by simp; omega)]
      simp [List.getD, List.getElem?_append_left hk]
    refine ⟨hkeep, fun k o' hk => ?_⟩
    cases k with
    | zero =>
      simp at hk; subst hk
      refine ⟨acc, ?_, rfl, fun i hi => (hkeep i hi).symm⟩
      show (ancs r _).getD _ [] = _
      rw [Nat.add_zero, h1 acc.length (by simp)]
      simp [List.getD]
    | succ k =>
      obtain ⟨acc', g1, g2, g3⟩ := h2 k o' (by simpa using hk)
      refine ⟨acc', ?_, by rw [g2]; simp; omega, g3⟩
      show (ancs r _).getD _ [] = _
      rw [← g1]
      congr 1
      simp; omega

/-- What is listed is closed: with each operation, all that are ahead of it. -/
theorem anc_listed {all : List Oper} {D : Nat → Bool} (hbelow : ∀ j o, all[j]? = some o → ∀ e, e ∈ edgesOf o → e < j) (hclosed : ∀ j o, all[j]? = some o → D j = true → ∀ e, e ∈ edgesOf o → D e = true) :
    ∀ j o, all[j]? = some o → (∀ e, e ∈ edgesOf o → D e = true) → ∀ i, i ∈ (ancs all []).getD j [] → D i = true := by
  intro j
  induction j using Nat.strongRecOn with
  | _ j ih =>
    intro o hj hD i hi
    obtain ⟨acc', h1, h2, h3⟩ := (ancs_get (l := all) (acc := [])).2 j o hj
    simp only [List.length_nil, Nat.zero_add] at h1 h2
    rw [h1] at hi
    obtain ⟨e, he, hi⟩ := List.mem_flatMap.1 hi
    have hlt := hbelow j o hj e he
    rcases List.mem_cons.1 hi with e1 | hi
    · subst e1; exact hD _ he
    · rw [h3 e (by omega)] at hi
      have hlen : e < all.length := by
        have := (List.getElem?_eq_some_iff.1 hj).1; omega
      have hee : all[e]? = some all[e] := List.getElem?_eq_getElem hlen
      exact ih e hlt _ hee (fun e' he' => hclosed e _ hee (hD e he) e' he') i hi

theorem countP_lt {l : List Nat} {p q : Nat → Bool} (h : ∀ x, q x = true → p x = true) {y : Nat} (hy : y ∈ l) (hp : p y = true) (hq : q y = false) : l.countP q < l.countP p := by
  induction l with
  | nil => cases hy
  | cons x l ih =>
    have hle : l.countP q ≤ l.countP p := List.countP_mono_left fun x _ hx => h x hx
    rw [List.countP_cons, List.countP_cons]
    rcases List.mem_cons.1 hy with e | hy
    · subst e; rw [hp, hq]; simp; omega
    · have := ih hy
      cases h1 : q x with
      | true => rw [h x h1]; simp; omega
      | false =>
        simp only [Bool.false_eq_true, if_false]
        split <;> omega

section
variable {P : Program} {G : Nat → AV} {E0 : Env} {Ho : Nat → Blk} {w0 : World} {es : List Ent} {base : Nat → AV} {Hb : Nat → Blk} {n0 n : Nat} {all : List Oper}

theorem edge_mem {o : Oper} {e : Edge} (he : e ∈ o.after) (hb : Region.binds .any e = true) : e.on ∈ edgesOf o := by
  unfold edgesOf
  refine List.mem_filterMap.2 ⟨e, by simpa using he, ?_⟩
  rw [hb]
theorem mem_edge {o : Oper} {i : Nat} (h : i ∈ edgesOf o) : ∃ e, e ∈ o.after ∧ Region.binds .any e = true ∧ e.on = i := by
  unfold edgesOf at h
  obtain ⟨e, he, h⟩ := List.mem_filterMap.1 h
  split at h
  · rename_i hb; cases h; exact ⟨e, by simpa using he, hb, rfl⟩
  · cases h

/-- In whatever order. -/
theorem ops_any {Q : Exit → Act → World → Prop} (hR0 : Rel E0 Ho w0) (hgood : ∀ j e, es[j]? = some e → Good P G all es base Hb n0 j e) (hall : es.map (·.o) = all) (hn : ∀ e, e ∈ es → ∀ t, e.o.dst = some t → t < n)
    (hdraw : drawB all (es.map (·.foot)) = true)
    (hQ : ∀ D a w, (∀ j, j < es.length → D j = true) → Inv G E0 Ho w0 es base Hb n0 n D a w → Q .normal a w) :
    ∀ fuel (listed : Array Bool) a w, listed.size = all.length → (List.range all.length).countP (fun i => !listed.getD i false) ≤ fuel →
      (∀ j o, all[j]? = some o → listed.getD j false = true → ∀ e, e ∈ edgesOf o → listed.getD e false = true) →
      Inv G E0 Ho w0 es base Hb n0 n (fun i => listed.getD i false) a w → wpAny P .any all.toArray Q fuel listed a w := by
  have hlen : es.length = all.length := by rw [← hall, List.length_map]
  have hgo : ∀ k o, all[k]? = some o → (∀ e, e ∈ edgesOf o → e < k) ∧ drawRow all o ((es.map (·.foot)).getD k ([], [])) ((ancs all []).getD k []) 0 (all.take k) (es.map (·.foot)) = true := by
    intro k o hk
    have := drawGo_mem hdraw k o hk
    rw [Nat.zero_add] at this
    exact this
  have hbelow := fun j o hj => (hgo j o hj).1
  have hoe : ∀ (j : Nat) (e : Ent), es[j]? = some e → all[j]? = some e.o := fun j e h => by rw [← hall, List.getElem?_map, h]; rfl
  have hclash : ∀ (i j : Nat) (ei ej : Ent), es[i]? = some ei → es[j]? = some ej → i < j → i ∈ (ancs all []).getD j [] ∨ clash all ei.o ei.foot ej.o ej.foot = false := by
    intro i j ei ej hi hj hij
    have h1 := (hgo j ej.o (hoe j ej hj)).2
    have h2 := drawRow_mem h1 i ei.o ei.foot (by rw [List.getElem?_take_of_lt hij]; exact hoe i ei hi) (by rw [List.getElem?_map, hi]; rfl)
    rw [Nat.zero_add] at h2
    rw [show (es.map (·.foot)).getD j ([], []) = ej.foot from by simp [List.getD, List.getElem?_map, hj]] at h2
    exact h2
  have hwrf : ∀ (e : Ent) b, b ∈ e.wr.map (·.1) → b ∈ e.foot.2 := by
    intro e b hb
    unfold Ent.wr at hb
    unfold Ent.foot
    cases hr : e.run with
    | none => rw [hr] at hb; cases hb
    | some x => rw [hr] at hb; obtain ⟨x1, x2, x3⟩ := x; exact hb
  have ready_all : ∀ (listed : Array Bool), listed.size = all.length → Region.ready .any all.toArray listed = [] → ∀ j, j < all.length → listed.getD j false = true := by
    intro listed hls hr j
    induction j using Nat.strongRecOn with
    | _ j ih =>
      intro hj
      cases hl : listed.getD j false with
      | true => rfl
      | false =>
        have : j ∈ Region.ready .any all.toArray listed := by
          rw [mem_ready]
          refine ⟨?_, all[j], by simp [hj], fun e he hb => ?_⟩
          · have hjs : j < listed.size := by omega
            simp [hjs] at hl ⊢; exact hl
          · have := edge_mem he hb
            have hlt := hbelow j all[j] (List.getElem?_eq_getElem hj) _ this
            exact ih e.on hlt (by omega)
        rw [hr] at this; cases this
  intro fuel
  induction fuel with
  | zero =>
    intro listed a w hls hc hcl hI
    have hall' : ∀ j, j < all.length → listed.getD j false = true := by
      intro j hj
      cases hl : listed.getD j false with
      | true => rfl
      | false =>
        have : 0 < (List.range all.length).countP (fun i => !listed.getD i false) := List.countP_pos_iff.2 ⟨j, List.mem_range.2 hj, by rw [hl]; rfl⟩
        omega
    refine ⟨?_, hQ _ a w (fun j hj => hall' j (by omega)) hI⟩
    refine List.eq_nil_iff_forall_not_mem.2 fun j hj => ?_
    rw [mem_ready] at hj
    obtain ⟨h1, o, h2, _⟩ := hj
    have hjl : j < all.length := by
      have := (Array.getElem?_eq_some_iff.1 h2).1; simpa using this
    have := hall' j hjl
    have hjs : j < listed.size := by omega
    simp [hjs] at h1 this
    rw [h1] at this; cases this
  | succ fuel ih =>
    intro listed a w hls hc hcl hI
    refine ⟨fun hr => hQ _ a w (fun j hj => ready_all listed hls hr j (by omega)) hI, fun j hj => ?_⟩
    rw [mem_ready] at hj
    obtain ⟨hun, o, ho, hedge⟩ := hj
    have hjl : j < all.length := by
      have := (Array.getElem?_eq_some_iff.1 ho).1; simpa using this
    have hjs : j < listed.size := by omega
    have hje : es[j]? = some (es[j]'(by omega)) := List.getElem?_eq_getElem _
    generalize (es[j]'(by omega)) = e at hje
    have hao := hoe j e hje
    have hoo : o = e.o := by
      rw [List.getElem?_toArray, hao] at ho
      exact (Option.some.inj ho).symm
    subst hoo
    have hDj : listed.getD j false = false := by simp [hjs] at hun ⊢; exact hun
    have hed : ∀ i, i ∈ edgesOf e.o → listed.getD i false = true := by
      intro i hi
      obtain ⟨ed, h1, h2, h3⟩ := mem_edge hi
      rw [← h3]; exact hedge ed h1 h2
    have hanc : ∀ i, i ∈ (ancs all []).getD j [] → listed.getD i false = true := anc_listed (D := fun i => listed.getD i false) hbelow hcl j e.o hao hed
    have hancD : ∀ (i : Nat) (ei : Ent), es[i]? = some ei → listed.getD i false = true → ∀ k, k ∈ (ancs all []).getD i [] → listed.getD k false = true :=
      fun i ei hi hD => anc_listed (D := fun i => listed.getD i false) hbelow hcl i ei.o (hoe i ei hi) (hcl i ei.o (hoe i ei hi) hD)
    -- what is listed behind j does not clash with it; what is not listed ahead of it neither
    have hbehind : ∀ (i : Nat) (ei : Ent), es[i]? = some ei → listed.getD i false = true → j < i → clash all e.o e.foot ei.o ei.foot = false := by
      intro i ei hi hD hji
      rcases hclash j i e ei hje hi hji with h | h
      · have := hancD i ei hi hD j h
        rw [hDj] at this; cases this
      · exact h
    have hahead : ∀ (i : Nat) (ei : Ent), es[i]? = some ei → listed.getD i false = false → i < j → clash all ei.o ei.foot e.o e.foot = false := by
      intro i ei hi hD hij
      rcases hclash i j ei e hi hje hij with h | h
      · have := hanc i h
        rw [hD] at this; cases this
      · exact h
    have hagree : ∀ (i : Nat) (ei : Ent), es[i]? = some ei → ((∃ t, ei.o.dst = some t ∧ t ∈ reads all e.o) ∨ ∃ b, b ∈ ei.wr.map (·.1) ∧ b ∈ e.foot.1) → listed.getD i false = upto j i := by
      intro i ei hi hh
      rcases Nat.lt_trichotomy i j with hlt | heq | hgt
      · rw [show upto j i = true from by simp [upto, hlt]]
        cases hD : listed.getD i false with
        | true => rfl
        | false =>
          have hc := clash_false (hahead i ei hi hD hlt)
          rcases hh with ⟨t, h1, h2⟩ | ⟨b, h1, h2⟩
          · exact absurd h2 (hc.1 t h1)
          · exact absurd h2 (hc.2.2.2.1 b (hwrf ei b h1))
      · subst heq
        rw [hDj]; simp [upto]
      · rw [show upto j i = false from by simp [upto]; omega]
        cases hD : listed.getD i false with
        | false => rfl
        | true =>
          have hc := clash_false (hbehind i ei hi hD hgt)
          rcases hh with ⟨t, h1, h2⟩ | ⟨b, h1, h2⟩
          · exact absurd h2 (hc.2.1 t h1)
          · exact absurd (hwrf ei b h1) (hc.2.2.2.2.2 b h2)
    refine exec_one hR0 (hgood j e hje) hje hao (hn e (List.mem_of_getElem? hje)) (fun t ht => ?_) (fun b hb => ?_) (fun i ei d hD hji hi h1 h2 => ?_) (fun i ei b hD hji hi h1 h2 => ?_) hDj hI fun a' w' hI' => ?_
    · refine tval_congr fun i ei hi hd => ?_
      rw [Nat.zero_add]
      exact hagree i ei hi (.inl ⟨t, hd, ht⟩)
    · refine bval_congr rfl fun i ei hi hm => ?_
      rw [Nat.zero_add]
      exact hagree i ei hi (.inr ⟨b, hm, hb⟩)
    · exact (clash_false (hbehind i ei hi hD hji)).2.2.1 d h1 h2
    · exact (clash_false (hbehind i ei hi hD hji)).2.2.2.2.1 b (hwrf e b h1) (hwrf ei b h2)
    · have hset : ∀ i, (listed.setIfInBounds j true).getD i false = setD (fun i => listed.getD i false) j i := by
        intro i
        unfold setD
        split
        · rename_i e1; subst e1; simp [hjs]
        · rename_i e1; rw [getD_set_ne false (Ne.symm e1)]
      refine ih (listed.setIfInBounds j true) a' w' (by simp [hls]) ?_ (fun i oi hi hD => ?_) ?_
      · have : (List.range all.length).countP (fun i => !(listed.setIfInBounds j true).getD i false) < (List.range all.length).countP (fun i => !listed.getD i false) := by
          refine countP_lt (y := j) (fun x hx => ?_) (List.mem_range.2 hjl) (by rw [hDj]; rfl) (by rw [hset]; simp [setD])
          rw [hset] at hx
          unfold setD at hx
          split at hx
          · cases hx
          · exact hx
        omega
      · intro e' he'
        rw [hset] at hD ⊢
        unfold setD at hD ⊢
        split
        · rfl
        · split at hD
          · rename_i e1; subst e1
            rw [hao] at hi; cases hi
            exact hed e' he'
          · exact hcl i oi hi hD e' he'
      · rw [show (fun i => (listed.setIfInBounds j true).getD i false) = setD (fun i => listed.getD i false) j from funext hset]
        exact hI'

end
end Go.Eng

namespace Go.Eng

/- ## Other numbers -/

/-- The blocks of p lie in B, under other numbers, where they lie in A. -/
structure Mp (A B : Env) (σ : List (Nat × Nat)) (p : Nat → Bool) : Prop where
  pl : ∀ b, p b = true → B.pl (look σ b) = A.pl b
  lay : ∀ b, p b = true → B.lay (look σ b) = A.lay b
  top : ∀ b, p b = true → B.top (look σ b) = A.top b

theorem allB1_mem {p : Nat → Bool} : ∀ {l : List AV}, allB1 p l = true → ∀ x, x ∈ l → x.inB1 p = true
  | [], _, x, h => by cases h
  | y :: l, h, x, hx => by
    simp only [allB1] at h
    split at h
    · rename_i hy
      rcases List.mem_cons.1 hx with e | hx
      · subst e; exact hy
      · exact allB1_mem h x hx
    · cases h

theorem ren_lay (σ : List (Nat × Nat)) : (x : AV) → (x.ren σ).lay = x.lay
  | .any => rfl
  | .dv _ => rfl
  | .cons x xs => by show Lay.pair (x.ren σ).lay (xs.ren σ).lay = _; rw [ren_lay σ x, ren_lay σ xs]; rfl
  | .ptr _ _ _ => rfl
  | .rp _ => rfl
  | .sl _ _ _ _ _ => rfl
  | .fn _ _ => rfl
  | .tup _ => rfl
  | .mp _ => rfl
  | .stamp _ => rfl
  | .ifc _ _ => rfl
theorem ren_isAgg (σ : List (Nat × Nat)) (x : AV) : (x.ren σ).isAgg = x.isAgg := by unfold AV.isAgg; rw [ren_lay]
theorem ren1_isAgg (σ : List (Nat × Nat)) (x : AV) : (x.ren1 σ).isAgg = x.isAgg := by cases x <;> rfl

section
variable {A B : Env} {σ : List (Nat × Nat)} {p : Nat → Bool}

theorem ptr_to (h : Mp A B σ p) {b : Nat} {q : List Nat} {l : Lay} {cs : List Value} (hb : p b = true) : RepA A (.ptr b q l) cs ↔ RepA B (.ptr (look σ b) q l) cs := by
  constructor
  · intro hr
    cases hr with
    | ptr b p l r o off hp hl => exact .ptr _ q l r o off (by rw [h.pl b hb]; exact hp) (by rw [h.lay b hb]; exact hl)
  · intro hr
    cases hr with
    | ptr _ p l r o off hp hl => exact .ptr _ q l r o off (by rw [← h.pl b hb]; exact hp) (by rw [← h.lay b hb]; exact hl)
theorem sl_to (h : Mp A B σ p) {b : Nat} {q : List Nat} {l : Lay} {i n : Nat} {cs : List Value} (hb : p b = true) : RepA A (.sl b q l i n) cs ↔ RepA B (.sl (look σ b) q l i n) cs := by
  constructor
  · intro hr
    cases hr with
    | sl b p l off len r o so m c hp hl hn hc ht => exact .sl _ q l i _ r o so m c (by rw [h.pl b hb]; exact hp) (by rw [h.lay b hb]; exact hl) hn hc (by rw [h.top b hb]; exact ht)
    | sl0 b p l off a so n hp hl hn => exact .sl0 _ q l i a so _ (by rw [h.pl b hb]; exact hp) (by rw [h.lay b hb]; exact hl) hn
  · intro hr
    cases hr with
    | sl _ p l off len r o so m c hp hl hn hc ht => exact .sl _ q l i _ r o so m c (by rw [← h.pl b hb]; exact hp) (by rw [← h.lay b hb]; exact hl) hn hc (by rw [← h.top b hb]; exact ht)
    | sl0 _ p l off a so n hp hl hn => exact .sl0 _ q l i a so _ (by rw [← h.pl b hb]; exact hp) (by rw [← h.lay b hb]; exact hl) hn

theorem mp_to (h : Mp A B σ p) {b : Nat} {cs : List Value} (hb : p b = true) : RepA A (.mp b) cs ↔ RepA B (.mp (look σ b)) cs := by
  constructor
  · intro hr
    cases hr with
    | mp b r hp hl => exact .mp _ r (by rw [h.pl b hb]; exact hp) (by rw [h.lay b hb]; exact hl)
  · intro hr
    cases hr with
    | mp _ r hp hl => exact .mp _ r (by rw [← h.pl b hb]; exact hp) (by rw [← h.lay b hb]; exact hl)
theorem stamp_to (h : Mp A B σ p) {b : Nat} {cs : List Value} (hb : p b = true) : RepA A (.stamp b) cs ↔ RepA B (.stamp (look σ b)) cs := by
  constructor
  · intro hr
    cases hr with
    | stamp b n hp hl => exact .stamp _ n (by rw [h.pl b hb]; exact hp) (by rw [h.top b hb]; exact hl)
  · intro hr
    cases hr with
    | stamp _ n hp hl => exact .stamp _ n (by rw [← h.pl b hb]; exact hp) (by rw [← h.top b hb]; exact hl)
theorem one_to (h : Mp A B σ p) (hrd : ∀ r j v, A.rd r j = some v → B.rd r j = some v) {x : AV} {cs : List Value} (hx : x.inB1 p = true) (hr : RepA A x cs) : RepA B (x.ren1 σ) cs := by
  cases x with
  | ptr b q l => exact (ptr_to h hx).1 hr
  | sl b q l i n => exact (sl_to h hx).1 hr
  | mp b => exact (mp_to h hx).1 hr
  | dv d => exact .dv (hr.dv_inv.mono hrd)
  | rp d =>
    cases hr with
    | rp r o hd hs => exact .rp r o (hd.mono hrd) fun j hj => hrd _ _ _ (hs j hj)
  | any => cases hr
  | _ => cases hx
theorem one_back (h : Mp A B σ p) (hrd : ∀ r j v, B.rd r j = some v → A.rd r j = some v) {x : AV} {cs : List Value} (hx : x.inB1 p = true) (hr : RepA B (x.ren1 σ) cs) : RepA A x cs := by
  cases x with
  | ptr b q l => exact (ptr_to h hx).2 hr
  | sl b q l i n => exact (sl_to h hx).2 hr
  | mp b => exact (mp_to h hx).2 hr
  | dv d => exact .dv (hr.dv_inv.mono hrd)
  | rp d =>
    have hr : RepA B (.rp d) cs := hr
    cases hr with
    | rp r o hd hs => exact .rp r o (hd.mono hrd) fun j hj => hrd _ _ _ (hs j hj)
  | any =>
    have hr : RepA B .any cs := hr
    cases hr
  | _ => cases hx

theorem zip_ren {xs : List AV} {css : List (List Value)} : ((xs.map (AV.ren1 σ)).zip css).map (fun x => ofCells x.1.isAgg x.2) = (xs.zip css).map fun x => ofCells x.1.isAgg x.2 := by
  induction xs generalizing css with
  | nil => rfl
  | cons x xs ih =>
    cases css with
    | nil => rfl
    | cons cs css => simp only [List.map_cons, List.zip_cons_cons, ih, ren1_isAgg]

theorem RepA.to (h : Mp A B σ p) (hrd : ∀ r j v, A.rd r j = some v → B.rd r j = some v) : (x : AV) → ∀ {cs : List Value}, x.inB p = true → RepA A x cs → RepA B (x.ren σ) cs
  | .any, cs, _, hr => by cases hr
  | .dv d, cs, _, hr => .dv (hr.dv_inv.mono hrd)
  | .cons x xs, cs, hx, hr => by
    simp only [AV.inB] at hx
    split at hx
    · rename_i h1
      cases hr with
      | cons g g' => exact .cons (RepA.to h hrd x h1 g) (RepA.to h hrd xs hx g')
    · cases hx
  | .ptr b q l, cs, hx, hr => (ptr_to h hx).1 hr
  | .rp d, cs, _, hr => one_to (x := .rp d) h hrd rfl hr
  | .sl b q l i n, cs, hx, hr => (sl_to h hx).1 hr
  | .mp b, cs, hx, hr => (mp_to h hx).1 hr
  | .stamp b, cs, hx, hr => (stamp_to h hx).1 hr
  | .fn f caps, cs, hx, hr => by
    cases hr with
    | fn f caps css hlen g =>
      have := RepA.fn (E := B) f (caps.map (AV.ren1 σ)) css (by simp [hlen]) fun i hi => by
        have hi' : i < caps.length := by simpa using hi
        rw [List.getElem_map]
        exact one_to h hrd (allB1_mem hx _ (List.getElem_mem hi')) (g i hi')
      rw [zip_ren] at this
      exact this
  | .tup xs, cs, hx, hr => by
    cases hr with
    | tup xs css hlen g =>
      have := RepA.tup (E := B) (xs.map (AV.ren1 σ)) css (by simp [hlen]) fun i hi => by
        have hi' : i < xs.length := by simpa using hi
        rw [List.getElem_map]
        exact one_to h hrd (allB1_mem hx _ (List.getElem_mem hi')) (g i hi')
      rw [zip_ren] at this
      exact this
  | .ifc t x, cs, hx, hr => by
    cases hr with
    | ifc t g =>
      have := RepA.ifc (E := B) t (RepA.to h hrd x hx g)
      rw [ren_isAgg] at this
      exact this

theorem RepA.back (h : Mp A B σ p) (hrd : ∀ r j v, B.rd r j = some v → A.rd r j = some v) : (x : AV) → ∀ {cs : List Value}, x.inB p = true → RepA B (x.ren σ) cs → RepA A x cs
  | .any, cs, _, hr => by
    have hr : RepA B .any cs := hr
    cases hr
  | .dv d, cs, _, hr => .dv (hr.dv_inv.mono hrd)
  | .cons x xs, cs, hx, hr => by
    simp only [AV.inB] at hx
    split at hx
    · rename_i h1
      have hr : RepA B (.cons (x.ren σ) (xs.ren σ)) cs := hr
      cases hr with
      | cons g g' => exact .cons (RepA.back h hrd x h1 g) (RepA.back h hrd xs hx g')
    · cases hx
  | .ptr b q l, cs, hx, hr => (ptr_to h hx).2 hr
  | .rp d, cs, _, hr => one_back (x := .rp d) h hrd rfl hr
  | .sl b q l i n, cs, hx, hr => (sl_to h hx).2 hr
  | .mp b, cs, hx, hr => (mp_to h hx).2 hr
  | .stamp b, cs, hx, hr => (stamp_to h hx).2 hr
  | .fn f caps, cs, hx, hr => by
    have hr : RepA B (.fn f (caps.map (AV.ren1 σ))) cs := hr
    cases hr with
    | fn _ _ css hlen g =>
      have hlen' : css.length = caps.length := by simpa using hlen
      have := RepA.fn (E := A) f caps css hlen' fun i hi => by
        have := g i (by simpa using hi)
        rw [List.getElem_map] at this
        exact one_back h hrd (allB1_mem hx _ (List.getElem_mem hi)) this
      rw [zip_ren]
      exact this
  | .tup xs, cs, hx, hr => by
    have hr : RepA B (.tup (xs.map (AV.ren1 σ))) cs := hr
    cases hr with
    | tup _ css hlen g =>
      have hlen' : css.length = xs.length := by simpa using hlen
      have := RepA.tup (E := A) xs css hlen' fun i hi => by
        have := g i (by simpa using hi)
        rw [List.getElem_map] at this
        exact one_back h hrd (allB1_mem hx _ (List.getElem_mem hi)) this
      rw [zip_ren]
      exact this
  | .ifc t x, cs, hx, hr => by
    have hr : RepA B (.ifc t (x.ren σ)) cs := hr
    cases hr with
    | ifc t g =>
      have := RepA.ifc (E := A) t (RepA.back h hrd x hx g)
      rw [ren_isAgg]
      exact this

theorem ren_any {x : AV} (h : x.ren σ = .any) : x = .any := by cases x <;> first | rfl | cases h
theorem RepV.to (h : Mp A B σ p) (hrd : ∀ r j v, A.rd r j = some v → B.rd r j = some v) {x : AV} {v : Value} (hx : x.inB p = true) (hr : RepV A x v) : RepV B (x.ren σ) v := by
  rcases hr with e | ⟨cs, hr, e⟩
  · subst e; exact .any B v
  · exact .inr ⟨cs, RepA.to h hrd x hx hr, by rw [ren_isAgg]; exact e⟩
theorem RepV.back (h : Mp A B σ p) (hrd : ∀ r j v, B.rd r j = some v → A.rd r j = some v) {x : AV} {v : Value} (hx : x.inB p = true) (hr : RepV B (x.ren σ) v) : RepV A x v := by
  rcases hr with e | ⟨cs, hr, e⟩
  · rw [ren_any e]; exact .any A v
  · exact .inr ⟨cs, RepA.back h hrd x hx hr, by rw [ren_isAgg] at e; exact e⟩

theorem Room.to {b c : Nat} {w : World} {r o s : Nat} (h : B.top c = A.top b) : Room B c w r o s ↔ Room A b w r o s := by unfold Room; rw [h]

theorem BlkRel.to (h : Mp A B σ p) (hrd : ∀ r j v, A.rd r j = some v → B.rd r j = some v) {b : Nat} {w : World} {x : Blk} (hb : p b = true) (hx : x.inB p = true) (hr : BlkRel A b w x) : BlkRel B (look σ b) w (x.ren σ) := by
  cases x with
  | dead => trivial
  | var y =>
    obtain ⟨r, o, cs, h1, h2, h3, h4, h5, h6⟩ := hr
    exact ⟨r, o, cs, by rw [h.pl b hb]; exact h1, by rw [h.lay b hb, ren_lay]; exact h2, RepA.to h hrd y hx h3, h4, by rw [h.top b hb]; exact h5, (Room.to (h.top b hb)).2 h6⟩
  | rowI k l =>
    obtain ⟨h1, h2 | ⟨r, o, h2, h3, h4⟩⟩ := hr
    · exact ⟨by rw [h.lay b hb]; exact h1, .inl ⟨by rw [h.pl b hb]; exact h2.1, h2.2⟩⟩
    · exact ⟨by rw [h.lay b hb]; exact h1, .inr ⟨r, o, by rw [h.pl b hb]; exact h2, h3, (Room.to (h.top b hb)).2 h4⟩⟩
  | row la n f =>
    obtain ⟨h1, h2 | ⟨r, o, css, h2, h3, h4, h5, h6⟩⟩ := hr
    · exact ⟨by rw [h.lay b hb]; exact h1, .inl ⟨by rw [h.pl b hb]; exact h2.1, h2.2⟩⟩
    · exact ⟨by rw [h.lay b hb]; exact h1, .inr ⟨r, o, css, by rw [h.pl b hb]; exact h2, fun i hi => (h3 i hi).mono hrd, h4, h5, (Room.to (h.top b hb)).2 h6⟩⟩
  | mp f0 es =>
    obtain ⟨r, entries, clock, h1, h2, h3, h4, h5⟩ := hr
    exact ⟨r, entries, clock, by rw [h.pl b hb]; exact h1, by rw [h.lay b hb]; exact h2, by rw [h.top b hb]; exact h3, h4, h5.1.mono hrd, h5.2⟩
  | mpn f0 es kd c =>
    have hc : p c = true := hx
    obtain ⟨h0, r, entries, clock, h1, h2, h3, h4, h5, h6, h7, j, v, m, h8, h9, h10⟩ := hr
    exact ⟨by rw [h.pl c hc]; exact h0, r, entries, clock, by rw [h.pl b hb]; exact h1, by rw [h.lay b hb]; exact h2, by rw [h.top b hb]; exact h3, h4, h5.mono hrd, h6, h7, j, v, m, h8, h9, by rw [h.top c hc]; exact h10⟩
  | frzI k l =>
    obtain ⟨h1, h2 | ⟨r, o, h2, h3⟩⟩ := hr
    · exact ⟨by rw [h.lay b hb]; exact h1, .inl ⟨by rw [h.pl b hb]; exact h2.1, h2.2⟩⟩
    · exact ⟨by rw [h.lay b hb]; exact h1, .inr ⟨r, o, by rw [h.pl b hb]; exact h2, fun j hj => hrd _ _ _ (h3 j hj)⟩⟩
  | frz la n f =>
    obtain ⟨h1, h2 | ⟨r, o, css, h2, h3, h4, h5⟩⟩ := hr
    · exact ⟨by rw [h.lay b hb]; exact h1, .inl ⟨by rw [h.pl b hb]; exact h2.1, h2.2⟩⟩
    · exact ⟨by rw [h.lay b hb]; exact h1, .inr ⟨r, o, css, by rw [h.pl b hb]; exact h2, fun i hi => (h3 i hi).mono hrd, h4, fun i hi j hj => hrd _ _ _ (h5 i hi j hj)⟩⟩

theorem BlkRel.back (h : Mp A B σ p) (hrd : ∀ r j v, B.rd r j = some v → A.rd r j = some v) {b : Nat} {w : World} {x : Blk} (hb : p b = true) (hx : x.inB p = true) (hr : BlkRel B (look σ b) w (x.ren σ)) : BlkRel A b w x := by
  cases x with
  | dead => trivial
  | var y =>
    obtain ⟨r, o, cs, h1, h2, h3, h4, h5, h6⟩ := hr
    exact ⟨r, o, cs, by rw [← h.pl b hb]; exact h1, by rw [← h.lay b hb, h2, ren_lay], RepA.back h hrd y hx h3, h4, by rw [← h.top b hb]; exact h5, (Room.to (h.top b hb)).1 h6⟩
  | rowI k l =>
    obtain ⟨h1, h2 | ⟨r, o, h2, h3, h4⟩⟩ := hr
    · exact ⟨by rw [← h.lay b hb]; exact h1, .inl ⟨by rw [← h.pl b hb]; exact h2.1, h2.2⟩⟩
    · exact ⟨by rw [← h.lay b hb]; exact h1, .inr ⟨r, o, by rw [← h.pl b hb]; exact h2, h3, (Room.to (h.top b hb)).1 h4⟩⟩
  | row la n f =>
    obtain ⟨h1, h2 | ⟨r, o, css, h2, h3, h4, h5, h6⟩⟩ := hr
    · exact ⟨by rw [← h.lay b hb]; exact h1, .inl ⟨by rw [← h.pl b hb]; exact h2.1, h2.2⟩⟩
    · exact ⟨by rw [← h.lay b hb]; exact h1, .inr ⟨r, o, css, by rw [← h.pl b hb]; exact h2, fun i hi => (h3 i hi).mono hrd, h4, h5, (Room.to (h.top b hb)).1 h6⟩⟩
  | mp f0 es =>
    obtain ⟨r, entries, clock, h1, h2, h3, h4, h5⟩ := hr
    exact ⟨r, entries, clock, by rw [← h.pl b hb]; exact h1, by rw [← h.lay b hb]; exact h2, by rw [← h.top b hb]; exact h3, h4, h5.1.mono hrd, h5.2⟩
  | mpn f0 es kd c =>
    have hc : p c = true := hx
    obtain ⟨h0, r, entries, clock, h1, h2, h3, h4, h5, h6, h7, j, v, m, h8, h9, h10⟩ := hr
    exact ⟨by rw [← h.pl c hc]; exact h0, r, entries, clock, by rw [← h.pl b hb]; exact h1, by rw [← h.lay b hb]; exact h2, by rw [← h.top b hb]; exact h3, h4, h5.mono hrd, h6, h7, j, v, m, h8, h9, by rw [← h.top c hc]; exact h10⟩
  | frzI k l =>
    obtain ⟨h1, h2 | ⟨r, o, h2, h3⟩⟩ := hr
    · exact ⟨by rw [← h.lay b hb]; exact h1, .inl ⟨by rw [← h.pl b hb]; exact h2.1, h2.2⟩⟩
    · exact ⟨by rw [← h.lay b hb]; exact h1, .inr ⟨r, o, by rw [← h.pl b hb]; exact h2, fun j hj => hrd _ _ _ (h3 j hj)⟩⟩
  | frz la n f =>
    obtain ⟨h1, h2 | ⟨r, o, css, h2, h3, h4, h5⟩⟩ := hr
    · exact ⟨by rw [← h.lay b hb]; exact h1, .inl ⟨by rw [← h.pl b hb]; exact h2.1, h2.2⟩⟩
    · exact ⟨by rw [← h.lay b hb]; exact h1, .inr ⟨r, o, css, by rw [← h.pl b hb]; exact h2, fun i hi => (h3 i hi).mono hrd, h4, fun i hi j hj => hrd _ _ _ (h5 i hi j hj)⟩⟩

theorem ren_own (x : Blk) : (x.ren σ).own = x.own := by cases x <;> rfl
theorem ren_dead {x : Blk} (h : x.ren σ = .dead) : x = .dead := by cases x <;> first | rfl | cases h

end

/-- The blocks below n, under the numbers of another state. -/
def Env.pull (E : Env) (σ : List (Nat × Nat)) (n : Nat) : Env :=
  { pl := fun b => if b < n then E.pl (look σ b) else .unborn, lay := fun b => E.lay (look σ b), top := fun b => E.top (look σ b), rd := E.rd }
theorem below_iff {n b : Nat} : below n b = true ↔ b < n := by unfold below; rw [Nat.blt_eq]
theorem Env.pull_mp (E : Env) (σ : List (Nat × Nat)) (n : Nat) : Mp (E.pull σ n) E σ (below n) :=
  ⟨fun b hb => by show _ = if b < n then _ else _; rw [if_pos (below_iff.1 hb)], fun _ _ => rfl, fun _ _ => rfl⟩

/-- A state under other numbers. -/
theorem Rel.pull {E : Env} {H H' : Nat → Blk} {w : World} (hR : Rel E H w) {σ : List (Nat × Nat)} {n : Nat} (hH : ∀ b, b < n → H' b = .dead ∨ H (look σ b) = (H' b).ren σ) (hn : ∀ b, n ≤ b → H' b = .dead)
    (hin : ∀ b, b < n → (H' b).inB (below n) = true) (hinj : ∀ b b', b < n → b' < n → look σ b = look σ b' → b = b') : Rel (E.pull σ n) H' w := by
  have hlt : ∀ b, H' b ≠ .dead → b < n := fun b hb => Nat.lt_of_not_le fun h => hb (hn b h)
  have hpl : ∀ b, b < n → (E.pull σ n).pl b = E.pl (look σ b) := fun b hb => if_pos hb
  have hown : ∀ b, (H' b).own = true → b < n ∧ (H (look σ b)).own = true := by
    intro b hb
    have h1 := hlt b (own_dead hb)
    rcases hH b h1 with h | h
    · exact absurd h (own_dead hb)
    · exact ⟨h1, by rw [h, ren_own]; exact hb⟩
  have hat : ∀ b r o, (E.pull σ n).pl b = .at r o → b < n ∧ E.pl (look σ b) = .at r o := by
    intro b r o h
    by_cases hb : b < n
    · exact ⟨hb, (hpl b hb) ▸ h⟩
    · have : (if b < n then E.pl (look σ b) else Place.unborn) = .at r o := h
      rw [if_neg hb] at this; cases this
  refine ⟨hR.rd, fun b => ?_, fun b b' r o r' o' hbb h1 h2 h3 h4 => ?_, fun b r o j v h1 h2 h3 => ?_, fun b r o h => hR.old _ r o (hat b r o h).2, fun b h => ?_, fun b r o h => hR.fit _ r o (hat b r o h).2⟩
  · by_cases hb : b < n
    · rcases hH b hb with h | h
      · rw [h]; trivial
      · exact BlkRel.back (E.pull_mp σ n) (fun _ _ _ h => h) (below_iff.2 hb) (hin b hb) (h ▸ hR.blk (look σ b))
    · rw [hn b (Nat.le_of_not_lt hb)]; trivial
  · have g1 := hown b h1
    have g2 := hown b' h2
    exact hR.sep _ _ r o r' o' (fun e => hbb (hinj b b' g1.1 g2.1 e)) g1.2 g2.2 (hat b r o h3).2 (hat b' r' o' h4).2
  · exact hR.apart _ r o j v (hown b h1).2 (hat b r o h2).2 h3
  · by_cases hb : b < n
    · rw [hpl b hb] at h
      rcases hH b hb with h' | h'
      · exact h'
      · rw [hR.born _ h] at h'
        exact ren_dead h'.symm
    · exact hn b (Nat.le_of_not_lt hb)

end Go.Eng

namespace Go.Eng

theorem Step.reacc {E0 E : Env} {Ho : Nat → Blk} {w0 w : World} {acc acc' : List (Nat × Blk)} {x : AV} {v : Value} (h : Step E0 Ho w0 acc x v E w) (he : upds Ho acc' = upds Ho acc) (hs : ∀ b, b ∈ acc.map (·.1) → b ∈ acc'.map (·.1)) : Step E0 Ho w0 acc' x v E w :=
  ⟨h.val, by rw [he]; exact h.rel, h.ext, h.mem, fun b h1 h2 => hs b (h.born b h1 h2), fun b hb => h.live b (by rw [← he]; exact hb), fun b r o h1 h2 h3 => h.others b r o h1 h2 fun h4 => h3 (hs b h4)⟩

def accOf (bs : List Blk) : List (Nat × Blk) := (List.range bs.length).map fun b => (b, hOf bs b)
theorem accOf_ids {bs : List Blk} {b : Nat} : b ∈ (accOf bs).map (·.1) ↔ b < bs.length := by
  unfold accOf
  rw [List.map_map]
  constructor
  · intro h
    obtain ⟨c, hc, e⟩ := List.mem_map.1 h
    rw [← e]; exact List.mem_range.1 hc
  · intro h; exact List.mem_map.2 ⟨b, List.mem_range.2 h, rfl⟩
theorem accOf_upds {bs : List Blk} {H : Nat → Blk} (b : Nat) : upds H (accOf bs) b = if b < bs.length then hOf bs b else H b := by
  split
  · rename_i h
    obtain ⟨x, hx, he⟩ := upds_in (accOf_ids.2 h)
    rw [he]
    unfold accOf at hx
    obtain ⟨c, _, e⟩ := List.mem_map.1 hx
    injection e with e1 e2
    rw [← e2, e1]
  · rename_i h
    exact upds_notin fun z hz e => h (accOf_ids.1 (List.mem_map.2 ⟨z, hz, e⟩))
theorem hOf_off {bs : List Blk} {b : Nat} (h : bs.length ≤ b) : hOf bs b = .dead := by
  unfold hOf; simp [List.getD, List.getElem?_eq_none h]

theorem Step.drewR {E0 E : Env} {Ho : Nat → Blk} {w0 w : World} {acc : List (Nat × Blk)} {x : AV} {v : Value} (h : Step E0 Ho w0 acc x v E w) : Step E0 Ho w0 acc x v E { w with drawn := w.drawn + 1 } :=
  ⟨h.val, ⟨h.rel.rd, h.rel.blk, h.rel.sep, h.rel.apart, h.rel.old, h.rel.born, h.rel.fit⟩, h.ext, ⟨h.mem.os, h.mem.tape, h.mem.output, h.mem.size, h.mem.same, h.mem.round, h.mem.frozen, h.mem.shape, h.mem.rd, h.mem.new⟩, h.born, h.live, h.others⟩

section
variable {P : Program} {G : Nat → AV} {T : Tr} {E0 : Env} {Ho : Nat → Blk} {w0 : World}

/-- What is left is as told. -/
def PostQ (G : Nat → AV) (E0 : Env) (Ho : Nat → Blk) (w0 : World) (K : Post) : Exit → Act → World → Prop
  | .normal, a, w => ∃ ts bs, K .normal ts bs ∧ Sim G E0 Ho w0 ts bs a w
  | .exit i, a, w => ∃ ts bs, K (.exit i) ts bs ∧ Sim G E0 Ho w0 ts bs a w
  | .goto i, a, w => ∃ ts bs, K (.goto i) ts bs ∧ Sim G E0 Ho w0 ts bs a w
  | .ret, a, w => ∃ ts bs, K .ret ts bs ∧ Sim G E0 Ho w0 ts bs a w
  | _, _, _ => False

theorem Sim.drewR {ts : List AV} {bs : List Blk} {a : Act} {w : World} (h : Sim G E0 Ho w0 ts bs a w) : Sim G E0 Ho w0 ts bs a { w with drawn := w.drawn + 1 } := by
  obtain ⟨E, acc, h⟩ := h
  exact ⟨E, acc, h.step.drewR, h.H, h.size, h.tmps, h.glob, h.unborn, h.acc, h.defers⟩

theorem region_start {ts : List AV} {bs : List Blk} {a : Act} {w : World} (h : Sim G E0 Ho w0 ts bs a w) {es : List Ent} {D : Nat → Bool} (hD : ∀ j, D j = false) : Inv G E0 Ho w0 es (fun t => ts.getD t .any) (hOf bs) bs.length ts.length D a w := by
  obtain ⟨E, acc, h⟩ := h
  refine ⟨E, acc, h.step, by rw [bval_off fun j _ => hD j]; exact h.H, h.size, fun t => by rw [tval_off fun j _ => hD j]; exact h.tmps t, h.glob, fun b hb => .inl (h.unborn b hb), fun x hx => .inl (h.acc x hx), h.defers⟩

theorem region_end {ts2 : List AV} {bs bs2 : List Blk} {n : Nat} {base : Nat → AV} {Hb : Nat → Blk} {es : List Ent} {D : Nat → Bool} (hD : ∀ j, j < es.length → D j = true) (hn : ts2.length = n) (hts : ∀ t, AEq (ts2.getD t .any) (tval es 0 allD t (base t))) (hbs : hOf bs2 = bval es 0 allD Hb)
    (hwr : ∀ (i : Nat) (e : Ent), es[i]? = some e → ∀ x, x ∈ e.wr → x.1 < bs2.length) (hle : bs.length ≤ bs2.length) {a : Act} {w : World} (h : Inv G E0 Ho w0 es base Hb bs.length n D a w) : Sim G E0 Ho w0 ts2 bs2 a w := by
  obtain ⟨E, acc, h⟩ := h
  have hb : bval es 0 D Hb = hOf bs2 := by
    rw [hbs]; funext b
    exact bval_congr rfl fun j e hj _ => by rw [Nat.zero_add, hD j (List.getElem?_eq_some_iff.1 hj).1]; rfl
  have ht : ∀ t, tval es 0 D t (base t) = tval es 0 allD t (base t) := fun t => tval_congr fun j e hj _ => by rw [Nat.zero_add, hD j (List.getElem?_eq_some_iff.1 hj).1]; rfl
  have hin : ∀ (i : Nat) (e : Ent) b, es[i]? = some e → b ∈ e.wr.map (·.1) → b < bs2.length := by
    intro i e b hi hb
    obtain ⟨x, hx, e1⟩ := List.mem_map.1 hb
    rw [← e1]; exact hwr i e hi x hx
  refine ⟨E, acc, h.step, by rw [h.H, hb], by rw [h.size, hn], fun t => (hts t E _).2 (by rw [← ht]; exact h.tmps t), h.glob, fun b hb => ?_, fun x hx => ?_, h.defers⟩
  · rcases h.unborn b hb with h1 | ⟨i, e, _, h2, h3⟩
    · omega
    · exact hin i e b h2 h3
  · rcases h.acc x hx with h1 | ⟨i, e, h2, h3⟩
    · omega
    · exact hin i e _ h2 h3

theorem region_sound (hT : TabOK P T) (hm : P.follows .mixedOrders = true) (hR0 : Rel E0 Ho w0) {id : Nat} {ops : Array Oper} {d : Bool} {k : Nat} {K : Post} {ts : List AV} {bs : List Blk} {a : Act} {w : World}
    (h : vc P G T k (.region id ops d) K ts bs) (hS : Sim G E0 Ho w0 ts bs a w) : (Code.region id ops d).wp P (PostQ G E0 Ho w0 K) a w := by
  have hops : ops.toList.toArray = ops := by simp
  have start : ∀ {K' : List AV → List Blk → List Foot → Prop}, opsK P G T ops.toList ops.toList ts bs [] K' → TraceR P G ops.toList (fun t => ts.getD t .any) (hOf bs) bs.length ts.length ops.toList [] bs K' := fun h =>
    ops_trace hT h rfl (fun t => .refl _) rfl (fun i e hi => by simp at hi) (Nat.le_refl _) rfl
  cases d with
  | false =>
    obtain ⟨es, ts2, bs2, h1, h2, h3, h4, h5, h6, h7, h8, h9⟩ := start h
    simp only [List.nil_append, List.length_nil, Nat.zero_add] at h2 h4 h5 h6 h9
    have hlen : es.length = ops.size := by rw [← Array.length_toList, ← h1, List.length_map]
    have := ops_text (Q := PostQ G E0 Ho w0 K) hR0 h9 h1 h8 (fun a w hI => ⟨ts2, bs2, h2, region_end (fun j hj => by simp [upto, hj]) h3 h4 h5 h6 h7 hI⟩) es.length 0 a w (by omega) (region_start hS fun j => by simp [upto])
    rw [hops, hlen, ← List.range_eq_range'] at this
    exact wp_region this
  | true =>
    obtain ⟨es, ts2, bs2, h1, h2, h3, h4, h5, h6, h7, h8, h9⟩ := start h
    simp only [List.nil_append, List.length_nil, Nat.zero_add, List.reverse_reverse] at h2 h4 h5 h6 h9
    split at h2
    · rename_i hdraw
      have hlen : ops.toList.length = ops.size := Array.length_toList
      have := ops_any (Q := PostQ G E0 Ho w0 K) hR0 h9 h1 h8 hdraw (fun D a w hD hI => ⟨ts2, bs2, h2, region_end hD h3 h4 h5 h6 h7 hI⟩) ops.size (Array.replicate ops.size false) a { w with drawn := w.drawn + 1 } (by simp) (by
        refine Nat.le_trans List.countP_le_length ?_
        rw [List.length_range, hlen]; exact Nat.le_refl _) (fun j o hj hD => by
        by_cases hjs : j < ops.size
        · simp [hjs] at hD
        · simp [hjs] at hD) (region_start hS.drewR fun j => by
        by_cases hjs : j < ops.size
        · simp [hjs]
        · simp [hjs])
      rw [hops] at this
      exact wp_region_any hm this
    · exact h2.elim

/-- A loop, by states that lead to lower ones. -/
theorem wp_loop_x {X : Type} {c : Code} {Q : Exit → Act → World → Prop} (J : X → Act → World → Prop) (μ : X → Nat) (round : ∀ x a w, J x a w → c.wp P (Exit.then (fun a' w' => ∃ y, J y a' w' ∧ μ y < μ x) Q) a w) {x : X} {a : Act} {w : World} (h₀ : J x a w) : (Code.loop c).wp P Q a w := by
  intro b k cs
  have key : ∀ n x a w, μ x = n → J x a w →
      ∃ e a' w', Q e a' w' ∧ Arrives P (lone (b.at a (.code c :: .inLoop c :: k)) cs w) b k cs e a' w' := by
    intro n
    induction n using Nat.strongRecOn with
    | _ n ih =>
      intro x a w hn hI
      obtain ⟨e, a₁, w₁, hq, harr⟩ := round x a w hI b (.inLoop c :: k) cs
      cases e with
      | normal =>
        obtain ⟨y, hI₁, hlt⟩ := hq
        obtain ⟨e₂, a₂, w₂, hq₂, harr₂⟩ := ih (μ y) (hn ▸ hlt) y a₁ w₁ rfl hI₁
        exact ⟨e₂, a₂, w₂, hq₂, .of_steps (Steps.trans harr (.one step_inLoop)) harr₂⟩
      | exit id => exact ⟨_, a₁, w₁, hq, .pass (x := .inLoop c) rfl (fun _ _ => .inl (by simp)) harr⟩
      | goto l => exact ⟨_, a₁, w₁, hq, .pass (x := .inLoop c) rfl (fun _ _ => .inl (by simp)) harr⟩
      | ret => exact ⟨_, a₁, w₁, hq, .pass (x := .inLoop c) rfl (fun _ _ => .inl (by simp)) harr⟩
      | panic ch => exact ⟨_, a₁, w₁, hq, .pass (x := .inLoop c) rfl (fun _ _ => .inl (by simp)) harr⟩
      | outgrown => exact ⟨_, a₁, w₁, hq, .pass (x := .inLoop c) rfl (fun _ _ => .inl (by simp)) harr⟩
  obtain ⟨e, a', w', hq, harr⟩ := key _ x a w rfl h₀
  exact ⟨e, a', w', hq, .of_steps (.one step_loop) harr⟩

end
end Go.Eng

namespace Go.Eng

theorem map_ren1_nil : ∀ l : List AV, l.map (AV.ren1 []) = l
  | [] => rfl
  | x :: l => by rw [List.map_cons, map_ren1_nil l]; cases x <;> rfl
theorem ren_nil : (x : AV) → x.ren [] = x
  | .any => rfl
  | .dv _ => rfl
  | .cons x xs => by show AV.cons (x.ren []) (xs.ren []) = _; rw [ren_nil x, ren_nil xs]
  | .ptr _ _ _ => rfl
  | .rp _ => rfl
  | .sl _ _ _ _ _ => rfl
  | .mp _ => rfl
  | .stamp _ => rfl
  | .fn f caps => by show AV.fn f (caps.map _) = _; rw [map_ren1_nil]
  | .tup xs => by show AV.tup (xs.map _) = _; rw [map_ren1_nil]
  | .ifc t x => by show AV.ifc t (x.ren []) = _; rw [ren_nil x]

/-- A list of temporaries, of blocks, as a loop tells them. -/
def startL (D : List Nat) (U : List (Nat × AV)) : Nat → List AV → List AV
  | _, [] => []
  | i, x :: r => (match getU U i with
    | some v => v
    | none => match memN D i with | true => .any | false => x) :: startL D U (i + 1) r
def startBL (B : List (Nat × Blk)) : Nat → List Blk → List Blk
  | _, [] => []
  | i, x :: r => (match getU B i with
    | some v => v
    | none => x) :: startBL B (i + 1) r
theorem startK_eq {D : List Nat} {U : List (Nat × AV)} : ∀ {ts : List AV} {i : Nat} {K : List AV → Prop}, startK D U i ts K = K (startL D U i ts)
  | [], _, _ => rfl
  | x :: r, i, K => by
    simp only [startK, startL]
    cases getU U i with
    | some v => simp only [forceA_eq]; rw [startK_eq]
    | none => cases memN D i <;> simp only <;> rw [startK_eq]
theorem startB_eq {B : List (Nat × Blk)} : ∀ {bs : List Blk} {i : Nat} {K : List Blk → Prop}, startB B i bs K = K (startBL B i bs)
  | [], _, _ => rfl
  | x :: r, i, K => by
    simp only [startB, startBL]
    cases getU B i with
    | some v => simp only [forceB_eq]; rw [startB_eq]
    | none => simp only; rw [startB_eq]
theorem startL_len {D : List Nat} {U : List (Nat × AV)} : ∀ {ts : List AV} {i : Nat}, (startL D U i ts).length = ts.length
  | [], _ => rfl
  | x :: r, i => by simp [startL, startL_len]
theorem startBL_len {B : List (Nat × Blk)} : ∀ {bs : List Blk} {i : Nat}, (startBL B i bs).length = bs.length
  | [], _ => rfl
  | x :: r, i => by simp [startBL, startBL_len]
theorem startL_get {D : List Nat} {U : List (Nat × AV)} : ∀ {ts : List AV} {i t : Nat}, t < ts.length → (startL D U i ts).getD t .any = match getU U (i + t) with
    | some v => v
    | none => match memN D (i + t) with | true => .any | false => ts.getD t .any
  | [], _, t, h => by cases h
  | x :: r, i, 0, _ => by simp [startL, List.getD]
  | x :: r, i, t + 1, h => by
    have := startL_get (D := D) (U := U) (ts := r) (i := i + 1) (t := t) (by simpa using h)
    rw [show i + 1 + t = i + (t + 1) from by omega] at this
    simpa [startL, List.getD] using this
theorem startBL_get {B : List (Nat × Blk)} : ∀ {bs : List Blk} {i b : Nat}, b < bs.length → hOf (startBL B i bs) b = match getU B (i + b) with
    | some v => v
    | none => hOf bs b
  | [], _, b, h => by cases h
  | x :: r, i, 0, _ => by simp [startBL, hOf, List.getD]
  | x :: r, i, b + 1, h => by
    have := startBL_get (B := B) (bs := r) (i := i + 1) (b := b) (by simpa using h)
    rw [show i + 1 + b = i + (b + 1) from by omega] at this
    simpa [startBL, hOf, List.getD] using this

theorem maskT_get {D : List Nat} : ∀ {ts ts1 : List AV} {i : Nat}, maskT D i ts1 = maskT D i ts → ts1.length = ts.length ∧ ∀ t, memN D (i + t) = false → ts1.getD t .any = ts.getD t .any
  | [], [], _, _ => ⟨rfl, fun _ _ => rfl⟩
  | [], _ :: _, _, h => by simp [maskT] at h
  | _ :: _, [], _, h => by simp [maskT] at h
  | x :: r, y :: r', i, h => by
    simp only [maskT] at h
    injection h with h1 h2
    obtain ⟨hl, hg⟩ := maskT_get h2
    refine ⟨by simp [hl], fun t ht => ?_⟩
    cases t with
    | zero =>
      simp only [Nat.add_zero] at ht
      rw [ht] at h1
      simpa [List.getD] using h1
    | succ t =>
      have := hg t (by rw [show i + 1 + t = i + (t + 1) from by omega]; exact ht)
      simpa [List.getD] using this

theorem eqU_mem {σ : List (Nat × Nat)} {ts1 : List AV} : ∀ {U : List (Nat × AV)}, eqU σ ts1 U → ∀ t v, getU U t = some v → v = .any ∨ ts1.getD t .any = v.ren σ
  | [], _, t, v, h => by cases h
  | (i, x) :: r, h, t, v, hg => by
    simp only [eqU] at h
    have hh : (x = .any ∨ ts1.getD i .any = x.ren σ) ∧ eqU σ ts1 r := by
      split at h
      · exact ⟨.inl rfl, h⟩
      · exact ⟨.inr h.1, h.2⟩
    simp only [getU] at hg
    split at hg
    · rename_i hb
      cases hg
      rw [Nat.eq_of_beq_eq_true hb]; exact hh.1
    · exact eqU_mem hh.2 t v hg
theorem underU_mem {p : Nat → Bool} : ∀ {U : List (Nat × AV)}, underU p U = true → ∀ t v, getU U t = some v → v.inB p = true
  | [], _, t, v, h => by cases h
  | (i, x) :: r, h, t, v, hg => by
    simp only [underU] at h
    split at h
    · rename_i hx
      simp only [getU] at hg
      split at hg
      · cases hg; exact hx
      · exact underU_mem h t v hg
    · cases h
theorem eqBlk_inv {σ : List (Nat × Nat)} {bs1 : List Blk} {i : Nat} {x : Blk} (h : eqBlk σ bs1 i x) : x = .dead ∨ hOf bs1 (look σ i) = x.ren σ := by
  unfold eqBlk at h
  split at h
  · exact .inl rfl
  · exact .inr h
theorem eqB_get {σ : List (Nat × Nat)} {B : List (Nat × Blk)} {bs1 : List Blk} : ∀ {bs : List Blk} {i : Nat}, eqB σ B bs1 i bs → ∀ b, b < bs.length → hOf (startBL B i bs) b = .dead ∨ hOf bs1 (look σ (i + b)) = (hOf (startBL B i bs) b).ren σ
  | [], _, _, b, h => by cases h
  | x :: r, i, h, b, hb => by
    have hh : eqBlk σ bs1 i (match getU B i with | some v => v | none => x) ∧ eqB σ B bs1 (i + 1) r := by
      simp only [eqB] at h
      split at h
      · rename_i hg; rw [hg]; exact h
      · rename_i hg; rw [hg]; exact h
    cases b with
    | zero => exact eqBlk_inv hh.1
    | succ b =>
      have := eqB_get hh.2 b (by simpa using hb)
      rw [show i + 1 + b = i + (b + 1) from by omega] at this
      simpa [startBL, hOf, List.getD] using this
theorem underB_get {p : Nat → Bool} {B : List (Nat × Blk)} : ∀ {bs : List Blk} {i : Nat}, underB p B i bs = true → ∀ b, b < bs.length → (hOf (startBL B i bs) b).inB p = true
  | [], _, _, b, h => by cases h
  | x :: r, i, h, b, hb => by
    have hh : (match getU B i with | some v => v | none => x).inB p = true ∧ underB p B (i + 1) r = true := by
      simp only [underB] at h
      split at h
      · rename_i hg; rw [hg]
        split at h
        · rename_i h1; exact ⟨h1, h⟩
        · cases h
      · rename_i hg; rw [hg]
        split at h
        · rename_i h1; exact ⟨h1, h⟩
        · cases h
    cases b with
    | zero => exact hh.1
    | succ b =>
      have := underB_get hh.2 b (by simpa using hb)
      simpa [startBL, hOf, List.getD] using this
theorem stayT_get {p : Nat → Bool} {D : List Nat} {U : List (Nat × AV)} : ∀ {ts : List AV} {i : Nat}, stayT p D U i ts = true → ∀ t, t < ts.length → getU U (i + t) = none → memN D (i + t) = false → (ts.getD t .any).inB p = true
  | [], _, _, t, h, _, _ => by cases h
  | x :: r, i, h, t, ht, h1, h2 => by
    simp only [stayT] at h
    cases t with
    | zero =>
      rw [Nat.add_zero] at h1 h2
      rw [h1, h2] at h
      simp only at h
      split at h
      · rename_i hx; exact hx
      · cases h
    | succ t =>
      have hr : stayT p D U (i + 1) r = true := by
        split at h
        · split at h
          · exact h
          · cases h
        · exact h
      have := stayT_get hr t (by simpa using ht) (by rw [show i + 1 + t = i + (t + 1) from by omega]; exact h1) (by rw [show i + 1 + t = i + (t + 1) from by omega]; exact h2)
      simpa [List.getD] using this
theorem nodupN_inj {f : Nat → Nat} {n : Nat} (h : nodupN ((List.range n).map f) = true) : ∀ b b', b < n → b' < n → f b = f b' → b = b' := by
  have hnd : ∀ l : List Nat, nodupN l = true → l.Nodup := by
    intro l
    induction l with
    | nil => intro _; exact .nil
    | cons x l ih =>
      intro h
      unfold nodupN at h
      split at h
      · cases h
      · rename_i hx
        refine List.nodup_cons.2 ⟨fun hm => ?_, ih h⟩
        rw [mem_memN hm] at hx; cases hx
  have hp := hnd _ h
  intro b b' hb hb' e
  have h1 := List.pairwise_map.1 hp
  rcases Nat.lt_trichotomy b b' with hlt | heq | hgt
  · have := List.pairwise_iff_getElem.1 h1 b b' (by simpa using hb) (by simpa using hb') hlt
    simp at this; exact absurd e this
  · exact heq
  · have := List.pairwise_iff_getElem.1 h1 b' b (by simpa using hb') (by simpa using hb) hgt
    simp at this; exact absurd e.symm this
theorem keysB_look {k : Nat} : ∀ {σ : List (Nat × Nat)}, keysB k σ = true → ∀ b, b < k → look σ b = b
  | [], _, _, _ => rfl
  | (i, j) :: r, h, b, hb => by
    simp only [keysB] at h
    split at h
    · rename_i hk
      have hk := Nat.le_of_ble_eq_true hk
      unfold look
      split
      · rename_i hbe; have := Nat.eq_of_beq_eq_true hbe; omega
      · exact keysB_look h b hb
    · cases h

theorem fixB_iff {σ : List (Nat × Nat)} {n b : Nat} (h : fixB σ n b = true) : b < n ∧ look σ b = b := by
  unfold fixB at h
  split at h
  · rename_i hb
    rw [Nat.blt_eq] at hb
    exact ⟨hb, Nat.eq_of_beq_eq_true h⟩
  · cases h

section
variable {P : Program} {G : Nat → AV} {T : Tr} {E0 : Env} {Ho : Nat → Blk} {w0 : World}

/-- The package-level variables name no blocks. -/
def GPlain (G : Nat → AV) : Prop := ∀ g, (G g).inB (fun _ => false) = true

theorem GOK.pull (hG0 : GPlain G) {E E' : Env} (hrd : ∀ r j v, E.rd r j = some v → E'.rd r j = some v) (h : GOK E G) : GOK E' G := fun g => by
  have := RepV.to (A := E) (B := E') (σ := []) (p := fun _ => false) ⟨fun b hb => Bool.noConfusion hb, fun b hb => Bool.noConfusion hb, fun b hb => Bool.noConfusion hb⟩ hrd (hG0 g) (h g)
  rw [ren_nil] at this
  exact this

/-- A state that meets a loop's. -/
theorem Meets.sim {X : Type} {F : Fam X} {k : Nat} {D : List Nat} {ts ts1 : List AV} {bs bs1 : List Blk} {y : X} {σ : List (Nat × Nat)} (hR0 : Rel E0 Ho w0) (hG0 : GPlain G) (hk : ∀ b, E0.pl b ≠ .unborn → b < k ∧ b < bs.length) (h : Meets F k D ts bs ts1 bs1 y σ) {a : Act} {w : World} (hS : Sim G E0 Ho w0 ts1 bs1 a w) :
    Sim G E0 Ho w0 (startL D (F.U y) 0 ts) (startBL (F.B y) 0 bs) a w := by
  obtain ⟨hmask, hU, hB, hm⟩ := h
  obtain ⟨E, acc, hS⟩ := hS
  unfold meetB at hm
  split at hm
  · rename_i hu hub hst
    have hσ : (∀ b, b < k → look σ b = b) ∧ ∀ b b', b < bs.length → b' < bs.length → look σ b = look σ b' → b = b' := by
      split at hm
      · exact ⟨fun _ _ => rfl, fun _ _ _ _ h => h⟩
      · split at hm
        · rename_i h1 h2; exact ⟨keysB_look h1, nodupN_inj h2⟩
        · cases hm
    obtain ⟨hfix, hinj⟩ := hσ
    obtain ⟨hlen, hget⟩ := maskT_get hmask
    have hH' : ∀ b, b < bs.length → hOf (startBL (F.B y) 0 bs) b = .dead ∨ upds Ho acc (look σ b) = (hOf (startBL (F.B y) 0 bs) b).ren σ := by
      intro b hb
      have := eqB_get hB b hb
      rw [Nat.zero_add] at this
      rw [hS.H]; exact this
    have hoff : ∀ b, bs.length ≤ b → hOf (startBL (F.B y) 0 bs) b = .dead := fun b hb => hOf_off (by rw [startBL_len]; exact hb)
    have hrel := hS.step.rel.pull hH' hoff (underB_get hub) hinj
    have hpl : ∀ b, b < bs.length → (E.pull σ bs.length).pl b = E.pl (look σ b) := fun b hb => if_pos hb
    have hE : Ext E0 (E.pull σ bs.length) := by
      refine ⟨fun b hb => ?_, fun b hb => ?_, fun b hb => ?_, hS.step.ext.rd⟩
      · rw [hpl b (hk b hb).2, hfix b (hk b hb).1]; exact hS.step.ext.pl b hb
      · show E.lay (look σ b) = _; rw [hfix b (hk b hb).1]; exact hS.step.ext.lay b hb
      · show E.top (look σ b) = _; rw [hfix b (hk b hb).1]; exact hS.step.ext.top b hb
    have hat : ∀ b r o, (E.pull σ bs.length).pl b = .at r o → b < bs.length ∧ E.pl (look σ b) = .at r o := by
      intro b r o h
      by_cases hb : b < bs.length
      · exact ⟨hb, (hpl b hb) ▸ h⟩
      · have : (if b < bs.length then E.pl (look σ b) else Place.unborn) = .at r o := h
        rw [if_neg hb] at this; cases this
    have hnew : ∀ b, b < bs.length → E0.pl b = .unborn → E0.pl (look σ b) = .unborn := by
      intro b hb hu
      refine Classical.byContradiction fun hne => ?_
      obtain ⟨h1, h2⟩ := hk _ hne
      have := hinj b (look σ b) hb h2 (by rw [hfix _ h1])
      rw [← this] at hne
      exact hne hu
    have hown : upds Ho (accOf (startBL (F.B y) 0 bs)) = hOf (startBL (F.B y) 0 bs) := by
      funext b
      rw [accOf_upds]
      split
      · rfl
      · rename_i hb
        rw [startBL_len] at hb
        have hu : E0.pl b = .unborn := Classical.byContradiction fun hne => hb (hk b hne).2
        rw [hoff b (Nat.le_of_not_lt hb), hR0.born b hu]
    have hm0 := hS.step.mem
    refine ⟨E.pull σ bs.length, accOf (startBL (F.B y) 0 bs), ⟨.any _ _, by rw [hown]; exact hrel, hE, ⟨hm0.os, hm0.tape, hm0.output, hm0.size, hm0.same, hm0.round, hm0.frozen, hm0.shape, hm0.rd, ?_⟩, ?_, ?_, ?_⟩, hown, by rw [hS.size, startL_len, hlen], ?_, GOK.pull (E := E) (E' := E.pull σ bs.length) hG0 (fun _ _ _ h => h) hS.glob, ?_, ?_, hS.defers⟩
    · intro b r o hu hp
      obtain ⟨hb, hp'⟩ := hat b r o hp
      exact hm0.new (look σ b) r o (hnew b hb hu) hp'
    · intro b _ hb
      refine accOf_ids.2 ?_
      rw [startBL_len]
      exact Nat.lt_of_not_le fun hle => hb (if_neg (Nat.not_lt.2 hle))
    · intro b hb
      rw [hown] at hb
      by_cases hu : E0.pl b = .unborn
      · exact .inr hu
      · have hkb := hk b hu
        rcases hH' b hkb.2 with h1 | h1
        · rw [h1] at hb; cases hb
        · rw [hfix b hkb.1] at h1
          exact hS.step.live b (by rw [h1, ren_own]; exact hb)
    · intro b r o _ hp hno
      exact absurd (accOf_ids.2 (by rw [startBL_len]; exact (hk b (at_born hp)).2)) hno
    · intro t
      by_cases ht : t < ts.length
      · rw [startL_get ht, Nat.zero_add]
        cases hg : getU (F.U y) t with
        | some v =>
          simp only
          rcases eqU_mem hU t v hg with e | e
          · rw [e]; exact .any _ _
          · have := hS.tmps t
            rw [e] at this
            exact RepV.back (E.pull_mp σ bs.length) (fun _ _ _ h => h) (underU_mem hu t v hg) this
        | none =>
          simp only
          cases hD : memN D t with
          | true => exact .any _ _
          | false =>
            simp only
            have h1 := stayT_get hst t ht (by rw [Nat.zero_add]; exact hg) (by rw [Nat.zero_add]; exact hD)
            have h2 := hS.tmps t
            rw [hget t (by rw [Nat.zero_add]; exact hD)] at h2
            refine RepV.back (A := E.pull σ bs.length) (B := E) (σ := []) ⟨fun b hb => ?_, fun b hb => ?_, fun b hb => ?_⟩ (fun _ _ _ h => h) h1 (by rw [ren_nil]; exact h2)
            · obtain ⟨h3, h4⟩ := fixB_iff hb
              rw [hpl b h3, h4]; rfl
            · show E.lay b = E.lay (look σ b); rw [(fixB_iff hb).2]
            · show E.top b = E.top (look σ b); rw [(fixB_iff hb).2]
      · have : (startL D (F.U y) 0 ts).getD t .any = .any := by simp [List.getD, List.getElem?_eq_none (show (startL D (F.U y) 0 ts).length ≤ t from by rw [startL_len]; omega)]
        rw [this]; exact .any _ _
    · intro b hb
      rw [startBL_len]
      exact Nat.lt_of_not_le fun hle => hb (if_neg (Nat.not_lt.2 hle))
    · intro x hx
      exact accOf_ids.1 (List.mem_map.2 ⟨x, hx, rfl⟩)
  · cases hm

end
end Go.Eng

namespace Go.Eng
section
variable {P : Program} {G : Nat → AV} {T : Tr} {E0 : Env} {Ho : Nat → Blk} {w0 : World}

/-- A step on, from a state that is as told. -/
theorem SimE.next (hR0 : Rel E0 Ho w0) {ts ts' : List AV} {bs bs' : List Blk} {a a' : Act} {w w' : World} {E E' : Env} {acc wr : List (Nat × Blk)} {v : AV} {u : Value} (h : SimE G E0 Ho w0 ts bs a w E acc) (hst : Step E (upds Ho acc) w wr v u E' w')
    (hH : hOf bs' = upds (hOf bs) wr) (hle : bs.length ≤ bs'.length) (hin : ∀ x, x ∈ wr → x.1 < bs'.length) (hsz : a'.tmps.size = ts'.length) (ht : ∀ t, RepV E' (ts'.getD t .any) (a'.tmps.getD t undef)) (hd : a'.defers = []) :
    Sim G E0 Ho w0 ts' bs' a' w' := by
  refine ⟨E', acc ++ wr, (h.step.trans hR0 hst).free (.any _ _), by rw [upds_append, h.H, hH], hsz, ht, h.glob.ext hst.ext, fun b hb => ?_, fun x hx => ?_, hd⟩
  · by_cases hu : E.pl b = .unborn
    · obtain ⟨x, hx, e⟩ := List.mem_map.1 (hst.born b hu hb)
      rw [← e]; exact hin x hx
    · have := h.unborn b hu; omega
  · rcases List.mem_append.1 hx with hx | hx
    · have := h.acc x hx; omega
    · exact hin x hx

theorem nilsK_sound (hR0 : Rel E0 Ho w0) : ∀ {N : List (Nat × Blk)} {ts : List AV} {bs : List Blk} {K : List AV → List Blk → Prop} {a : Act} {w : World}, nilsK N ts bs K → Sim G E0 Ho w0 ts bs a w → ∃ ts' bs', K ts' bs' ∧ Sim G E0 Ho w0 ts' bs' a w ∧ bs.length ≤ bs'.length
  | [], ts, bs, K, a, w, h, hS => ⟨ts, bs, h, hS, Nat.le_refl _⟩
  | (t, x) :: r, ts, bs, K, a, w, h, hS => by
    simp only [nilsK] at h
    split at h
    · rename_i hts
      have go : ∀ (x : Blk) (la : Lay) (C : Rd → List Value → Prop), RowB x 0 la C → (setK ts t (.sl bs.length [] la 0 0) fun ts => padK bs bs.length x fun bs => nilsK r ts bs K) → ∃ ts' bs', K ts' bs' ∧ Sim G E0 Ho w0 ts' bs' a w ∧ bs.length ≤ bs'.length := by
        intro x la C hB h
        obtain ⟨hlt, h⟩ := setK_inv h
        obtain ⟨bs1, h, hl, hc⟩ := padK_inv h
        obtain ⟨E, acc, hS⟩ := hS
        have hk : E.pl bs.length = .unborn := Classical.byContradiction fun hne => by have := hS.unborn _ hne; omega
        obtain ⟨E', hst⟩ := Step.emptyB hS.step.rel hk hB rfl none
        have hv : a.tmps.getD t undef = .slice none 0 0 := by
          have := hS.tmps t
          rw [hts] at this
          exact rep_sc this
        have hS' := hS.next (ts' := ts.set t (.sl bs.length [] la 0 0)) (bs' := bs1) (a' := a) hR0 hst (by funext c; rw [hc]; rfl) (by omega) (fun y hy => by rw [List.mem_singleton.1 hy]; simp only; omega) (by rw [hS.size, List.length_set]) (fun t' => by
          by_cases e : t' = t
          · subst e
            rw [show (ts.set t' (.sl bs.length [] la 0 0)).getD t' .any = .sl bs.length [] la 0 0 from by simp [List.getD, hlt], hv]
            exact hst.val
          · rw [show (ts.set t (.sl bs.length [] la 0 0)).getD t' .any = ts.getD t' .any from by simp [List.getD, List.getElem?_set_ne (Ne.symm e)]]
            exact (hS.tmps t').ext hst.ext) hS.defers
        obtain ⟨ts', bs', g1, g2, g3⟩ := nilsK_sound hR0 h hS'
        exact ⟨ts', bs', g1, g2, by omega⟩
      split at h
      · split at h
        · exact go _ _ _ (RowB.ints _ []) h
        · exact h.elim
      · split at h
        · exact go _ _ _ (RowB.parts _ 0 _) h
        · exact h.elim
      · exact h.elim
    · exact h.elim

theorem mono_then {K : Post} {c : Code} {a : Act} {w : World} {N : List AV → List Blk → Prop} {R : Act → World → Prop} (hn : ∀ ts bs a w, N ts bs → Sim G E0 Ho w0 ts bs a w → R a w) (h : c.wp P (PostQ G E0 Ho w0 (thenK N K)) a w) :
    c.wp P (Exit.then R (PostQ G E0 Ho w0 K)) a w := by
  refine wp_mono h fun e a w hq => ?_
  cases e with
  | normal => obtain ⟨ts, bs, h1, h2⟩ := hq; exact hn ts bs a w h1 h2
  | exit i => exact hq
  | goto l => exact hq
  | ret => exact hq
  | panic ch => exact hq
  | outgrown => exact hq

/- ## Jumps within a scope -/

/-- From a jump on, within a scope. -/
def Jumps (P : Program) (c : Code) (Q : Exit → Act → World → Prop) (l : Nat) (a : Act) (w : World) : Prop :=
  ∃ rest, findLabel c l = some rest ∧ ∀ (b : Frame) (k : List Item) (cs : List Frame), ∃ e a' w', Q e a' w' ∧ Arrives P (lone (b.at a (.code rest :: .inScope c :: k)) cs w) b k cs e a' w'
def ScopeQ (P : Program) (c : Code) (Q : Exit → Act → World → Prop) : Exit → Act → World → Prop
  | .goto l, a, w => Jumps P c Q l a w
  | e, a, w => Q e a w
def PassQ (P : Program) (c : Code) (Q : Exit → Act → World → Prop) (l : Nat) (N : Act → World → Prop) : Exit → Act → World → Prop
  | .goto l', a, w => (l' = l ∧ N a w) ∨ Jumps P c Q l' a w
  | e, a, w => Q e a w

theorem jump_in {c rest : Code} {l : Nat} (hf : findLabel c l = some rest) (k : List Item) : gotoIn l (.inScope c :: k) = some (.code rest :: .inScope c :: k) := by simp [gotoIn, hf]

theorem wp_scope_goto {c : Code} {Q : Exit → Act → World → Prop} {a : Act} {w : World} (first : c.wp P (ScopeQ P c Q) a w) : (Code.scope c).wp P Q a w := by
  intro b k cs
  obtain ⟨e, a₁, w₁, hq, harr⟩ := first b (.inScope c :: k) cs
  cases e with
  | normal => exact ⟨.normal, a₁, w₁, hq, .head step_scope (Steps.trans harr (.one step_inScope))⟩
  | exit id => exact ⟨.exit id, a₁, w₁, hq, fun k' hk => .head step_scope (harr k' (by simp [exitTo, hk]))⟩
  | goto l =>
    obtain ⟨rest, hf, hj⟩ := hq
    obtain ⟨e₂, a₂, w₂, hq₂, harr₂⟩ := hj b k cs
    exact ⟨e₂, a₂, w₂, hq₂, .of_steps (.head step_scope (harr _ (jump_in hf k))) harr₂⟩
  | ret => exact ⟨_, a₁, w₁, hq, .of_steps (.one step_scope) harr⟩
  | panic ch => exact ⟨_, a₁, w₁, hq, .of_steps (.one step_scope) harr⟩
  | outgrown => exact ⟨_, a₁, w₁, hq, .of_steps (.one step_scope) harr⟩

theorem jumps_loop {X : Type} {c rest : Code} {l : Nat} {Q : Exit → Act → World → Prop} (J : X → Act → World → Prop) (μ : X → Nat) (hf : findLabel c l = some rest)
    (pass : ∀ x a w, J x a w → rest.wp P (PassQ P c Q l fun a' w' => ∃ y, J y a' w' ∧ μ y < μ x) a w) {x : X} {a : Act} {w : World} (h₀ : J x a w) : Jumps P c Q l a w := by
  refine ⟨rest, hf, fun b k cs => ?_⟩
  have key : ∀ n x a w, μ x = n → J x a w → ∃ e a' w', Q e a' w' ∧ Arrives P (lone (b.at a (.code rest :: .inScope c :: k)) cs w) b k cs e a' w' := by
    intro n
    induction n using Nat.strongRecOn with
    | _ n ih =>
      intro x a w hn hJ
      obtain ⟨e, a₁, w₁, hq, harr⟩ := pass x a w hJ b (.inScope c :: k) cs
      cases e with
      | normal => exact ⟨.normal, a₁, w₁, hq, Steps.trans harr (.one step_inScope)⟩
      | exit id => exact ⟨.exit id, a₁, w₁, hq, fun k' hk => harr k' (by simp [exitTo, hk])⟩
      | goto l' =>
        rcases hq with ⟨rfl, y, hJ', hlt⟩ | ⟨rest', hf', hj⟩
        · obtain ⟨e₂, a₂, w₂, hq₂, harr₂⟩ := ih (μ y) (hn ▸ hlt) y a₁ w₁ rfl hJ'
          exact ⟨e₂, a₂, w₂, hq₂, .of_steps (harr _ (jump_in hf k)) harr₂⟩
        · obtain ⟨e₂, a₂, w₂, hq₂, harr₂⟩ := hj b k cs
          exact ⟨e₂, a₂, w₂, hq₂, .of_steps (harr _ (jump_in hf' k)) harr₂⟩
      | ret => exact ⟨_, a₁, w₁, hq, harr⟩
      | panic ch => exact ⟨_, a₁, w₁, hq, harr⟩
      | outgrown => exact ⟨_, a₁, w₁, hq, harr⟩
  exact key _ x a w rfl h₀

/-- From a label on. -/
def FromL (P : Program) (c : Code) (l : Nat) (Q : Exit → Act → World → Prop) (a : Act) (w : World) : Prop := ∃ rest, findLabel c l = some rest ∧ rest.wp P Q a w

theorem pass_of {c : Code} {l : Nat} {K : Post} {N : List AV → List Blk → Prop} {N' : Act → World → Prop} {oth : Nat → List AV → List Blk → Prop} {rest : Code} (hN : ∀ ts bs a w, N ts bs → Sim G E0 Ho w0 ts bs a w → N' a w)
    (ho : ∀ l ts bs a w, oth l ts bs → Sim G E0 Ho w0 ts bs a w → Jumps P c (PostQ G E0 Ho w0 K) l a w) {a : Act} {w : World} (h : rest.wp P (PostQ G E0 Ho w0 (gotoK l N oth K)) a w) : rest.wp P (PassQ P c (PostQ G E0 Ho w0 K) l N') a w := by
  refine wp_mono h fun e a w hq => ?_
  cases e with
  | normal => exact hq
  | exit i => exact hq
  | goto i =>
    obtain ⟨ts, bs, h1, h2⟩ := hq
    simp only [gotoK] at h1
    split at h1
    · rename_i hb
      exact .inl ⟨Nat.eq_of_beq_eq_true hb, hN ts bs a w h1 h2⟩
    · exact .inr (ho i ts bs a w h1 h2)
  | ret => exact hq
  | panic ch => exact hq
  | outgrown => exact hq

theorem jumps_sound (hR0 : Rel E0 Ho w0) (hG0 : GPlain G) {k : Nat} (hk : ∀ b, E0.pl b ≠ .unborn → b < k) {c : Code} {D : List Nat} {body : Nat → Post → List AV → List Blk → Prop} {K : Post}
    (hbody : ∀ l K' ts bs a w, body l K' ts bs → Sim G E0 Ho w0 ts bs a w → FromL P c l (PostQ G E0 Ho w0 K') a w) : ∀ n l ts bs a w, jumps k D body K n l ts bs → Sim G E0 Ho w0 ts bs a w → Jumps P c (PostQ G E0 Ho w0 K) l a w
  | 0, _, _, _, _, _, h, _ => h.elim
  | n + 1, l, ts, bs, a, w, h, hS => by
    have hoth := jumps_sound (D := D) (K := K) hR0 hG0 hk hbody n
    rcases h with h | ⟨X, F, N, x, h⟩
    · obtain ⟨rest, hf, hw⟩ := hbody l _ ts bs a w h hS
      refine jumps_loop (X := Unit) (fun _ a' w' => a' = a ∧ w' = w) (fun _ => 0) hf (fun _ a' w' hJ => ?_) (x := ()) ⟨rfl, rfl⟩
      obtain ⟨rfl, rfl⟩ := hJ
      exact pass_of (fun _ _ _ _ h _ => h.elim) hoth hw
    · obtain ⟨ts, bs, ⟨hmeet, hround⟩, hS, _⟩ := nilsK_sound hR0 h hS
      have hkb : ∀ b, E0.pl b ≠ .unborn → b < k ∧ b < bs.length := by
        intro b hb
        obtain ⟨E, acc, hS'⟩ := hS
        exact ⟨hk b hb, hS'.unborn b (by rw [hS'.step.ext.pl b hb]; exact hb)⟩
      have hpass : ∀ x a w, Sim G E0 Ho w0 (startL D (F.U x) 0 ts) (startBL (F.B x) 0 bs) a w → FromL P c l (PassQ P c (PostQ G E0 Ho w0 K) l fun a' w' => ∃ y, Sim G E0 Ho w0 (startL D (F.U y) 0 ts) (startBL (F.B y) 0 bs) a' w' ∧ F.μ y < F.μ x) a w := by
        intro x a w hJ
        have h1 := hround x
        rw [startK_eq, startB_eq] at h1
        obtain ⟨rest, hf, hw⟩ := hbody l _ _ _ a w h1 hJ
        exact ⟨rest, hf, pass_of (fun ts1 bs1 a w ⟨y, σ, hm1, hlt⟩ hS1 => ⟨y, hm1.sim hR0 hG0 hkb hS1, hlt⟩) hoth hw⟩
      have h0 := hmeet.sim hR0 hG0 hkb hS
      obtain ⟨rest, hf, _⟩ := hpass x a w h0
      refine jumps_loop (fun x a w => Sim G E0 Ho w0 (startL D (F.U x) 0 ts) (startBL (F.B x) 0 bs) a w) F.μ hf (fun x a w hJ => ?_) h0
      obtain ⟨rest', hf', hw⟩ := hpass x a w hJ
      rw [hf] at hf'
      cases hf'
      exact hw

/-- What is told of a text is what it does. -/
theorem vcB_sound (hT : TabOK P T) (hm : P.follows .mixedOrders = true) (hR0 : Rel E0 Ho w0) (hG0 : GPlain G) {k : Nat} (hk : ∀ b, E0.pl b ≠ .unborn → b < k) : ∀ (c : Code) (o : Option Nat) (K : Post) (ts : List AV) (bs : List Blk) (a : Act) (w : World),
    vcB P G T k c o K ts bs → Sim G E0 Ho w0 ts bs a w → match o with
      | none => c.wp P (PostQ G E0 Ho w0 K) a w
      | some l => FromL P c l (PostQ G E0 Ho w0 K) a w
  | .skip, none, K, ts, bs, a, w, h, hS => wp_skip ⟨ts, bs, h, hS⟩
  | .region id ops d, none, K, ts, bs, a, w, h, hS => region_sound hT hm hR0 (k := k) h hS
  | .seq x y, none, K, ts, bs, a, w, h, hS => by
    refine wp_seq (mono_then (fun ts bs a w h hS => ?_) (vcB_sound hT hm hR0 hG0 hk x none _ ts bs a w h hS))
    exact vcB_sound hT hm hR0 hG0 hk y none K ts bs a w h hS
  | .seq x y, some l, K, ts, bs, a, w, h, hS => by
    simp only [vcB] at h
    split at h
    · rename_i hx
      obtain ⟨rx, hrx, hw⟩ := vcB_sound hT hm hR0 hG0 hk x (some l) _ ts bs a w h hS
      refine ⟨.seq rx y, by simp [findLabel, hrx], wp_seq (mono_then (fun ts bs a w h hS => ?_) hw)⟩
      exact vcB_sound hT hm hR0 hG0 hk y none K ts bs a w h hS
    · rename_i hx
      obtain ⟨ry, hry, hw⟩ := vcB_sound hT hm hR0 hG0 hk y (some l) K ts bs a w h hS
      have hn : findLabel x l = none := by
        cases hfx : findLabel x l with
        | none => rfl
        | some r => rw [hfx] at hx; cases hx
      exact ⟨ry, by simp [findLabel, hn, hry], hw⟩
  | .cond c x y, none, K, ts, bs, a, w, h, hS => by
    simp only [vcB] at h
    split at h
    · rename_i t
      split at h
      · rename_i b hts
        obtain ⟨E, acc, hS'⟩ := id hS
        have hv : a.eval (.tmp t) = .bool b := by
          have := hS'.tmps t
          rw [hts] at this
          exact rep_sc this
        refine wp_cond hv ?_
        cases b with
        | true => exact vcB_sound hT hm hR0 hG0 hk x none K ts bs a w h hS
        | false => exact vcB_sound hT hm hR0 hG0 hk y none K ts bs a w h hS
      · rename_i b hts
        have h := split_of h
        obtain ⟨hlt, h⟩ := setK_inv h
        obtain ⟨E, acc, hS'⟩ := id hS
        have hv : a.eval (.tmp t) = .bool b := by
          have := hS'.tmps t
          rw [hts] at this
          exact rep_bl this
        have hS2 : Sim G E0 Ho w0 (ts.set t (.dv (.sc (.bool b)))) bs a w := by
          refine ⟨E, acc, hS'.step, hS'.H, by rw [hS'.size, List.length_set], fun t' => ?_, hS'.glob, hS'.unborn, hS'.acc, hS'.defers⟩
          by_cases e : t' = t
          · subst e
            rw [show (ts.set t' (.dv (.sc (.bool b)))).getD t' .any = .dv (.sc (.bool b)) from by simp [List.getD, hlt]]
            have : a.tmps.getD t' undef = .bool b := hv
            rw [this]; exact sc_rep E trivial
          · rw [show (ts.set t (.dv (.sc (.bool b)))).getD t' .any = ts.getD t' .any from by simp [List.getD, List.getElem?_set_ne (Ne.symm e)]]
            exact hS'.tmps t'
        refine wp_cond hv ?_
        cases b with
        | true => exact vcB_sound hT hm hR0 hG0 hk x none K _ bs a w h hS2
        | false => exact vcB_sound hT hm hR0 hG0 hk y none K _ bs a w h hS2
      · exact h.elim
    · rename_i b
      refine wp_cond (t := b) rfl ?_
      cases b with
      | true => exact vcB_sound hT hm hR0 hG0 hk x none K ts bs a w h hS
      | false => exact vcB_sound hT hm hR0 hG0 hk y none K ts bs a w h hS
    · exact h.elim
  | .block id b, none, K, ts, bs, a, w, h, hS => by
    refine wp_block (wp_mono (vcB_sound hT hm hR0 hG0 hk b none _ ts bs a w h hS) fun e a w hq => ?_)
    cases e with
    | normal => exact hq
    | exit i =>
      obtain ⟨ts, bs, h1, h2⟩ := hq
      simp only [blockK] at h1
      simp only [Exit.inBlock]
      split at h1
      · rename_i hb
        rw [if_pos (Nat.eq_of_beq_eq_true hb)]; exact ⟨ts, bs, h1, h2⟩
      · rename_i hb
        rw [if_neg (Nat.ne_of_beq_eq_false hb)]; exact ⟨ts, bs, h1, h2⟩
    | goto l => exact hq
    | ret => exact hq
    | panic ch => exact hq
    | outgrown => exact hq
  | .loop b, none, K, ts, bs, a, w, h, hS => by
    obtain ⟨X, F, N, x, h⟩ := h
    obtain ⟨ts, bs, ⟨hmeet, hround⟩, hS, _⟩ := nilsK_sound hR0 h hS
    have hkb : ∀ b, E0.pl b ≠ .unborn → b < k ∧ b < bs.length := by
      intro b hb
      obtain ⟨E, acc, hS'⟩ := hS
      exact ⟨hk b hb, hS'.unborn b (by rw [hS'.step.ext.pl b hb]; exact hb)⟩
    refine wp_loop_x (fun x a w => Sim G E0 Ho w0 (startL (wrs b) (F.U x) 0 ts) (startBL (F.B x) 0 bs) a w) F.μ (fun x a w hJ => ?_) (hmeet.sim hR0 hG0 hkb hS)
    have h1 := hround x
    rw [startK_eq, startB_eq] at h1
    refine mono_then (fun ts1 bs1 a w hh hS1 => ?_) (vcB_sound hT hm hR0 hG0 hk b none _ _ _ a w h1 hJ)
    obtain ⟨y, σ, hm1, hlt⟩ := hh
    exact ⟨y, hm1.sim hR0 hG0 hkb hS1, hlt⟩
  | .exit i, none, K, ts, bs, a, w, h, hS => wp_exit ⟨ts, bs, h, hS⟩
  | .label _, none, K, ts, bs, a, w, h, hS => wp_label ⟨ts, bs, h, hS⟩
  | .label l', some l, K, ts, bs, a, w, h, hS => by
    simp only [vcB] at h
    split at h
    · rename_i hl
      exact ⟨.skip, by simp only [findLabel]; rw [if_pos hl], wp_skip ⟨ts, bs, h, hS⟩⟩
    · exact h.elim
  | .goto l, none, K, ts, bs, a, w, h, hS => wp_goto ⟨ts, bs, h, hS⟩
  | .ret, none, K, ts, bs, a, w, h, hS => wp_ret ⟨ts, bs, h, hS⟩
  | .scope b, none, K, ts, bs, a, w, h, hS => by
    refine wp_scope_goto (wp_mono (vcB_sound hT hm hR0 hG0 hk b none _ ts bs a w h hS) fun e a w hq => ?_)
    cases e with
    | normal => exact hq
    | exit i => exact hq
    | goto l =>
      obtain ⟨ts, bs, h1, h2⟩ := hq
      exact jumps_sound hR0 hG0 hk (fun l K' ts bs a w h hS => vcB_sound hT hm hR0 hG0 hk b (some l) K' ts bs a w h hS) 4 l ts bs a w h1 h2
    | ret => exact hq
    | panic ch => exact hq
    | outgrown => exact hq
  | .rangeFunc _ _ _ _, none, _, _, _, _, _, h, _ => h.elim
  | .refuse _, none, _, _, _, _, _, h, _ => h.elim
  | .skip, some _, _, _, _, _, _, h, _ => h.elim
  | .region _ _ _, some _, _, _, _, _, _, h, _ => h.elim
  | .cond _ _ _, some _, _, _, _, _, _, h, _ => h.elim
  | .block _ _, some _, _, _, _, _, _, h, _ => h.elim
  | .loop _, some _, _, _, _, _, _, h, _ => h.elim
  | .exit _, some _, _, _, _, _, _, h, _ => h.elim
  | .goto _, some _, _, _, _, _, _, h, _ => h.elim
  | .ret, some _, _, _, _, _, _, h, _ => h.elim
  | .scope _, some _, _, _, _, _, _, h, _ => h.elim
  | .rangeFunc _ _ _ _, some _, _, _, _, _, _, h, _ => h.elim
  | .refuse _, some _, _, _, _, _, _, h, _ => h.elim

theorem vc_sound (hT : TabOK P T) (hm : P.follows .mixedOrders = true) (hR0 : Rel E0 Ho w0) (hG0 : GPlain G) {k : Nat} (hk : ∀ b, E0.pl b ≠ .unborn → b < k) (c : Code) (K : Post) (ts : List AV) (bs : List Blk) (a : Act) (w : World)
    (h : vc P G T k c K ts bs) (hS : Sim G E0 Ho w0 ts bs a w) : c.wp P (PostQ G E0 Ho w0 K) a w := vcB_sound hT hm hR0 hG0 hk c none K ts bs a w h hS

end
end Go.Eng

namespace Go.Eng

def bornB : Place → Bool
  | .unborn => false
  | _ => true
theorem bornB_iff {p : Place} : bornB p = true ↔ p ≠ .unborn := by cases p <;> simp [bornB]

/-- A call's own blocks, under the caller's numbers. -/
def Env.push (E E1 : Env) (τ : List (Nat × Nat)) (news : List Nat) : Env :=
  { pl := fun c => if bornB (E.pl c) = true then E.pl c else match news.find? (fun j => Nat.beq (look τ j) c) with | some j => E1.pl j | none => .unborn
    lay := fun c => if bornB (E.pl c) = true then E.lay c else match news.find? (fun j => Nat.beq (look τ j) c) with | some j => E1.lay j | none => E.lay c
    top := fun c => if bornB (E.pl c) = true then E.top c else match news.find? (fun j => Nat.beq (look τ j) c) with | some j => E1.top j | none => E.top c
    rd := E1.rd }

section
variable {E E1 : Env} {τ : List (Nat × Nat)} {news : List Nat}
theorem push_old {c : Nat} (h : E.pl c ≠ .unborn) : (E.push E1 τ news).pl c = E.pl c ∧ (E.push E1 τ news).lay c = E.lay c ∧ (E.push E1 τ news).top c = E.top c := by
  have hb := bornB_iff.2 h
  exact ⟨if_pos hb, if_pos hb, if_pos hb⟩
theorem push_find {j : Nat} (hj : j ∈ news) (hinj : ∀ i j, i ∈ news → j ∈ news → look τ i = look τ j → i = j) : news.find? (fun i => Nat.beq (look τ i) (look τ j)) = some j := by
  cases hf : news.find? (fun i => Nat.beq (look τ i) (look τ j)) with
  | none =>
    have := List.find?_eq_none.1 hf j hj
    simp at this
  | some i =>
    have h1 := List.find?_some hf
    have h2 := List.mem_of_find?_eq_some hf
    rw [hinj i j h2 hj (Nat.eq_of_beq_eq_true h1)]
theorem push_new {j : Nat} (hj : j ∈ news) (hinj : ∀ i j, i ∈ news → j ∈ news → look τ i = look τ j → i = j) (hu : E.pl (look τ j) = .unborn) :
    (E.push E1 τ news).pl (look τ j) = E1.pl j ∧ (E.push E1 τ news).lay (look τ j) = E1.lay j ∧ (E.push E1 τ news).top (look τ j) = E1.top j := by
  have hb : ¬ bornB (E.pl (look τ j)) = true := by rw [hu]; simp [bornB]
  have hf := push_find hj hinj
  refine ⟨?_, ?_, ?_⟩
  · show (if _ then _ else _) = _
    rw [if_neg hb, hf]
  · show (if _ then _ else _) = _
    rw [if_neg hb, hf]
  · show (if _ then _ else _) = _
    rw [if_neg hb, hf]
theorem push_inv {c : Nat} (hu : E.pl c = .unborn) (h : (E.push E1 τ news).pl c ≠ .unborn) : ∃ j, j ∈ news ∧ look τ j = c := by
  have hb : ¬ bornB (E.pl c) = true := by rw [hu]; simp [bornB]
  have h : (if bornB (E.pl c) = true then E.pl c else match news.find? (fun j => Nat.beq (look τ j) c) with | some j => E1.pl j | none => .unborn) ≠ .unborn := h
  rw [if_neg hb] at h
  cases hf : news.find? (fun j => Nat.beq (look τ j) c) with
  | none => rw [hf] at h; exact absurd rfl h
  | some j => exact ⟨j, List.mem_of_find?_eq_some hf, Nat.eq_of_beq_eq_true (List.find?_some (p := fun j => Nat.beq (look τ j) c) hf)⟩

/-- A body's steps are the call's. -/
theorem Step.push {H : Nat → Blk} {w w' : World} (hR : Rel E H w) {k : Nat} {bs0 bs1 : List Blk} {acc : List (Nat × Blk)} {r : AV} {v : Value} (hk : bs0.length = k)
    (hH : ∀ b, b < k → H (look τ b) = (hOf bs0 b).ren τ) (hnd : ∀ b, b < k → hOf bs0 b ≠ .dead) (hinj : ∀ i j, i < k → j < k → look τ i = look τ j → i = j) (hnj : ∀ i j, i ∈ news → j ∈ news → look τ i = look τ j → i = j)
    (hnew : ∀ j, j ∈ news → k ≤ j) (hun : ∀ j, j ∈ news → E.pl (look τ j) = .unborn) (hS : Step (E.pull τ k) (hOf bs0) w acc .any undef E1 w') (hA : upds (hOf bs0) acc = hOf bs1) (hr : RepV E1 r v) (hrin : r.inB (memN (List.range k ++ news)) = true)
    (hbin : ∀ j, j ∈ List.range k ++ news → (hOf bs1 j).inB (memN (List.range k ++ news)) = true) :
    Step E H w ((List.range k ++ news).map fun j => (look τ j, (hOf bs1 j).ren τ)) (r.ren τ) v (E.push E1 τ news) w' := by
  have hborn : ∀ b, b < k → E.pl (look τ b) ≠ .unborn := fun b hb => own_born hR (by rw [hH b hb]; exact fun e => hnd b hb (ren_dead e))
  have h0pl : ∀ b, b < k → (E.pull τ k).pl b = E.pl (look τ b) := fun b hb => if_pos hb
  have h0un : ∀ b, k ≤ b → (E.pull τ k).pl b = .unborn := fun b hb => if_neg (Nat.not_lt.2 hb)
  have h1pl : ∀ b, b < k → E1.pl b = E.pl (look τ b) ∧ E1.lay b = E.lay (look τ b) ∧ E1.top b = E.top (look τ b) := by
    intro b hb
    have hne : (E.pull τ k).pl b ≠ .unborn := by rw [h0pl b hb]; exact hborn b hb
    exact ⟨by rw [hS.ext.pl b hne, h0pl b hb], hS.ext.lay b hne, hS.ext.top b hne⟩
  have hmem : ∀ j, j ∈ List.range k ++ news ↔ j < k ∨ j ∈ news := fun j => by rw [List.mem_append, List.mem_range]
  have hmp : Mp E1 (E.push E1 τ news) τ (memN (List.range k ++ news)) := by
    have : ∀ b, memN (List.range k ++ news) b = true → (E.push E1 τ news).pl (look τ b) = E1.pl b ∧ (E.push E1 τ news).lay (look τ b) = E1.lay b ∧ (E.push E1 τ news).top (look τ b) = E1.top b := by
      intro b hb
      rcases (hmem b).1 (memN_mem hb) with h | h
      · obtain ⟨g1, g2, g3⟩ := push_old (E1 := E1) (τ := τ) (news := news) (hborn b h)
        obtain ⟨q1, q2, q3⟩ := h1pl b h
        exact ⟨by rw [g1, q1], by rw [g2, q2], by rw [g3, q3]⟩
      · exact push_new h hnj (hun b h)
    exact ⟨fun b hb => (this b hb).1, fun b hb => (this b hb).2.1, fun b hb => (this b hb).2.2⟩
  have hinjL : ∀ i j, i ∈ List.range k ++ news → j ∈ List.range k ++ news → look τ i = look τ j → i = j := by
    intro i j hi hj e
    rcases (hmem i).1 hi with hi | hi <;> rcases (hmem j).1 hj with hj | hj
    · exact hinj i j hi hj e
    · exact absurd (by rw [e]; exact hun j hj) (hborn i hi)
    · exact absurd (by rw [← e]; exact hun i hi) (hborn j hj)
    · exact hnj i j hi hj e
  have hids : ∀ c, c ∈ ((List.range k ++ news).map fun j => (look τ j, (hOf bs1 j).ren τ)).map (·.1) ↔ ∃ j, j ∈ List.range k ++ news ∧ look τ j = c := by
    intro c
    rw [List.map_map]
    constructor
    · intro h; obtain ⟨j, hj, e⟩ := List.mem_map.1 h; exact ⟨j, hj, e⟩
    · rintro ⟨j, hj, e⟩; exact List.mem_map.2 ⟨j, hj, e⟩
  have hin : ∀ j, j ∈ List.range k ++ news → upds H ((List.range k ++ news).map fun j => (look τ j, (hOf bs1 j).ren τ)) (look τ j) = (hOf bs1 j).ren τ := by
    intro j hj
    obtain ⟨x, hx, he⟩ := upds_in ((hids (look τ j)).2 ⟨j, hj, rfl⟩)
    rw [he]
    obtain ⟨i, hi, e⟩ := List.mem_map.1 hx
    injection e with e1 e2
    rw [← e2, hinjL i j hi hj e1]
  have hout : ∀ c, (∀ j, j ∈ List.range k ++ news → look τ j ≠ c) → upds H ((List.range k ++ news).map fun j => (look τ j, (hOf bs1 j).ren τ)) c = H c := by
    intro c hc
    exact upds_notin fun z hz e => by
      obtain ⟨j, hj, e'⟩ := (hids c).1 (List.mem_map.2 ⟨z, hz, e⟩)
      exact hc j hj e'
  have hcase : ∀ c, (∃ j, j ∈ List.range k ++ news ∧ look τ j = c) ∨ ∀ j, j ∈ List.range k ++ news → look τ j ≠ c := fun c =>
    (Classical.em (∃ j, j ∈ List.range k ++ news ∧ look τ j = c)).imp id fun h j hj e => h ⟨j, hj, e⟩
  have hown0 : ∀ b, (hOf bs0 b).own = true → b < k ∧ (H (look τ b)).own = true := by
    intro b hb
    have hbk : b < k := Nat.lt_of_not_le fun h => by rw [hOf_off (by omega)] at hb; cases hb
    exact ⟨hbk, by rw [hH b hbk, ren_own]; exact hb⟩
  have h0at : ∀ b r o, (E.pull τ k).pl b = .at r o → b < k ∧ E.pl (look τ b) = .at r o := by
    intro b r o h
    by_cases hb : b < k
    · exact ⟨hb, (h0pl b hb) ▸ h⟩
    · rw [h0un b (Nat.le_of_not_lt hb)] at h; cases h
  -- what lies beside stays
  have hsame : ∀ c r o, (H c).own = true → E.pl c = .at r o → (∀ j, j ∈ List.range k ++ news → look τ j ≠ c) → w'.heap[r]? = w.heap[r]? := by
    intro c r o hc hp hno
    refine hS.mem.same r (hR.old c r o hp) fun b o' hb hbp => ?_
    obtain ⟨hbk, hbo⟩ := hown0 b hb
    exact hR.sep (look τ b) c r o' r o (hno b ((hmem b).2 (.inl hbk))) hbo hc (h0at b r o' hbp).2 hp rfl
  have hE : Ext E (E.push E1 τ news) := ⟨fun c hc => (push_old hc).1, fun c hc => (push_old hc).2.1, fun c hc => (push_old hc).2.2, fun r j v hv => hS.ext.rd r j v hv⟩
  -- where an own block of the list lies: in a new block of memory, or in one that the caller lent
  have hwhere : ∀ j r o, j ∈ List.range k ++ news → (hOf bs1 j).own = true → E1.pl j = .at r o → w.heap.size ≤ r ∨ ∃ b o', b < k ∧ (H (look τ b)).own = true ∧ E.pl (look τ b) = .at r o' ∧ o' ≤ o ∧ E1.top j ≤ E.top (look τ b) := by
    intro j r o hj ho hp
    have hl := hS.live j (by rw [hA]; exact ho)
    by_cases hu : (E.pull τ k).pl j = .unborn
    · rcases hS.mem.new j r o hu hp with h | ⟨b, o', h1, h2, h3, h4⟩
      · exact .inl h
      · obtain ⟨hbk, hbo⟩ := hown0 b h1
        exact .inr ⟨b, o', hbk, hbo, (h0at b r o' h2).2, h3, h4⟩
    · rcases hl with hl | hl
      · obtain ⟨hjk, hjo⟩ := hown0 j hl
        obtain ⟨q1, q2, q3⟩ := h1pl j hjk
        exact .inr ⟨j, o, hjk, hjo, by rw [← q1]; exact hp, Nat.le_refl _, Nat.le_of_eq q3⟩
      · exact absurd hl hu
  have hbeside : ∀ j c r o r' o', j ∈ List.range k ++ news → (hOf bs1 j).own = true → E1.pl j = .at r o → (H c).own = true → E.pl c = .at r' o' → (∀ j, j ∈ List.range k ++ news → look τ j ≠ c) → r ≠ r' := by
    intro j c r o r' o' hj ho hp hc hcp hno
    rcases hwhere j r o hj ho hp with h | ⟨b, o'', hbk, hbo, hbp, _⟩
    · have := hR.old c r' o' hcp; omega
    · exact hR.sep (look τ b) c r o'' r' o' (hno b ((hmem b).2 (.inl hbk))) hbo hc hbp hcp
  have hrel : Rel (E.push E1 τ news) (upds H ((List.range k ++ news).map fun j => (look τ j, (hOf bs1 j).ren τ))) w' := by
    have hb1 : ∀ j, BlkRel E1 j w' (hOf bs1 j) := fun j => by rw [← hA]; exact hS.rel.blk j
    have h1own : ∀ j, (hOf bs1 j).own = (upds (hOf bs0) acc j).own := fun j => by rw [hA]
    refine ⟨hS.rel.rd, fun c => ?_, fun c c' r o r' o' hcc h1 h2 h3 h4 => ?_, fun c r o j u h1 h2 h3 => ?_, fun c r o hp => ?_, fun c hu => ?_, fun c r o hp => ?_⟩
    · rcases hcase c with ⟨j, hj, e⟩ | hno
      · subst e
        rw [hin j hj]
        exact BlkRel.to hmp (fun _ _ _ h => h) (mem_memN hj) (hbin j hj) (hb1 j)
      · rw [hout c hno]
        refine BlkRel.ext hE (fun hd => own_born hR hd) ((hR.blk c).congr fun hco q o hcp => ?_)
        exact hsame c q o hco hcp hno
    · rcases hcase c with ⟨j, hj, e⟩ | hno
      · subst e
        rw [hin j hj, ren_own] at h1
        rw [hmp.pl j (mem_memN hj)] at h3
        rcases hcase c' with ⟨j', hj', e⟩ | hno'
        · subst e
          rw [hin j' hj', ren_own] at h2
          rw [hmp.pl j' (mem_memN hj')] at h4
          exact hS.rel.sep j j' r o r' o' (fun e => hcc (by rw [e])) (by rw [hA]; exact h1) (by rw [hA]; exact h2) h3 h4
        · rw [hout c' hno'] at h2
          rw [(push_old (own_born hR (own_dead h2))).1] at h4
          exact hbeside j c' r o r' o' hj h1 h3 h2 h4 hno'
      · rw [hout c hno] at h1
        rw [(push_old (own_born hR (own_dead h1))).1] at h3
        rcases hcase c' with ⟨j', hj', e⟩ | hno'
        · subst e
          rw [hin j' hj', ren_own] at h2
          rw [hmp.pl j' (mem_memN hj')] at h4
          exact fun e => hbeside j' c r' o' r o hj' h2 h4 h1 h3 hno e.symm
        · rw [hout c' hno'] at h2
          rw [(push_old (own_born hR (own_dead h2))).1] at h4
          exact hR.sep c c' r o r' o' hcc h1 h2 h3 h4
    · rcases hcase c with ⟨i, hi, e⟩ | hno
      · subst e
        rw [hin i hi, ren_own] at h1
        rw [hmp.pl i (mem_memN hi)] at h2
        exact hS.rel.apart i r o j u (by rw [hA]; exact h1) h2 h3
      · rw [hout c hno] at h1
        rw [(push_old (own_born hR (own_dead h1))).1] at h2
        rcases hS.mem.rd r j u h3 with h | h | ⟨b, o', hb, hbp, _⟩
        · exact hR.apart c r o j u h1 h2 h
        · have := hR.old c r o h2; omega
        · obtain ⟨hbk, hbo⟩ := hown0 b hb
          exact hR.sep (look τ b) c r o' r o (hno b ((hmem b).2 (.inl hbk))) hbo h1 (h0at b r o' hbp).2 h2 rfl
    · by_cases hu : E.pl c = .unborn
      · obtain ⟨j, hj, e⟩ := push_inv hu (at_born hp)
        subst e
        rw [(push_new hj hnj (hun j hj)).1] at hp
        exact hS.rel.old j r o hp
      · rw [(push_old hu).1] at hp
        exact Nat.lt_of_lt_of_le (hR.old c r o hp) hS.mem.size
    · rcases hcase c with ⟨j, hj, e⟩ | hno
      · subst e
        rw [hin j hj]
        rw [hmp.pl j (mem_memN hj)] at hu
        have := hS.rel.born j hu
        rw [hA] at this
        rw [this]; rfl
      · rw [hout c hno]
        refine hR.born c (Classical.byContradiction fun hne => ?_)
        rw [(push_old hne).1] at hu
        exact hne hu
    · by_cases hu : E.pl c = .unborn
      · obtain ⟨j, hj, e⟩ := push_inv hu (at_born hp)
        subst e
        obtain ⟨g1, g2, g3⟩ := push_new (E1 := E1) hj hnj (hun j hj)
        rw [g1] at hp
        rw [g2, g3]
        exact hS.rel.fit j r o hp
      · obtain ⟨g1, g2, g3⟩ := push_old (E1 := E1) (τ := τ) (news := news) hu
        rw [g1] at hp
        rw [g2, g3]
        exact hR.fit c r o hp
  refine ⟨RepV.to hmp (fun _ _ _ h => h) hrin hr, hrel, hE, ⟨hS.mem.os, hS.mem.tape, hS.mem.output, hS.mem.size, ?_, ?_, ?_, ?_, ?_, ?_⟩, ?_, ?_, ?_⟩
  · intro r hr hno
    refine hS.mem.same r hr fun b o hb hbp => ?_
    obtain ⟨hbk, hbo⟩ := hown0 b hb
    exact hno (look τ b) o hbo (h0at b r o hbp).2
  · intro c r o hc hp j hj
    rcases hcase c with ⟨i, hi, e⟩ | hno
    · subst e
      rcases (hmem i).1 hi with hik | hin'
      · exact hS.mem.round i r o (by rw [← ren_own (σ := τ), ← hH i hik]; exact hc) (by rw [h0pl i hik]; exact hp) j hj
      · rw [hun i hin'] at hp; cases hp
    · exact cell_same (hsame c r o hc hp hno) j
  · intro c r o hc hp j
    rcases hcase c with ⟨i, hi, e⟩ | hno
    · subst e
      rcases (hmem i).1 hi with hik | hin'
      · exact hS.mem.frozen i r o (by rw [← ren_own (σ := τ), ← hH i hik]; exact hc) (by rw [h0pl i hik]; exact hp) j
      · rw [hun i hin'] at hp; cases hp
    · exact frozen_same (hsame c r o hc hp hno) j
  · intro c r o hc hp
    rcases hcase c with ⟨i, hi, e⟩ | hno
    · subst e
      rcases (hmem i).1 hi with hik | hin'
      · exact hS.mem.shape i r o (by rw [← ren_own (σ := τ), ← hH i hik]; exact hc) (by rw [h0pl i hik]; exact hp)
      · rw [hun i hin'] at hp; cases hp
    · simp only [World.shape?, hsame c r o hc hp hno]
  · intro r j u hu
    rcases hS.mem.rd r j u hu with h | h | ⟨b, o', hb, hbp, h1, h2⟩
    · exact .inl h
    · exact .inr (.inl h)
    · obtain ⟨hbk, hbo⟩ := hown0 b hb
      exact .inr (.inr ⟨look τ b, o', hbo, (h0at b r o' hbp).2, h1, h2⟩)
  · intro c r o hu hp
    obtain ⟨j, hj, e⟩ := push_inv hu (at_born hp)
    subst e
    obtain ⟨g1, g2, g3⟩ := push_new (E1 := E1) hj hnj (hun j hj)
    rw [g1] at hp
    rw [g3]
    rcases hS.mem.new j r o (h0un j (hnew j hj)) hp with h | ⟨b, o', hb, hbp, h1, h2⟩
    · exact .inl h
    · obtain ⟨hbk, hbo⟩ := hown0 b hb
      exact .inr ⟨look τ b, o', hbo, (h0at b r o' hbp).2, h1, h2⟩
  · intro c hu hb
    obtain ⟨j, hj, e⟩ := push_inv hu hb
    exact (hids c).2 ⟨j, (hmem j).2 (.inr hj), e⟩
  · intro c hc
    rcases hcase c with ⟨j, hj, e⟩ | hno
    · subst e
      rw [hin j hj, ren_own] at hc
      rcases (hmem j).1 hj with hjk | hjn
      · rcases hS.live j (by rw [hA]; exact hc) with h | h
        · exact .inl (hown0 j h).2
        · rw [h0pl j hjk] at h; exact absurd h (hborn j hjk)
      · exact .inr (hun j hjn)
    · rw [hout c hno] at hc; exact .inl hc
  · intro c r o hc hp hno
    exact hsame c r o hc hp fun j hj e => hno ((hids c).2 ⟨j, hj, e⟩)

end
end Go.Eng

namespace Go.Eng

/-- A result: a temporary's, or what stands in its cell. -/
def resOne (T : Tr) (ts : List AV) (bs : List Blk) : ResultVar → Option AV
  | .tmp t => some (norm (ts.getD t .any))
  | .cell a ty => match ts.getD a .any with
    | .ptr b p l => (match hOf bs b, fits T ty l with
      | .var x, true => some (norm (x.at p))
      | _, _ => none)
    | _ => none
def resList (T : Tr) (ts : List AV) (bs : List Blk) : List ResultVar → Option (List AV)
  | [] => some []
  | v :: r => match resOne T ts bs v, resList T ts bs r with
    | some x, some xs => some (x :: xs)
    | _, _ => none
def allSolid : List AV → Bool
  | [] => true
  | x :: r => match solid x with | true => allSolid r | false => false
/-- What a body is to leave. -/
def endK (T : Tr) (fn : Func) (R : AV → List Blk → Prop) (ts : List AV) (bs : List Blk) : Prop :=
  match resList T ts bs fn.results.toList with
  | some [x] => R x bs
  | some xs => (match allSolid xs with | true => R (.tup xs) bs | false => False)
  | none => False
def retK (T : Tr) (fn : Func) (R : AV → List Blk → Prop) : Post
  | .normal, ts, bs => endK T fn R ts bs
  | .ret, ts, bs => endK T fn R ts bs
  | _, _, _ => False

/-- The blocks that a body leaves. -/
def leaves (bs : List Blk) : List Nat → List Blk → Prop
  | [], [] => True
  | j :: js, x :: xs => bs.getD j .dead = x ∧ leaves bs js xs
  | _, _ => False
def renAll (τ : List (Nat × Nat)) : List Nat → List Blk → List (Nat × Blk)
  | j :: js, x :: xs => (look τ j, x.ren τ) :: renAll τ js xs
  | _, _ => []
def liveAll : List Blk → Bool
  | [] => true
  | x :: r => match isDead x with | true => false | false => liveAll r
def inAll (p : Nat → Bool) : List AV → Bool
  | [] => true
  | x :: r => match x.inB p with | true => inAll p r | false => false
def inAllB (p : Nat → Bool) : List Blk → Bool
  | [] => true
  | x :: r => match x.inB p with | true => inAllB p r | false => false
def fromK (k : Nat) : List Nat → Bool
  | [] => true
  | j :: r => match Nat.ble k j with | true => fromK k r | false => false
def bodyB (as0 : List AV) (bs0 : List Blk) (news : List Nat) (r : AV) (ws : List Blk) : Bool :=
  match liveAll bs0, inAll (below bs0.length) as0, inAllB (below bs0.length) bs0, fromK bs0.length news, r.inB (memN (List.range bs0.length ++ news)), inAllB (memN (List.range bs0.length ++ news)) ws with
  | true, true, true, true, true, true => true
  | _, _, _, _, _, _ => false

theorem liveAll_get : ∀ {l : List Blk}, liveAll l = true → ∀ b, b < l.length → hOf l b ≠ .dead
  | [], _, b, h => by cases h
  | x :: r, h, b, hb => by
    simp only [liveAll] at h
    split at h
    · cases h
    · rename_i hx
      cases b with
      | zero => intro e; rw [show hOf (x :: r) 0 = x from rfl] at e; rw [e] at hx; cases hx
      | succ b => exact liveAll_get h b (by simpa using hb)
theorem inAll_get {p : Nat → Bool} : ∀ {l : List AV}, inAll p l = true → ∀ (i : Nat) (h : i < l.length), l[i].inB p = true
  | [], _, i, h => by cases h
  | x :: r, h, i, hi => by
    simp only [inAll] at h
    split at h
    · rename_i hx
      cases i with
      | zero => exact hx
      | succ i => exact inAll_get h i (by simpa using hi)
    · cases h
theorem inAllB_get {p : Nat → Bool} : ∀ {l : List Blk}, inAllB p l = true → ∀ b, b < l.length → (hOf l b).inB p = true
  | [], _, b, h => by cases h
  | x :: r, h, b, hb => by
    simp only [inAllB] at h
    split at h
    · rename_i hx
      cases b with
      | zero => exact hx
      | succ b => exact inAllB_get h b (by simpa using hb)
    · cases h
theorem inAllB_mem {p : Nat → Bool} : ∀ {l : List Blk}, inAllB p l = true → ∀ x, x ∈ l → x.inB p = true
  | [], _, x, h => by cases h
  | y :: r, h, x, hx => by
    simp only [inAllB] at h
    split at h
    · rename_i hy
      rcases List.mem_cons.1 hx with e | hx
      · subst e; exact hy
      · exact inAllB_mem h x hx
    · cases h
theorem fromK_mem {k : Nat} : ∀ {l : List Nat}, fromK k l = true → ∀ j, j ∈ l → k ≤ j
  | [], _, j, h => by cases h
  | i :: r, h, j, hj => by
    simp only [fromK] at h
    split at h
    · rename_i hi
      rcases List.mem_cons.1 hj with e | hj
      · subst e; exact Nat.le_of_ble_eq_true hi
      · exact fromK_mem h j hj
    · cases h
theorem leaves_ren {bs : List Blk} {τ : List (Nat × Nat)} : ∀ {js : List Nat} {xs : List Blk}, leaves bs js xs → js.map (fun j => (look τ j, (hOf bs j).ren τ)) = renAll τ js xs ∧ ∀ j, j ∈ js → hOf bs j ∈ xs
  | [], [], _ => ⟨rfl, fun j h => by cases h⟩
  | [], _ :: _, h => h.elim
  | _ :: _, [], h => h.elim
  | j :: js, x :: xs, h => by
    obtain ⟨h1, h2⟩ := h
    obtain ⟨g1, g2⟩ := leaves_ren (τ := τ) h2
    have h1 : hOf bs j = x := h1
    refine ⟨?_, fun i hi => ?_⟩
    · show (look τ j, (hOf bs j).ren τ) :: js.map _ = (look τ j, x.ren τ) :: renAll τ js xs
      rw [g1, h1]
    · rcases List.mem_cons.1 hi with e | hi
      · subst e; rw [h1]; exact List.mem_cons_self ..
      · exact List.mem_cons_of_mem _ (g2 i hi)

section
variable {P : Program} {G : Nat → AV} {T : Tr}

/-- How a result is read. -/
def resRun (tmps : Array Value) : ResultVar → Sem Value
  | .tmp t => pure (tmps.getD t undef)
  | .cell c t => do loadVar t (← asAddr (tmps.getD c undef))
theorem res_one (hT : TabOK P T) {ts : List AV} {bs : List Blk} {v : ResultVar} {x : AV} (h : resOne T ts bs v = some x) {E : Env} {a : Act} {w : World} (hR : Rel E (hOf bs) w) (ht : ∀ t, RepV E (ts.getD t .any) (a.tmps.getD t undef)) :
    ∃ u, (resRun a.tmps v).run P w = .ok u w ∧ RepV E x u := by
  cases v with
  | tmp t => cases h; exact ⟨_, rfl, norm_rep (ht t)⟩
  | cell c ty =>
    unfold resOne at h
    simp only at h
    split at h
    · rename_i b p l hc
      split at h
      · rename_i y hb hf
        cases h
        obtain ⟨r, j, off, e, hp, hl⟩ := rep_ptr (hc ▸ ht c)
        have hbr := hR.blk b
        rw [hb] at hbr
        obtain ⟨r', o', cs, hp', hlay, hy, hrs, _, _⟩ := hbr
        rw [hp] at hp'
        injection hp' with h1 h2
        subst h1; subst h2
        rw [hlay] at hl
        obtain ⟨hya, hyl⟩ := hy.at hl
        have hlen : ((cs.drop off).take l.size).length = l.size := by rw [hya.len, hyl]
        refine ⟨ofCells l.isAgg ((cs.drop off).take l.size), ?_, norm_rep (.of hya ?_)⟩
        · simp only [resRun, e, asAddr, Sem.run_bind, Sem.run_pure, Result.andThen_ok]
          exact run_loadVar hT hf hrs.sub hlen
        · unfold AV.isAgg; rw [hyl]
      · cases h
    · cases h
theorem res_all (hT : TabOK P T) {ts : List AV} {bs : List Blk} {E : Env} {a : Act} {w : World} (hR : Rel E (hOf bs) w) (ht : ∀ t, RepV E (ts.getD t .any) (a.tmps.getD t undef)) : ∀ {l : List ResultVar} {xs : List AV}, resList T ts bs l = some xs →
    ∃ us : List Value, (l.mapM (resRun a.tmps)).run P w = .ok us w ∧ us.length = xs.length ∧ ∀ (i : Nat) (h : i < xs.length) (h' : i < us.length), RepV E xs[i] us[i]
  | [], xs, h => by cases h; exact ⟨[], by simp, rfl, fun i h => by cases h⟩
  | v :: r, xs, h => by
    simp only [resList] at h
    split at h
    · rename_i x ys hx hy
      cases h
      obtain ⟨u, h1, h2⟩ := res_one hT hx hR ht
      obtain ⟨us, h3, h4, h5⟩ := res_all hT hR ht hy
      refine ⟨u :: us, ?_, by simp [h4], fun i hi hi' => ?_⟩
      · rw [List.mapM_cons]
        simp only [Sem.run_bind, h1, Result.andThen_ok, h3, Sem.run_pure]
      · cases i with
        | zero => exact h2
        | succ i => exact h5 i (by simpa using hi) (by simpa using hi')
    · cases h

theorem allSolid_mem : ∀ {l : List AV}, allSolid l = true → ∀ x, x ∈ l → solid x = true
  | [], _, x, h => by cases h
  | y :: l, h, x, hx => by
    simp only [allSolid] at h
    split at h
    · rename_i hy
      rcases List.mem_cons.1 hx with e | hx
      · subst e; exact hy
      · exact allSolid_mem h x hx
    · cases h

/-- What a body answers. -/
theorem end_run (hT : TabOK P T) {fn : Func} {R : AV → List Blk → Prop} {ts : List AV} {bs : List Blk} (h : endK T fn R ts bs) {E : Env} {a : Act} {w : World} (hR : Rel E (hOf bs) w) (ht : ∀ t, RepV E (ts.getD t .any) (a.tmps.getD t undef)) :
    ∃ r v, R r bs ∧ (results fn a.tmps).run P w = .ok v w ∧ RepV E r v := by
  have hrun : ∀ xs, resList T ts bs fn.results.toList = some xs → ∃ us : List Value, (results fn a.tmps).run P w = .ok (if h : us.toArray.size = 1 then us.toArray[0] else .tuple us.toArray) w ∧ us.length = xs.length ∧ ∀ (i : Nat) (h : i < xs.length) (h' : i < us.length), RepV E xs[i] us[i] := by
    intro xs hxs
    obtain ⟨us, h1, h2, h3⟩ := res_all hT hR ht hxs
    refine ⟨us, ?_, h2, h3⟩
    have e : results fn a.tmps = (do
        let vs ← fn.results.mapM (resRun a.tmps)
        pure (if h : vs.size = 1 then vs[0] else .tuple vs)) := by
      have e1 : resRun a.tmps = fun (v : ResultVar) => (match v with
          | .tmp t => (pure (a.tmps.getD t undef) : Sem Value)
          | .cell c t => do loadVar t (← asAddr (a.tmps.getD c undef))) := by
        funext v; cases v <;> rfl
      rw [e1]; rfl
    rw [e, ← Array.toArray_toList (xs := fn.results), List.mapM_toArray]
    simp only [Sem.run_bind, Sem.run_map, h1]
    rfl
  unfold endK at h
  split at h
  · rename_i x hx
    obtain ⟨us, h1, h2, h3⟩ := hrun _ hx
    match us, h2 with
    | [u], _ =>
      refine ⟨_, _, h, h1, ?_⟩
      exact h3 0 (by simp) (by simp)
  · rename_i xs hne hx
    obtain ⟨us, h1, h2, h3⟩ := hrun _ hx
    split at h
    · rename_i hs
      refine ⟨_, _, h, h1, ?_⟩
      have hl : ¬ us.toArray.size = 1 := by
        intro hl
        have : xs.length = 1 := by rw [← h2]; simpa using hl
        match xs, this with
        | [x], _ => exact hne x rfl
      rw [dif_neg hl]
      have hrep : ∀ i (hi : i < xs.length), ∃ cs, RepA E xs[i] cs ∧ us[i]'(h2 ▸ hi) = ofCells (xs[i]).isAgg cs := by
        intro i hi
        have hsol : solid xs[i] = true := allSolid_mem hs _ (List.getElem_mem hi)
        obtain ⟨cs, h4, _, h5⟩ := (h3 i hi (h2 ▸ hi)).inv hsol
        exact ⟨cs, h4, h5⟩
      let css : List (List Value) := (List.range xs.length).map fun i => if hi : i < xs.length then Classical.choose (hrep i hi) else []
      have hcl : css.length = xs.length := by simp [css]
      have hci : ∀ i (hi : i < xs.length), css[i]'(by simp [css, hi]) = Classical.choose (hrep i hi) := by
        intro i hi; simp [css, hi]
      have := RepA.tup (E := E) xs css hcl fun i hi => by
        have h5 := (Classical.choose_spec (hrep i hi)).1
        rw [hci i hi]; exact h5
      refine .one (v := _) (?_ : RepA E (.tup xs) [_]) rfl
      have e2 : us = (xs.zip css).map fun x => ofCells x.1.isAgg x.2 := by
        apply List.ext_getElem
        · simp [hcl, h2]
        · intro i hi hi2
          have hi' : i < xs.length := by rw [← h2]; exact hi
          have h5 := (Classical.choose_spec (hrep i hi')).2
          rw [h5, List.getElem_map, List.getElem_zip]
          simp only [hci i hi']
      rw [e2]
      exact this
    · exact h.elim
  · exact h.elim

/-- A function's contract, from its body. -/
theorem Fn.body (hT : TabOK P T) (hm : P.follows .mixedOrders = true) (hG0 : GPlain G) {f : FuncId} {fn : Func} {c : Code} (hf : P.funcs[f]? = some fn) (hname : (fn.name == "runtime.NumGoroutine") = false) (hb : fn.body = some c)
    (τ : List (Nat × Nat)) (as0 : List AV) (bs0 : List Blk) (news : List Nat) (r0 : AV) (ws : List Blk) (hchk : bodyB as0 bs0 news r0 ws = true)
    (hL : ∀ i j, i ∈ List.range bs0.length ++ news → j ∈ List.range bs0.length ++ news → look τ i = look τ j → i = j)
    (h : vc P G T bs0.length c (retK T fn fun r bs => r = r0 ∧ leaves bs (List.range bs0.length ++ news) ws) (as0 ++ List.replicate (fn.ntmps - as0.length) .any) bs0) :
    Fn P G f (as0.map (AV.ren τ)) (renAll τ (List.range bs0.length) bs0) (r0.ren τ) (renAll τ (List.range bs0.length ++ news) ws) := by
  unfold bodyB at hchk
  split at hchk
  case h_2 => cases hchk
  rename_i hlive hargs hblks hnews hrin hwin
  have hinj : ∀ i j, i < bs0.length → j < bs0.length → look τ i = look τ j → i = j := fun i j hi hj => hL i j (List.mem_append.2 (.inl (List.mem_range.2 hi))) (List.mem_append.2 (.inl (List.mem_range.2 hj)))
  have hnj : ∀ i j, i ∈ news → j ∈ news → look τ i = look τ j → i = j := fun i j hi hj => hL i j (List.mem_append.2 (.inr hi)) (List.mem_append.2 (.inr hj))
  refine ⟨fun args w => ?_, fun E H w vs hR hG hS hwr hvs => ?_⟩
  · have hname' : fn.name ≠ "runtime.NumGoroutine" := by simpa using hname
    simp [callFunc, hf, hname', hb]
  · have hSl : leaves bs0 (List.range bs0.length) bs0 := by
      have : ∀ (n : Nat) (l : List Blk), n + l.length = bs0.length → (∀ i, i < l.length → bs0.getD (n + i) .dead = l.getD i .dead) → leaves bs0 (List.range' n l.length) l := by
        intro n l
        induction l generalizing n with
        | nil => intro _ _; trivial
        | cons x l ih =>
          intro h1 h2
          refine ⟨h2 0 (by simp), ih (n + 1) (by simp at h1; omega) fun i hi => ?_⟩
          have := h2 (i + 1) (by simpa using hi)
          rw [show n + (i + 1) = n + 1 + i from by omega] at this
          simpa [List.getD] using this
      have := this 0 bs0 (by simp) (fun i hi => by rw [Nat.zero_add])
      rwa [← List.range_eq_range'] at this
    have hH : ∀ b, b < bs0.length → H (look τ b) = (hOf bs0 b).ren τ := by
      intro b hb
      have := (leaves_ren (τ := τ) hSl).1
      refine hS (look τ b, (hOf bs0 b).ren τ) ?_
      rw [← this]
      exact List.mem_map.2 ⟨b, List.mem_range.2 hb, rfl⟩
    have hR0 : Rel (E.pull τ bs0.length) (hOf bs0) w := hR.pull (fun b hb => .inr (hH b hb)) (fun b hb => hOf_off hb) (fun b hb => inAllB_get hblks b hb) (fun b b' hb hb' e => hinj b b' hb hb' e)
    have hE0 : ∀ b, (E.pull τ bs0.length).pl b ≠ .unborn → b < bs0.length := fun b hb => Nat.lt_of_not_le fun hle => hb (if_neg (Nat.not_lt.2 hle))
    have hvl : vs.length = as0.length := by have := hvs.1; simpa using this
    have hsim : Sim G (E.pull τ bs0.length) (hOf bs0) w (as0 ++ List.replicate (fn.ntmps - as0.length) .any) bs0 { tmps := vs.toArray ++ Array.replicate (fn.ntmps - vs.toArray.size) undef, defers := [] } w := by
      refine ⟨E.pull τ bs0.length, [], Step.pure hR0 (.any _ _), rfl, by simp [hvl], fun t => ?_, GOK.pull (E := E) (E' := E.pull τ bs0.length) hG0 (fun _ _ _ h => h) hG, hE0, (fun x hx => by cases hx), rfl⟩
      by_cases ht : t < as0.length
      · have h1 : (as0 ++ List.replicate (fn.ntmps - as0.length) AV.any).getD t .any = as0[t] := by
          simp [List.getD, List.getElem?_append_left ht, List.getElem?_eq_getElem ht]
        have h2 : (vs.toArray ++ Array.replicate (fn.ntmps - vs.toArray.size) undef).getD t undef = vs[t]'(by omega) := by
          have : t < vs.length := by omega
          simp [Array.getElem?_append, this]
        rw [h1, h2]
        have h3 := hvs.2 t (by simpa using ht) (by omega)
        rw [List.getElem_map] at h3
        exact RepV.back (E.pull_mp τ bs0.length) (fun _ _ _ h => h) (inAll_get hargs t ht) h3
      · have h1 : (as0 ++ List.replicate (fn.ntmps - as0.length) AV.any).getD t .any = .any := by
          rw [List.getD_eq_getElem?_getD, List.getElem?_append_right (by omega), List.getElem?_replicate]
          split <;> rfl
        rw [h1]; exact .any _ _
    have hwp := vc_sound hT hm hR0 hG0 hE0 c _ _ _ _ _ h hsim
    refine calls_of_wp hf hb (wp_mono hwp fun e a w' hq => ?_)
    have fin : (∃ ts bs, endK T fn (fun r bs => r = r0 ∧ leaves bs (List.range bs0.length ++ news) ws) ts bs ∧ Sim G (E.pull τ bs0.length) (hOf bs0) w ts bs a w') → a.defers = [] ∧ ∃ v, (results fn a.tmps).run P w' = .ok v w' ∧
        ∃ v' E', Ending.returned v = .returned v' ∧ Step E H w (renAll τ (List.range bs0.length ++ news) ws) (r0.ren τ) v' E' w' := by
      rintro ⟨ts, bs, hend, E1, acc, hs⟩
      obtain ⟨r, v, ⟨hr0, hlv⟩, hrun, hrep⟩ := end_run (P := P) hT (w := w') hend (hs.H ▸ hs.step.rel) hs.tmps
      subst hr0
      obtain ⟨g1, g2⟩ := leaves_ren (τ := τ) hlv
      have := Step.push (news := news) hR rfl hH (fun b hb => liveAll_get hlive b hb) hinj hnj (fromK_mem hnews) (fun j hj => ?_) hs.step hs.H hrep hrin (fun j hj => inAllB_mem hwin _ (g2 j hj))
      · rw [g1] at this
        exact ⟨hs.defers, v, hrun, v, _, rfl, this⟩
      · have hjm : (look τ j, (hOf bs j).ren τ) ∈ renAll τ (List.range bs0.length ++ news) ws := by
          rw [← g1]; exact List.mem_map.2 ⟨j, List.mem_append.2 (.inr hj), rfl⟩
        rcases hwr _ hjm with hm | hm
        · rw [← (leaves_ren (τ := τ) hSl).1, List.map_map] at hm
          obtain ⟨b, hb, e⟩ := List.mem_map.1 hm
          have hbj : b = j := hL b j (List.mem_append.2 (.inl hb)) (List.mem_append.2 (.inr hj)) e
          have := fromK_mem hnews j hj
          have := List.mem_range.1 hb
          omega
        · exact hm
    cases e with
    | normal => exact fin hq
    | ret => exact fin hq
    | exit i => obtain ⟨_, _, h1, _⟩ := hq; exact h1.elim
    | goto l => obtain ⟨_, _, h1, _⟩ := hq; exact h1.elim
    | panic ch => exact hq.elim
    | outgrown => exact hq.elim

end
end Go.Eng

namespace Go.Eng
section
variable (P : Program) (G : Nat → AV) (T : Tr)

/- The conditions once more, by the recursors themselves: so the kernel and the elaborator unfold them alike. -/
noncomputable def opsR (all : List Oper) (l : List Oper) : List AV → List Blk → List Foot → (List AV → List Blk → List Foot → Prop) → Prop :=
  List.rec (motive := fun _ => List AV → List Blk → List Foot → (List AV → List Blk → List Foot → Prop) → Prop)
    (fun ts bs fs K => K ts bs fs)
    (fun o _ ih ts bs fs K => guardK all o ts fun b ts => (match b with
    | true => opK P G T bs.length o.op (ev G ts) (hOf bs) fun rd wr v => (match newOK bs wr with
      | true => putK ts o.dst v fun ts' => wrK bs wr fun bs' => ih ts' bs' ((rd, wr.map Prod.fst) :: fs) K
      | false => False)
    | false => putK ts o.dst .any fun ts' => ih ts' bs (([], []) :: fs) K)) l
theorem opsR_eq (all : List Oper) : ∀ (l : List Oper), opsR P G T all l = opsK P G T all l
  | [] => rfl
  | o :: r => by
    funext ts bs fs K
    have ih := opsR_eq all r
    show (guardK all o ts fun b ts => (match b with
    | true => opK P G T bs.length o.op (ev G ts) (hOf bs) fun rd wr v => (match newOK bs wr with
      | true => putK ts o.dst v fun ts' => wrK bs wr fun bs' => opsR P G T all r ts' bs' ((rd, wr.map Prod.fst) :: fs) K
      | false => False)
    | false => putK ts o.dst .any fun ts' => opsR P G T all r ts' bs (([], []) :: fs) K)) = _
    rw [ih]; rfl

noncomputable def vcR (k : Nat) (c : Code) : Option Nat → Post → List AV → List Blk → Prop :=
  Code.rec (motive := fun _ => Option Nat → Post → List AV → List Blk → Prop)
    (fun o K ts bs => match o with | none => K .normal ts bs | some _ => False)
    (fun _ ops d o K ts bs => match o with
      | none => (match d with
        | false => opsR P G T ops.toList ops.toList ts bs [] fun ts bs _ => K .normal ts bs
        | true => opsR P G T ops.toList ops.toList ts bs [] fun ts bs fs => (match drawB ops.toList fs.reverse with
          | true => K .normal ts bs
          | false => False))
      | some _ => False)
    (fun a _ iha ihb o K ts bs => match o with
      | none => iha none (thenK (ihb none K) K) ts bs
      | some l => (match (findLabel a l).isSome with
        | true => iha (some l) (thenK (ihb none K) K) ts bs
        | false => ihb (some l) K ts bs))
    (fun c _ _ iha ihb o K ts bs => match o with
      | none => (match c with
        | .tmp t => (match ts.getD t .any with
          | .dv (.sc (.bool b')) => (match b' with | true => iha none K ts bs | false => ihb none K ts bs)
          | .dv (.bl b') => split b' fun b'' => setK ts t (.dv (.sc (.bool b''))) fun ts => match b'' with | true => iha none K ts bs | false => ihb none K ts bs
          | _ => False)
        | .const (.bool b') => (match b' with | true => iha none K ts bs | false => ihb none K ts bs)
        | _ => False)
      | some _ => False)
    (fun id _ ih o K ts bs => match o with | none => ih none (blockK id K) ts bs | some _ => False)
    (fun b ih o K ts bs => match o with | none => LoopP k (wrs b) (ih none) K ts bs | some _ => False)
    (fun _ _ _ _ _ _ _ _ _ _ => False)
    (fun i o K ts bs => match o with | none => K (.exit i) ts bs | some _ => False)
    (fun b ih o K ts bs => match o with | none => ih none (scopeK (jumps k (wrs b) (fun l => ih (some l)) K 4) K) ts bs | some _ => False)
    (fun l' o K ts bs => match o with | none => K .normal ts bs | some l => (match l' == l with | true => K .normal ts bs | false => False))
    (fun l o K ts bs => match o with | none => K (.goto l) ts bs | some _ => False)
    (fun o K ts bs => match o with | none => K .ret ts bs | some _ => False)
    (fun _ _ _ _ _ => False) c
theorem vcR_eq (k : Nat) : ∀ (c : Code), vcR P G T k c = vcB P G T k c
  | .skip => by funext o K ts bs; cases o <;> rfl
  | .region _ ops d => by
    funext o K ts bs
    cases o with
    | none =>
      show (match d with
        | false => opsR P G T ops.toList ops.toList ts bs [] fun ts bs _ => K .normal ts bs
        | true => opsR P G T ops.toList ops.toList ts bs [] fun ts bs fs => (match drawB ops.toList fs.reverse with
          | true => K .normal ts bs
          | false => False)) = _
      rw [opsR_eq]; rfl
    | some l => rfl
  | .seq a b => by
    funext o K ts bs
    have iha := vcR_eq k a
    have ihb := vcR_eq k b
    cases o with
    | none =>
      show vcR P G T k a none (thenK (vcR P G T k b none K) K) ts bs = _
      rw [iha, ihb]; rfl
    | some l =>
      show (match (findLabel a l).isSome with
        | true => vcR P G T k a (some l) (thenK (vcR P G T k b none K) K) ts bs
        | false => vcR P G T k b (some l) K ts bs) = _
      rw [iha, ihb]; rfl
  | .cond c a b => by
    funext o K ts bs
    have iha := vcR_eq k a
    have ihb := vcR_eq k b
    cases o with
    | none =>
      show (match c with
        | .tmp t => (match ts.getD t .any with
          | .dv (.sc (.bool b')) => (match b' with | true => vcR P G T k a none K ts bs | false => vcR P G T k b none K ts bs)
          | .dv (.bl b') => split b' fun b'' => setK ts t (.dv (.sc (.bool b''))) fun ts => match b'' with | true => vcR P G T k a none K ts bs | false => vcR P G T k b none K ts bs
          | _ => False)
        | .const (.bool b') => (match b' with | true => vcR P G T k a none K ts bs | false => vcR P G T k b none K ts bs)
        | _ => False) = _
      rw [iha, ihb]; rfl
    | some l => rfl
  | .block id b => by
    funext o K ts bs
    have ih := vcR_eq k b
    cases o with
    | none => show vcR P G T k b none (blockK id K) ts bs = _; rw [ih]; rfl
    | some l => rfl
  | .loop b => by
    funext o K ts bs
    have ih := vcR_eq k b
    cases o with
    | none => show LoopP k (wrs b) (vcR P G T k b none) K ts bs = _; rw [ih]; rfl
    | some l => rfl
  | .rangeFunc _ _ _ _ => by funext o K ts bs; cases o <;> rfl
  | .exit i => by funext o K ts bs; cases o <;> rfl
  | .scope b => by
    funext o K ts bs
    have ih := vcR_eq k b
    cases o with
    | none => show vcR P G T k b none (scopeK (jumps k (wrs b) (fun l => vcR P G T k b (some l)) K 4) K) ts bs = _; rw [ih]; rfl
    | some l => rfl
  | .label l' => by funext o K ts bs; cases o <;> rfl
  | .goto l => by funext o K ts bs; cases o <;> rfl
  | .ret => by funext o K ts bs; cases o <;> rfl
  | .refuse _ => by funext o K ts bs; cases o <;> rfl

end
end Go.Eng

namespace Go.Eng
section
variable {P : Program} {G : Nat → AV} {f : FuncId} {args : List AV} {S wr : List (Nat × Blk)} {r : AV}

theorem splice_self {cs cy : List Value} {o : Nat} (h : (cs.drop o).take cy.length = cy) (hle : o + cy.length ≤ cs.length) : splice cs o cy = cs := by
  unfold splice
  have e : cs = cs.take o ++ ((cs.drop o).take cy.length ++ (cs.drop o).drop cy.length) := by
    rw [List.take_append_drop, List.take_append_drop]
  rw [h, List.drop_drop] at e
  rw [List.append_assoc]
  exact e.symm

theorem look_mem {τ : List (Nat × Nat)} {i : Nat} (h : i ∈ τ.map Prod.fst) : (look τ i) ∈ τ.map Prod.snd := by
  induction τ with
  | nil => cases h
  | cons x r ih =>
    unfold look
    split
    · exact .head _
    · rename_i hne
      rcases List.mem_cons.1 h with e | h
      · rw [e, Nat.beq_refl] at hne; cases hne
      · exact .tail _ (ih h)
theorem look_inj {τ : List (Nat × Nat)} (hn : (τ.map Prod.snd).Nodup) : ∀ i j, i ∈ τ.map Prod.fst → j ∈ τ.map Prod.fst → look τ i = look τ j → i = j := by
  induction τ with
  | nil => intro i j h; cases h
  | cons x r ih =>
    intro i j hi hj h
    rw [List.map_cons, List.nodup_cons] at hn
    have step : ∀ i, i ∈ (x :: r).map Prod.fst → (i = x.1 ∧ look (x :: r) i = x.2) ∨ (i ∈ r.map Prod.fst ∧ look (x :: r) i = look r i) := by
      intro i hi
      have e0 : look (x :: r) i = match Nat.beq i x.1 with | true => x.2 | false => look r i := rfl
      cases hb : Nat.beq i x.1 with
      | true => exact .inl ⟨Nat.eq_of_beq_eq_true hb, by rw [e0, hb]⟩
      | false =>
        rcases List.mem_cons.1 hi with e | hi
        · rw [e, Nat.beq_refl] at hb; cases hb
        · exact .inr ⟨hi, by rw [e0, hb]⟩
    rcases step i hi with ⟨e1, e2⟩ | ⟨h1, e2⟩ <;> rcases step j hj with ⟨g1, g2⟩ | ⟨k1, g2⟩
    · rw [e1, g1]
    · rw [e2, g2] at h
      exact absurd (h ▸ look_mem k1) hn.1
    · rw [e2, g2] at h
      exact absurd (h ▸ look_mem h1) hn.1
    · rw [e2, g2] at h
      exact ih hn.2 i j h1 k1 h
/-- A contract from its body; where its blocks lie, by one list. -/
theorem Fn.bodyN {T : Tr} (hT : TabOK P T) (hm : P.follows .mixedOrders = true) (hG0 : GPlain G) {fn : Func} {c : Code} (hf : P.funcs[f]? = some fn) (hname : (fn.name == "runtime.NumGoroutine") = false) (hb : fn.body = some c)
    (τ : List (Nat × Nat)) (as0 : List AV) (bs0 : List Blk) (news : List Nat) (r0 : AV) (ws : List Blk) (hchk : bodyB as0 bs0 news r0 ws = true)
    (hk : τ.map Prod.fst = List.range bs0.length ++ news) (hn : (τ.map Prod.snd).Nodup)
    (h : vcR P G T bs0.length c none (retK T fn fun r bs => r = r0 ∧ leaves bs (List.range bs0.length ++ news) ws) (as0 ++ List.replicate (fn.ntmps - as0.length) .any) bs0) :
    Fn P G f (as0.map (AV.ren τ)) (renAll τ (List.range bs0.length) bs0) (r0.ren τ) (renAll τ (List.range bs0.length ++ news) ws) :=
  Fn.body hT hm hG0 hf hname hb τ as0 bs0 news r0 ws hchk (by rw [← hk]; exact look_inj hn) (by rw [vcR_eq] at h; exact h)

/-- A slice that is nil, within a variable, as an empty row of the call's own. -/
theorem Fn.nilv (h : Fn P G f args S r wr) {b key : Nat} {p : List Nat} {x : AV} {l : Lay} {o : Nat} {y : Blk} (hb : ∀ H, upds H wr b = .var x) (hbm : b ∈ wr.map Prod.fst) (hx : x.at p = .dv (.sc (.slice none 0 0))) (hl : locL x.lay p = some (o, .one))
    (hy : (∃ k, y = .rowI k [] ∧ l = .one) ∨ ∃ g, y = .row l 0 g) (hlay : (x.setP p (.sl key [] l 0 0)).lay = x.lay) (hS : key ∉ S.map Prod.fst) (hw : key ∉ wr.map Prod.fst) : Fn P G f args S r (wr ++ [(key, y), (b, .var (x.setP p (.sl key [] l 0 0)))]) := by
  refine ⟨h.1, fun E H w vs hR hG hSH hwr hvs => ?_⟩
  have hku : E.pl key = .unborn := by
    rcases hwr (key, y) (by simp) with h | h
    · exact absurd h hS
    · exact h
  refine (h.2 E H w vs hR hG hSH (fun x hx => hwr x (List.mem_append_left _ hx)) hvs).mono fun e w' => ?_
  rintro ⟨v, E1, rfl, hs⟩
  have hku1 : E1.pl key = .unborn := Classical.byContradiction fun hne => hw (hs.born key hku hne)
  have hyb : BlkRel (E1.none_ key l) key w' y := by
    rcases hy with ⟨k, rfl, rfl⟩ | ⟨g, rfl⟩
    · exact ⟨if_pos rfl, .inl ⟨if_pos rfl, rfl⟩⟩
    · exact ⟨if_pos rfl, .inl ⟨if_pos rfl, rfl⟩⟩
  have s1 := Step.empty hs.rel hku1 l (x := y) hyb (v := r) (u := v) (by
    have hE : Ext E1 (E1.none_ key l) := by
      have hne : ∀ b, E1.pl b ≠ .unborn → b ≠ key := fun b hb e => hb (e ▸ hku1)
      exact ⟨fun b hb => if_neg (hne b hb), fun b hb => if_neg (hne b hb), fun _ _ => rfl, fun _ _ _ h => h⟩
    exact hs.val.ext hE)
  have hbk : b ≠ key := fun e => hw (e ▸ hbm)
  have hHb : upds (upds H wr) [(key, y)] b = .var x := (if_neg hbk).trans (hb H)
  have hbr := s1.rel.blk b
  rw [hHb] at hbr
  obtain ⟨q, oo, cs, hp, hla, hxr, hrs, htop, hroom⟩ := hbr
  obtain ⟨hat, _⟩ := hxr.at hl
  rw [hx] at hat
  have hcs : (cs.drop o).take 1 = [.slice none 0 0] := by
    have := hat.dv_inv
    rw [show Lay.one.size = 1 from rfl] at this
    generalize (cs.drop o).take 1 = q at this
    cases this; rfl
  have hlo := locL_le hl
  have hlen : cs.length = x.lay.size := hxr.len
  have hnil : RepA (E1.none_ key l) (.sl key [] l 0 0) [.slice none 0 0] :=
    .sl0 key [] l 0 none 0 0 (by rw [show (E1.none_ key l).pl key = .nowhere from if_pos rfl]; intro h; cases h) (by
      rw [locL_nil, show (E1.none_ key l).lay key = .arr 0 l from if_pos rfl]) (Nat.le_refl _)
  have hx' : RepA (E1.none_ key l) (x.setP p (.sl key [] l 0 0)) cs := by
    have := hxr.setP hl hnil rfl hlay
    rwa [splice_self (by exact hcs) (by rw [hlen]; simpa [Lay.size] using hlo)] at this
  have s2 := Step.write (w' := w') (x := .var (x.setP p (.sl key [] l 0 0))) s1.rel (by rw [hHb]; rfl) hp rfl rfl rfl rfl (fun _ _ => rfl) (fun _ _ => rfl) (fun _ => rfl) rfl ⟨q, oo, cs, hp, by rw [hla, hlay], hx', hrs, htop, hroom⟩ s1.val
  have s12 := Step.trans hs.rel s1 s2
  exact ⟨v, _, rfl, Step.trans hR hs s12⟩
end
end Go.Eng
