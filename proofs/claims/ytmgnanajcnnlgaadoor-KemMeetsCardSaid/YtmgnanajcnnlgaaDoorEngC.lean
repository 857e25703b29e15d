/-
  A CALCULATOR OVER THE MODEL: part 3 of 4. It holds for every program; its own names only.
-/
import Derived.Test.YtmgnanajcnnlgaaDoorEngB
import Derived.Orders
import Derived.OrdersIn
import Derived.RangeFuncIn
import Derived.RangeFuncCalls
import Derived.RangeFuncNested
import Derived.RangeFuncLeaves
import Derived.OwnWalkIn
import Derived.Scope
set_option linter.unusedVariables false
set_option linter.unusedSimpArgs false
namespace Go.Eng
def keyV : DV -> Value
 | .sc v => v
 | .str l => .string ⟨⟨l⟩⟩
 | .ints k _ l => .agg (l.map (Value.int k)).toArray
 | _ => undef
theorem has_int {k : IntKind} {d : DV} (h : (KF.int k).has d = true) : ∃ x, d = .sc (.int k x) := by
 unfold KF.has at h
 simp only at h
 split at h
 ·rename_i c x; exact ⟨x, by rw [kindEq_eq h]⟩
 ·cases h
theorem has_str {d : DV} (h : KF.str.has d = true) : ∃ x, d = .str x := by
 unfold KF.has at h
 simp only at h
 split at h
 ·rename_i x; exact ⟨x, rfl⟩
 ·cases h
theorem has_ints {k : IntKind} {n : Nat} {d : DV} (h : (KF.ints k n).has d = true) : ∃ x, d = .ints k n x := by
 unfold KF.has at h
 simp only at h
 split at h
 ·rename_i c m x
  split at h
  ·rename_i h1 h2
   exact ⟨x, by rw [kindEq_eq h1, Nat.eq_of_beq_eq_true h2]⟩
  ·cases h
 ·cases h
theorem same_eq {a b : KF} (h : a.same b = true) : a = b := by
 cases a with
 | int k =>
  cases b with
  | int c => rw [kindEq_eq h]
  | _ => cases h
 | str => cases b <;> first | rfl | cases h
 | ints k n =>
  cases b with
  | ints c m =>
   unfold KF.same at h
   simp only at h
   split at h
   ·rename_i h1 h2; rw [kindEq_eq h1, Nat.eq_of_beq_eq_true h2]
   ·cases h
  | _ => cases h
theorem keyV_rep {rd : Rd} {f : KF} {d : DV} (hf : f.has d = true) {cs : List Value} (h : RepD rd d cs) : ofCells d.lay.isAgg cs = keyV d := by
 cases f with
 | int k => obtain ⟨x, rfl⟩ := has_int hf; cases h; rfl
 | str => obtain ⟨x, rfl⟩ := has_str hf; cases h; rfl
 | ints k n => obtain ⟨x, rfl⟩ := has_ints hf; cases h; rfl
theorem keyEq_eq {f : KF} {a b : DV} (ha : f.has a = true) (hb : f.has b = true) (h : keyEq a b = true) : a = b := by
 cases f with
 | int k =>
  obtain ⟨x, rfl⟩ := has_int ha; obtain ⟨y, rfl⟩ := has_int hb
  have : x = y := by simpa [keyEq] using h
  rw [this]
 | str =>
  obtain ⟨x, rfl⟩ := has_str ha; obtain ⟨y, rfl⟩ := has_str hb
  have : x = y := by simpa [keyEq] using h
  rw [this]
 | ints k n =>
  obtain ⟨x, rfl⟩ := has_ints ha; obtain ⟨y, rfl⟩ := has_ints hb
  have : x = y := by simpa [keyEq] using h
  rw [this]
theorem keyV_inj {f : KF} {a b : DV} (ha : f.has a = true) (hb : f.has b = true) (h : keyV a = keyV b) : keyEq a b = true := by
 cases f with
 | int k =>
  obtain ⟨x, rfl⟩ := has_int ha; obtain ⟨y, rfl⟩ := has_int hb
  simp only [keyV] at h
  injection h with _ h
  simp [keyEq, h]
 | str =>
  obtain ⟨x, rfl⟩ := has_str ha; obtain ⟨y, rfl⟩ := has_str hb
  simp only [keyV] at h
  injection h with h
  injection h with h
  injection h with h
  simp [keyEq, h]
 | ints k n =>
  obtain ⟨x, rfl⟩ := has_ints ha; obtain ⟨y, rfl⟩ := has_ints hb
  simp only [keyV] at h
  injection h with h
  injection h with h
  have : x = y := by
   have hinj : Function.Injective (Value.int k) := fun a b e => by injection e
   exact (List.map_inj_right (fun a b e => hinj e)).1 h
  simp [keyEq, this]
theorem RepEnts.get {rd : Rd} : ∀ {es : List (DV × DV)} {ms : List MapEntry}, RepEnts rd es ms -> ∀ {i : Nat} {e : DV × DV}, es[i]? = some e -> ∃ m, ms[i]? = some m /\ RepD rd e.1 m.key.cells.toList /\ m.key = ofCells e.1.lay.isAgg m.key.cells.toList /\ RepD rd e.2 m.val.cells.toList /\ m.val = ofCells e.2.lay.isAgg m.val.cells.toList
 | [], [], _, i, e, he => by simp at he
 | (k, v) :: es, m :: ms, h, i, e, he => by
  cases i with
  | zero => simp at he; subst he; exact ⟨m, by simp, h.1.1, h.1.2.1, h.1.2.2.1, h.1.2.2.2⟩
  | succ i =>
   obtain ⟨m', h1, h2⟩ := RepEnts.get h.2 (i := i) (e := e) (by simpa using he)
   exact ⟨m', by simpa using h1, h2⟩
 | [], _ :: _, h, _, _, _ => h.elim
 | _ :: _, [], h, _, _, _ => h.elim
def RepEnt (rd : Rd) (e : DV × DV) (m : MapEntry) : Prop := RepD rd e.1 m.key.cells.toList /\ m.key = ofCells e.1.lay.isAgg m.key.cells.toList /\ RepD rd e.2 m.val.cells.toList /\ m.val = ofCells e.2.lay.isAgg m.val.cells.toList
theorem RepEnts.back {rd : Rd} : ∀ {es : List (DV × DV)} {ms : List MapEntry}, RepEnts rd es ms -> ∀ {m : MapEntry}, m ∈ ms -> ∃ e, e ∈ es /\ RepD rd e.1 m.key.cells.toList /\ m.key = ofCells e.1.lay.isAgg m.key.cells.toList
 | [], [], _, m, hm => by cases hm
 | e :: es, m' :: ms, h, m, hm => by
  rcases List.mem_cons.1 hm with e1 | hm
  ·subst e1; exact ⟨e, .head _, h.1.1, h.1.2.1⟩
  ·obtain ⟨e', h1, h2⟩ := RepEnts.back h.2 hm
   exact ⟨e', .tail _ h1, h2⟩
 | [], _ :: _, h, _, _ => h.elim
 | _ :: _, [], h, _, _ => h.elim
theorem RepEnts.push {rd : Rd} {e : DV × DV} {m : MapEntry} (he : RepEnt rd e m) : ∀ {es : List (DV × DV)} {ms : List MapEntry}, RepEnts rd es ms -> RepEnts rd (es ++ [e]) (ms ++ [m])
 | [], [], _ => ⟨he, trivial⟩
 | _ :: _, _ :: _, h => ⟨h.1, RepEnts.push he h.2⟩
 | [], _ :: _, h => h.elim
 | _ :: _, [], h => h.elim
theorem RepEnts.set {rd : Rd} {e : DV × DV} {m : MapEntry} (he : RepEnt rd e m) : ∀ {es : List (DV × DV)} {ms : List MapEntry} {i : Nat}, RepEnts rd es ms -> RepEnts rd (es.set i e) (ms.set i m)
 | [], [], _, _ => trivial
 | _ :: _, _ :: _, 0, h => ⟨he, h.2⟩
 | _ :: _, _ :: _, i + 1, h => ⟨h.1, RepEnts.set he h.2⟩
 | [], _ :: _, _, h => h.elim
 | _ :: _, [], _, h => h.elim
theorem RepEnts.erase {rd : Rd} : ∀ {es : List (DV × DV)} {ms : List MapEntry} {i : Nat}, RepEnts rd es ms -> RepEnts rd (es.eraseIdx i) (ms.eraseIdx i)
 | [], [], _, _ => trivial
 | _ :: _, _ :: _, 0, h => h.2
 | _ :: _, _ :: _, i + 1, h => ⟨h.1, RepEnts.erase h.2⟩
 | [], _ :: _, _, h => h.elim
 | _ :: _, [], _, h => h.elim
inductive Found (k : DV) (es : List (DV × DV)) : Option (Nat × DV) -> Prop where
 | no (h : alook k es = none) (hs : ∀ v, aset k v es = es ++ [(k, v)]) (hd : adel k es = es) (hn : ∀ e, e ∈ es -> keyEq k e.1 = false) : Found k es none
 | yes (j : Nat) (e : DV × DV) (he : es[j]? = some e) (hk : keyEq k e.1 = true) (h : alook k es = some e.2) (hs : ∀ v, aset k v es = es.set j (k, v)) (hd : adel k es = es.eraseIdx j) : Found k es (some (j, e.2))
theorem Found.cons {k : DV} {es : List (DV × DV)} {r : Option (Nat × DV)} (h : Found k es r) {e : DV × DV} (he : keyEq k e.1 = false) : Found k (e :: es) (r.map fun x => (x.1 + 1, x.2)) := by
 cases h with
 | no h hs hd hn => exact .no (by simp only [alook, he, h]) (fun v => by simp only [aset, he, hs v]; rfl) (by simp only [adel, he, hd]) (fun x hx => by
   rcases List.mem_cons.1 hx with e1 | hx
   ·rw [e1]; exact he
   ·exact hn x hx)
 | yes j e' h1 h2 h hs hd => exact .yes (j + 1) e' (by simpa using h1) h2 (by simp only [alook, he, h]) (fun v => by simp only [aset, he, hs v]; rfl) (by simp only [adel, he, hd]; rfl)
theorem Found.head {k : DV} {es : List (DV × DV)} {e : DV × DV} (he : keyEq k e.1 = true) : Found k (e :: es) (some (0, e.2)) :=
 .yes 0 e (by simp) he (by simp only [alook, he]) (fun v => by simp only [aset, he]; rfl) (by simp only [adel, he]; rfl)
section
variable {P : Program} {G : Glob} {T : Tr} {o : Oper} {ρ : Operand -> AV} {H : Nat -> Blk} {K : Cont}
def Ans (ms : List MapEntry) (i : Nat) (r : Option (Nat × DV)) (a : Option (Nat × Value)) : Prop := match r with
 | none => a = none
 | some (j, _) => ∃ m, ms[j]? = some m /\ a = some (i + j, m.val)
theorem Ans.cons {ms : List MapEntry} {i : Nat} {r : Option (Nat × DV)} {a : Option (Nat × Value)} (h : Ans ms (i + 1) r a) (m : MapEntry) : Ans (m :: ms) i (r.map fun x => (x.1 + 1, x.2)) a := by
 cases r with
 | none => exact h
 | some x =>
  obtain ⟨e, h1, h2⟩ := h
  exact ⟨e, by simpa using h1, by rw [h2]; congr 2; omega⟩
theorem find_now {rd : Rd} {d : TypeDesc} {k : DV} {f : KF} (hf : f.has k = true) (hs : ∀ k', f.has k' = true -> Instr.sameNow d (keyV k) (keyV k') = some (keyEq k k')) :
  ∀ {es : List (DV × DV)} {ms : List MapEntry} (i : Nat), RepEnts rd es ms -> (∀ e, e ∈ es -> f.has e.1 = true) -> ∃ r a, Found k es r /\ Instr.findNow d (keyV k) ms i = some a /\ Ans ms i r a
 | [], [], i, _, _ => ⟨none, none, .no rfl (fun _ => rfl) rfl (fun _ h => by cases h), rfl, rfl⟩
 | e :: es, m :: ms, i, h, hes => by
  have hk : m.key = keyV e.1 := by rw [h.1.2.1]; exact keyV_rep (hes e (.head _)) h.1.1
  have hq := hs e.1 (hes e (.head _))
  rw [← hk] at hq
  cases hb : keyEq k e.1 with
  | true => exact ⟨_, some (i, m.val), Found.head hb, by simp only [Instr.findNow, hq, hb], m, by simp, by simp⟩
  | false =>
   obtain ⟨r, a, h1, h2, h3⟩ := find_now hf hs (i + 1) h.2 (fun e he => hes e (.tail _ he))
   exact ⟨_, a, h1.cons hb, by simp only [Instr.findNow, hq, hb, h2], h3.cons m⟩
 | [], _ :: _, _, h, _ => h.elim
 | _ :: _, [], _, h, _ => h.elim
theorem find_ask {rd : Rd} {kt : TypeId} {w : World} {k : DV} {f : KF} (hf : f.has k = true) (hs : ∀ k' cs, f.has k' = true -> RepD rd k' cs -> (Op.equal kt (keyV k) (keyV k')).run P w = .ok (keyEq k k') w) :
  ∀ {es : List (DV × DV)} {ms : List MapEntry} (i : Nat), RepEnts rd es ms -> (∀ e, e ∈ es -> f.has e.1 = true) -> ∃ r a, Found k es r /\ (Instr.findAsking kt (keyV k) ms i).run P w = .ok a w /\ Ans ms i r a
 | [], [], i, _, _ => ⟨none, none, .no rfl (fun _ => rfl) rfl (fun _ h => by cases h), by simp [Instr.findAsking], rfl⟩
 | e :: es, m :: ms, i, h, hes => by
  have hk : m.key = keyV e.1 := by rw [h.1.2.1]; exact keyV_rep (hes e (.head _)) h.1.1
  have hq := hs e.1 _ (hes e (.head _)) h.1.1
  rw [← hk] at hq
  cases hb : keyEq k e.1 with
  | true =>
   rw [hb] at hq
   exact ⟨_, some (i, m.val), Found.head hb, by simp only [Instr.findAsking, Sem.run_bind, hq, Result.andThen_ok, if_true, Sem.run_pure], m, by simp, by simp⟩
  | false =>
   rw [hb] at hq
   obtain ⟨r, a, h1, h2, h3⟩ := find_ask hf hs (i + 1) h.2 (fun e he => hes e (.tail _ he))
   exact ⟨_, a, h1.cons hb, by simp only [Instr.findAsking, Sem.run_bind, hq, Result.andThen_ok, Bool.false_eq_true, if_false, h2], h3.cons m⟩
 | [], _ :: _, _, h, _ => h.elim
 | _ :: _, [], _, h, _ => h.elim
theorem bytes_beq' (x y : List UInt8) : ((⟨⟨x⟩⟩ : ByteArray) == ⟨⟨y⟩⟩) = (x == y) := by
 rw [Bool.eq_iff_iff, Go.MapKept.bytes_beq, beq_iff_eq]
 constructor
 ·intro e; injection e with e; injection e
 ·intro e; rw [e]
theorem kf_inv {t : TypeId} {f : KF} (h : kf? T t = some f) : (∃ k, f = .int k /\ (T.get t).kind = .int k) \/ (f = .str /\ (T.get t).kind = .str) \/ ∃ n e k, f = .ints k n /\ (T.get t).kind = .arr n e /\ (T.get e).kind = .int k := by
 unfold kf? at h
 split at h
 ·rename_i k hk; cases h; exact .inl ⟨k, rfl, hk⟩
 ·rename_i hk; cases h; exact .inr (.inl ⟨rfl, hk⟩)
 ·rename_i n e hk
  split at h
  ·rename_i k hk' _; cases h; exact .inr (.inr ⟨n, e, k, rfl, hk, hk'⟩)
  ·cases h
 ·cases h
theorem info_one {e : TypeId} {k : IntKind} (hT : TabOK P T) (hk : (T.get e).kind = .int k) : ∃ i, P.info? e = some i /\ i.size = 1 := by
 obtain ⟨i, d, z, cs, hi, hd, hb, hs, _, hl, ha, _⟩ := (hT.entry (mem_of_kind (t := e) (by rw [hk]; simp))).info
 refine ⟨i, hi, ?_⟩
 rw [hk] at hb
 cases d <;> simp [kindB] at hb
 have h1 := isAgg_size ha
 rw [hs, ← hl, h1]; rfl
theorem run_checkInt {kt e : TypeId} {k : IntKind} {n : Nat} (hT : TabOK P T) (h : (T.get kt).kind = .arr n e) (hk : (T.get e).kind = .int k) (w : World) (b : Bool) {l : List Int} (hl : l.length = n) {kk : IntKind} :
  (Instr.checkKey b 10000 kt (.agg (l.map (Value.int kk)).toArray)).run P w = .ok () w := by
 obtain ⟨hu, _⟩ := und_arr hT h
 have hue := und_int hT hk
 obtain ⟨i, hi, hs⟩ := info_one hT hk
 rw [show (10000 : Nat) = 9999 + 1 from rfl]
 unfold Instr.checkKey
 simp only [Sem.run_bind, run_underlying hu, Result.andThen_ok]
 simp only [Std.Legacy.Range.forIn_eq_forIn_range', Std.Legacy.Range.size, Nat.sub_zero, Nat.add_one_sub_one, Nat.div_one]
 have each : ∀ j, j ∈ List.range' 0 n -> j < n := fun j hj => by
  have := List.mem_range'_1.1 hj; omega
 generalize List.range' 0 n = is at each
 induction is with
 | nil => simp
 | cons j is ih =>
  have hj := each j (by simp)
  have hsz : (sizeOf e).run P w = .ok 1 w := by simp [sizeOf, typeInfo, hi, hs]
  have hp := run_part_cell (P := P) (t := e) w (cs := l.map (Value.int kk)) (off := j * 1) hue rfl (v := .int kk (l.getD j 0)) (by rw [Nat.mul_one]; exact map_get kk l j (by omega))
  have hc : (Instr.checkKey b 9999 e (.int kk (l.getD j 0))).run P w = .ok () w := by
   rw [show (9999 : Nat) = 9998 + 1 from rfl]
   unfold Instr.checkKey
   simp only [Sem.run_bind, run_underlying hue, Result.andThen_ok, Sem.run_pure]
  simp only [List.forIn_cons, Sem.run_bind, hsz, Result.andThen_ok, hp, hc, Sem.run_pure]
  exact ih (fun y hy => each y (by simp [hy]))
theorem run_checkF {kt : TypeId} {f : KF} (hT : TabOK P T) (h : kf? T kt = some f) (w : World) (b : Bool) {k : DV} (hf : f.has k = true) {rd : Rd} {cs : List Value} (hr : RepD rd k cs) : (Instr.checkKey b 10000 kt (keyV k)).run P w = .ok () w := by
 rcases kf_inv h with ⟨k0, rfl, hk⟩ | ⟨rfl, hk⟩ | ⟨n, e, k0, rfl, hk, hk'⟩
 ·obtain ⟨x, rfl⟩ := has_int hf
  exact MapKept.run_checkKey (d := .int k0) (k := .int k0 x) (und_int hT hk) rfl b 9999
 ·obtain ⟨x, rfl⟩ := has_str hf
  exact MapKept.run_checkKey (d := .string) (k := .string ⟨⟨x⟩⟩) (und_str hT hk) trivial b 9999
 ·obtain ⟨x, rfl⟩ := has_ints hf
  cases hr with
  | ints _ _ _ hl => exact run_checkInt hT hk hk' w b hl
theorem run_findF {kt : TypeId} {f : KF} (hT : TabOK P T) (h : kf? T kt = some f) (w : World) {k : DV} (hf : f.has k = true) {rd : Rd} {cs : List Value} (hr : RepD rd k cs) {es : List (DV × DV)} {ms : List MapEntry} (hm : RepEnts rd es ms) (hes : ∀ e, e ∈ es -> f.has e.1 = true) :
  ∃ r a, Found k es r /\ (Instr.findKey kt (keyV k) ms).run P w = .ok a w /\ Ans ms 0 r a := by
 rcases kf_inv h with ⟨k0, rfl, hk⟩ | ⟨rfl, hk⟩ | ⟨n, e, k0, rfl, hk, hk'⟩
 ·obtain ⟨r, a, h1, h2, h3⟩ := find_now (d := .int k0) hf (fun k' hk' => by
   obtain ⟨x, rfl⟩ := has_int hf; obtain ⟨y, rfl⟩ := has_int hk'
   simp [keyV, Instr.sameNow, keyEq]) 0 hm hes
  exact ⟨r, a, h1, MapKept.run_findKey (und_int hT hk) h2, h3⟩
 ·obtain ⟨r, a, h1, h2, h3⟩ := find_now (d := .string) hf (fun k' hk' => by
   obtain ⟨x, rfl⟩ := has_str hf; obtain ⟨y, rfl⟩ := has_str hk'
   simp [keyV, Instr.sameNow, keyEq, bytes_beq']) 0 hm hes
  exact ⟨r, a, h1, MapKept.run_findKey (und_str hT hk) h2, h3⟩
 ·obtain ⟨hu, _⟩ := und_arr hT hk
  have hue := und_int hT hk'
  obtain ⟨i, hi⟩ := info_one hT hk'
  obtain ⟨x, rfl⟩ := has_ints hf
  have hx : x.length = n := by cases hr; assumption
  obtain ⟨r, a, h1, h2, h3⟩ := find_ask (P := P) (w := w) (kt := kt) hf (fun k' cs' hk2 hr' => by
   obtain ⟨y, rfl⟩ := has_ints hk2
   have hy : y.length = n := by cases hr'; assumption
   have hq := run_eq_ints (P := P) w hu hue ⟨i, hi⟩ hx hy (k := k0) 9998
   rw [show 9998 + 2 = Op.maxDepth from rfl] at hq
   simpa [keyV, Op.equal, keyEq] using hq) 0 hm hes
  exact ⟨r, a, h1, by rw [run_findKey_eq w (by rw [hu])]; exact h2, h3⟩
theorem rep_key {E : Env} {k : DV} {f : KF} (hf : f.has k = true) {v : Value} (h : RepV E (.dv k) v) : ∃ cs, RepD E.rd k cs /\ v = keyV k /\ v.cells.toList = cs := by
 obtain ⟨cs, h1, h2⟩ := rep_dv h
 refine ⟨cs, h1, by rw [h2]; exact keyV_rep hf h1, ?_⟩
 have hs : solid (.dv k) = true := rfl
 obtain ⟨cs', h3, h4, h5⟩ := RepV.inv h hs
 rw [h4]
 have h3 := h3.dv_inv
 cases f with
 | int q => obtain ⟨x, rfl⟩ := has_int hf; cases h1; cases h3; rfl
 | str => obtain ⟨x, rfl⟩ := has_str hf; cases h1; cases h3; rfl
 | ints q n => obtain ⟨x, rfl⟩ := has_ints hf; cases h1; cases h3; rfl
theorem lookRes_rep {E : Env} {ok : Bool} {v : DV} {b : Bool} {cs : List Value} (h : RepD E.rd v cs) : RepV E (lookRes ok v b) (if ok then .tuple #[ofCells v.lay.isAgg cs, .bool b] else ofCells v.lay.isAgg cs) := by
 cases ok with
 | false => exact .of (.dv h) rfl
 | true =>
  refine .one (.tup [.dv v, .dv (.sc (.bool b))] [cs, [.bool b]] rfl ?_) rfl
  intro i hi
  match i, hi with
  | 0, _ => exact .dv h
  | 1, _ => exact .dv (.sc _ trivial)
theorem zero_cells {t : TypeId} (hT : TabOK P T) (ht : t ∈ T.keys) (w : World) (rd : Rd) : ∃ cs, RepD rd (T.get t).zero cs /\ (zeroValue t).run P w = .ok (ofCells (T.get t).zero.lay.isAgg cs) w := by
 obtain ⟨i, d, z, cs, hi, hd, _, _, _, _, hagg, hzl, hz, hzc, hzr, _⟩ := (hT.entry ht).info
 have ha := (hT.entry ht).aggz i z hi hz
 refine ⟨cs, zcells_rep rd hzr, ?_⟩
 have e : z = ofCells (T.get t).zero.lay.isAgg cs := by
  rw [hzl, ← ha, ← hzc]
  cases z <;> rfl
 simp [zeroValue, typeInfo, hi, hz, e]
theorem told_lookup {t : TypeId} {m k : Operand} {ok : Bool} (hT : TabOK P T) (ho : o.op = .lookup t m k ok) (h : lookupK T t H (ρ m) (ρ k) ok K) : Told P G o ρ H K := by
 have mm : m ∈ opnds o.op := by simp [opnds, ho, Op.operands]
 have mk : k ∈ opnds o.op := by simp [opnds, ho, Op.operands]
 unfold lookupK at h
 split at h
 ·rename_i kt et hk
  have hu := und_map hT hk
  split at h
  ·rename_i f kd hf hkd
   split at h
   ·rename_i hh hfit
    obtain ⟨_, _, het⟩ := fits_inv hfit
    have key : ∀ {E : Env} {a : Act}, RepV E (ρ k) (a.eval k) -> ∃ cs, RepD E.rd kd cs /\ a.eval k = keyV kd := fun hv => by
     have := norm_rep hv
     rw [hkd] at this
     obtain ⟨cs, h1, h2, _⟩ := rep_key hh this
     exact ⟨cs, h1, h2⟩
    split at h
    ·rename_i b hx
     split at h
     ·rename_i f' es hb
      split at h
      ·rename_i hs
       have := same_eq hs
       subst this
       cases hl : alook kd es with
       | some v =>
        refine ⟨_, _, _, h.1 v hl, .of fun E H' a w hR _ hop hrd _ => ?_⟩
        have hbr := hR.blk b
        rw [hrd b (by simp), hb] at hbr
        obtain ⟨r, entries, clock, hp, _, _, hw, he, hes, _⟩ := hbr
        obtain ⟨r', hr', ex⟩ := rep_mp (hx ▸ hop m mm)
        rw [hp] at hr'
        injection hr' with hr' _
        subst hr'
        obtain ⟨cs, hkr, ek⟩ := key (hop k mk)
        obtain ⟨rr, aa, h1, h2, h3⟩ := run_findF hT hf w hh hkr he hes
        cases h1 with
        | no h1 => rw [hl] at h1; cases h1
        | yes j e h1 h4 h5 =>
         rw [hl] at h5
         cases h5
         obtain ⟨m', h6, h7⟩ := h3
         obtain ⟨m'', h8, _, _, h9, h10⟩ := he.get h1
         rw [h6] at h8
         cases h8
         refine ⟨_, w, E, .inl ?_, .pure hR (lookRes_rep h9)⟩
         rw [← h10]
         simp [execOp, ho, ex, ek, Instr.lookup, run_underlying hu, MapKept.run_getObj_map hw, run_checkF hT hf w _ hh hkr, h2, h7]
       | none =>
        refine ⟨_, _, _, h.2 hl, .of fun E H' a w hR _ hop hrd _ => ?_⟩
        have hbr := hR.blk b
        rw [hrd b (by simp), hb] at hbr
        obtain ⟨r, entries, clock, hp, _, _, hw, he, hes, _⟩ := hbr
        obtain ⟨r', hr', ex⟩ := rep_mp (hx ▸ hop m mm)
        rw [hp] at hr'
        injection hr' with hr' _
        subst hr'
        obtain ⟨cs, hkr, ek⟩ := key (hop k mk)
        obtain ⟨rr, aa, h1, h2, h3⟩ := run_findF hT hf w hh hkr he hes
        cases h1 with
        | yes j e h1 h4 h5 => rw [hl] at h5; cases h5
        | no h1 =>
         obtain ⟨cz, hz, hzr⟩ := zero_cells hT het w E.rd
         have h3 : aa = none := h3
         refine ⟨_, w, E, .inl ?_, .pure hR (lookRes_rep hz)⟩
         simp [execOp, ho, ex, ek, Instr.lookup, run_underlying hu, MapKept.run_getObj_map hw, run_checkF hT hf w _ hh hkr, h2, h3, hzr]
      ·exact h.elim
     ·exact h.elim
    ·rename_i hx
     refine ⟨_, _, _, h, .pure fun E a w hop => ?_⟩
     have ex := rep_sc (hx ▸ hop m mm)
     obtain ⟨cs, hkr, ek⟩ := key (hop k mk)
     obtain ⟨cz, hz, hzr⟩ := zero_cells hT het w E.rd
     obtain ⟨rr, aa, h1, h2, h3⟩ := run_findF hT hf w (rd := E.rd) (es := []) (ms := []) hh hkr trivial (fun _ h => by cases h)
     have h3 : aa = none := by
      cases h1 with
      | yes j e h1 => simp at h1
      | no => exact h3
     refine ⟨_, ?_, lookRes_rep hz⟩
     simp [execOp, ho, ex, ek, Instr.lookup, run_underlying hu, run_checkF hT hf w _ hh hkr, h2, h3, hzr]
    ·exact h.elim
   ·exact h.elim
  ·exact h.elim
 ·exact h.elim
theorem Step.mapx {E : Env} {H : Nat -> Blk} {w : World} (hR : Rel E H w) {b r : Nat} (hb : (H b).own = true) (hp : E.pl b = .at r 0) {entries : Array MapEntry} {clock : Nat} (hw : w.heap[r]? = some (.map entries clock)) (entries' : Array MapEntry) (clock' : Nat) {x : Blk}
  (hblk : BlkRel E b { w with heap := w.heap.setIfInBounds r (.map entries' clock') } x) {v : AV} {u : Value} (hv : RepV E v u) :
  Step E H w [(b, x)] v u E { w with heap := w.heap.setIfInBounds r (.map entries' clock') } := by
 have hn := MapKept.heap_set (o' := .map entries' clock') hw
 refine Step.write (w' := { w with heap := w.heap.setIfInBounds r (.map entries' clock') }) (x := x) hR hb hp rfl rfl rfl (by simp) (fun r' hr => hn.2 r' hr) ?_ ?_ ?_ hblk hv
 ·intro j _
  simp only [World.cell?, hw, hn.1]
 ·intro j
  simp only [World.frozen?, hw, hn.1]
 ·simp only [World.shape?, hw, hn.1]
theorem Step.map {E : Env} {H : Nat -> Blk} {w : World} (hR : Rel E H w) {b r : Nat} {f : KF} {es' : List (DV × DV)} (hb : (H b).own = true) (hp : E.pl b = .at r 0) (hl : E.lay b = .unit) (ht : E.top b = 0) {entries entries' : Array MapEntry} {clock clock' : Nat}
  (hw : w.heap[r]? = some (.map entries clock)) (he : RepEnts E.rd es' entries'.toList) (hes : ∀ e, e ∈ es' -> f.has e.1 = true) (hst : MapKept.Stamped entries' clock') {v : AV} {u : Value} (hv : RepV E v u) :
  Step E H w [(b, .mp f es')] v u E { w with heap := w.heap.setIfInBounds r (.map entries' clock') } :=
 Step.mapx (x := .mp f es') hR hb hp hw entries' clock' ⟨r, entries', clock', hp, hl, ht, (MapKept.heap_set hw).1, he, hes, hst⟩ hv
def Env.note (E : Env) (key n : Nat) : Env :=
 {E with pl := fun b => if b = key then .nowhere else E.pl b, top := fun b => if b = key then n else E.top b }
theorem Step.note {E : Env} {H : Nat -> Blk} {w : World} (hR : Rel E H w) {key : Nat} (hk : E.pl key = .unborn) (n : Nat) : Step E H w [(key, .dead)] .any undef (E.note key n) w := by
 have hne : ∀ b, E.pl b ≠ .unborn -> b ≠ key := fun b hb e => hb (e ▸ hk)
 have hE : Ext E (E.note key n) := ⟨fun b hb => if_neg (hne b hb), fun _ _ => rfl, fun b hb => if_neg (hne b hb), fun _ _ _ h => h, rfl⟩
 have hH : ∀ c, upds H [(key, .dead)] c = if c = key then .dead else H c := fun c => rfl
 have hpk : (E.note key n).pl key = .nowhere := if_pos rfl
 have hpo : ∀ c, c ≠ key -> (E.note key n).pl c = E.pl c := fun c hc => if_neg hc
 have hat : ∀ c r o, (E.note key n).pl c = .at r o -> c ≠ key /\ E.pl c = .at r o := by
  intro c r o h
  by_cases e : c = key
  ·subst e; rw [hpk] at h; cases h
  ·rw [hpo c e] at h; exact ⟨e, h⟩
 have hown : ∀ c, (upds H [(key, .dead)] c).own = true -> (H c).own = true := by
  intro c h; rw [hH] at h; split at h
  ·cases h
  ·exact h
 have hfit' : ∀ c r o, (E.note key n).pl c = .at r o -> o + ((E.note key n).lay c).size ≤ (E.note key n).top c := by
  intro c r o hc
  obtain ⟨e, hc⟩ := hat c r o hc
  show _ + (E.lay c).size ≤ (if c = key then n else E.top c)
  rw [if_neg e]
  exact hR.fit c r o hc
 refine ⟨.any _ _, ⟨hR.rd, ?_, ?_, ?_, ?_, ?_, hfit', hR.fx, fun c r o ob h1 h2 h3 => hR.fxa c r o ob (hown c h1) (hat c r o h2).2 h3⟩, hE, ⟨rfl, rfl, rfl, Nat.le_refl _, fun _ _ _ => rfl, fun _ _ _ h => .inl h, ?_⟩, ?_, fun c hc => .inl (hown c hc), fun _ _ _ _ _ _ => rfl⟩
 ·intro c
  rw [hH]
  split
  ·trivial
  ·exact BlkRel.ext hE (fun hd => own_born hR hd) (hR.blk c)
 ·intro c c' r o r' o' hcc h1 h2 h3 h4
  have h3 := hat c r o h3
  have h4 := hat c' r' o' h4
  exact hR.sep c c' r o r' o' hcc (hown c h1) (hown c' h2) h3.2 h4.2
 ·intro c r o j v h1 h2 h3
  have h2 := hat c r o h2
  exact hR.apart c r o j v (hown c h1) h2.2 h3
 ·intro c r o h1; exact hR.old c r o (hat c r o h1).2
 ·intro c h1
  by_cases e : c = key
  ·subst e; rw [hpk] at h1; cases h1
  ·rw [hpo c e] at h1
   rw [hH, if_neg e]
   exact hR.born c h1
 ·intro c r o h1 h2
  have := (hat c r o h2).2
  rw [h1] at this; cases this
 ·intro c h1 h2
  by_cases e : c = key
  ·subst e; simp
  ·rw [hpo c e] at h2; exact absurd h1 h2
theorem sameBits_ints (k : IntKind) (l : List Int) (n : Nat) : Instr.sameBits (n + 2) (.agg (l.map (Value.int k)).toArray) (.agg (l.map (Value.int k)).toArray) = true := by
 unfold Instr.sameBits
 simp only [beq_self_eq_true, Bool.true_and, List.all_eq_true]
 intro x hx
 obtain ⟨h1, h2⟩ : x.1 = x.2 /\ ∃ i, x.1 = .int k i := by
  induction l with
  | nil => simp at hx
  | cons a l ih =>
   simp only [List.map_cons, List.zip_cons_cons, List.mem_cons] at hx
   rcases hx with rfl | hx
   ·exact ⟨rfl, a, rfl⟩
   ·exact ih (by simpa using hx)
 obtain ⟨i, h2⟩ := h2
 obtain ⟨x1, x2⟩ := x
 simp only at h1 h2
 subst h1; subst h2
 simp [Instr.sameBits]
theorem run_stays {f : KF} {k : DV} (hf : f.has k = true) (w : World) : (Instr.keyThatStays (keyV k) (keyV k)).run P w = .ok (keyV k) w := by
 cases f with
 | int q => obtain ⟨x, rfl⟩ := has_int hf; exact MapKept.run_keyThatStays (d := .int q) (k := .int q x) rfl
 | str => obtain ⟨x, rfl⟩ := has_str hf; exact MapKept.run_keyThatStays (d := .string) (k := .string ⟨⟨x⟩⟩) trivial
 | ints q n =>
  obtain ⟨x, rfl⟩ := has_ints hf
  have := sameBits_ints q x 9998
  simp [Instr.keyThatStays, keyV, this]
theorem modify_list {es : Array MapEntry} {j : Nat} {m : MapEntry} (f : MapEntry -> MapEntry) (h : es.toList[j]? = some m) : (es.modify j f).toList = es.toList.set j (f m) := by
 apply List.ext_getElem?
 intro i
 simp only [Array.getElem?_toList, Array.getElem?_modify, List.getElem?_set]
 by_cases e : j = i
 ·subst e
  have h' : es[j]? = some m := by simpa using h
  have hlt : j < es.toList.length := (List.getElem?_eq_some_iff.1 h).1
  simp only [if_true, h', Option.map_some]
  rw [if_pos hlt]
 ·simp [e]
theorem set_self {α : Type} : ∀ {l : List α} {i : Nat} {x : α}, l[i]? = some x -> l.set i x = l
 | [], _, _, h => by simp at h
 | y :: l, 0, x, h => by simp at h; rw [h]; rfl
 | y :: l, i + 1, x, h => by
  have := set_self (l := l) (i := i) (x := x) (by simpa using h)
  simp [this]
theorem mem_aset {k v : DV} {es : List (DV × DV)} {e : DV × DV} (h : e ∈ aset k v es) : e = (k, v) \/ e ∈ es := by
 induction es with
 | nil => simp [aset] at h; exact .inl h
 | cons x r ih =>
  unfold aset at h
  split at h
  ·rcases List.mem_cons.1 h with h | h
   ·exact .inl h
   ·exact .inr (.tail _ h)
  ·rcases List.mem_cons.1 h with h | h
   ·exact .inr (h ▸ .head _)
   ·rcases ih h with h | h
    ·exact .inl h
    ·exact .inr (.tail _ h)
theorem mem_adel {k : DV} {es : List (DV × DV)} {e : DV × DV} (h : e ∈ adel k es) : e ∈ es := by
 induction es with
 | nil => exact h
 | cons x r ih =>
  unfold adel at h
  split at h
  ·exact .tail _ h
  ·rcases List.mem_cons.1 h with h | h
   ·exact h ▸ .head _
   ·exact .tail _ (ih h)
theorem fresh_key {rd : Rd} {f : KF} {k : DV} (hh : f.has k = true) {es : List (DV × DV)} {ms : List MapEntry} (hes : ∀ e, e ∈ es -> f.has e.1 = true) (he : RepEnts rd es ms) (hn : ∀ e, e ∈ es -> keyEq k e.1 = false) : ∀ x, x ∈ ms -> x.key ≠ keyV k := by
 intro x hx e
 obtain ⟨y, h1, h2, h3⟩ := he.back hx
 rw [h3, keyV_rep (hes y h1) h2] at e
 have := keyV_inj hh (hes y h1) e.symm
 rw [hn y h1] at this; cases this
theorem told_mapUpdate {t : TypeId} {m k v : Operand} (hT : TabOK P T) (ho : o.op = .mapUpdate t m k v \/ o.op = .insert t m k v) (h : mapUpdateK T t H (ρ m) (ρ k) (ρ v) K) : Told P G o ρ H K := by
 have mm : m ∈ opnds o.op := by rcases ho with ho | ho <;> simp [opnds, ho, Op.operands]
 have mk : k ∈ opnds o.op := by rcases ho with ho | ho <;> simp [opnds, ho, Op.operands]
 have mv : v ∈ opnds o.op := by rcases ho with ho | ho <;> simp [opnds, ho, Op.operands]
 unfold mapUpdateK at h
 split at h
 ·rename_i kt et hk
  have hu := und_map hT hk
  split at h
  ·rename_i f kd hf hkd
   split at h
   ·rename_i vd hvd
    split at h
    ·rename_i hh hsol
     split at h
     ·rename_i b hx
      split at h
      ·rename_i f' es hb
       split at h
       ·rename_i hs
        have := same_eq hs
        subst this
        refine ⟨_, _, _, h, .of fun E H' a w hR _ hop hrd _ => ?_⟩
        have hHb : H' b = .mp f' es := (hrd b (by simp)).trans hb
        have hbr := hR.blk b
        rw [hHb] at hbr
        obtain ⟨r, entries, clock, hp, hl, ht, hw, he, hes, hst⟩ := hbr
        obtain ⟨r', hr', ex⟩ := rep_mp (hx ▸ hop m mm)
        rw [hp] at hr'
        injection hr' with hr' _
        subst hr'
        obtain ⟨cs, hkr, ek, ecs⟩ := rep_key hh (hkd ▸ norm_rep (hop k mk))
        obtain ⟨cv, hvr, evs, ev⟩ := RepV.inv (hvd ▸ norm_rep (hop v mv)) (by rfl : solid (.dv vd) = true)
        have hvr := hvr.dv_inv
        have hent : ∀ born, RepEnt E.rd (kd, vd) { key := keyV kd, val := a.eval v, born := born } := fun born => by
         refine ⟨by rw [← ek, ecs]; exact hkr, ?_, by rw [evs]; exact hvr, ?_⟩
         ·show keyV kd = _
          rw [← ek, ecs, ek]; exact (keyV_rep hh hkr).symm
         ·show a.eval v = _
          rw [evs]; exact ev
        have hes' : ∀ e, e ∈ aset kd vd es -> f'.has e.1 = true := fun e he => by
         rcases mem_aset he with rfl | he
         ·exact hh
         ·exact hes e he
        obtain ⟨rr, aa, h1, h2, h3⟩ := run_findF hT hf w hh hkr he hes
        have hex : ∀ w', (Instr.mapUpdate t (.map (some r)) (keyV kd) (a.eval v)).run P w = .ok () w' -> (execOp a.eval o).run P w = .ok .skip w' := fun w' hrun => by
         rcases ho with ho | ho <;> simp [execOp, ho, ex, ek, hrun]
        cases h1 with
        | no h1 h4 _ hnk =>
         have h3 : aa = none := h3
         subst h3
         refine ⟨undef, _, E, .inr ⟨hex _ ?_, rfl⟩, Step.map (entries' := entries.push { key := keyV kd, val := a.eval v, born := clock }) (clock' := clock + 1) hR (by rw [hHb]; rfl) hp hl ht hw ?_ hes' (MapKept.stamped_push hst (fresh_key hh hes he hnk)) (RepV.any E undef)⟩
         ·simp [Instr.mapUpdate, run_underlying hu, MapKept.run_getObj_map hw, run_checkF hT hf w _ hh hkr, h2, MapKept.run_setObj_map _ hw]
         ·rw [h4 vd, Array.toList_push]
          exact he.push (hent clock)
        | yes j e h1 h4 h5 h6 =>
         obtain ⟨m', h7, h8⟩ := h3
         subst h8
         obtain ⟨m'', h9, h10, h11, _⟩ := he.get h1
         rw [h7] at h9
         cases h9
         have hje := List.mem_of_getElem? h1
         have hkk : m'.key = keyV kd := by
          rw [h11, keyV_rep (hes e hje) h10, keyEq_eq hh (hes e hje) h4]
         have hj : entries[j]? = some m' := by simpa using h7
         refine ⟨undef, _, E, .inr ⟨hex _ ?_, rfl⟩, Step.map (entries' := entries.modify j fun e => { e with key := keyV kd, val := a.eval v }) (clock' := clock) hR (by rw [hHb]; rfl) hp hl ht hw ?_ hes' (MapKept.stamped_modify hst _ _ (fun _ _ => rfl) (fun e' _ he' => by rw [hj] at he'; cases he'; exact hkk.symm)) (RepV.any E undef)⟩
         ·simp [Instr.mapUpdate, run_underlying hu, MapKept.run_getObj_map hw, run_checkF hT hf w _ hh hkr, h2, hj, hkk, run_stays hh, MapKept.run_setObj_map _ hw]
         ·rw [h6 vd, modify_list _ h7]
          exact he.set (hent m'.born)
       ·exact h.elim
      ·exact h.elim
     ·exact h.elim
    ·exact h.elim
   ·exact h.elim
  ·exact h.elim
 ·exact h.elim
theorem told_delete {c : Call} {m k : Operand} (hT : TabOK P T) (ho : o.op = .call c) (hc : c.callee = .builtin .delete) (ha : c.args.toList = [m, k]) (h : deleteK T c.argTypes.toList H (ρ m) (ρ k) K) : Told P G o ρ H K := by
 have mm : m ∈ opnds o.op := by simp [opnds, ho, Op.operands, Call.operands, hc, ha]
 have mk : k ∈ opnds o.op := by simp [opnds, ho, Op.operands, Call.operands, hc, ha]
 have ha' : c.args = #[m, k] := by rw [← Array.toList_inj, ha]
 unfold deleteK at h
 split at h
 ·rename_i t ts hts
  have hts' : c.argTypes[0]? = some t := by
   have : c.argTypes.toList[0]? = some t := by rw [hts]; rfl
   simpa using this
  split at h
  ·rename_i kt et hk
   have hu := und_map hT hk
   split at h
   ·rename_i f kd hf hkd
    split at h
    ·rename_i hh
     split at h
     ·rename_i b hx
      split at h
      ·rename_i f' es hb
       split at h
       ·rename_i hs
        have := same_eq hs
        subst this
        refine ⟨_, _, _, h, .of fun E H' a w hR _ hop hrd _ => ?_⟩
        have hHb : H' b = .mp f' es := (hrd b (by simp)).trans hb
        have hbr := hR.blk b
        rw [hHb] at hbr
        obtain ⟨r, entries, clock, hp, hl, ht, hw, he, hes, hst⟩ := hbr
        obtain ⟨r', hr', ex⟩ := rep_mp (hx ▸ hop m mm)
        rw [hp] at hr'
        injection hr' with hr' _
        subst hr'
        obtain ⟨cs, hkr, ek, ecs⟩ := rep_key hh (hkd ▸ norm_rep (hop k mk))
        have hes' : ∀ e, e ∈ adel kd es -> f'.has e.1 = true := fun e he => hes e (mem_adel he)
        obtain ⟨rr, aa, h1, h2, h3⟩ := run_findF hT hf w hh hkr he hes
        have hex : ∀ w', (Builtin.delete_ c.argTypes o.type #[.map (some r), keyV kd]).run P w = .ok (.tuple #[]) w' -> (execOp a.eval o).run P w = .ok (.value (.tuple #[])) w' := fun w' hrun => by
         refine exec_builtin ho hc ?_
         simp only [builtin, ha', List.map_toArray, List.map_cons, List.map_nil, ex, ek, Sem.run_bind, hrun, Result.andThen_ok]
         rfl
        cases h1 with
        | no h1 h4 h5 =>
         have h3 : aa = none := h3
         subst h3
         refine ⟨_, _, E, .inl (hex _ ?_), Step.map (entries' := entries) (clock' := clock) hR (by rw [hHb]; rfl) hp hl ht hw (by rw [h5]; exact he) hes' hst (RepV.any E _)⟩
         simp [Builtin.delete_, hts', run_underlying hu, MapKept.run_getObj_map hw, run_checkF hT hf w _ hh hkr, h2, MapKept.run_setObj_map _ hw]
        | yes j e h1 h4 h5 h6 h7 =>
         obtain ⟨m', h8, h9⟩ := h3
         subst h9
         refine ⟨_, _, E, .inl (hex _ ?_), Step.map (entries' := entries.eraseIdxIfInBounds j) (clock' := clock) hR (by rw [hHb]; rfl) hp hl ht hw ?_ hes' (MapKept.stamped_erase hst _) (RepV.any E _)⟩
         ·simp [Builtin.delete_, hts', run_underlying hu, MapKept.run_getObj_map hw, run_checkF hT hf w _ hh hkr, h2, MapKept.run_setObj_map _ hw]
         ·have hlt : j < entries.size := by have := (List.getElem?_eq_some_iff.1 h8).1; simpa using this
          rw [h7]
          have : (entries.eraseIdxIfInBounds j).toList = entries.toList.eraseIdx j := by
           simp [Array.eraseIdxIfInBounds, hlt]
          rw [this]
          exact he.erase
       ·exact h.elim
      ·exact h.elim
     ·exact h.elim
    ·exact h.elim
   ·exact h.elim
  ·exact h.elim
 ·exact h.elim
theorem told_makeMap {t : TypeId} {r : Option Operand} {key : Nat} (hkey : H key = .dead) (ho : o.op = .makeMap t r) (h : makeMapK T key t (r.map ρ) K) : Told P G o ρ H K := by
 unfold makeMapK at h
 split at h
 ·rename_i kt et hk hr
  have hr : r = none := by cases r <;> first | rfl | cases hr
  subst hr
  split at h
  ·rename_i f hf
   refine ⟨_, _, _, h, .of fun E H' a w hR _ hop hrd hwr => ?_⟩
   have hk : E.pl key = .unborn := hwr _ (List.mem_cons_self ..) hkey
   refine ⟨.map (some w.heap.size), w.alloc (.map #[] 0), E.birth key w.heap.size 0 .unit 0, .inl ?_, Step.alloc (x := .mp f []) hR hk (.map #[] 0) .unit 0 (Nat.le_refl _) ⟨w.heap.size, #[], 0, if_pos rfl, if_pos rfl, if_pos rfl, (MapKept.heap_alloc w _).1, trivial, (fun _ h => by cases h), MapKept.stamped_empty 0⟩ (.one (.mp key w.heap.size (if_pos rfl) (if_pos rfl)) rfl)⟩
   simp [execOp, ho, Instr.makeMap]
  ·exact h.elim
 ·exact h.elim
theorem told_mapEntry {t : TypeId} {m k : Operand} {key : Nat} (hT : TabOK P T) (hkey : H key = .dead) (ho : o.op = .mapEntry t m k) (h : mapEntryK T key t H (ρ m) (ρ k) K) : Told P G o ρ H K := by
 have mm : m ∈ opnds o.op := by simp [opnds, ho, Op.operands]
 have mk : k ∈ opnds o.op := by simp [opnds, ho, Op.operands]
 unfold mapEntryK at h
 split at h
 ·rename_i kt et hk
  have hu := und_map hT hk
  split at h
  ·rename_i f kd hf hkd
   split at h
   ·rename_i hh hfit
    obtain ⟨_, _, het⟩ := fits_inv hfit
    split at h
    ·rename_i b hx
     split at h
     ·rename_i f' es hb
      split at h
      ·rename_i hs
       have := same_eq hs
       subst this
       cases hl : alook kd es with
       | some v =>
        refine ⟨_, _, _, h.1 v hl, .of fun E H' a w hR _ hop hrd hwr => ?_⟩
        have hku : E.pl key = .unborn := hwr _ (List.mem_cons_self ..) hkey
        have hHb : H' b = .mp f' es := (hrd b (by simp)).trans hb
        have hbr := hR.blk b
        rw [hHb] at hbr
        obtain ⟨r, entries, clock, hp, hl0, ht, hw, he, hes, hst⟩ := hbr
        obtain ⟨r', hr', ex⟩ := rep_mp (hx ▸ hop m mm)
        rw [hp] at hr'
        injection hr' with hr' _
        subst hr'
        obtain ⟨cs, hkr, ek, ecs⟩ := rep_key hh (hkd ▸ norm_rep (hop k mk))
        obtain ⟨rr, aa, h1, h2, h3⟩ := run_findF hT hf w hh hkr he hes
        cases h1 with
        | no h1 => rw [hl] at h1; cases h1
        | yes j e h1 h4 h5 h6 =>
         rw [hl] at h5
         cases h5
         obtain ⟨m', h7, h8⟩ := h3
         subst h8
         obtain ⟨m'', h9, h10, h11, h12, h13⟩ := he.get h1
         rw [h7] at h9
         cases h9
         have hje := List.mem_of_getElem? h1
         have hee := keyEq_eq hh (hes e hje) h4
         have hkk : m'.key = keyV kd := by rw [h11, keyV_rep (hes e hje) h10, hee]
         have hj : entries[j]? = some m' := by simpa using h7
         have hbk : b ≠ key := fun e => by rw [e, hku] at hp; cases hp
         have s1 := Step.note hR hku m'.born
         have hpb : (E.note key m'.born).pl b = .at r 0 := (if_neg hbk).trans hp
         have hHb1 : upds H' [(key, .dead)] b = .mp f' es := (if_neg hbk).trans hHb
         have hents : RepEnts E.rd es ((entries.modify j fun e => { e with key := keyV kd }).toList) := by
          rw [modify_list _ h7]
          have : ({ m' with key := keyV kd } : MapEntry) = m' := by rw [← hkk]
          rw [this, set_self h7]; exact he
         have s2 := Step.mapx (x := .mpn f' es kd key) (v := .tup [.dv e.2, .stamp key]) (u := .tuple #[m'.val, goInt m'.born]) s1.rel (b := b) (r := r) (by rw [hHb1]; rfl) hpb hw (entries.modify j fun e => { e with key := keyV kd }) clock
          ⟨if_pos rfl, r, _, clock, hpb, hl0, (if_neg hbk).trans ht, (MapKept.heap_set hw).1, hents, hes, MapKept.stamped_modify hst _ _ (fun _ _ => rfl) (fun e' _ he' => by rw [hj] at he'; cases he'; exact hkk.symm),
           j, e.2, m', by rw [h1, hee], by
            rw [modify_list _ h7]
            have : ({ m' with key := keyV kd } : MapEntry) = m' := by rw [← hkk]
            rw [this, set_self h7]; exact h7, (if_pos rfl).symm⟩
          (by
           refine .one (v := _) (?_ : RepA _ (.tup [.dv e.2, .stamp key]) [_]) rfl
           have := RepA.tup (E := E.note key m'.born) [.dv e.2, .stamp key] [m'.val.cells.toList, [.int .i64 m'.born]] rfl (fun i hi => by
            match i, hi with
            | 0, _ => exact .dv h12
            | 1, _ => exact .stamp key _ (if_pos rfl) (if_pos rfl))
           have e3 : ofCells (AV.dv e.2).isAgg m'.val.cells.toList = m'.val := h13.symm
           simp only [List.zip_cons_cons, List.zip_nil_right, List.map_cons, List.map_nil, e3] at this
           exact this)
         refine ⟨_, _, _, .inl ?_, Step.trans hR s1 s2⟩
         simp [execOp, ho, ex, ek, Instr.mapEntry, run_underlying hu, MapKept.run_getObj_map hw, run_checkF hT hf w _ hh hkr, h2, hj, hkk, run_stays hh, MapKept.run_setObj_map _ hw]
       | none =>
        refine ⟨_, _, _, h.2 hl, .of fun E H' a w hR _ hop hrd hwr => ?_⟩
        have hku : E.pl key = .unborn := hwr _ (List.mem_cons_self ..) hkey
        have hHb : H' b = .mp f' es := (hrd b (by simp)).trans hb
        have hbr := hR.blk b
        rw [hHb] at hbr
        obtain ⟨r, entries, clock, hp, hl0, ht, hw, he, hes, hst⟩ := hbr
        obtain ⟨r', hr', ex⟩ := rep_mp (hx ▸ hop m mm)
        rw [hp] at hr'
        injection hr' with hr' _
        subst hr'
        obtain ⟨cs, hkr, ek, ecs⟩ := rep_key hh (hkd ▸ norm_rep (hop k mk))
        obtain ⟨rr, aa, h1, h2, h3⟩ := run_findF hT hf w hh hkr he hes
        cases h1 with
        | yes j e h1 h4 h5 => rw [hl] at h5; cases h5
        | no h1 h4 _ hnk =>
         have h3 : aa = none := h3
         subst h3
         obtain ⟨cz, hz, hzr⟩ := zero_cells hT het w E.rd
         have hzv : ∃ z, (zeroValue et).run P w = .ok z w /\ RepD E.rd (T.get et).zero z.cells.toList /\ z = ofCells (T.get et).zero.lay.isAgg z.cells.toList := by
          refine ⟨_, hzr, ?_, ?_⟩
          ·obtain ⟨cs', g1, g2, g3⟩ := RepV.inv (E := E) (.of (.dv hz) rfl) (by rfl : solid (.dv (T.get et).zero) = true)
           rw [show ofCells (T.get et).zero.lay.isAgg cz = ofCells (AV.dv (T.get et).zero).isAgg cz from rfl, g2]; exact g1.dv_inv
          ·obtain ⟨cs', g1, g2, g3⟩ := RepV.inv (E := E) (.of (.dv hz) rfl) (by rfl : solid (.dv (T.get et).zero) = true)
           have g3 : ofCells (T.get et).zero.lay.isAgg cz = ofCells (T.get et).zero.lay.isAgg cs' := g3
           have g2 : (ofCells (T.get et).zero.lay.isAgg cz).cells.toList = cs' := g2
           rw [g2]; exact g3
         obtain ⟨z, hz1, hz2, hz3⟩ := hzv
         have hbk : b ≠ key := fun e => by rw [e, hku] at hp; cases hp
         have s1 := Step.note hR hku clock
         have hpb : (E.note key clock).pl b = .at r 0 := (if_neg hbk).trans hp
         have hHb1 : upds H' [(key, .dead)] b = .mp f' es := (if_neg hbk).trans hHb
         have hent : RepEnt E.rd (kd, (T.get et).zero) { key := keyV kd, val := z, born := clock } := by
          refine ⟨by rw [← ek, ecs]; exact hkr, ?_, hz2, hz3⟩
          show keyV kd = _
          rw [← ek, ecs, ek]; exact (keyV_rep hh hkr).symm
         have hents : RepEnts E.rd (aset kd (T.get et).zero es) (entries.push { key := keyV kd, val := z, born := clock }).toList := by
          rw [h4, Array.toList_push]; exact he.push hent
         have hlen := he.len
         have s2 := Step.mapx (x := .mpn f' (aset kd (T.get et).zero es) kd key) (v := .tup [.dv (T.get et).zero, .stamp key]) (u := .tuple #[z, goInt clock]) s1.rel (b := b) (r := r) (by rw [hHb1]; rfl) hpb hw (entries.push { key := keyV kd, val := z, born := clock }) (clock + 1)
          ⟨if_pos rfl, r, _, _, hpb, hl0, (if_neg hbk).trans ht, (MapKept.heap_set hw).1, hents, (fun e he => by
           rcases mem_aset he with rfl | he
           ·exact hh
           ·exact hes e he), MapKept.stamped_push hst (fresh_key hh hes he hnk),
           es.length, (T.get et).zero, { key := keyV kd, val := z, born := clock }, by rw [h4]; simp, by rw [Array.toList_push, hlen]; simp, (if_pos rfl).symm⟩
          (by
           refine .one (v := _) (?_ : RepA _ (.tup [.dv (T.get et).zero, .stamp key]) [_]) rfl
           have := RepA.tup (E := E.note key clock) [.dv (T.get et).zero, .stamp key] [z.cells.toList, [.int .i64 clock]] rfl (fun i hi => by
            match i, hi with
            | 0, _ => exact .dv hz2
            | 1, _ => exact .stamp key _ (if_pos rfl) (if_pos rfl))
           have e3 : ofCells (AV.dv (T.get et).zero).isAgg z.cells.toList = z := hz3.symm
           simp only [List.zip_cons_cons, List.zip_nil_right, List.map_cons, List.map_nil, e3] at this
           exact this)
         refine ⟨_, _, _, .inl ?_, Step.trans hR s1 s2⟩
         simp [execOp, ho, ex, ek, Instr.mapEntry, run_underlying hu, MapKept.run_getObj_map hw, run_checkF hT hf w _ hh hkr, h2, hz1, MapKept.run_setObj_map _ hw]
      ·exact h.elim
     ·exact h.elim
    ·exact h.elim
   ·exact h.elim
  ·exact h.elim
 ·exact h.elim
theorem aset_at {k v : DV} {f : KF} (hh : f.has k = true) {rd : Rd} : ∀ {es : List (DV × DV)} {ms : List MapEntry}, RepEnts rd es ms -> (∀ e, e ∈ es -> f.has e.1 = true) -> (ms.map (·.key)).Nodup -> ∀ {j : Nat} {u : DV}, es[j]? = some (k, u) -> aset k v es = es.set j (k, v)
 | [], [], _, _, _, j, u, h => by simp at h
 | e :: es, m :: ms, h, hes, hn, j, u, hj => by
  have hkk : keyEq k k = true := keyV_inj hh hh rfl
  cases j with
  | zero =>
   simp at hj
   subst hj
   simp only [aset, hkk]; rfl
  | succ j =>
   have hj : es[j]? = some (k, u) := by simpa using hj
   have hne : keyEq k e.1 = false := by
    cases hb : keyEq k e.1 with
    | false => rfl
    | true =>
     exfalso
     have := keyEq_eq hh (hes e (.head _)) hb
     obtain ⟨m', h1, h2, h3, _⟩ := h.2.get hj
     have hm : m.key = m'.key := by rw [h.1.2.1, keyV_rep (hes e (.head _)) h.1.1, h3, keyV_rep hh h2, this]
     rw [List.map_cons, List.nodup_cons] at hn
     exact hn.1 (by rw [hm]; exact List.mem_map.2 ⟨m', List.mem_of_getElem? h1, rfl⟩)
   rw [List.map_cons, List.nodup_cons] at hn
   have ih := aset_at (v := v) hh h.2 (fun e he => hes e (.tail _ he)) hn.2 hj
   simp only [aset, hne, ih]; rfl
 | [], _ :: _, h, _, _, _, _, _ => h.elim
 | _ :: _, [], h, _, _, _, _, _ => h.elim
theorem findIdx_born {ms : List MapEntry} {j : Nat} {m : MapEntry} (hn : (ms.map (·.born)).Nodup) (hj : ms[j]? = some m) : ms.findIdx? (fun e => (e.born : Int) == (m.born : Int)) = some j := by
 induction ms generalizing j with
 | nil => simp at hj
 | cons x r ih =>
  rw [List.map_cons, List.nodup_cons] at hn
  cases j with
  | zero => simp at hj; subst hj; simp [List.findIdx?_cons]
  | succ j =>
   have hj : r[j]? = some m := by simpa using hj
   have hne : x.born ≠ m.born := fun e => hn.1 (by rw [e]; exact List.mem_map.2 ⟨m, List.mem_of_getElem? hj, rfl⟩)
   have : ((x.born : Int) == (m.born : Int)) = false := by rw [beq_eq_false_iff_ne]; omega
   simp [List.findIdx?_cons, this, ih hn.2 hj]
theorem rep_stamp {E : Env} {b : Nat} {v : Value} (h : RepV E (.stamp b) v) : v = .int .i64 (E.top b) := by
 rcases h with h | ⟨cs, h, e⟩
 ·cases h
 ·cases h with
  | stamp b n hp ht => rw [ht]; exact e
theorem told_entryStore {t : TypeId} {m s v : Operand} (ho : o.op = .entryStore t m s v) (h : entryStoreK T t H (ρ m) (ρ s) (ρ v) K) : Told P G o ρ H K := by
 have mm : m ∈ opnds o.op := by simp [opnds, ho, Op.operands]
 have ms : s ∈ opnds o.op := by simp [opnds, ho, Op.operands]
 have mv : v ∈ opnds o.op := by simp [opnds, ho, Op.operands]
 unfold entryStoreK at h
 split at h
 ·rename_i kt et hk
  split at h
  ·rename_i vd hvd
   split at h
   ·rename_i hsol
    split at h
    ·rename_i b hx
     split at h
     ·rename_i f es kd c hb
      split at h
      ·rename_i c' hc
       split at h
       ·rename_i hcc
        have := Nat.eq_of_beq_eq_true hcc
        subst this
        refine ⟨_, _, _, h, .of fun E H' a w hR _ hop hrd hwr => ?_⟩
        have hHb : H' b = .mpn f es kd c := (hrd b (by simp)).trans hb
        have hbr := hR.blk b
        rw [hHb] at hbr
        obtain ⟨hpc, r, entries, clock, hp, hl, ht, hw, he, hes, hst, j, u, m', h1, h2, h3⟩ := hbr
        obtain ⟨r', hr', ex⟩ := rep_mp (hx ▸ hop m mm)
        rw [hp] at hr'
        injection hr' with hr' _
        subst hr'
        have es' := rep_stamp (hc ▸ hop s ms)
        obtain ⟨cv, hvr, evs, ev⟩ := RepV.inv (hvd ▸ norm_rep (hop v mv)) (by rfl : solid (.dv vd) = true)
        have hvr := hvr.dv_inv
        have hj : entries[j]? = some m' := by simpa using h2
        have hkh := hes _ (List.mem_of_getElem? h1)
        have hset := aset_at (v := vd) hkh he hes hst.2.2 h1
        obtain ⟨m'', h4, h5, h6, h7, h8⟩ := he.get h1
        rw [h2] at h4
        cases h4
        have hfind : entries.findIdx? (fun e => (e.born : Int) == (m'.born : Int)) = some j := by
         have := findIdx_born hst.2.1 h2
         rw [← this]
         obtain ⟨l⟩ := entries
         simp
        refine ⟨undef, _, E, .inr ⟨?_, rfl⟩, Step.map (entries' := entries.modify j fun e => { e with val := a.eval v }) (clock' := clock) hR (by rw [hHb]; rfl) hp hl ht hw ?_ (fun e he => ?_) (MapKept.stamped_modify hst _ _ (fun _ _ => rfl) (fun _ _ _ => rfl)) (RepV.any E undef)⟩
        ·rw [← h3] at es'
         simp [execOp, ho, ex, es', Instr.entryStore, MapKept.run_getObj_map hw, asInt, asIntOf, hfind, MapKept.run_setObj_map _ hw]
        ·rw [hset, modify_list _ h2]
         refine he.set (e := (kd, vd)) (m := { m' with val := a.eval v }) ⟨h5, h6, by rw [evs]; exact hvr, ?_⟩
         show a.eval v = _
         rw [evs]; exact ev
        ·rcases mem_aset he with rfl | he
         ·exact hkh
         ·exact hes e he
       ·exact h.elim
      ·exact h.elim
     ·exact h.elim
    ·exact h.elim
   ·exact h.elim
  ·exact h.elim
 ·exact h.elim
end
end Go.Eng

namespace Go.Eng
section
variable {P : Program} {G : Glob} {T : Tr} {o : Oper} {ρ : Operand -> AV} {H : Nat -> Blk} {K : Cont}
theorem told_op (hT : TabOK P T) {key : Nat} (hkey : H key = .dead) (h : opK P G T key o.op ρ H K) : Told P G o ρ H K := by
 generalize ho : o.op = op at h
 unfold opK at h
 split at h
 ·exact told_move (.inl ho) h
 ·exact told_move (.inr ho) h
 ·exact told_pick ho h
 ·exact told_alloc hkey hT ho h
 ·exact told_box hkey ho h
 ·exact told_build hT ho h
 ·exact told_buildSlice hT ho hkey h
 ·exact told_load hT ho h
 ·exact told_store hT ho h
 ·exact told_nilCheck ho h
 ·exact told_bin hT ho h
 ·exact told_un ho h
 ·exact told_convert hkey hT ho h
 ·exact told_makeSlice hT ho hkey h
 ·exact told_slice hT ho h
 ·exact told_fieldAddr hT ho h
 ·exact told_field hT ho h
 ·exact told_indexAddr hT ho h
 ·exact told_index hT ho h
 ·exact told_extract ho h
 ·rename_i c
  unfold callK at h
  split at h
  ·rename_i g hc
   split at h
   ·rename_i f caps hg
    exact told_callFn ho hc hg h
   ·exact h.elim
  ·rename_i hc
   split at h
   ·rename_i x t hx ht
    exact told_len hT ho hc hx ht h
   ·exact h.elim
  ·rename_i hc
   split at h
   ·rename_i s x hx
    split at h
    ·rename_i t t2 hts
     split at h
     ·rename_i hi; exact told_appendZ hT hkey ho hc hx hts hi h
     ·exact told_append hT hkey ho hc hx h
    ·exact h.elim
   ·exact h.elim
  ·rename_i hc
   split at h
   ·rename_i m k hx
    exact told_delete hT ho hc hx h
   ·exact h.elim
  ·rename_i hc
   split at h
   ·rename_i x y hx
    exact told_min ho hc hx h
   ·exact h.elim
  ·rename_i hc
   split at h
   ·rename_i x t hx ht
    exact told_cap hT ho hc hx ht h
   ·exact h.elim
  ·rename_i hc
   split at h
   ·rename_i s x hx
    exact told_copy hT ho hc hx h
   ·exact h.elim
  ·exact h.elim
 ·split at h
  ·exact told_makeFunc ho h
  ·exact h.elim
 ·exact told_makeMap hkey ho h
 ·exact told_lookup hT ho h
 ·exact told_mapUpdate hT (.inl ho) h
 ·exact told_mapUpdate hT (.inr ho) h
 ·exact told_mapEntry hT hkey ho h
 ·exact told_entryStore ho h
 ·exact told_arrayPtr hT ho h
 ·exact h.elim
end
end Go.Eng

namespace Go.Eng
def SameB (x y : Blk) : Prop := y = x \/ ∃ la n f g, x = .row la n f /\ y = .row la n g /\ ∀ j, j < n -> g j = f j
theorem SameB.own {x y : Blk} (h : SameB x y) : y.own = x.own := by
 rcases h with rfl | ⟨la, n, f, g, rfl, rfl, _⟩ <;> rfl
theorem SameB.dead {x y : Blk} (h : SameB x y) : x = .dead -> y = .dead := by
 rintro rfl
 rcases h with rfl | ⟨la, n, f, g, h, _⟩
 ·rfl
 ·cases h
theorem SameB.rel {x y : Blk} (h : SameB x y) {E : Env} {b : Nat} {w : World} (hr : BlkRel E b w x) : BlkRel E b w y := by
 rcases h with rfl | ⟨la, n, f, g, rfl, rfl, hfg⟩
 ·exact hr
 ·obtain ⟨hl, h | ⟨r, o, css, hp, hf, hfl, hrs, hm⟩⟩ := hr
  ·exact ⟨hl, .inl h⟩
  ·exact ⟨hl, .inr ⟨r, o, css, hp, fun i hi => by rw [hfg i hi]; exact hf i hi, fun i hi => by rw [hfg i hi]; exact hfl i hi, hrs, hm⟩⟩
def SameW : List (Nat × Blk) -> List (Nat × Blk) -> Prop
 | [], [] => True
 | (b, x) :: r, (b', y) :: r' => (b = b' /\ SameB x y) /\ SameW r r'
 | _, _ => False
theorem SameW.ids : ∀ {wr wr' : List (Nat × Blk)}, SameW wr wr' -> wr'.map (·.1) = wr.map (·.1)
 | [], [], _ => rfl
 | (b, x) :: r, (b', y) :: r', h => by
  obtain ⟨⟨rfl, _⟩, h⟩ := h
  simp [SameW.ids h]
 | [], _ :: _, h => h.elim
 | _ :: _, [], h => h.elim
theorem SameW.upds : ∀ {wr wr' : List (Nat × Blk)} {H H' : Nat -> Blk}, SameW wr wr' -> (∀ b, SameB (H b) (H' b)) -> ∀ b, SameB (upds H wr b) (upds H' wr' b)
 | [], [], _, _, _, h => h
 | (b, x) :: r, (b', y) :: r', H, H', h, hh => by
  obtain ⟨⟨rfl, hx⟩, h⟩ := h
  refine SameW.upds (wr := r) (wr' := r') (H := upd1 H b x) (H' := upd1 H' b y) h fun c => ?_
  unfold upd1
  split
  ·exact hx
  ·exact hh c
 | [], _ :: _, _, _, h, _ => h.elim
 | _ :: _, [], _, _, h, _ => h.elim
theorem SameW.mem : ∀ {wr wr' : List (Nat × Blk)}, SameW wr wr' -> ∀ y, y ∈ wr' -> ∃ x, x ∈ wr /\ x.1 = y.1
 | wr, wr', h, y, hy => by
  have : y.1 ∈ wr'.map (·.1) := List.mem_map.2 ⟨y, hy, rfl⟩
  rw [h.ids] at this
  obtain ⟨x, hx, e⟩ := List.mem_map.1 this
  exact ⟨x, hx, e⟩
def SameV (x y : AV) : Prop := ∀ E v, RepV E x v -> RepV E y v
theorem Step.retell {E E' : Env} {H : Nat -> Blk} {w w' : World} {wr wr' : List (Nat × Blk)} {x y : AV} {v : Value} (h : Step E H w wr x v E' w') (hw : SameW wr wr') (hv : SameV x y) : Step E H w wr' y v E' w' := by
 have hs := hw.upds (H := H) (H' := H) (fun _ => .inl rfl)
 have ho : ∀ b, (upds H wr' b).own = (upds H wr b).own := fun b => (hs b).own
 have hids := hw.ids
 refine ⟨hv _ _ h.val, ⟨h.rel.rd, fun b => (hs b).rel (h.rel.blk b), fun b b' r o r' o' hb h1 h2 => h.rel.sep b b' r o r' o' hb (by rw [← ho]; exact h1) (by rw [← ho]; exact h2), fun b r o j u h1 => h.rel.apart b r o j u (by rw [← ho]; exact h1), h.rel.old, fun b hb => (hs b).dead (h.rel.born b hb), h.rel.fit, h.rel.fx, fun b r o ob h1 => h.rel.fxa b r o ob (by rw [← ho]; exact h1)⟩, h.ext, h.mem, fun b h1 h2 => by rw [hids]; exact h.born b h1 h2, fun b hb => h.live b (by rw [← ho]; exact hb), fun b r o h1 h2 h3 => h.others b r o h1 h2 (by rw [← hids]; exact h3)⟩
theorem hintB_inv {m : Nat} {x : Blk} {K : Blk -> Prop} (h : hintB m x K) : ∃ y, SameB x y /\ K y := by
 unfold hintB at h
 split at h
 ·exact ⟨x, .inl rfl, h⟩
 ·split at h
  ·obtain ⟨n', g, ⟨rfl, hg⟩, h⟩ := h
   exact ⟨_, .inr ⟨_, _, _, _, rfl, rfl, hg⟩, h⟩
  ·split at h
   ·exact ⟨_, .inl rfl, h⟩
   ·obtain ⟨l', rfl, h⟩ := h
    exact ⟨_, .inl rfl, h⟩
  ·obtain ⟨l', rfl, h⟩ := h
   exact ⟨_, .inl rfl, h⟩
  ·obtain ⟨l', rfl, h⟩ := h
   exact ⟨_, .inl rfl, h⟩
  ·exact ⟨_, .inl rfl, h⟩
theorem hintW_inv {m : Nat} : ∀ {wr : List (Nat × Blk)} {K : List (Nat × Blk) -> Prop}, hintW m wr K -> ∃ wr', SameW wr wr' /\ K wr'
 | [], K, h => ⟨[], trivial, h⟩
 | (b, x) :: r, K, h => by
  obtain ⟨y, hy, h⟩ := hintB_inv h
  obtain ⟨r', hr, h⟩ := hintW_inv h
  exact ⟨(b, y) :: r', ⟨⟨rfl, hy⟩, hr⟩, h⟩
theorem hintV_inv {m : Nat} {x : AV} {K : AV -> Prop} (h : hintV m x K) : ∃ y, SameV x y /\ K y := by
 have triv : ∀ x, SameV x x := fun _ _ _ h => h
 unfold hintV at h
 split at h
 ·split at h
  ·obtain ⟨o', l', ⟨rfl, rfl⟩, h⟩ := h
   exact ⟨_, triv _, h⟩
  ·split at h
   ·obtain ⟨l', rfl, h⟩ := h
    exact ⟨_, triv _, h⟩
   ·obtain ⟨l', rfl, h⟩ := h
    exact ⟨_, triv _, h⟩
   ·obtain ⟨n', g, ⟨rfl, hg⟩, h⟩ := h
    exact ⟨_, fun E v hv => ro_rep hv hg, h⟩
   ·exact ⟨_, triv _, h⟩
  ·exact ⟨_, triv _, h⟩
 ·exact ⟨_, triv _, h⟩
theorem OpEff.retell {P : Program} {G : Glob} {o : Oper} {ρ : Operand -> AV} {H : Nat -> Blk} {rd : List Nat} {wr wr' : List (Nat × Blk)} {x y : AV} (h : OpEff P G o ρ H rd wr x) (hw : SameW wr wr') (hv : SameV x y) : OpEff P G o ρ H rd wr' y :=
 fun E H' a w hR hG hop hrd hwr next Q hn => h E H' a w hR hG hop hrd (fun z hz hd => by
  have hm : z.1 ∈ wr'.map (·.1) := by rw [hw.ids]; exact List.mem_map.2 ⟨z, hz, rfl⟩
  obtain ⟨z', hz', e⟩ := List.mem_map.1 hm
  rw [← e] at hd ⊢
  exact hwr z' hz' hd) next Q fun u E' w' hst => hn u E' w' (hst.retell hw hv)
theorem upds_at {b : Nat} : ∀ {wr : List (Nat × Blk)} {H H' : Nat -> Blk}, H b = H' b -> upds H wr b = upds H' wr b
 | [], _, _, h => h
 | (c, x) :: r, H, H', h => upds_at (wr := r) (H := upd1 H c x) (H' := upd1 H' c x) (by unfold upd1; split; rfl; exact h)
theorem shutK_inv {P : Program} {G : Glob} {o : Oper} {ρ : Operand -> AV} {H : Nat -> Blk} {m : Bool} {rd : List Nat} {wr : List (Nat × Blk)} {v : AV} {K : Cont} (h : shutK m H rd wr v K) (heff : OpEff P G o ρ H rd wr v) : ∃ rd' wr' v', K rd' wr' v' /\ OpEff P G o ρ H rd' wr' v' := by
 unfold shutK at h
 split at h
 ·split at h
  ·rcases h with h | h
   ·exact ⟨_, _, _, h, heff⟩
   ·obtain ⟨rd2, wr2, d, h, hwr2, hrun⟩ := freeze_run h
    obtain ⟨y, hy, h⟩ := hintV_inv h
    refine ⟨_, _, _, h, fun E H' a w hR hG hop hrd hwr next Q hn => ?_⟩
    refine heff E H' a w hR hG hop (fun b hb => hrd b (List.mem_append_left _ hb)) (fun x hx hd => hwr x (List.mem_append_left _ hx) hd) next Q fun u E' w' hst => ?_
    obtain ⟨E2, hst2, hrep, hu⟩ := hrun E' (upds H' wr) w' u hst.rel (fun b hb => by rw [updB_eq]; exact upds_at (hrd b (List.mem_append_right _ hb))) hst.val
    exact hn u E2 w' ((hst.trans hR hst2).free (hy _ _ (.of (.dv hrep) hu)))
  ·exact ⟨_, _, _, h, heff⟩
 ·exact ⟨_, _, _, h, heff⟩
theorem opK_defer {P : Program} {G : Glob} {T : Tr} {key : Nat} {o : Op} {ρ : Operand -> AV} {H : Nat -> Blk} {K : Cont} (h : opK P G T key o ρ H K) : ∀ c, o ≠ .defer c := by
 rintro c rfl
 exact h.elim
end Go.Eng

namespace Go.Eng
theorem forceV_eq (v : Value) (K : Value -> Prop) : forceV v K = K v := by cases v <;> rfl
theorem forceD_eq : (d : DV) -> (K : DV -> Prop) -> forceD d K = K d
 | .sc v, K => forceV_eq v _
 | .bl _, _ => rfl
 | .str _, _ => rfl
 | .ints _ _ _, _ => rfl
 | .nil, _ => rfl
 | .cons d ds, K => (forceD_eq d _).trans (forceD_eq ds _)
 | .fam _ _ _, _ => rfl
 | .roI _ _, _ => rfl
 | .ro _ _ _, _ => rfl
theorem forceL_eq : (x : Lay) -> (K : Lay -> Prop) -> forceL x K = K x
 | .one, _ => rfl
 | .unit, _ => rfl
 | .pair a b, _ => (forceL_eq a _).trans (forceL_eq b _)
 | .arr _ l, _ => forceL_eq l _
theorem forceA_eq : (x : AV) -> (K : AV -> Prop) -> forceA x K = K x
 | .any, _ => rfl
 | .dv d, _ => forceD_eq d _
 | .cons x xs, _ => (forceA_eq x _).trans (forceA_eq xs _)
 | .ptr _ _ l, _ => forceL_eq l _
 | .rp d, _ => forceD_eq d _
 | .sl _ _ l _ _, _ => forceL_eq l _
 | .fn _ _, _ => rfl
 | .tup _, _ => rfl
 | .mp _, _ => rfl
 | .stamp _, _ => rfl
 | .yld _, _ => rfl
 | .vs _ _ _, _ => rfl
 | .slc _ _ _ _, _ => rfl
 | .emp, _ => rfl
 | .nq _ _, _ => rfl
 | .ifc _ x, _ => forceA_eq x _
theorem forceB_eq (x : Blk) (K : Blk -> Prop) : forceB x K = K x := by
 cases x <;> first | rfl | exact forceA_eq _ _
theorem setK_inv {α : Type} : ∀ {l : List α} {i : Nat} {y : α} {K : List α -> Prop}, setK l i y K -> i < l.length /\ K (l.set i y)
 | [], _, _, _, h => h.elim
 | x :: r, 0, y, K, h => ⟨by simp, h⟩
 | x :: r, i + 1, y, K, h => by
  obtain ⟨h1, h2⟩ := setK_inv (l := r) (i := i) h
  exact ⟨by simp; omega, h2⟩
theorem hOf_cons (x : Blk) (r : List Blk) (c : Nat) : hOf (x :: r) c = match c with | 0 => x | c + 1 => hOf r c := by
 cases c <;> simp [hOf]
theorem padK_inv : ∀ {bs : List Blk} {i : Nat} {y : Blk} {K : List Blk -> Prop}, padK bs i y K -> ∃ bs', K bs' /\ bs'.length = max bs.length (i + 1) /\ ∀ c, hOf bs' c = if c = i then y else hOf bs c
 | [], 0, y, K, h => ⟨[y], h, rfl, fun c => by cases c <;> simp [hOf]⟩
 | [], i + 1, y, K, h => by
  obtain ⟨bs', hK, hl, hc⟩ := padK_inv (bs := []) (i := i) h
  refine ⟨_, hK, by simp [hl], fun c => ?_⟩
  rw [hOf_cons]
  cases c with
  | zero => simp [hOf]
  | succ c => simp only [hc]; simp [hOf]
 | x :: r, 0, y, K, h => ⟨y :: r, h, by simp, fun c => by rw [hOf_cons, hOf_cons]; cases c <;> simp⟩
 | x :: r, i + 1, y, K, h => by
  obtain ⟨bs', hK, hl, hc⟩ := padK_inv (bs := r) (i := i) h
  refine ⟨_, hK, by simp [hl], fun c => ?_⟩
  rw [hOf_cons, hOf_cons]
  cases c with
  | zero => simp
  | succ c => simp only [hc]; simp
theorem wrK_inv : ∀ {wr : List (Nat × Blk)} {bs : List Blk} {K : List Blk -> Prop}, wrK bs wr K -> ∃ bs', K bs' /\ hOf bs' = upds (hOf bs) wr /\ bs.length ≤ bs'.length /\ ∀ x, x ∈ wr -> x.1 < bs'.length
 | [], bs, K, h => ⟨bs, h, rfl, Nat.le_refl _, fun x hx => by cases hx⟩
 | (i, b) :: r, bs, K, h => by
  simp only [wrK, forceB_eq] at h
  obtain ⟨bs1, h1, hl, hc⟩ := padK_inv h
  obtain ⟨bs', hK, hH, hl2, hin⟩ := wrK_inv h1
  refine ⟨bs', hK, ?_, by omega, fun x hx => ?_⟩
  ·rw [hH]
   show _ = upds (upd1 (hOf bs) i b) r
   congr 1
   funext c
   rw [hc]; rfl
  ·rcases List.mem_cons.1 hx with e | hx
   ·subst e; simp only; omega
   ·exact hin x hx
structure Ent where
 o : Oper
 run : Option (List Nat × List (Nat × Blk) × AV)
def Ent.val (e : Ent) : AV := match e.run with | some (_, _, v) => v | none => .tup []
theorem undef_rep (E : Env) : RepV E (.tup []) undef := .one (.tup [] [] rfl fun i h => absurd h (Nat.not_lt_zero _)) rfl
theorem rep_undef {E : Env} {u : Value} (h : RepV E (.tup []) u) : u = undef := by
 rcases h with h | ⟨cs, h, e⟩
 ·cases h
 ·cases h with
  | tup xs css hlen _ =>
   obtain rfl : css = [] := List.eq_nil_of_length_eq_zero hlen
   exact e
def Ent.wr (e : Ent) : List (Nat × Blk) := match e.run with | some (_, wr, _) => wr | none => []
def Ent.foot (e : Ent) : Foot := match e.run with | some (rd, wr, _) => (rd, wr.map Prod.fst) | none => ([], [])
def tval : List Ent -> Nat -> (Nat -> Bool) -> Nat -> AV -> AV
 | [], _, _, _, x => x
 | e :: es, i, D, t, x => tval es (i + 1) D t (if D i = true /\ e.o.dst = some t then e.val else x)
def bval : List Ent -> Nat -> (Nat -> Bool) -> (Nat -> Blk) -> (Nat -> Blk)
 | [], _, _, H => H
 | e :: es, i, D, H => bval es (i + 1) D (if D i = true then upds H e.wr else H)
theorem tval_congr {D D' : Nat -> Bool} {t : Nat} : ∀ {es : List Ent} {i : Nat} {x : AV}, (∀ j e, es[j]? = some e -> e.o.dst = some t -> D (i + j) = D' (i + j)) -> tval es i D t x = tval es i D' t x
 | [], _, _, _ => rfl
 | e :: es, i, x, h => by
  have h0 : (if D i = true /\ e.o.dst = some t then e.val else x) = (if D' i = true /\ e.o.dst = some t then e.val else x) := by
   by_cases hd : e.o.dst = some t
   ·have := h 0 e rfl hd
    simp only [Nat.add_zero] at this
    rw [this]
   ·rw [if_neg fun h => hd h.2, if_neg fun h => hd h.2]
  simp only [tval, h0]
  exact tval_congr fun j e' hj hd => by
   have := h (j + 1) e' (by simpa using hj) hd
   rw [show i + 1 + j = i + (j + 1) from by omega]; exact this
theorem bval_congr {D D' : Nat -> Bool} {b : Nat} : ∀ {es : List Ent} {i : Nat} {H H' : Nat -> Blk}, H b = H' b -> (∀ j e, es[j]? = some e -> b ∈ e.wr.map (·.1) -> D (i + j) = D' (i + j)) -> bval es i D H b = bval es i D' H' b
 | [], _, _, _, hH, _ => hH
 | e :: es, i, H, H', hH, h => by
  show bval es (i + 1) D _ b = bval es (i + 1) D' _ b
  refine bval_congr ?_ fun j e' hj hd => ?_
  ·by_cases hm : b ∈ e.wr.map (·.1)
   ·have := h 0 e rfl hm
    simp only [Nat.add_zero] at this
    rw [this]
    split
    ·obtain ⟨x, _, he⟩ := upds_in hm
     rw [he, he]
    ·exact hH
   ·have hu : ∀ H : Nat -> Blk, upds H e.wr b = H b := fun H => upds_notin fun z hz e' => hm (List.mem_map.2 ⟨z, hz, e'⟩)
    have hq : ∀ (c : Bool) (H : Nat -> Blk), (if c = true then upds H e.wr else H) b = H b := fun c H => by
     split
     ·exact hu H
     ·rfl
    rw [hq, hq]; exact hH
  ·have := h (j + 1) e' (by simpa using hj) hd
   rw [show i + 1 + j = i + (j + 1) from by omega]; exact this
theorem tval_append {D : Nat -> Bool} {t : Nat} : ∀ {es es' : List Ent} {i : Nat} {x : AV}, tval (es ++ es') i D t x = tval es' (i + es.length) D t (tval es i D t x)
 | [], es', i, x => rfl
 | e :: es, es', i, x => by
  show tval (es ++ es') (i + 1) D t _ = _
  rw [tval_append]
  simp only [List.length_cons, tval]
  rw [show i + 1 + es.length = i + (es.length + 1) from by omega]
theorem bval_append {D : Nat -> Bool} : ∀ {es es' : List Ent} {i : Nat} {H : Nat -> Blk}, bval (es ++ es') i D H = bval es' (i + es.length) D (bval es i D H)
 | [], es', i, x => rfl
 | e :: es, es', i, x => by
  show bval (es ++ es') (i + 1) D _ = _
  rw [bval_append]
  simp only [List.length_cons, bval]
  rw [show i + 1 + es.length = i + (es.length + 1) from by omega]
theorem tval_off {D : Nat -> Bool} {t : Nat} : ∀ {es : List Ent} {i : Nat} {x : AV}, (∀ j, i ≤ j -> D j = false) -> tval es i D t x = x
 | [], _, _, _ => rfl
 | e :: es, i, x, h => by
  have : (if D i = true /\ e.o.dst = some t then e.val else x) = x := by rw [h i (Nat.le_refl _), if_neg]; rintro ⟨h, _⟩; cases h
  simp only [tval, this]
  exact tval_off fun j hj => h j (by omega)
theorem bval_off {D : Nat -> Bool} : ∀ {es : List Ent} {i : Nat} {H : Nat -> Blk}, (∀ j, i ≤ j -> D j = false) -> bval es i D H = H
 | [], _, _, _ => rfl
 | e :: es, i, x, h => by
  have : (if D i = true then upds x e.wr else x) = x := by rw [h i (Nat.le_refl _), if_neg]; intro h; cases h
  simp only [bval, this]
  exact bval_off fun j hj => h j (by omega)
def upto (j : Nat) : Nat -> Bool := fun i => decide (i < j)
def allD : Nat -> Bool := fun _ => true
theorem tval_upto {es es' : List Ent} {t : Nat} {x : AV} : tval (es ++ es') 0 (upto es.length) t x = tval es 0 allD t x := by
 rw [tval_append, tval_off fun j hj => by simp [upto]; omega]
 refine tval_congr fun j e hj _ => ?_
 have := (List.getElem?_eq_some_iff.1 hj).1
 simp [upto, allD, this]
theorem bval_upto {es es' : List Ent} {H : Nat -> Blk} : bval (es ++ es') 0 (upto es.length) H = bval es 0 allD H := by
 rw [bval_append, bval_off fun j hj => by simp [upto]; omega]
 funext b
 refine bval_congr rfl fun j e hj _ => ?_
 have := (List.getElem?_eq_some_iff.1 hj).1
 simp [upto, allD, this]
def AEq (x y : AV) : Prop := ∀ E v, RepV E x v ↔ RepV E y v
theorem AEq.refl (x : AV) : AEq x x := fun _ _ => .rfl
theorem bl_AEq (b : Bool) : AEq (.dv (.bl b)) (.dv (.sc (.bool b))) := fun E v =>
 ⟨fun h => by rw [rep_bl h]; exact sc_rep E trivial, fun h => by rw [rep_sc h]; exact bl_rep E b⟩
def evF (G : Glob) (f : Nat -> AV) : Operand -> AV
 | .tmp t => f t
 | .const v => ofConst v
 | .global g => G g
 | .func f => .fn f []
theorem ev_evF (G : Glob) (ts : List AV) : ev G ts = evF G fun t => ts.getD t .any := by
 funext x; cases x <;> rfl
theorem evF_AEq {G : Glob} {f g : Nat -> AV} (h : ∀ t, AEq (f t) (g t)) (x : Operand) : AEq (evF G f x) (evF G g x) := by
 cases x <;> first | exact h _ | exact .refl _
def GuardR (all : List Oper) (o : Oper) (f : Nat -> AV) (r : Bool) : Prop := match o.guard with
 | none => r = true
 | some (g, want) => ∃ d, (all.getD g default).dst = some d /\ ((∃ c, (∀ E u, RepV E (f d) u -> u = .bool c) /\ r = (c == want)) \/ ((∀ E u, RepV E (f d) u -> u = undef) /\ r = false))
section
variable (P : Program) (G : Glob) (T : Tr)
def Good (all : List Oper) (es : List Ent) (base : Nat -> AV) (H0 : Nat -> Blk) (n0 : Nat) (j : Nat) (e : Ent) : Prop :=
 GuardR all e.o (fun t => tval es 0 (upto j) t (base t)) e.run.isSome /\
 ∀ rd wr v, e.run = some (rd, wr, v) -> (∀ c, e.o.op ≠ .defer c) /\
  (∀ x, x ∈ wr -> bval es 0 (upto j) H0 x.1 = .dead -> n0 ≤ x.1 /\ ∀ i e', i < j -> es[i]? = some e' -> x.1 ∉ e'.wr.map (·.1)) /\
  ∀ E H' (a : Act) w, Rel E H' w -> GOK E G -> (∀ x, x ∈ opnds e.o.op -> RepV E (evF G (fun t => tval es 0 (upto j) t (base t)) x) (a.eval x)) -> (∀ b, b ∈ rd -> H' b = bval es 0 (upto j) H0 b) ->
   (∀ x, x ∈ wr -> bval es 0 (upto j) H0 x.1 = .dead -> E.pl x.1 = .unborn) -> ∀ next Q, (∀ u E' w', Step E H' w wr v u E' w' -> next (a.put e.o.dst u) w') -> e.o.wp P a w next Q
end
section
variable {P : Program} {G : Glob} {T : Tr}
theorem newOK_mem {bs : List Blk} : ∀ {wr : List (Nat × Blk)}, newOK bs wr = true -> ∀ x, x ∈ wr -> hOf bs x.1 = .dead -> bs.length ≤ x.1
 | [], _, x, hx, _ => by cases hx
 | (b, y) :: r, h, x, hx, hd => by
  simp only [newOK] at h
  have hb : newOK bs r = true /\ (hOf bs b = .dead -> bs.length ≤ b) := by
   split at h
   ·cases h
   ·rename_i hn
    refine ⟨h, fun hd => ?_⟩
    cases hlt : Nat.blt b bs.length with
    | true => exact (hn (by rw [hd]; rfl) hlt).elim
    | false =>
     refine Nat.le_of_not_lt fun hl => ?_
     have h3 : Nat.blt b bs.length = true := by rw [Nat.blt_eq]; exact hl
     rw [h3] at hlt; cases hlt
  rcases List.mem_cons.1 hx with e | hx
  ·subst e; exact hb.2 hd
  ·exact newOK_mem hb.1 x hx hd
theorem split_of {b : Bool} {K : Bool -> Prop} (h : split b K) : K b := by
 cases b
 ·exact h.2 rfl
 ·exact h.1 rfl
theorem guardK_inv {all : List Oper} {o : Oper} {ts : List AV} {K : Bool -> List AV -> Prop} (h : guardK all o ts K) : ∃ r ts1, K r ts1 /\ ts1.length = ts.length /\ (∀ t, AEq (ts1.getD t .any) (ts.getD t .any)) /\ GuardR all o (fun t => ts.getD t .any) r := by
 unfold guardK at h
 split at h
 ·rename_i hg
  exact ⟨true, ts, h, rfl, fun _ => .refl _, by unfold GuardR; rw [hg]⟩
 ·rename_i j want hg
  split at h
  ·exact h.elim
  ·rename_i d hd
   split at h
   ·rename_i b hts
    have hb : ∀ E u, RepV E (ts.getD d .any) u -> u = .bool b := fun E u hu => by rw [hts] at hu; exact rep_sc hu
    have fin : ∀ r, K r ts -> r = (b == want) -> ∃ r ts1, K r ts1 /\ ts1.length = ts.length /\ (∀ t, AEq (ts1.getD t .any) (ts.getD t .any)) /\ GuardR all o (fun t => ts.getD t .any) r :=
     fun r hK hr => ⟨r, ts, hK, rfl, fun _ => AEq.refl _, by unfold GuardR; rw [hg]; exact ⟨d, hd, .inl ⟨b, hb, hr⟩⟩⟩
    clear hb hts hg
    cases b <;> cases want <;> exact fin _ h rfl
   ·rename_i b hts
    have hb : ∀ E u, RepV E (ts.getD d .any) u -> u = .bool b := fun E u hu => by rw [hts] at hu; exact rep_bl hu
    have h2 := split_of h
    obtain ⟨hlt, h2⟩ := setK_inv h2
    have heq : ∀ t, AEq ((ts.set d (.dv (.sc (.bool b)))).getD t .any) (ts.getD t .any) := by
     intro t
     by_cases e : t = d
     ·subst e
      have : (ts.set t (.dv (.sc (.bool b)))).getD t .any = .dv (.sc (.bool b)) := by simp [List.getD, hlt]
      rw [this, hts]
      exact fun E v => (bl_AEq b E v).symm
     ·have : (ts.set d (.dv (.sc (.bool b)))).getD t .any = ts.getD t .any := by simp [List.getD, List.getElem?_set_ne (Ne.symm e)]
      rw [this]
      exact .refl _
    have fin : ∀ r, K r (ts.set d (.dv (.sc (.bool b)))) -> r = (b == want) -> ∃ r ts1, K r ts1 /\ ts1.length = ts.length /\ (∀ t, AEq (ts1.getD t .any) (ts.getD t .any)) /\ GuardR all o (fun t => ts.getD t .any) r :=
     fun r hK hr => ⟨r, _, hK, List.length_set, heq, by unfold GuardR; rw [hg]; exact ⟨d, hd, .inl ⟨b, hb, hr⟩⟩⟩
    clear hb hts hg heq h
    cases b <;> cases want <;> exact fin _ h2 rfl
   ·rename_i hts
    exact ⟨false, ts, h, rfl, fun _ => AEq.refl _, by unfold GuardR; rw [hg]; exact ⟨d, hd, .inr ⟨fun E u hu => by have hu : RepV E (ts.getD d .any) u := hu; rw [hts] at hu; exact rep_undef hu, rfl⟩⟩⟩
   ·exact h.elim
theorem putK_inv {ts : List AV} {d : Option Nat} {x : AV} {K : List AV -> Prop} (h : putK ts d x K) : ∃ ts', K ts' /\ ts'.length = ts.length /\ (∀ t, d = some t -> t < ts.length) /\ ∀ t, ts'.getD t .any = if d = some t then x else ts.getD t .any := by
 unfold putK at h
 split at h
 ·exact ⟨ts, h, rfl, (fun t e => by cases e), fun t => by rw [if_neg]; intro e; cases e⟩
 ·rename_i d
  rw [forceA_eq] at h
  obtain ⟨hlt, h⟩ := setK_inv h
  refine ⟨_, h, List.length_set, (fun t e => by cases e; exact hlt), fun t => ?_⟩
  by_cases e : d = t
  ·subst e; simp [List.getD, hlt]
  ·rw [if_neg fun h => e (Option.some.inj h)]
   simp [List.getD, List.getElem?_set_ne e]
def TraceR (P : Program) (G : Glob) (all : List Oper) (base : Nat -> AV) (H0 : Nat -> Blk) (n0 n : Nat) (rest : List Oper) (es0 : List Ent) (bs : List Blk) (K : List AV -> List Blk -> List Foot -> Prop) : Prop :=
 ∃ (es1 : List Ent) (ts2 : List AV) (bs2 : List Blk), es1.map (·.o) = rest /\ K ts2 bs2 ((es0 ++ es1).map (·.foot)).reverse /\ ts2.length = n /\ (∀ t, AEq (ts2.getD t .any) (tval (es0 ++ es1) 0 allD t (base t))) /\ hOf bs2 = bval (es0 ++ es1) 0 allD H0 /\
   (∀ (i : Nat) (e : Ent), (es0 ++ es1)[i]? = some e -> ∀ x, x ∈ e.wr -> x.1 < bs2.length) /\ bs.length ≤ bs2.length /\ (∀ e, e ∈ es1 -> ∀ t, e.o.dst = some t -> t < n) /\ ∀ j e, es1[j]? = some e -> Good P G all (es0 ++ es1) base H0 n0 (es0.length + j) e
theorem ops_trace (hT : TabOK P T) {O : List (List AV)} {all : List Oper} {base : Nat -> AV} {H0 : Nat -> Blk} {n0 n : Nat} : ∀ {rest : List Oper} {es0 : List Ent} {ts : List AV} {bs : List Blk} {fs : List Foot} {K : List AV -> List Blk -> List Foot -> Prop},
  opsK P G T O noY all rest ts bs fs K -> ts.length = n -> (∀ t, AEq (ts.getD t .any) (tval es0 0 allD t (base t))) -> hOf bs = bval es0 0 allD H0 -> (∀ (i : Nat) (e : Ent), es0[i]? = some e -> ∀ x, x ∈ e.wr -> x.1 < bs.length) -> n0 ≤ bs.length -> fs = (es0.map (·.foot)).reverse ->
  TraceR P G all base H0 n0 n rest es0 bs K
 | [], es0, ts, bs, fs, K, h, hn, hts, hbs, hwr, hn0, hfs => ⟨[], ts, bs, rfl, by simp only [List.append_nil, ← hfs]; exact h, hn, by simpa using hts, by simpa using hbs, by simpa using hwr, Nat.le_refl _, (fun e he => by cases he), fun j e h => by simp at h⟩
 | o :: rest, es0, ts, bs, fs, K, h, hn, hts, hbs, hwr, hn0, hfs => by
  simp only [opsK] at h
  obtain ⟨r, ts1, h, hl1, heq1, hg⟩ := guardK_inv h
  have step : ∀ (e : Ent) (ts' : List AV) (bs' : List Blk), e.o = o -> opsK P G T O noY all rest ts' bs' (e.foot :: fs) K -> ts'.length = n -> (∀ t, o.dst = some t -> t < n) -> (∀ t, AEq (ts'.getD t .any) (if o.dst = some t then e.val else ts.getD t .any)) -> hOf bs' = upds (hOf bs) e.wr ->
    bs.length ≤ bs'.length -> (∀ x, x ∈ e.wr -> x.1 < bs'.length) -> (∀ es1, Good P G all (es0 ++ e :: es1) base H0 n0 es0.length e) -> TraceR P G all base H0 n0 n (o :: rest) es0 bs K := by
   intro e ts' bs' ho hk hl hdst ht hb hle hin hgood
   obtain ⟨es1, ts2, bs2, g1, g2, g3, g4, g5, g6, g7, g9, g8⟩ := ops_trace hT (n0 := n0) (es0 := es0 ++ [e]) hk hl (fun t E v => by
    rw [tval_append]
    simp only [tval, allD, true_and]
    refine (ht t E v).trans ?_
    rw [ho]
    split
    ·exact .rfl
    ·exact hts t E v) (by
    rw [bval_append]
    simp only [bval, allD, if_true]
    rw [hb, hbs]) (fun i e' hi x hx => by
    rw [List.getElem?_append] at hi
    split at hi
    ·exact Nat.lt_of_lt_of_le (hwr i e' hi x hx) hle
    ·rename_i hge
     have : i - es0.length = 0 := by
      have := (List.getElem?_eq_some_iff.1 hi).1
      simp at this; omega
     rw [this] at hi
     simp at hi
     subst hi
     exact hin x hx) (by omega) (by rw [hfs]; simp)
   simp only [List.append_assoc, List.singleton_append] at g2 g4 g5 g6 g8
   refine ⟨e :: es1, ts2, bs2, by simp [ho, g1], g2, g3, g4, g5, g6, by omega, ?_, ?_⟩
   ·intro e' he' t hdt
    rcases List.mem_cons.1 he' with e1 | he'
    ·subst e1; exact hdst t (ho ▸ hdt)
    ·exact g9 e' he' t hdt
   ·intro j e' hj
    cases j with
    | zero => simp at hj; subst hj; exact hgood es1
    | succ j =>
     have := g8 j e' (by simpa using hj)
     rw [List.length_append, List.length_singleton] at this
     rw [show es0.length + (j + 1) = es0.length + 1 + j from by omega]
     exact this
  have htv : ∀ es1 (e : Ent) t, AEq (ts.getD t .any) (tval (es0 ++ e :: es1) 0 (upto es0.length) t (base t)) := by
   intro es1 e t
   rw [tval_upto]; exact hts t
  have hbv : ∀ es1 (e : Ent), bval (es0 ++ e :: es1) 0 (upto es0.length) H0 = hOf bs := by
   intro es1 e
   rw [bval_upto]; exact hbs.symm
  have hguard : ∀ es1 (e : Ent), e.o = o -> e.run.isSome = r -> GuardR all e.o (fun t => tval (es0 ++ e :: es1) 0 (upto es0.length) t (base t)) e.run.isSome := by
   intro es1 e ho hr
   rw [ho, hr]
   unfold GuardR at hg ⊢
   split at hg
   ·exact hg
   ·obtain ⟨d, h1, ⟨c, h2, h3⟩ | ⟨h2, h3⟩⟩ := hg
    ·exact ⟨d, h1, .inl ⟨c, fun E u hu => h2 E u ((htv es1 e d E u).2 hu), h3⟩⟩
    ·exact ⟨d, h1, .inr ⟨fun E u hu => h2 E u ((htv es1 e d E u).2 hu), h3⟩⟩
  cases r with
  | true =>
   simp only at h
   split at h
   ·exact h.elim
   have hdef := opK_defer h
   obtain ⟨rd, wr0, v0, h, heff⟩ := told_op hT (by simp [hOf]) h
   obtain ⟨wr, hsw, h⟩ := hintW_inv h
   obtain ⟨v, hsv, h⟩ := hintV_inv h
   have heff := heff.retell hsw hsv
   obtain ⟨rd, wr, v, h, heff⟩ := shutK_inv h heff
   split at h
   ·rename_i hnew
    obtain ⟨ts', h, hl, hlt, ht⟩ := putK_inv h
    obtain ⟨bs', h, hb, hle, hin⟩ := wrK_inv h
    refine step ⟨o, some (rd, wr, v)⟩ ts' bs' rfl h (by omega) (fun t ht => by rw [← hn, ← hl1]; exact hlt t ht) (fun t => ?_) hb hle hin fun es1 => ⟨hguard es1 _ rfl rfl, ?_⟩
    ·rw [ht]
     split
     ·exact .refl _
     ·exact heq1 t
    ·intro rd' wr' v' hrun
     cases hrun
     refine ⟨hdef, fun x hx hd => ?_, ?_⟩
     ·rw [hbv] at hd
      have := newOK_mem hnew x hx hd
      refine ⟨by omega, fun i e' hi he' hm => ?_⟩
      rw [List.getElem?_append_left hi] at he'
      obtain ⟨y, hy, e⟩ := List.mem_map.1 hm
      have := hwr i e' he' y hy
      omega
     ·intro E H' a w hR hG hop hrd hwr' next Q hnext
      refine heff E H' a w hR hG (fun x hx => ?_) (fun b hb => by rw [hrd b hb, hbv]) (fun x hx hd => hwr' x hx (by rw [hbv]; exact hd)) next Q hnext
      rw [ev_evF]
      refine (evF_AEq (fun t E u => (heq1 t E u).trans (htv es1 ⟨o, some (rd, wr, v)⟩ t E u)) x E (a.eval x)).2 (hop x hx)
   ·exact h.elim
  | false =>
   simp only at h
   obtain ⟨ts', h, hl, hlt, ht⟩ := putK_inv h
   refine step ⟨o, none⟩ ts' bs rfl h (by omega) (fun t ht => by rw [← hn, ← hl1]; exact hlt t ht) (fun t => ?_) rfl (Nat.le_refl _) (fun x hx => by cases hx) fun es1 => ⟨hguard es1 _ rfl rfl, fun rd wr v hrun => by cases hrun⟩
   rw [ht]
   split
   ·exact .refl _
   ·exact heq1 t
end
end Go.Eng

namespace Go.Eng
def fen : Option Nat -> Fence
 | none => Fence.wide
 | some l => Fence.wide.inRound l
theorem fen_round (ro : Option Nat) : (fen ro).round = ro := by cases ro <;> rfl
theorem fen_fn (ro : Option Nat) (f : FuncId) : (fen ro).fn f := by cases ro <;> trivial
theorem fen_depth (ro : Option Nat) : (fen ro).depth = none := by cases ro <;> rfl
theorem fen_room (ro : Option Nat) (n : Nat) : (fen ro).room n := fun d hd => by rw [fen_depth] at hd; cases hd
theorem calls_fen {ro : Option Nat} {n : Nat} {P : Program} {f : FuncId} {args : Array Value} {w : World} {R : Ending -> World -> Prop} (h : Calls P f args w R) : CallsIn (fen ro) n P f args w R := by
 cases ro with
 | none => exact callsIn_wide.2 h
 | some l => exact CallsIn.inRound l (callsIn_wide.2 h)
theorem rows_fen {ro : Option Nat} {n : Nat} {P : Program} {row : String} {args : Array Value} {w : World} {R : Value -> World -> Prop} (h : Rows P row args w R) : RowsIn (fen ro) n P row args w R := by
 have : ∀ (c : Frame) (cs : List Frame), ∃ v w', R v w' /\ StepsIn (Machine.fenced P Fence.wide) P (lone (Frame.ofRow P row args .normal) (c :: cs) w) (lone (c.finish v) cs w') :=
  fun c cs => let ⟨v, w', r, s⟩ := h c cs; ⟨v, w', r, stepsIn_wide.2 s⟩
 cases ro with
 | none => exact fun c cs _ => this c cs
 | some l => exact fun c cs _ => this c cs
theorem wp_fen {ro : Option Nat} {n : Nat} {P : Program} {o : Oper} {a : Act} {w : World} {K : Act -> World -> Prop} {Q : Exit -> Act -> World -> Prop} (hd : ∀ c, o.op ≠ .defer c) (h : o.wp P a w K Q) : o.wpIn (fen ro) n P a w K Q := by
 refine ⟨fun f _ => fen_fn ro f, ?_⟩
 rw [Oper.semAt_eq _ _ _ hd]
 unfold Oper.wp at h
 generalize (execOp a.eval o).run P w = r at h ⊢
 have hdp : (fen ro).depth.isSome = true -> 1 ≤ n := fun h => by rw [fen_depth] at h; cases h
 cases r with
 | ok x w' => cases x <;> first | exact h | exact ⟨hdp, calls_fen h⟩ | exact ⟨hdp, rows_fen h⟩ | exact h.elim
 | halt x w' => cases x <;> first | exact h | exact h.elim
def DF (m : Nat) (E : Env) (H : Nat -> Blk) (w : World) (ds : List Deferred) : Prop :=
 ∀ d, d ∈ ds -> ∃ r, m ≤ r /\ d = { target := .collected r, args := #[] } /\ w.heap[r]? = some (.deferred (some [])) /\ ∀ b o, (H b).own = true -> E.pl b ≠ .at r o
structure OK3 (m : Nat) (Fs : List (List AV × Act)) (E : Env) (H : Nat -> Blk) (w : World) (ds : List Deferred) : Prop where
 nd : (ds ++ Fs.flatMap fun x => x.2.defers).Nodup
 df : DF m E H w ds
 size : ∀ x, x ∈ Fs -> x.2.tmps.size = x.1.length
 tmps : ∀ x, x ∈ Fs -> ∀ t, RepV E (x.1.getD t .any) (x.2.tmps.getD t undef)
 out : ∀ x, x ∈ Fs -> DF m E H w x.2.defers
theorem DF.step {m : Nat} {E E' : Env} {H : Nat -> Blk} {w w' : World} {wr : List (Nat × Blk)} {v : AV} {u : Value} {ds : List Deferred} (h : DF m E H w ds) (hs : Step E H w wr v u E' w') : DF m E' (upds H wr) w' ds := fun d hd => by
 obtain ⟨r, hm, e, hr, hno⟩ := h d hd
 have hlt : r < w.heap.size := (Array.getElem?_eq_some_iff.1 hr).1
 refine ⟨r, hm, e, ?_, fun b o hb hp => ?_⟩
 ·rw [hs.mem.same r hlt fun b o h1 h2 => hno b o h1 h2]; exact hr
 ·rcases hs.live b hb with h1 | h1
  ·by_cases hu : E.pl b = .unborn
   ·rcases hs.mem.new b r o hu hp with h2 | ⟨b', o', h2, h3, _⟩
    ·omega
    ·exact hno b' o' h2 h3
   ·rw [hs.ext.pl b hu] at hp
    exact hno b o h1 hp
  ·rcases hs.mem.new b r o h1 hp with h2 | ⟨b', o', h2, h3, _⟩
   ·omega
   ·exact hno b' o' h2 h3
theorem OK3.step {m : Nat} {Fs : List (List AV × Act)} {E E' : Env} {H : Nat -> Blk} {w w' : World} {wr : List (Nat × Blk)} {v : AV} {u : Value} {ds : List Deferred} (h : OK3 m Fs E H w ds) (hs : Step E H w wr v u E' w') : OK3 m Fs E' (upds H wr) w' ds :=
 ⟨h.nd, h.df.step hs, h.size, fun x hx t => (h.tmps x hx t).ext hs.ext, fun x hx => (h.out x hx).step hs⟩
def setD (D : Nat -> Bool) (j : Nat) : Nat -> Bool := fun i => if i = j then true else D i
theorem split_at {es : List Ent} {j : Nat} {e : Ent} (h : es[j]? = some e) : ∃ a b, es = a ++ e :: b /\ a.length = j := by
 obtain ⟨hlt, he⟩ := List.getElem?_eq_some_iff.1 h
 refine ⟨es.take j, es.drop (j + 1), ?_, by simp; omega⟩
 rw [← he, List.getElem_cons_drop, List.take_append_drop]
theorem tval_set {es : List Ent} {D : Nat -> Bool} {j : Nat} {e : Ent} {t : Nat} {x : AV} (h : es[j]? = some e) (hno : ∀ i e', D i = true -> j < i -> es[i]? = some e' -> e.o.dst = some t -> e'.o.dst ≠ some t) :
  tval es 0 (setD D j) t x = if e.o.dst = some t then e.val else tval es 0 D t x := by
 split
 ·rename_i hd
  obtain ⟨l, r, rfl, hl⟩ := split_at h
  rw [tval_append]
  simp only [tval]
  rw [Nat.zero_add, hl, if_pos ⟨by simp [setD], hd⟩]
  have : tval r (j + 1) (setD D j) t e.val = tval r (j + 1) (fun _ => false) t e.val := by
   refine tval_congr fun i e' hi hd' => ?_
   have hi' : (l ++ e :: r)[j + 1 + i]? = some e' := by
    rw [List.getElem?_append_right (by omega), hl, show j + 1 + i - j = i + 1 from by omega]; exact hi
   have : D (j + 1 + i) = false := by
    cases hD : D (j + 1 + i) with
    | false => rfl
    | true => exact absurd hd' (hno _ e' hD (by omega) hi' hd)
   simp only [setD, if_neg (show j + 1 + i ≠ j from by omega), this]
  rw [this, tval_off fun _ _ => rfl]
 ·rename_i hd
  refine tval_congr fun i e' hi hd' => ?_
  rw [Nat.zero_add]
  unfold setD
  rw [if_neg]
  intro e1
  subst e1
  rw [h] at hi; cases hi
  exact hd hd'
theorem bval_set {es : List Ent} {D : Nat -> Bool} {j : Nat} {e : Ent} {H : Nat -> Blk} (h : es[j]? = some e) (hno : ∀ i e' b, D i = true -> j < i -> es[i]? = some e' -> b ∈ e.wr.map (·.1) -> b ∉ e'.wr.map (·.1)) :
  bval es 0 (setD D j) H = upds (bval es 0 D H) e.wr := by
 funext b
 by_cases hb : b ∈ e.wr.map (·.1)
 ·obtain ⟨l, r, rfl, hl⟩ := split_at h
  rw [bval_append]
  simp only [bval]
  rw [Nat.zero_add, hl, if_pos (by simp [setD])]
  have : bval r (j + 1) (setD D j) (upds (bval l 0 (setD D j) H) e.wr) b = bval r (j + 1) (fun _ => false) (upds (bval l 0 (setD D j) H) e.wr) b := by
   refine bval_congr rfl fun i e' hi hm => ?_
   have hi' : (l ++ e :: r)[j + 1 + i]? = some e' := by
    rw [List.getElem?_append_right (by omega), hl, show j + 1 + i - j = i + 1 from by omega]; exact hi
   have : D (j + 1 + i) = false := by
    cases hD : D (j + 1 + i) with
    | false => rfl
    | true => exact absurd hm (hno _ e' b hD (by omega) hi' hb)
   simp only [setD, if_neg (show j + 1 + i ≠ j from by omega), this]
  rw [this, bval_off fun _ _ => rfl]
  obtain ⟨x, _, he⟩ := upds_in hb
  rw [he, he]
 ·rw [upds_notin fun z hz e' => hb (List.mem_map.2 ⟨z, hz, e'⟩)]
  refine bval_congr rfl fun i e' hi hm => ?_
  rw [Nat.zero_add]
  unfold setD
  rw [if_neg]
  intro e1
  subst e1
  rw [h] at hi; cases hi
  exact hb hm
section
variable (P : Program) (G : Glob) (Fs : List (List AV × Act))
structure InvE (E0 : Env) (Ho : Nat -> Blk) (w0 : World) (es : List Ent) (base : Nat -> AV) (Hb : Nat -> Blk) (n0 n : Nat) (D : Nat -> Bool) (a : Act) (w : World) (E : Env) (acc : List (Nat × Blk)) : Prop where
 step : Step E0 Ho w0 acc .any undef E w
 H : upds Ho acc = bval es 0 D Hb
 size : a.tmps.size = n
 tmps : ∀ t, RepV E (tval es 0 D t (base t)) (a.tmps.getD t undef)
 glob : GOK E G
 unborn : ∀ b, E.pl b ≠ .unborn -> b < n0 \/ ∃ i e, D i = true /\ es[i]? = some e /\ b ∈ e.wr.map (·.1)
 acc : ∀ x, x ∈ acc -> x.1 < n0 \/ ∃ (i : Nat) (e : Ent), es[i]? = some e /\ x.1 ∈ e.wr.map (·.1)
 defers : OK3 w0.heap.size Fs E (bval es 0 D Hb) w a.defers
def Inv (E0 : Env) (Ho : Nat -> Blk) (w0 : World) (es : List Ent) (base : Nat -> AV) (Hb : Nat -> Blk) (n0 n : Nat) (D : Nat -> Bool) (a : Act) (w : World) : Prop := ∃ E acc, InvE G Fs E0 Ho w0 es base Hb n0 n D a w E acc
structure SimE (E0 : Env) (Ho : Nat -> Blk) (w0 : World) (ts : List AV) (bs : List Blk) (a : Act) (w : World) (E : Env) (acc : List (Nat × Blk)) : Prop where
 step : Step E0 Ho w0 acc .any undef E w
 H : upds Ho acc = hOf bs
 size : a.tmps.size = ts.length
 tmps : ∀ t, RepV E (ts.getD t .any) (a.tmps.getD t undef)
 glob : GOK E G
 unborn : ∀ b, E.pl b ≠ .unborn -> b < bs.length
 acc : ∀ x, x ∈ acc -> x.1 < bs.length
 defers : OK3 w0.heap.size Fs E (hOf bs) w a.defers
def Sim (E0 : Env) (Ho : Nat -> Blk) (w0 : World) (ts : List AV) (bs : List Blk) (a : Act) (w : World) : Prop := ∃ E acc, SimE G Fs E0 Ho w0 ts bs a w E acc
end
section
variable {P : Program} {G : Glob} {Fs : List (List AV × Act)} {ro : Option Nat} {nn : Nat} {E0 : Env} {Ho : Nat -> Blk} {w0 : World} {es : List Ent} {base : Nat -> AV} {Hb : Nat -> Blk} {n0 n : Nat} {all : List Oper}
theorem ofConst_rep (E : Env) (v : Value) : RepV E (ofConst v) v := by
 unfold ofConst
 split <;> first | exact sc_rep E trivial | exact .any E _ | exact str_rep E _
theorem evF_rep {E : Env} {f : Nat -> AV} {a : Act} {x : Operand} (hG : GOK E G) (h : ∀ t, x = .tmp t -> RepV E (f t) (a.tmps.getD t undef)) : RepV E (evF G f x) (a.eval x) := by
 cases x with
 | tmp t => exact h t rfl
 | const v => exact ofConst_rep E v
 | global g => exact hG.1 g
 | func f => exact .one (.fn f [] [] rfl fun i hi => by cases hi) rfl
theorem put_tmps {a : Act} {d : Option Tmp} {v : Value} {n : Nat} (hs : a.tmps.size = n) (hd : ∀ t, d = some t -> t < n) (t : Nat) : (a.put d v).tmps.getD t undef = if d = some t then v else a.tmps.getD t undef := by
 cases d with
 | none => rw [if_neg (by intro e; cases e)]; rfl
 | some d =>
  have hlt : d < a.tmps.size := by rw [hs]; exact hd d rfl
  by_cases e : d = t
  ·subst e
   rw [if_pos rfl]
   simp [Act.put, hlt]
  ·rw [if_neg fun h => e (Option.some.inj h)]
   simp [Act.put, Array.getElem?_setIfInBounds_ne e]
theorem put_size (a : Act) (d : Option Tmp) (v : Value) : (a.put d v).tmps.size = a.tmps.size := by
 cases d <;> simp [Act.put]
theorem put_defers (a : Act) (d : Option Tmp) (v : Value) : (a.put d v).defers = a.defers := by
 cases d <;> rfl
theorem operand_reads {o : Oper} {t : Nat} (h : Operand.tmp t ∈ opnds o.op) : t ∈ reads all o := by
 unfold reads
 refine List.mem_append.2 (.inl (List.mem_filterMap.2 ⟨_, h, rfl⟩))
theorem guard_wanted {E : Env} {a : Act} {o : Oper} {f g : Nat -> AV} {r : Bool} (h : GuardR all o f r) (hfg : ∀ t, t ∈ reads all o -> g t = f t) (ht : ∀ t, RepV E (g t) (a.tmps.getD t undef)) : Region.wanted o (yielded all.toArray a.tmps) = r := by
 unfold GuardR at h
 unfold Region.wanted
 split at h
 ·rename_i hg; rw [hg, h]
 ·rename_i k want hg
  obtain ⟨d, h1, hcase⟩ := h
  rw [hg]
  simp only
  have hd : d ∈ reads all o := by
   unfold reads
   refine List.mem_append.2 (.inr ?_)
   rw [hg]; simp only; rw [h1]; exact List.mem_singleton.2 rfl
  have hk : (all.toArray[k]?).bind (·.dst) = some d := by
   rw [List.getElem?_toArray]
   rw [List.getD_eq_getElem?_getD] at h1
   cases hx : all[k]? with
   | none => rw [hx] at h1; cases h1
   | some x => rw [hx] at h1; exact h1
  rcases hcase with ⟨c, h2, h3⟩ | ⟨h2, h3⟩
  ·have hv := h2 E _ (hfg d hd ▸ ht d)
   have hy : yielded all.toArray a.tmps k = some c := by
    unfold yielded
    rw [hk]
    simp only [Option.bind_some]
    have hlt : a.tmps[d]? = some (.bool c) := by
     cases hx : a.tmps[d]? with
     | none => simp [hx, undef] at hv
     | some u => simp [hx] at hv; rw [hv]
    rw [hlt]
   rw [hy, h3]
   cases c <;> cases want <;> rfl
  ·have hv := h2 E _ (hfg d hd ▸ ht d)
   have hy : yielded all.toArray a.tmps k = none := by
    unfold yielded
    rw [hk]
    simp only [Option.bind_some]
    cases hx : a.tmps[d]? with
    | none => rfl
    | some u =>
     have : u = undef := by simpa [hx] using hv
     rw [this]; rfl
   rw [hy, h3]
   cases want <;> rfl
theorem exec_one {D : Nat -> Bool} {a : Act} {w : World} {j : Nat} {e : Ent} {Q : Exit -> Act -> World -> Prop} {K : Act -> World -> Prop} (hR0 : Rel E0 Ho w0) (hgood : Good P G all es base Hb n0 j e) (hj : es[j]? = some e) (hall : all[j]? = some e.o) (hn : ∀ t, e.o.dst = some t -> t < n)
  (hrd : ∀ t, t ∈ reads all e.o -> tval es 0 D t (base t) = tval es 0 (upto j) t (base t)) (hrb : ∀ b, b ∈ e.foot.1 -> bval es 0 D Hb b = bval es 0 (upto j) Hb b)
  (hdst : ∀ i e' d, D i = true -> j < i -> es[i]? = some e' -> e.o.dst = some d -> e'.o.dst ≠ some d)
  (hwr : ∀ i e' b, D i = true -> j < i -> es[i]? = some e' -> b ∈ e.wr.map (·.1) -> b ∉ e'.wr.map (·.1))
  (hDj : D j = false) (hI : Inv G Fs E0 Ho w0 es base Hb n0 n D a w) (hK : ∀ a' w', Inv G Fs E0 Ho w0 es base Hb n0 n (setD D j) a' w' -> K a' w') : wpOpIn (fen ro) nn P all.toArray Q j K a w := by
 obtain ⟨E, acc, hI⟩ := hI
 have hw := guard_wanted (all := all) (a := a) hgood.1 hrd hI.tmps
 unfold wpOpIn
 rw [List.getElem?_toArray, hall]
 simp only
 have next : ∀ (u : Value) (E' : Env) (acc' : List (Nat × Blk)) (w' : World), OK3 w0.heap.size Fs E' (upds (bval es 0 D Hb) e.wr) w' a.defers -> Step E0 Ho w0 acc' .any undef E' w' -> upds Ho acc' = upds (bval es 0 D Hb) e.wr -> Ext E E' -> RepV E' e.val u -> (∀ b, E.pl b = .unborn -> E'.pl b ≠ .unborn -> b ∈ e.wr.map (·.1)) -> (∀ x, x ∈ acc' -> x ∈ acc \/ x ∈ e.wr) ->
   K (a.put e.o.dst u) w' := by
  intro u E' acc' w' hok hst hH hE hv hb hacc
  refine hK _ _ ⟨E', acc', hst, by rw [bval_set hj hwr, hH], by rw [put_size, hI.size], fun t => ?_, hI.glob.ext hE, fun b hb' => ?_, fun x hx => ?_, by rw [put_defers, bval_set hj hwr]; exact hok⟩
  ·rw [tval_set hj fun i e' h1 h2 h3 h4 => hdst i e' t h1 h2 h3 h4, put_tmps hI.size hn]
   split
   ·exact hv
   ·exact (hI.tmps t).ext hE
  ·by_cases hu : E.pl b = .unborn
   ·exact .inr ⟨j, e, by simp [setD], hj, hb b hu hb'⟩
   ·rcases hI.unborn b hu with h | ⟨i, e', h1, h2, h3⟩
    ·exact .inl h
    ·exact .inr ⟨i, e', by unfold setD; split <;> first | rfl | exact h1, h2, h3⟩
  ·rcases hacc x hx with h | h
   ·exact hI.acc x h
   ·exact .inr ⟨j, e, hj, List.mem_map.2 ⟨x, h, rfl⟩⟩
 cases hrun : e.run with
 | none =>
  rw [hrun] at hw
  simp only [hw, Option.isSome_none, Bool.false_eq_true, if_false]
  have hew : e.wr = [] := by unfold Ent.wr; rw [hrun]
  exact ⟨fun f _ => fen_fn ro f, next undef E acc w (by rw [hew]; exact hI.defers) hI.step (by rw [hew]; exact hI.H) (.refl E) (by unfold Ent.val; rw [hrun]; exact undef_rep E) (fun b h1 h2 => absurd h1 h2) (fun x hx => .inl hx)⟩
 | some r =>
  obtain ⟨rd, wr, v⟩ := r
  rw [hrun] at hw
  simp only [hw, Option.isSome_some, if_true]
  have hew : e.wr = wr := by unfold Ent.wr; rw [hrun]
  have hev : e.val = v := by unfold Ent.val; rw [hrun]
  have hef : e.foot.1 = rd := by unfold Ent.foot; rw [hrun]
  obtain ⟨hdef, hnew, heff⟩ := hgood.2 rd wr v hrun
  refine wp_fen hdef (heff E _ a w hI.step.rel hI.glob (fun x hx => evF_rep hI.glob fun t ht => ?_) (fun b hb => ?_) (fun x hx hd => ?_) _ _ fun u E' w' hst => ?_)
  ·subst ht
   rw [← hrd t (operand_reads hx)]
   exact hI.tmps t
  ·rw [hI.H]; exact hrb b (by rw [hef]; exact hb)
  ·obtain ⟨h1, h2⟩ := hnew x hx hd
   refine Classical.byContradiction fun hu => ?_
   rcases hI.unborn x.1 hu with h | ⟨i, e', h3, h4, h5⟩
   ·omega
   ·rcases Nat.lt_trichotomy i j with hlt | heq | hgt
    ·exact h2 i e' hlt h4 h5
    ·subst heq; rw [hDj] at h3; cases h3
    ·exact hwr i e' x.1 h3 hgt h4 (by rw [hew]; exact List.mem_map.2 ⟨x, hx, rfl⟩) h5
  ·have htr := (hI.step.trans hR0 hst)
   refine next u E' (acc ++ wr) w' (by rw [hew, ← hI.H]; exact (hI.H ▸ hI.defers).step hst) (htr.free (.any _ _)) (by rw [upds_append, hI.H, hew]) hst.ext (by rw [hev]; exact hst.val) (fun b h1 h2 => by rw [hew]; exact hst.born b h1 h2) fun x hx => ?_
   rw [hew]; exact List.mem_append.1 hx
end
end Go.Eng

namespace Go.Eng
theorem memN_mem {l : List Nat} {b : Nat} (h : memN l b = true) : b ∈ l := memN_iff.1 h
theorem mem_memN {l : List Nat} {b : Nat} (h : b ∈ l) : memN l b = true := memN_iff.2 h
theorem meetN_false {l m : List Nat} (h : meetN l m = false) : ∀ x, x ∈ l -> x ∉ m := by
 induction l with
 | nil => intro x hx; cases hx
 | cons y l ih =>
  unfold meetN at h
  split at h
  ·cases h
  ·rename_i hy
   intro x hx hm
   rcases List.mem_cons.1 hx with e | hx
   ·subst e; rw [mem_memN hm] at hy; cases hy
   ·exact ih h x hx hm
theorem hasN_false {d : Option Nat} {l : List Nat} (h : hasN d l = false) : ∀ t, d = some t -> t ∉ l := by
 intro t hd hm
 subst hd
 unfold hasN at h
 simp only at h
 rw [mem_memN hm] at h; cases h
theorem sameN_false {d e : Option Nat} (h : sameN d e = false) : ∀ t, d = some t -> e ≠ some t := by
 intro t hd he
 subst hd; subst he
 have : Nat.beq t t = true := Nat.beq_refl t
 unfold sameN at h
 simp only at h
 rw [this] at h; cases h
theorem clash_false {all : List Oper} {oi oj : Oper} {fi fj : Foot} (h : clash all oi fi oj fj = false) :
  (∀ t, oi.dst = some t -> t ∉ reads all oj) /\ (∀ t, oj.dst = some t -> t ∉ reads all oi) /\ (∀ t, oi.dst = some t -> oj.dst ≠ some t) /\ (∀ b, b ∈ fi.2 -> b ∉ fj.1) /\ (∀ b, b ∈ fi.2 -> b ∉ fj.2) /\ (∀ b, b ∈ fi.1 -> b ∉ fj.2) := by
 unfold clash at h
 split at h
 ·rename_i h1 h2 h3 h4 h5 h6
  exact ⟨hasN_false h1, hasN_false h2, sameN_false h3, meetN_false h4, meetN_false h5, meetN_false h6⟩
 ·cases h
theorem drawRow_mem {all : List Oper} {oj : Oper} {fj : Foot} {anc : List Nat} : ∀ {i : Nat} {os : List Oper} {fs : List Foot}, drawRow all oj fj anc i os fs = true -> ∀ k o f, os[k]? = some o -> fs[k]? = some f -> i + k ∈ anc \/ clash all o f oj fj = false
 | _, [], _, _, k, o, f, h1, _ => by simp at h1
 | _, _ :: _, [], _, k, o, f, _, h2 => by simp at h2
 | i, oi :: os, fi :: fs, h, k, o, f, h1, h2 => by
  simp only [drawRow] at h
  have hhd : (i ∈ anc \/ clash all oi fi oj fj = false) /\ drawRow all oj fj anc (i + 1) os fs = true := by
   split at h
   ·rename_i hm; exact ⟨.inl (memN_mem hm), h⟩
   ·split at h
    ·cases h
    ·rename_i hc; exact ⟨.inr hc, h⟩
  cases k with
  | zero => simp at h1 h2; subst h1; subst h2; exact hhd.1
  | succ k =>
   have := drawRow_mem hhd.2 k o f (by simpa using h1) (by simpa using h2)
   rw [show i + 1 + k = i + (k + 1) from by omega] at this
   exact this
theorem allBelow_mem {j : Nat} : ∀ {l : List Nat}, allBelow j l = true -> ∀ e, e ∈ l -> e < j
 | [], _, e, h => by cases h
 | x :: r, h, e, he => by
  simp only [allBelow] at h
  split at h
  ·rename_i hx
   rcases List.mem_cons.1 he with e1 | he
   ·subst e1; rw [Nat.blt_eq] at hx; exact hx
   ·exact allBelow_mem h e he
  ·cases h
theorem drawGo_mem {all : List Oper} {fs : List Foot} {an : List (List Nat)} : ∀ {j : Nat} {l : List Oper}, drawGo all fs an j l = true -> ∀ k o, l[k]? = some o -> (∀ e, e ∈ edgesOf o -> e < j + k) /\ drawRow all o (fs.getD (j + k) ([], [])) (an.getD (j + k) []) 0 (all.take (j + k)) fs = true
 | _, [], _, k, o, h => by simp at h
 | j, oj :: r, h, k, o, hk => by
  simp only [drawGo] at h
  split at h
  ·rename_i h1 h2
   cases k with
   | zero => simp at hk; subst hk; exact ⟨fun e he => by have := allBelow_mem h1 e he; omega, h2⟩
   | succ k =>
    have := drawGo_mem h k o (by simpa using hk)
    rw [show j + 1 + k = j + (k + 1) from by omega] at this
    exact this
  ·cases h
theorem addNs_mem {i : Nat} : ∀ {l a : List Nat}, i ∈ addNs l a -> i ∈ a \/ i ∈ l
 | [], a, h => .inl h
 | x :: r, a, h => by
  unfold addNs at h
  split at h
  ·exact (addNs_mem h).imp id (List.mem_cons_of_mem _)
  ·rcases addNs_mem h with h | h
   ·rcases List.mem_cons.1 h with rfl | h
    ·exact .inr (.head _)
    ·exact .inl h
   ·exact .inr (.tail _ h)
theorem ancOf_mem {acc : List (List Nat)} {i : Nat} : ∀ {es a : List Nat}, i ∈ ancOf acc es a -> i ∈ a \/ i ∈ es.flatMap fun e => e :: acc.getD e []
 | [], a, h => .inl h
 | e :: r, a, h => by
  unfold ancOf at h
  rw [List.flatMap_cons]
  split at h
  ·exact (ancOf_mem h).imp id fun h => List.mem_append_right _ h
  ·rcases ancOf_mem h with h | h
   ·rcases addNs_mem h with h | h
    ·rcases List.mem_cons.1 h with rfl | h
     ·exact .inr (List.mem_append_left _ (.head _))
     ·exact .inl h
    ·exact .inr (List.mem_append_left _ (.tail _ h))
   ·exact .inr (List.mem_append_right _ h)
theorem ancs_get : ∀ {l : List Oper} {acc : List (List Nat)}, (∀ k, k < acc.length -> (ancs l acc).getD k [] = acc.getD k []) /\ ∀ k o, l[k]? = some o -> ∃ acc' : List (List Nat), (ancs l acc).getD (acc.length + k) [] = ancOf acc' (edgesOf o) [] /\ acc'.length = acc.length + k /\ ∀ i, i < acc'.length -> acc'.getD i [] = (ancs l acc).getD i []
 | [], acc => ⟨fun _ _ => rfl, fun k o h => by simp at h⟩
 | o :: r, acc => by
  obtain ⟨h1, h2⟩ := ancs_get (l := r) (acc := acc ++ [ancOf acc (edgesOf o) []])
  have hkeep : ∀ k, k < acc.length -> (ancs (o :: r) acc).getD k [] = acc.getD k [] := by
   intro k hk
   show (ancs r _).getD k [] = _
   rw [h1 k (by simp; omega)]
   simp [List.getD, List.getElem?_append_left hk]
  refine ⟨hkeep, fun k o' hk => ?_⟩
  cases k with
  | zero =>
   simp at hk; subst hk
   refine ⟨acc, ?_, rfl, fun i hi => (hkeep i hi).symm⟩
   show (ancs r _).getD _ [] = _
   rw [Nat.add_zero, h1 acc.length (by simp)]
   simp [List.getD]
  | succ k =>
   obtain ⟨acc', g1, g2, g3⟩ := h2 k o' (by simpa using hk)
   refine ⟨acc', ?_, by rw [g2]; simp; omega, g3⟩
   show (ancs r _).getD _ [] = _
   rw [← g1]
   congr 1
   simp; omega
theorem anc_listed {all : List Oper} {D : Nat -> Bool} (hbelow : ∀ j o, all[j]? = some o -> ∀ e, e ∈ edgesOf o -> e < j) (hclosed : ∀ j o, all[j]? = some o -> D j = true -> ∀ e, e ∈ edgesOf o -> D e = true) :
  ∀ j o, all[j]? = some o -> (∀ e, e ∈ edgesOf o -> D e = true) -> ∀ i, i ∈ (ancs all []).getD j [] -> D i = true := by
 intro j
 induction j using Nat.strongRecOn with
 | _ j ih =>
  intro o hj hD i hi
  obtain ⟨acc', h1, h2, h3⟩ := (ancs_get (l := all) (acc := [])).2 j o hj
  simp only [List.length_nil, Nat.zero_add] at h1 h2
  rw [h1] at hi
  have hi := (ancOf_mem hi).resolve_left (by intro h; cases h)
  obtain ⟨e, he, hi⟩ := List.mem_flatMap.1 hi
  have hlt := hbelow j o hj e he
  rcases List.mem_cons.1 hi with e1 | hi
  ·subst e1; exact hD _ he
  ·rw [h3 e (by omega)] at hi
   have hlen : e < all.length := by
    have := (List.getElem?_eq_some_iff.1 hj).1; omega
   have hee : all[e]? = some all[e] := List.getElem?_eq_getElem hlen
   exact ih e hlt _ hee (fun e' he' => hclosed e _ hee (hD e he) e' he') i hi
theorem countP_lt {l : List Nat} {p q : Nat -> Bool} (h : ∀ x, q x = true -> p x = true) {y : Nat} (hy : y ∈ l) (hp : p y = true) (hq : q y = false) : l.countP q < l.countP p := by
 induction l with
 | nil => cases hy
 | cons x l ih =>
  have hle : l.countP q ≤ l.countP p := List.countP_mono_left fun x _ hx => h x hx
  rw [List.countP_cons, List.countP_cons]
  rcases List.mem_cons.1 hy with e | hy
  ·subst e; rw [hp, hq]; simp; omega
  ·have := ih hy
   cases h1 : q x with
   | true => rw [h x h1]; simp; omega
   | false =>
    simp only [Bool.false_eq_true, if_false]
    split <;> omega
section
variable {P : Program} {G : Glob} {Fs : List (List AV × Act)} {ro : Option Nat} {nn : Nat} {E0 : Env} {Ho : Nat -> Blk} {w0 : World} {es : List Ent} {base : Nat -> AV} {Hb : Nat -> Blk} {n0 n : Nat} {all : List Oper}
theorem edge_mem {o : Oper} {e : Edge} (he : e ∈ o.after) (hb : Region.binds .any e = true) : e.on ∈ edgesOf o := by
 unfold edgesOf
 refine List.mem_filterMap.2 ⟨e, by simpa using he, ?_⟩
 rw [hb]
theorem mem_edge {o : Oper} {i : Nat} (h : i ∈ edgesOf o) : ∃ e, e ∈ o.after /\ Region.binds .any e = true /\ e.on = i := by
 unfold edgesOf at h
 obtain ⟨e, he, h⟩ := List.mem_filterMap.1 h
 split at h
 ·rename_i hb; cases h; exact ⟨e, by simpa using he, hb, rfl⟩
 ·cases h
theorem ops_any {Q : Exit -> Act -> World -> Prop} (hR0 : Rel E0 Ho w0) (hgood : ∀ j e, es[j]? = some e -> Good P G all es base Hb n0 j e) (hall : es.map (·.o) = all) (hn : ∀ e, e ∈ es -> ∀ t, e.o.dst = some t -> t < n)
  (hdraw : drawB all (es.map (·.foot)) = true)
  (hQ : ∀ D a w, (∀ j, j < es.length -> D j = true) -> Inv G Fs E0 Ho w0 es base Hb n0 n D a w -> Q .normal a w) :
  ∀ fuel (listed : Array Bool) a w, listed.size = all.length -> (List.range all.length).countP (fun i => !listed.getD i false) ≤ fuel ->
   (∀ j o, all[j]? = some o -> listed.getD j false = true -> ∀ e, e ∈ edgesOf o -> listed.getD e false = true) ->
   Inv G Fs E0 Ho w0 es base Hb n0 n (fun i => listed.getD i false) a w -> wpAnyIn (fen ro) nn P .any all.toArray Q fuel listed a w := by
 have hlen : es.length = all.length := by rw [← hall, List.length_map]
 have hgo : ∀ k o, all[k]? = some o -> (∀ e, e ∈ edgesOf o -> e < k) /\ drawRow all o ((es.map (·.foot)).getD k ([], [])) ((ancs all []).getD k []) 0 (all.take k) (es.map (·.foot)) = true := by
  intro k o hk
  have := drawGo_mem hdraw k o hk
  rw [Nat.zero_add] at this
  exact this
 have hbelow := fun j o hj => (hgo j o hj).1
 have hoe : ∀ (j : Nat) (e : Ent), es[j]? = some e -> all[j]? = some e.o := fun j e h => by rw [← hall, List.getElem?_map, h]; rfl
 have hclash : ∀ (i j : Nat) (ei ej : Ent), es[i]? = some ei -> es[j]? = some ej -> i < j -> i ∈ (ancs all []).getD j [] \/ clash all ei.o ei.foot ej.o ej.foot = false := by
  intro i j ei ej hi hj hij
  have h1 := (hgo j ej.o (hoe j ej hj)).2
  have h2 := drawRow_mem h1 i ei.o ei.foot (by rw [List.getElem?_take_of_lt hij]; exact hoe i ei hi) (by rw [List.getElem?_map, hi]; rfl)
  rw [Nat.zero_add] at h2
  rw [show (es.map (·.foot)).getD j ([], []) = ej.foot from by simp [List.getD, List.getElem?_map, hj]] at h2
  exact h2
 have hwrf : ∀ (e : Ent) b, b ∈ e.wr.map (·.1) -> b ∈ e.foot.2 := by
  intro e b hb
  unfold Ent.wr at hb
  unfold Ent.foot
  cases hr : e.run with
  | none => rw [hr] at hb; cases hb
  | some x => rw [hr] at hb; obtain ⟨x1, x2, x3⟩ := x; exact hb
 have ready_all : ∀ (listed : Array Bool), listed.size = all.length -> Region.ready .any all.toArray listed = [] -> ∀ j, j < all.length -> listed.getD j false = true := by
  intro listed hls hr j
  induction j using Nat.strongRecOn with
  | _ j ih =>
   intro hj
   cases hl : listed.getD j false with
   | true => rfl
   | false =>
    have : j ∈ Region.ready .any all.toArray listed := by
     rw [mem_ready]
     refine ⟨?_, all[j], by simp [hj], fun e he hb => ?_⟩
     ·have hjs : j < listed.size := by omega
      simp [hjs] at hl ⊢; exact hl
     ·have := edge_mem he hb
      have hlt := hbelow j all[j] (List.getElem?_eq_getElem hj) _ this
      exact ih e.on hlt (by omega)
    rw [hr] at this; cases this
 intro fuel
 induction fuel with
 | zero =>
  intro listed a w hls hc hcl hI
  have hall' : ∀ j, j < all.length -> listed.getD j false = true := by
   intro j hj
   cases hl : listed.getD j false with
   | true => rfl
   | false =>
    have : 0 < (List.range all.length).countP (fun i => !listed.getD i false) := List.countP_pos_iff.2 ⟨j, List.mem_range.2 hj, by rw [hl]; rfl⟩
    omega
  refine ⟨?_, hQ _ a w (fun j hj => hall' j (by omega)) hI⟩
  refine List.eq_nil_iff_forall_not_mem.2 fun j hj => ?_
  rw [mem_ready] at hj
  obtain ⟨h1, o, h2, _⟩ := hj
  have hjl : j < all.length := by
   have := (Array.getElem?_eq_some_iff.1 h2).1; simpa using this
  have := hall' j hjl
  have hjs : j < listed.size := by omega
  simp [hjs] at h1 this
  rw [h1] at this; cases this
 | succ fuel ih =>
  intro listed a w hls hc hcl hI
  refine ⟨fun hr => hQ _ a w (fun j hj => ready_all listed hls hr j (by omega)) hI, fun j hj => ?_⟩
  rw [mem_ready] at hj
  obtain ⟨hun, o, ho, hedge⟩ := hj
  have hjl : j < all.length := by
   have := (Array.getElem?_eq_some_iff.1 ho).1; simpa using this
  have hjs : j < listed.size := by omega
  have hje : es[j]? = some (es[j]'(by omega)) := List.getElem?_eq_getElem _
  generalize (es[j]'(by omega)) = e at hje
  have hao := hoe j e hje
  have hoo : o = e.o := by
   rw [List.getElem?_toArray, hao] at ho
   exact (Option.some.inj ho).symm
  subst hoo
  have hDj : listed.getD j false = false := by simp [hjs] at hun ⊢; exact hun
  have hed : ∀ i, i ∈ edgesOf e.o -> listed.getD i false = true := by
   intro i hi
   obtain ⟨ed, h1, h2, h3⟩ := mem_edge hi
   rw [← h3]; exact hedge ed h1 h2
  have hanc : ∀ i, i ∈ (ancs all []).getD j [] -> listed.getD i false = true := anc_listed (D := fun i => listed.getD i false) hbelow hcl j e.o hao hed
  have hancD : ∀ (i : Nat) (ei : Ent), es[i]? = some ei -> listed.getD i false = true -> ∀ k, k ∈ (ancs all []).getD i [] -> listed.getD k false = true :=
   fun i ei hi hD => anc_listed (D := fun i => listed.getD i false) hbelow hcl i ei.o (hoe i ei hi) (hcl i ei.o (hoe i ei hi) hD)
  -- what is listed behind j does not clash with it; what is not listed ahead of it neither
  have hbehind : ∀ (i : Nat) (ei : Ent), es[i]? = some ei -> listed.getD i false = true -> j < i -> clash all e.o e.foot ei.o ei.foot = false := by
   intro i ei hi hD hji
   rcases hclash j i e ei hje hi hji with h | h
   ·have := hancD i ei hi hD j h
    rw [hDj] at this; cases this
   ·exact h
  have hahead : ∀ (i : Nat) (ei : Ent), es[i]? = some ei -> listed.getD i false = false -> i < j -> clash all ei.o ei.foot e.o e.foot = false := by
   intro i ei hi hD hij
   rcases hclash i j ei e hi hje hij with h | h
   ·have := hanc i h
    rw [hD] at this; cases this
   ·exact h
  have hagree : ∀ (i : Nat) (ei : Ent), es[i]? = some ei -> ((∃ t, ei.o.dst = some t /\ t ∈ reads all e.o) \/ ∃ b, b ∈ ei.wr.map (·.1) /\ b ∈ e.foot.1) -> listed.getD i false = upto j i := by
   intro i ei hi hh
   rcases Nat.lt_trichotomy i j with hlt | heq | hgt
   ·rw [show upto j i = true from by simp [upto, hlt]]
    cases hD : listed.getD i false with
    | true => rfl
    | false =>
     have hc := clash_false (hahead i ei hi hD hlt)
     rcases hh with ⟨t, h1, h2⟩ | ⟨b, h1, h2⟩
     ·exact absurd h2 (hc.1 t h1)
     ·exact absurd h2 (hc.2.2.2.1 b (hwrf ei b h1))
   ·subst heq
    rw [hDj]; simp [upto]
   ·rw [show upto j i = false from by simp [upto]; omega]
    cases hD : listed.getD i false with
    | false => rfl
    | true =>
     have hc := clash_false (hbehind i ei hi hD hgt)
     rcases hh with ⟨t, h1, h2⟩ | ⟨b, h1, h2⟩
     ·exact absurd h2 (hc.2.1 t h1)
     ·exact absurd (hwrf ei b h1) (hc.2.2.2.2.2 b h2)
  refine exec_one hR0 (hgood j e hje) hje hao (hn e (List.mem_of_getElem? hje)) (fun t ht => ?_) (fun b hb => ?_) (fun i ei d hD hji hi h1 h2 => ?_) (fun i ei b hD hji hi h1 h2 => ?_) hDj hI fun a' w' hI' => ?_
  ·refine tval_congr fun i ei hi hd => ?_
   rw [Nat.zero_add]
   exact hagree i ei hi (.inl ⟨t, hd, ht⟩)
  ·refine bval_congr rfl fun i ei hi hm => ?_
   rw [Nat.zero_add]
   exact hagree i ei hi (.inr ⟨b, hm, hb⟩)
  ·exact (clash_false (hbehind i ei hi hD hji)).2.2.1 d h1 h2
  ·exact (clash_false (hbehind i ei hi hD hji)).2.2.2.2.1 b (hwrf e b h1) (hwrf ei b h2)
  ·have hset : ∀ i, (listed.setIfInBounds j true).getD i false = setD (fun i => listed.getD i false) j i := by
    intro i
    unfold setD
    split
    ·rename_i e1; subst e1; simp [hjs]
    ·rename_i e1; rw [getD_set_ne false (Ne.symm e1)]
   refine ih (listed.setIfInBounds j true) a' w' (by simp [hls]) ?_ (fun i oi hi hD => ?_) ?_
   ·have : (List.range all.length).countP (fun i => !(listed.setIfInBounds j true).getD i false) < (List.range all.length).countP (fun i => !listed.getD i false) := by
     refine countP_lt (y := j) (fun x hx => ?_) (List.mem_range.2 hjl) (by rw [hDj]; rfl) (by rw [hset]; simp [setD])
     rw [hset] at hx
     unfold setD at hx
     split at hx
     ·cases hx
     ·exact hx
    omega
   ·intro e' he'
    rw [hset] at hD ⊢
    unfold setD at hD ⊢
    split
    ·rfl
    ·split at hD
     ·rename_i e1; subst e1
      rw [hao] at hi; cases hi
      exact hed e' he'
     ·exact hcl i oi hi hD e' he'
   ·rw [show (fun i => (listed.setIfInBounds j true).getD i false) = setD (fun i => listed.getD i false) j from funext hset]
    exact hI'
end
end Go.Eng

namespace Go.Eng
structure Mp (A B : Env) (σ : List (Nat × Nat)) (p : Nat -> Bool) : Prop where
 pl : ∀ b, p b = true -> B.pl (look σ b) = A.pl b
 lay : ∀ b, p b = true -> B.lay (look σ b) = A.lay b
 top : ∀ b, p b = true -> B.top (look σ b) = A.top b
theorem allB1_mem {p : Nat -> Bool} : ∀ {l : List AV}, allB1 p l = true -> ∀ x, x ∈ l -> x.inB1 p = true
 | [], _, x, h => by cases h
 | y :: l, h, x, hx => by
  simp only [allB1] at h
  split at h
  ·rename_i hy
   rcases List.mem_cons.1 hx with e | hx
   ·subst e; exact hy
   ·exact allB1_mem h x hx
  ·cases h
theorem ren_lay (σ : List (Nat × Nat)) : (x : AV) -> (x.ren σ).lay = x.lay
 | .any => rfl
 | .dv _ => rfl
 | .cons x xs => by show Lay.pair (x.ren σ).lay (xs.ren σ).lay = _; rw [ren_lay σ x, ren_lay σ xs]; rfl
 | .ptr _ _ _ => rfl
 | .rp _ => rfl
 | .sl _ _ _ _ _ => rfl
 | .fn _ _ => rfl
 | .tup _ => rfl
 | .mp _ => rfl
 | .stamp _ => rfl
 | .yld _ => rfl
 | .vs _ _ _ => rfl
 | .slc _ _ _ _ => rfl
 | .emp => rfl
 | .nq _ _ => rfl
 | .ifc _ _ => rfl
theorem ren_isAgg (σ : List (Nat × Nat)) (x : AV) : (x.ren σ).isAgg = x.isAgg := by unfold AV.isAgg; rw [ren_lay]
theorem ren1_isAgg (σ : List (Nat × Nat)) (x : AV) : (x.ren1 σ).isAgg = x.isAgg := by cases x <;> rfl
section
variable {A B : Env} {σ : List (Nat × Nat)} {p : Nat -> Bool}
theorem ptr_to (h : Mp A B σ p) {b : Nat} {q : List Nat} {l : Lay} {cs : List Value} (hb : p b = true) : RepA A (.ptr b q l) cs ↔ RepA B (.ptr (look σ b) q l) cs := by
 constructor
 ·intro hr
  cases hr with
  | ptr b p l r o off hp hl => exact .ptr _ q l r o off (by rw [h.pl b hb]; exact hp) (by rw [h.lay b hb]; exact hl)
 ·intro hr
  cases hr with
  | ptr _ p l r o off hp hl => exact .ptr _ q l r o off (by rw [← h.pl b hb]; exact hp) (by rw [← h.lay b hb]; exact hl)
theorem sl_to (h : Mp A B σ p) {b : Nat} {q : List Nat} {l : Lay} {i n : Nat} {cs : List Value} (hb : p b = true) : RepA A (.sl b q l i n) cs ↔ RepA B (.sl (look σ b) q l i n) cs := by
 constructor
 ·intro hr
  cases hr with
  | sl b p l off len r o so m c hp hl hn hc ht => exact .sl _ q l i _ r o so m c (by rw [h.pl b hb]; exact hp) (by rw [h.lay b hb]; exact hl) hn hc (by rw [h.top b hb]; exact ht)
  | sl0 b p l off a so n hp hl hn => exact .sl0 _ q l i a so _ (by rw [h.pl b hb]; exact hp) (by rw [h.lay b hb]; exact hl) hn
 ·intro hr
  cases hr with
  | sl _ p l off len r o so m c hp hl hn hc ht => exact .sl _ q l i _ r o so m c (by rw [← h.pl b hb]; exact hp) (by rw [← h.lay b hb]; exact hl) hn hc (by rw [← h.top b hb]; exact ht)
  | sl0 _ p l off a so n hp hl hn => exact .sl0 _ q l i a so _ (by rw [← h.pl b hb]; exact hp) (by rw [← h.lay b hb]; exact hl) hn
theorem vs_to (h : Mp A B σ p) {b i n : Nat} {cs : List Value} (hb : p b = true) : RepA A (.vs b i n) cs ↔ RepA B (.vs (look σ b) i n) cs := by
 constructor
 ·intro hr
  cases hr with
  | vs b off len r o n c hp hl hn hc => exact .vs _ _ _ r o n c (by rw [h.pl b hb]; exact hp) (by rw [h.lay b hb]; exact hl) hn hc
 ·intro hr
  cases hr with
  | vs _ off len r o n c hp hl hn hc => exact .vs _ _ _ r o n c (by rw [← h.pl b hb]; exact hp) (by rw [← h.lay b hb]; exact hl) hn hc
theorem slc_to (h : Mp A B σ p) {b i n c : Nat} {cs : List Value} (hb : p b = true) : RepA A (.slc b i n c) cs ↔ RepA B (.slc (look σ b) i n c) cs := by
 constructor
 ·intro hr
  cases hr with
  | slc b off len c r o n hp hl hn hc ht => exact .slc _ _ _ _ r o n (by rw [h.pl b hb]; exact hp) (by rw [h.lay b hb]; exact hl) hn hc (by rw [h.top b hb]; exact ht)
 ·intro hr
  cases hr with
  | slc _ off len c r o n hp hl hn hc ht => exact .slc _ _ _ _ r o n (by rw [← h.pl b hb]; exact hp) (by rw [← h.lay b hb]; exact hl) hn hc (by rw [← h.top b hb]; exact ht)
theorem emp_to {A B : Env} {cs : List Value} (h : RepA A .emp cs) : RepA B .emp cs := by
 cases h with
 | emp a => exact .emp a
theorem nq_to {A B : Env} {g : Bool} {n : Nat} {cs : List Value} (h : RepA A (.nq g n) cs) : RepA B (.nq g n) cs := by
 cases h with
 | nq g n b h => exact .nq g n b h
theorem mp_to (h : Mp A B σ p) {b : Nat} {cs : List Value} (hb : p b = true) : RepA A (.mp b) cs ↔ RepA B (.mp (look σ b)) cs := by
 constructor
 ·intro hr
  cases hr with
  | mp b r hp hl => exact .mp _ r (by rw [h.pl b hb]; exact hp) (by rw [h.lay b hb]; exact hl)
 ·intro hr
  cases hr with
  | mp _ r hp hl => exact .mp _ r (by rw [← h.pl b hb]; exact hp) (by rw [← h.lay b hb]; exact hl)
theorem stamp_to (h : Mp A B σ p) {b : Nat} {cs : List Value} (hb : p b = true) : RepA A (.stamp b) cs ↔ RepA B (.stamp (look σ b)) cs := by
 constructor
 ·intro hr
  cases hr with
  | stamp b n hp hl => exact .stamp _ n (by rw [h.pl b hb]; exact hp) (by rw [h.top b hb]; exact hl)
 ·intro hr
  cases hr with
  | stamp _ n hp hl => exact .stamp _ n (by rw [← h.pl b hb]; exact hp) (by rw [← h.top b hb]; exact hl)
theorem yld_to (h : Mp A B σ p) {b : Nat} {cs : List Value} (hb : p b = true) : RepA A (.yld b) cs ↔ RepA B (.yld (look σ b)) cs := by
 constructor
 ·intro hr
  cases hr with
  | yld b r hp => exact .yld _ r (by rw [h.pl b hb]; exact hp)
 ·intro hr
  cases hr with
  | yld _ r hp => exact .yld _ r (by rw [← h.pl b hb]; exact hp)
theorem one_to (h : Mp A B σ p) (hrd : ∀ r j v, A.rd r j = some v -> B.rd r j = some v) {x : AV} {cs : List Value} (hx : x.inB1 p = true) (hr : RepA A x cs) : RepA B (x.ren1 σ) cs := by
 cases x with
 | ptr b q l => exact (ptr_to h hx).1 hr
 | sl b q l i n => exact (sl_to h hx).1 hr
 | mp b => exact (mp_to h hx).1 hr
 | vs b i n => exact (vs_to h hx).1 hr
 | slc b i n c => exact (slc_to h hx).1 hr
 | emp => exact emp_to hr
 | dv d => exact .dv (hr.dv_inv.mono hrd)
 | rp d =>
  cases hr with
  | rp r o hd hs => exact .rp r o (hd.mono hrd) fun j hj => hrd _ _ _ (hs j hj)
 | any => cases hr
 | _ => cases hx
theorem one_back (h : Mp A B σ p) (hrd : ∀ r j v, B.rd r j = some v -> A.rd r j = some v) {x : AV} {cs : List Value} (hx : x.inB1 p = true) (hr : RepA B (x.ren1 σ) cs) : RepA A x cs := by
 cases x with
 | ptr b q l => exact (ptr_to h hx).2 hr
 | sl b q l i n => exact (sl_to h hx).2 hr
 | mp b => exact (mp_to h hx).2 hr
 | vs b i n => exact (vs_to h hx).2 hr
 | slc b i n c => exact (slc_to h hx).2 hr
 | emp => exact emp_to hr
 | dv d => exact .dv (hr.dv_inv.mono hrd)
 | rp d =>
  have hr : RepA B (.rp d) cs := hr
  cases hr with
  | rp r o hd hs => exact .rp r o (hd.mono hrd) fun j hj => hrd _ _ _ (hs j hj)
 | any =>
  have hr : RepA B .any cs := hr
  cases hr
 | _ => cases hx
theorem zip_ren {xs : List AV} {css : List (List Value)} : ((xs.map (AV.ren1 σ)).zip css).map (fun x => ofCells x.1.isAgg x.2) = (xs.zip css).map fun x => ofCells x.1.isAgg x.2 := by
 induction xs generalizing css with
 | nil => rfl
 | cons x xs ih =>
  cases css with
  | nil => rfl
  | cons cs css => simp only [List.map_cons, List.zip_cons_cons, ih, ren1_isAgg]
theorem RepA.to (h : Mp A B σ p) (hrd : ∀ r j v, A.rd r j = some v -> B.rd r j = some v) : (x : AV) -> ∀ {cs : List Value}, x.inB p = true -> RepA A x cs -> RepA B (x.ren σ) cs
 | .any, cs, _, hr => by cases hr
 | .dv d, cs, _, hr => .dv (hr.dv_inv.mono hrd)
 | .cons x xs, cs, hx, hr => by
  simp only [AV.inB] at hx
  split at hx
  ·rename_i h1
   cases hr with
   | cons g g' => exact .cons (RepA.to h hrd x h1 g) (RepA.to h hrd xs hx g')
  ·cases hx
 | .ptr b q l, cs, hx, hr => (ptr_to h hx).1 hr
 | .rp d, cs, _, hr => one_to (x := .rp d) h hrd rfl hr
 | .sl b q l i n, cs, hx, hr => (sl_to h hx).1 hr
 | .mp b, cs, hx, hr => (mp_to h hx).1 hr
 | .stamp b, cs, hx, hr => (stamp_to h hx).1 hr
 | .yld b, cs, hx, hr => (yld_to h hx).1 hr
 | .vs b i n, cs, hx, hr => (vs_to h hx).1 hr
 | .slc b i n c, cs, hx, hr => (slc_to h hx).1 hr
 | .emp, cs, _, hr => emp_to hr
 | .nq _ _, cs, _, hr => nq_to hr
 | .fn f caps, cs, hx, hr => by
  cases hr with
  | fn f caps css hlen g =>
   have := RepA.fn (E := B) f (caps.map (AV.ren1 σ)) css (by simp [hlen]) fun i hi => by
    have hi' : i < caps.length := by simpa using hi
    rw [List.getElem_map]
    exact one_to h hrd (allB1_mem hx _ (List.getElem_mem hi')) (g i hi')
   rw [zip_ren] at this
   exact this
 | .tup xs, cs, hx, hr => by
  cases hr with
  | tup xs css hlen g =>
   have := RepA.tup (E := B) (xs.map (AV.ren1 σ)) css (by simp [hlen]) fun i hi => by
    have hi' : i < xs.length := by simpa using hi
    rw [List.getElem_map]
    exact one_to h hrd (allB1_mem hx _ (List.getElem_mem hi')) (g i hi')
   rw [zip_ren] at this
   exact this
 | .ifc t x, cs, hx, hr => by
  cases hr with
  | ifc t g =>
   have := RepA.ifc (E := B) t (RepA.to h hrd x hx g)
   rw [ren_isAgg] at this
   exact this
theorem RepA.back (h : Mp A B σ p) (hrd : ∀ r j v, B.rd r j = some v -> A.rd r j = some v) : (x : AV) -> ∀ {cs : List Value}, x.inB p = true -> RepA B (x.ren σ) cs -> RepA A x cs
 | .any, cs, _, hr => by
  have hr : RepA B .any cs := hr
  cases hr
 | .dv d, cs, _, hr => .dv (hr.dv_inv.mono hrd)
 | .cons x xs, cs, hx, hr => by
  simp only [AV.inB] at hx
  split at hx
  ·rename_i h1
   have hr : RepA B (.cons (x.ren σ) (xs.ren σ)) cs := hr
   cases hr with
   | cons g g' => exact .cons (RepA.back h hrd x h1 g) (RepA.back h hrd xs hx g')
  ·cases hx
 | .ptr b q l, cs, hx, hr => (ptr_to h hx).2 hr
 | .rp d, cs, _, hr => one_back (x := .rp d) h hrd rfl hr
 | .sl b q l i n, cs, hx, hr => (sl_to h hx).2 hr
 | .mp b, cs, hx, hr => (mp_to h hx).2 hr
 | .stamp b, cs, hx, hr => (stamp_to h hx).2 hr
 | .yld b, cs, hx, hr => (yld_to h hx).2 hr
 | .vs b i n, cs, hx, hr => (vs_to h hx).2 hr
 | .slc b i n c, cs, hx, hr => (slc_to h hx).2 hr
 | .emp, cs, _, hr => emp_to hr
 | .nq _ _, cs, _, hr => nq_to hr
 | .fn f caps, cs, hx, hr => by
  have hr : RepA B (.fn f (caps.map (AV.ren1 σ))) cs := hr
  cases hr with
  | fn _ _ css hlen g =>
   have hlen' : css.length = caps.length := by simpa using hlen
   have := RepA.fn (E := A) f caps css hlen' fun i hi => by
    have := g i (by simpa using hi)
    rw [List.getElem_map] at this
    exact one_back h hrd (allB1_mem hx _ (List.getElem_mem hi)) this
   rw [zip_ren]
   exact this
 | .tup xs, cs, hx, hr => by
  have hr : RepA B (.tup (xs.map (AV.ren1 σ))) cs := hr
  cases hr with
  | tup _ css hlen g =>
   have hlen' : css.length = xs.length := by simpa using hlen
   have := RepA.tup (E := A) xs css hlen' fun i hi => by
    have := g i (by simpa using hi)
    rw [List.getElem_map] at this
    exact one_back h hrd (allB1_mem hx _ (List.getElem_mem hi)) this
   rw [zip_ren]
   exact this
 | .ifc t x, cs, hx, hr => by
  have hr : RepA B (.ifc t (x.ren σ)) cs := hr
  cases hr with
  | ifc t g =>
   have := RepA.ifc (E := A) t (RepA.back h hrd x hx g)
   rw [ren_isAgg]
   exact this
theorem ren_any {x : AV} (h : x.ren σ = .any) : x = .any := by cases x <;> first | rfl | cases h
theorem RepV.to (h : Mp A B σ p) (hrd : ∀ r j v, A.rd r j = some v -> B.rd r j = some v) {x : AV} {v : Value} (hx : x.inB p = true) (hr : RepV A x v) : RepV B (x.ren σ) v := by
 rcases hr with e | ⟨cs, hr, e⟩
 ·subst e; exact .any B v
 ·exact .inr ⟨cs, RepA.to h hrd x hx hr, by rw [ren_isAgg]; exact e⟩
theorem RepV.back (h : Mp A B σ p) (hrd : ∀ r j v, B.rd r j = some v -> A.rd r j = some v) {x : AV} {v : Value} (hx : x.inB p = true) (hr : RepV B (x.ren σ) v) : RepV A x v := by
 rcases hr with e | ⟨cs, hr, e⟩
 ·rw [ren_any e]; exact .any A v
 ·exact .inr ⟨cs, RepA.back h hrd x hx hr, by rw [ren_isAgg] at e; exact e⟩
theorem Room.to {b c : Nat} {w : World} {r o s : Nat} (h : B.top c = A.top b) : Room B c w r o s ↔ Room A b w r o s := by unfold Room; rw [h]
theorem BlkRel.to (h : Mp A B σ p) (hrd : ∀ r j v, A.rd r j = some v -> B.rd r j = some v) {b : Nat} {w : World} {x : Blk} (hb : p b = true) (hx : x.inB p = true) (hr : BlkRel A b w x) : BlkRel B (look σ b) w (x.ren σ) := by
 cases x with
 | dead => trivial
 | var y =>
  obtain ⟨r, o, cs, h1, h2, h3, h4, h5, h6⟩ := hr
  exact ⟨r, o, cs, by rw [h.pl b hb]; exact h1, by rw [h.lay b hb, ren_lay]; exact h2, RepA.to h hrd y hx h3, h4, by rw [h.top b hb]; exact h5, (Room.to (h.top b hb)).2 h6⟩
 | rowI k l =>
  obtain ⟨h1, h2 | ⟨r, o, h2, h3, h4⟩⟩ := hr
  ·exact ⟨by rw [h.lay b hb]; exact h1, .inl ⟨by rw [h.pl b hb]; exact h2.1, h2.2⟩⟩
  ·exact ⟨by rw [h.lay b hb]; exact h1, .inr ⟨r, o, by rw [h.pl b hb]; exact h2, h3, (Room.to (h.top b hb)).2 h4⟩⟩
 | row la n f =>
  obtain ⟨h1, h2 | ⟨r, o, css, h2, h3, h4, h5, h6⟩⟩ := hr
  ·exact ⟨by rw [h.lay b hb]; exact h1, .inl ⟨by rw [h.pl b hb]; exact h2.1, h2.2⟩⟩
  ·exact ⟨by rw [h.lay b hb]; exact h1, .inr ⟨r, o, css, by rw [h.pl b hb]; exact h2, fun i hi => (h3 i hi).mono hrd, h4, h5, (Room.to (h.top b hb)).2 h6⟩⟩
 | mp f0 es =>
  obtain ⟨r, entries, clock, h1, h2, h3, h4, h5⟩ := hr
  exact ⟨r, entries, clock, by rw [h.pl b hb]; exact h1, by rw [h.lay b hb]; exact h2, by rw [h.top b hb]; exact h3, h4, h5.1.mono hrd, h5.2⟩
 | mpn f0 es kd c =>
  have hc : p c = true := hx
  obtain ⟨h0, r, entries, clock, h1, h2, h3, h4, h5, h6, h7, j, v, m, h8, h9, h10⟩ := hr
  exact ⟨by rw [h.pl c hc]; exact h0, r, entries, clock, by rw [h.pl b hb]; exact h1, by rw [h.lay b hb]; exact h2, by rw [h.top b hb]; exact h3, h4, h5.mono hrd, h6, h7, j, v, m, h8, h9, by rw [h.top c hc]; exact h10⟩
 | lp L s =>
  obtain ⟨r, h1, h2, h3, h4⟩ := hr
  exact ⟨r, by rw [h.pl b hb]; exact h1, by rw [h.lay b hb]; exact h2, by rw [h.top b hb]; exact h3, h4⟩
 | frzI k l =>
  obtain ⟨h1, h2 | ⟨r, o, h2, h3⟩⟩ := hr
  ·exact ⟨by rw [h.lay b hb]; exact h1, .inl ⟨by rw [h.pl b hb]; exact h2.1, h2.2⟩⟩
  ·exact ⟨by rw [h.lay b hb]; exact h1, .inr ⟨r, o, by rw [h.pl b hb]; exact h2, fun j hj => hrd _ _ _ (h3 j hj)⟩⟩
 | frz la n f =>
  obtain ⟨h1, h2 | ⟨r, o, css, h2, h3, h4, h5⟩⟩ := hr
  ·exact ⟨by rw [h.lay b hb]; exact h1, .inl ⟨by rw [h.pl b hb]; exact h2.1, h2.2⟩⟩
  ·exact ⟨by rw [h.lay b hb]; exact h1, .inr ⟨r, o, css, by rw [h.pl b hb]; exact h2, fun i hi => (h3 i hi).mono hrd, h4, fun i hi j hj => hrd _ _ _ (h5 i hi j hj)⟩⟩
theorem BlkRel.back (h : Mp A B σ p) (hrd : ∀ r j v, B.rd r j = some v -> A.rd r j = some v) {b : Nat} {w : World} {x : Blk} (hb : p b = true) (hx : x.inB p = true) (hr : BlkRel B (look σ b) w (x.ren σ)) : BlkRel A b w x := by
 cases x with
 | dead => trivial
 | var y =>
  obtain ⟨r, o, cs, h1, h2, h3, h4, h5, h6⟩ := hr
  exact ⟨r, o, cs, by rw [← h.pl b hb]; exact h1, by rw [← h.lay b hb, h2, ren_lay], RepA.back h hrd y hx h3, h4, by rw [← h.top b hb]; exact h5, (Room.to (h.top b hb)).1 h6⟩
 | rowI k l =>
  obtain ⟨h1, h2 | ⟨r, o, h2, h3, h4⟩⟩ := hr
  ·exact ⟨by rw [← h.lay b hb]; exact h1, .inl ⟨by rw [← h.pl b hb]; exact h2.1, h2.2⟩⟩
  ·exact ⟨by rw [← h.lay b hb]; exact h1, .inr ⟨r, o, by rw [← h.pl b hb]; exact h2, h3, (Room.to (h.top b hb)).1 h4⟩⟩
 | row la n f =>
  obtain ⟨h1, h2 | ⟨r, o, css, h2, h3, h4, h5, h6⟩⟩ := hr
  ·exact ⟨by rw [← h.lay b hb]; exact h1, .inl ⟨by rw [← h.pl b hb]; exact h2.1, h2.2⟩⟩
  ·exact ⟨by rw [← h.lay b hb]; exact h1, .inr ⟨r, o, css, by rw [← h.pl b hb]; exact h2, fun i hi => (h3 i hi).mono hrd, h4, h5, (Room.to (h.top b hb)).1 h6⟩⟩
 | mp f0 es =>
  obtain ⟨r, entries, clock, h1, h2, h3, h4, h5⟩ := hr
  exact ⟨r, entries, clock, by rw [← h.pl b hb]; exact h1, by rw [← h.lay b hb]; exact h2, by rw [← h.top b hb]; exact h3, h4, h5.1.mono hrd, h5.2⟩
 | mpn f0 es kd c =>
  have hc : p c = true := hx
  obtain ⟨h0, r, entries, clock, h1, h2, h3, h4, h5, h6, h7, j, v, m, h8, h9, h10⟩ := hr
  exact ⟨by rw [← h.pl c hc]; exact h0, r, entries, clock, by rw [← h.pl b hb]; exact h1, by rw [← h.lay b hb]; exact h2, by rw [← h.top b hb]; exact h3, h4, h5.mono hrd, h6, h7, j, v, m, h8, h9, by rw [← h.top c hc]; exact h10⟩
 | lp L s =>
  obtain ⟨r, h1, h2, h3, h4⟩ := hr
  exact ⟨r, by rw [← h.pl b hb]; exact h1, by rw [← h.lay b hb]; exact h2, by rw [← h.top b hb]; exact h3, h4⟩
 | frzI k l =>
  obtain ⟨h1, h2 | ⟨r, o, h2, h3⟩⟩ := hr
  ·exact ⟨by rw [← h.lay b hb]; exact h1, .inl ⟨by rw [← h.pl b hb]; exact h2.1, h2.2⟩⟩
  ·exact ⟨by rw [← h.lay b hb]; exact h1, .inr ⟨r, o, by rw [← h.pl b hb]; exact h2, fun j hj => hrd _ _ _ (h3 j hj)⟩⟩
 | frz la n f =>
  obtain ⟨h1, h2 | ⟨r, o, css, h2, h3, h4, h5⟩⟩ := hr
  ·exact ⟨by rw [← h.lay b hb]; exact h1, .inl ⟨by rw [← h.pl b hb]; exact h2.1, h2.2⟩⟩
  ·exact ⟨by rw [← h.lay b hb]; exact h1, .inr ⟨r, o, css, by rw [← h.pl b hb]; exact h2, fun i hi => (h3 i hi).mono hrd, h4, fun i hi j hj => hrd _ _ _ (h5 i hi j hj)⟩⟩
theorem ren_own (x : Blk) : (x.ren σ).own = x.own := by cases x <;> rfl
theorem ren_dead {x : Blk} (h : x.ren σ = .dead) : x = .dead := by cases x <;> first | rfl | cases h
end
def Env.pull (E : Env) (σ : List (Nat × Nat)) (n : Nat) : Env :=
 {pl := fun b => if b < n then E.pl (look σ b) else .unborn, lay := fun b => E.lay (look σ b), top := fun b => E.top (look σ b), rd := E.rd, fx := E.fx }
theorem below_iff {n b : Nat} : below n b = true ↔ b < n := by unfold below; rw [Nat.blt_eq]
theorem Env.pull_mp (E : Env) (σ : List (Nat × Nat)) (n : Nat) : Mp (E.pull σ n) E σ (below n) :=
 ⟨fun b hb => by show _ = if b < n then _ else _; rw [if_pos (below_iff.1 hb)], fun _ _ => rfl, fun _ _ => rfl⟩
theorem Rel.pull {E : Env} {H H' : Nat -> Blk} {w : World} (hR : Rel E H w) {σ : List (Nat × Nat)} {n : Nat} (hH : ∀ b, b < n -> H' b = .dead \/ H (look σ b) = (H' b).ren σ) (hn : ∀ b, n ≤ b -> H' b = .dead)
  (hin : ∀ b, b < n -> (H' b).inB (below n) = true) (hinj : ∀ b b', b < n -> b' < n -> look σ b = look σ b' -> b = b') : Rel (E.pull σ n) H' w := by
 have hlt : ∀ b, H' b ≠ .dead -> b < n := fun b hb => Nat.lt_of_not_le fun h => hb (hn b h)
 have hpl : ∀ b, b < n -> (E.pull σ n).pl b = E.pl (look σ b) := fun b hb => if_pos hb
 have hown : ∀ b, (H' b).own = true -> b < n /\ (H (look σ b)).own = true := by
  intro b hb
  have h1 := hlt b (own_dead hb)
  rcases hH b h1 with h | h
  ·exact absurd h (own_dead hb)
  ·exact ⟨h1, by rw [h, ren_own]; exact hb⟩
 have hat : ∀ b r o, (E.pull σ n).pl b = .at r o -> b < n /\ E.pl (look σ b) = .at r o := by
  intro b r o h
  by_cases hb : b < n
  ·exact ⟨hb, (hpl b hb) ▸ h⟩
  ·have : (if b < n then E.pl (look σ b) else Place.unborn) = .at r o := h
   rw [if_neg hb] at this; cases this
 refine ⟨hR.rd, fun b => ?_, fun b b' r o r' o' hbb h1 h2 h3 h4 => ?_, fun b r o j v h1 h2 h3 => ?_, fun b r o h => hR.old _ r o (hat b r o h).2, fun b h => ?_, fun b r o h => hR.fit _ r o (hat b r o h).2, hR.fx, fun b r o ob h1 h2 h3 => hR.fxa _ r o ob (hown b h1).2 (hat b r o h2).2 h3⟩
 ·by_cases hb : b < n
  ·rcases hH b hb with h | h
   ·rw [h]; trivial
   ·exact BlkRel.back (E.pull_mp σ n) (fun _ _ _ h => h) (below_iff.2 hb) (hin b hb) (h ▸ hR.blk (look σ b))
  ·rw [hn b (Nat.le_of_not_lt hb)]; trivial
 ·have g1 := hown b h1
  have g2 := hown b' h2
  exact hR.sep _ _ r o r' o' (fun e => hbb (hinj b b' g1.1 g2.1 e)) g1.2 g2.2 (hat b r o h3).2 (hat b' r' o' h4).2
 ·exact hR.apart _ r o j v (hown b h1).2 (hat b r o h2).2 h3
 ·by_cases hb : b < n
  ·rw [hpl b hb] at h
   rcases hH b hb with h' | h'
   ·exact h'
   ·rw [hR.born _ h] at h'
    exact ren_dead h'.symm
  ·exact hn b (Nat.le_of_not_lt hb)
end Go.Eng

namespace Go.Eng
def accOf (bs : List Blk) : List (Nat × Blk) := (List.range bs.length).map fun b => (b, hOf bs b)
theorem accOf_ids {bs : List Blk} {b : Nat} : b ∈ (accOf bs).map (·.1) ↔ b < bs.length := by
 unfold accOf
 rw [List.map_map]
 constructor
 ·intro h
  obtain ⟨c, hc, e⟩ := List.mem_map.1 h
  rw [← e]; exact List.mem_range.1 hc
 ·intro h; exact List.mem_map.2 ⟨b, List.mem_range.2 h, rfl⟩
theorem accOf_upds {bs : List Blk} {H : Nat -> Blk} (b : Nat) : upds H (accOf bs) b = if b < bs.length then hOf bs b else H b := by
 split
 ·rename_i h
  obtain ⟨x, hx, he⟩ := upds_in (accOf_ids.2 h)
  rw [he]
  unfold accOf at hx
  obtain ⟨c, _, e⟩ := List.mem_map.1 hx
  injection e with e1 e2
  rw [← e2, e1]
 ·rename_i h
  exact upds_notin fun z hz e => h (accOf_ids.1 (List.mem_map.2 ⟨z, hz, e⟩))
theorem hOf_off {bs : List Blk} {b : Nat} (h : bs.length ≤ b) : hOf bs b = .dead := by
 unfold hOf; simp [List.getD, List.getElem?_eq_none h]
theorem Step.drewR {E0 E : Env} {Ho : Nat -> Blk} {w0 w : World} {acc : List (Nat × Blk)} {x : AV} {v : Value} (h : Step E0 Ho w0 acc x v E w) : Step E0 Ho w0 acc x v E { w with drawn := w.drawn + 1 } :=
 ⟨h.val, ⟨h.rel.rd, h.rel.blk, h.rel.sep, h.rel.apart, h.rel.old, h.rel.born, h.rel.fit, h.rel.fx, h.rel.fxa⟩, h.ext, ⟨h.mem.os, h.mem.tape, h.mem.output, h.mem.size, h.mem.same, h.mem.rd, h.mem.new⟩, h.born, h.live, h.others⟩
section
variable {P : Program} {G : Glob} {T : Tr} {E0 : Env} {Ho : Nat -> Blk} {w0 : World} {Fs : List (List AV × Act)} {ro : Option Nat} {nn : Nat}
def PostQ (G : Glob) (Fs : List (List AV × Act)) (E0 : Env) (Ho : Nat -> Blk) (w0 : World) (K : Post) : Exit -> Act -> World -> Prop
 | .normal, a, w => ∃ ts bs, K .normal ts bs /\ Sim G Fs E0 Ho w0 ts bs a w
 | .exit i, a, w => ∃ ts bs, K (.exit i) ts bs /\ Sim G Fs E0 Ho w0 ts bs a w
 | .goto i, a, w => ∃ ts bs, K (.goto i) ts bs /\ Sim G Fs E0 Ho w0 ts bs a w
 | .ret, a, w => ∃ ts bs, K .ret ts bs /\ Sim G Fs E0 Ho w0 ts bs a w
 | _, _, _ => False
theorem OK3.drewR {m : Nat} {E : Env} {H : Nat -> Blk} {w : World} {ds : List Deferred} (h : OK3 m Fs E H w ds) : OK3 m Fs E H { w with drawn := w.drawn + 1 } ds := ⟨h.nd, h.df, h.size, h.tmps, h.out⟩
theorem Sim.drewR {ts : List AV} {bs : List Blk} {a : Act} {w : World} (h : Sim G Fs E0 Ho w0 ts bs a w) : Sim G Fs E0 Ho w0 ts bs a { w with drawn := w.drawn + 1 } := by
 obtain ⟨E, acc, h⟩ := h
 exact ⟨E, acc, h.step.drewR, h.H, h.size, h.tmps, h.glob, h.unborn, h.acc, h.defers.drewR⟩
theorem region_start {ts : List AV} {bs : List Blk} {a : Act} {w : World} (h : Sim G Fs E0 Ho w0 ts bs a w) {es : List Ent} {D : Nat -> Bool} (hD : ∀ j, D j = false) : Inv G Fs E0 Ho w0 es (fun t => ts.getD t .any) (hOf bs) bs.length ts.length D a w := by
 obtain ⟨E, acc, h⟩ := h
 refine ⟨E, acc, h.step, by rw [bval_off fun j _ => hD j]; exact h.H, h.size, fun t => by rw [tval_off fun j _ => hD j]; exact h.tmps t, h.glob, fun b hb => .inl (h.unborn b hb), fun x hx => .inl (h.acc x hx), by rw [bval_off fun j _ => hD j]; exact h.defers⟩
theorem region_end {ts2 : List AV} {bs bs2 : List Blk} {n : Nat} {base : Nat -> AV} {Hb : Nat -> Blk} {es : List Ent} {D : Nat -> Bool} (hD : ∀ j, j < es.length -> D j = true) (hn : ts2.length = n) (hts : ∀ t, AEq (ts2.getD t .any) (tval es 0 allD t (base t))) (hbs : hOf bs2 = bval es 0 allD Hb)
  (hwr : ∀ (i : Nat) (e : Ent), es[i]? = some e -> ∀ x, x ∈ e.wr -> x.1 < bs2.length) (hle : bs.length ≤ bs2.length) {a : Act} {w : World} (h : Inv G Fs E0 Ho w0 es base Hb bs.length n D a w) : Sim G Fs E0 Ho w0 ts2 bs2 a w := by
 obtain ⟨E, acc, h⟩ := h
 have hb : bval es 0 D Hb = hOf bs2 := by
  rw [hbs]; funext b
  exact bval_congr rfl fun j e hj _ => by rw [Nat.zero_add, hD j (List.getElem?_eq_some_iff.1 hj).1]; rfl
 have ht : ∀ t, tval es 0 D t (base t) = tval es 0 allD t (base t) := fun t => tval_congr fun j e hj _ => by rw [Nat.zero_add, hD j (List.getElem?_eq_some_iff.1 hj).1]; rfl
 have hin : ∀ (i : Nat) (e : Ent) b, es[i]? = some e -> b ∈ e.wr.map (·.1) -> b < bs2.length := by
  intro i e b hi hb
  obtain ⟨x, hx, e1⟩ := List.mem_map.1 hb
  rw [← e1]; exact hwr i e hi x hx
 refine ⟨E, acc, h.step, by rw [h.H, hb], by rw [h.size, hn], fun t => (hts t E _).2 (by rw [← ht]; exact h.tmps t), h.glob, fun b hb => ?_, fun x hx => ?_, by rw [← hb]; exact h.defers⟩
 ·rcases h.unborn b hb with h1 | ⟨i, e, _, h2, h3⟩
  ·omega
  ·exact hin i e b h2 h3
 ·rcases h.acc x hx with h1 | ⟨i, e, h2, h3⟩
  ·omega
  ·exact hin i e _ h2 h3
theorem SimE.next (hR0 : Rel E0 Ho w0) {ts ts' : List AV} {bs bs' : List Blk} {a a' : Act} {w w' : World} {E E' : Env} {acc wr : List (Nat × Blk)} {v : AV} {u : Value} (h : SimE G Fs E0 Ho w0 ts bs a w E acc) (hst : Step E (upds Ho acc) w wr v u E' w')
  (hH : hOf bs' = upds (hOf bs) wr) (hle : bs.length ≤ bs'.length) (hin : ∀ x, x ∈ wr -> x.1 < bs'.length) (hsz : a'.tmps.size = ts'.length) (ht : ∀ t, RepV E' (ts'.getD t .any) (a'.tmps.getD t undef)) (hd : a'.defers = a.defers) :
  Sim G Fs E0 Ho w0 ts' bs' a' w' := by
 refine ⟨E', acc ++ wr, (h.step.trans hR0 hst).free (.any _ _), by rw [upds_append, h.H, hH], hsz, ht, h.glob.ext hst.ext, fun b hb => ?_, fun x hx => ?_, by rw [hd, hH, ← h.H]; exact (h.H ▸ h.defers).step hst⟩
 ·by_cases hu : E.pl b = .unborn
  ·obtain ⟨x, hx, e⟩ := List.mem_map.1 (hst.born b hu hb)
   rw [← e]; exact hin x hx
  ·have := h.unborn b hu; omega
 ·rcases List.mem_append.1 hx with hx | hx
  ·have := h.acc x hx; omega
  ·exact hin x hx
theorem Sim.push {ts : List AV} {bs : List Blk} {a : Act} {w : World} {E : Env} {acc : List (Nat × Blk)} (h : SimE G Fs E0 Ho w0 ts bs a w E acc) : SimE G ((ts, a) :: Fs) E0 Ho w0 [] bs { tmps := #[], defers := [] } w E acc :=
 ⟨h.step, h.H, rfl, fun _ => .any _ _, h.glob, h.unborn, h.acc, ⟨by have := h.defers.nd; simpa using this, (fun d hd => by cases hd), (fun x hx => by
  rcases List.mem_cons.1 hx with rfl | hx
  ·exact h.size
  ·exact h.defers.size x hx), (fun x hx t => by
  rcases List.mem_cons.1 hx with rfl | hx
  ·exact h.tmps t
  ·exact h.defers.tmps x hx t), (fun x hx => by
  rcases List.mem_cons.1 hx with rfl | hx
  ·exact h.defers.df
  ·exact h.defers.out x hx)⟩⟩
theorem Sim.pop {ts ts1 : List AV} {bs : List Blk} {a a1 : Act} {w : World} (h : Sim G ((ts, a) :: Fs) E0 Ho w0 ts1 bs a1 w) : Sim G Fs E0 Ho w0 ts bs a w := by
 obtain ⟨E, acc, h⟩ := h
 exact ⟨E, acc, h.step, h.H, h.defers.size _ (.head _), h.defers.tmps _ (.head _), h.glob, h.unborn, h.acc, ⟨(List.nodup_append.1 (by have := h.defers.nd; rwa [List.flatMap_cons] at this)).2.1, h.defers.out _ (.head _), fun x hx => h.defers.size x (.tail _ hx), fun x hx => h.defers.tmps x (.tail _ hx), fun x hx => h.defers.out x (.tail _ hx)⟩⟩
def YOK (P : Program) (G : Glob) (E0 : Env) (Ho : Nat -> Blk) (w0 : World) (Fs1 : List (List AV × Act)) (Y : RoundT) : Prop :=
 ∀ (yb : Nat) (pre : List (List AV × Act)) (args : List AV) (Kc : Bool -> List Blk -> Prop) (bs : List Blk) (w : World) (vs : List Value) (E : Env) (acc : List (Nat × Blk)) (l : Nat), Y yb ((pre ++ Fs1).map (·.1)) args Kc bs ->
  SimE G (pre ++ Fs1) E0 Ho w0 [] bs { tmps := #[], defers := [] } w E acc -> RepVs E args vs -> E.pl yb = .at l 0 ->
  ∃ fn tmps assign body, (Instr.yield l vs.toArray).run P w = .ok (.round l fn tmps assign body) w /\ RoundIn Fence.wide 0 P l fn tmps assign body w fun e w' => ∃ b bs', e = .returned (.bool b) /\ Kc b bs' /\ Sim G (pre ++ Fs1) E0 Ho w0 [] bs' { tmps := #[], defers := [] } w'
theorem noY_ok {Fs1 : List (List AV × Act)} : YOK P G E0 Ho w0 Fs1 noY := fun _ _ _ _ _ _ _ _ _ _ h => h.elim
theorem round_fen {ro : Option Nat} {n : Nat} {l : Nat} {f : FuncId} {tmps : Array Value} {assign body : Code} {w : World} {R : Ending -> World -> Prop} (h : RoundIn Fence.wide 0 P l f tmps assign body w R) : RoundIn (fen ro) n P l f tmps assign body w R := by
 have h' : ∀ (c : Frame) (cs : List Frame), ∃ e w', R e w' /\ ComesIn (Machine.fenced P Fence.wide) P (lone (Frame.round l f tmps assign body .normal) (c :: cs) w)
   (match e with
    | .returned v => lone (c.finish v) cs w'
    | .panicked chain => lone (c.raise chain) cs w'
    | .outgrown => lone c cs w') e := fun c cs => h.2 c cs (room_wide _)
 refine ⟨fen_fn ro f, fun c cs _ => ?_⟩
 cases ro with
 | none => exact h' c cs
 | some l => exact h' c cs
theorem yldOf_inv {ρ : Operand -> AV} {o : Op} {yb : Nat} {args : List AV} (h : yldOf ρ o = some (yb, args)) : ∃ c g, o = .call c /\ c.callee = .value g /\ ρ g = .yld yb /\ args = c.args.toList.map fun x => norm (ρ x) := by
 unfold yldOf at h
 split at h
 ·split at h
  ·split at h
   ·cases h; exact ⟨_, _, rfl, by assumption, by assumption, rfl⟩
   ·cases h
  ·cases h
 ·cases h
theorem SimE.ev {ts : List AV} {bs : List Blk} {a : Act} {w : World} {E : Env} {acc : List (Nat × Blk)} (h : SimE G Fs E0 Ho w0 ts bs a w E acc) (x : Operand) : RepV E (ev G ts x) (a.eval x) := by
 rw [ev_evF]
 exact evF_rep h.glob fun t _ => h.tmps t
theorem wp_yield {Y : RoundT} {Fs1 : List (List AV × Act)} (hY : YOK P G E0 Ho w0 Fs1 Y) (hpre : ∃ pre, Fs = pre ++ Fs1) {ts : List AV} {bs : List Blk} {a : Act} {w : World} {E : Env} {acc : List (Nat × Blk)} (hS : SimE G Fs E0 Ho w0 ts bs a w E acc) {o : Oper} {yb : Nat} {args : List AV} (ho : yldOf (ev G ts) o.op = some (yb, args))
  {Kc : Bool -> List Blk -> Prop} (h : Y yb (ts :: Fs.map (·.1)) args Kc bs) {next : Act -> World -> Prop} {Q : Exit -> Act -> World -> Prop} (hn : ∀ b bs' w', Kc b bs' -> Sim G Fs E0 Ho w0 ts bs' a w' -> next (a.put o.dst (.bool b)) w') : o.wpIn (fen ro) nn P a w next Q := by
 obtain ⟨c, g, hc, hg, hy, rfl⟩ := yldOf_inv ho
 have hgv := hS.ev g
 rw [hy] at hgv
 obtain ⟨l, hl, hev⟩ : ∃ l, E.pl yb = .at l 0 /\ a.eval g = .func (.yield l) #[] #[] := by
  rcases hgv with hgv | ⟨cs, hr, e⟩
  ·cases hgv
  ·cases hr with
   | yld b r hp => exact ⟨r, hp, e⟩
 obtain ⟨pre, rfl⟩ := hpre
 obtain ⟨fn, tmps, assign, body, hrun, hround⟩ := hY yb ((ts, a) :: pre) _ Kc bs w (c.args.toList.map a.eval) E acc l h (Sim.push hS) (by
  refine ⟨by simp, fun i hi hi' => ?_⟩
  rw [List.getElem_map, List.getElem_map]
  exact norm_rep (hS.ev _)) hl
 refine ⟨fun f _ => fen_fn ro f, ?_⟩
 have hexec : (o.semAt (fen ro).round a.eval).run P w = .ok (.round l fn tmps assign body) w := by
  rw [Oper.semAt_eq _ _ _ (by rw [hc]; intro c h; cases h)]
  have e : #[] ++ c.args.map a.eval = (c.args.toList.map a.eval).toArray := by
   rw [← Array.toList_inj]; simp
  simp only [execOp, hc, resolve, hg, hev, Deferred.ofValue, Sem.run_bind, Sem.run_pure, Result.andThen_ok, invoke, e]
  exact hrun
 rw [hexec, Oper.uponIn_round]
 refine ⟨(fun h => by rw [fen_depth] at h; cases h), (round_fen hround).mono fun e w' he => ?_⟩
 obtain ⟨b, bs', rfl, hk, hs⟩ := he
 exact hn b bs' w' hk (Sim.pop hs)
theorem ops_seq (hT : TabOK P T) (hR0 : Rel E0 Ho w0) {Y : RoundT} {Fs1 : List (List AV × Act)} (hY : YOK P G E0 Ho w0 Fs1 Y) (hpre : ∃ pre, Fs = pre ++ Fs1) {all : List Oper} {Q : Exit -> Act -> World -> Prop} {K : List AV -> List Blk -> List Foot -> Prop} (hQ : ∀ ts bs fs a w, K ts bs fs -> Sim G Fs E0 Ho w0 ts bs a w -> Q .normal a w) :
  ∀ (rest : List Oper) (j : Nat) (ts : List AV) (bs : List Blk) (fs : List Foot) (a : Act) (w : World), all.drop j = rest -> opsK P G T (Fs.map (·.1)) Y all rest ts bs fs K -> Sim G Fs E0 Ho w0 ts bs a w -> wpOpsIn (fen ro) nn P all.toArray Q (List.range' j rest.length) a w
 | [], j, ts, bs, fs, a, w, hd, h, hS => hQ ts bs fs a w h hS
 | o :: rest, j, ts, bs, fs, a, w, hd, h, hS => by
  have hj : all[j]? = some o := by
   have : (all.drop j)[0]? = some o := by rw [hd]; rfl
   rwa [List.getElem?_drop, Nat.add_zero] at this
  have hd' : all.drop (j + 1) = rest := by
   rw [← List.drop_drop, hd]; rfl
  rw [List.length_cons, List.range'_succ, wpOpsIn_cons]
  unfold wpOpIn
  rw [List.getElem?_toArray, hj]
  simp only [opsK] at h
  obtain ⟨r, ts1, h, hl1, heq1, hg⟩ := guardK_inv h
  have hS1 : Sim G Fs E0 Ho w0 ts1 bs a w := by
   obtain ⟨E, acc, hS⟩ := hS
   exact ⟨E, acc, hS.step, hS.H, by rw [hS.size, hl1], fun t => (heq1 t E _).2 (hS.tmps t), hS.glob, hS.unborn, hS.acc, hS.defers⟩
  have hw : Region.wanted o (yielded all.toArray a.tmps) = r := by
   obtain ⟨E, acc, hS⟩ := hS
   exact guard_wanted (all := all) (a := a) hg (fun _ _ => rfl) hS.tmps
  simp only [hw]
  -- what a value that is put leaves
  have put : ∀ (x : AV) (u : Value) (wr : List (Nat × Blk)) (bs' : List Blk) (E E' : Env) (acc : List (Nat × Blk)) (w' : World) (ts' : List AV), SimE G Fs E0 Ho w0 ts1 bs a w E acc -> Step E (upds Ho acc) w wr x u E' w' -> (∀ t, o.dst = some t -> t < ts1.length) -> ts'.length = ts1.length ->
    (∀ t, ts'.getD t .any = if o.dst = some t then x else ts1.getD t .any) -> hOf bs' = upds (hOf bs) wr -> bs.length ≤ bs'.length -> (∀ x, x ∈ wr -> x.1 < bs'.length) -> Sim G Fs E0 Ho w0 ts' bs' (a.put o.dst u) w' := by
   intro x u wr bs' E E' acc w' ts' hSE hst hlt hl ht hb hle hin
   refine hSE.next hR0 hst hb hle hin (by rw [put_size, hSE.size, hl]) (fun t => ?_) (put_defers ..)
   rw [ht, put_tmps hSE.size hlt]
   split
   ·exact hst.val
   ·exact (hSE.tmps t).ext hst.ext
  cases r with
  | true =>
   simp only [if_true] at h ⊢
   obtain ⟨E, acc, hSE⟩ := hS1
   split at h
   ·rename_i yb args hyl
    refine wp_yield hY hpre hSE hyl h fun b bs' w' hk hs' => ?_
    obtain ⟨ts', hk, hl, hlt, ht⟩ := putK_inv hk
    refine ops_seq hT hR0 hY hpre hQ rest (j + 1) ts' bs' _ _ _ hd' hk ?_
    obtain ⟨E', acc', hs'⟩ := hs'
    refine ⟨E', acc', hs'.step, hs'.H, by rw [put_size, hs'.size, hl], fun t => ?_, hs'.glob, hs'.unborn, hs'.acc, by rw [put_defers]; exact hs'.defers⟩
    rw [ht, put_tmps hs'.size hlt]
    split
    ·exact sc_rep E' trivial
    ·exact hs'.tmps t
   ·have hdef := opK_defer h
    obtain ⟨rd, wr0, v0, h, heff⟩ := told_op hT (by simp [hOf]) h
    obtain ⟨wr, hsw, h⟩ := hintW_inv h
    obtain ⟨v, hsv, h⟩ := hintV_inv h
    have heff := heff.retell hsw hsv
    obtain ⟨rd, wr, v, h, heff⟩ := shutK_inv h heff
    split at h
    ·rename_i hnew
     obtain ⟨ts', h, hl, hlt, ht⟩ := putK_inv h
     obtain ⟨bs', h, hb, hle, hin⟩ := wrK_inv h
     refine wp_fen hdef (heff E _ a w hSE.step.rel hSE.glob (fun x _ => hSE.ev x) (fun b _ => by rw [hSE.H]) (fun x hx hd => ?_) _ _ fun u E' w' hst => ?_)
     ·refine Classical.byContradiction fun hu => ?_
      have h1 := hSE.unborn x.1 hu
      have h2 := newOK_mem hnew x hx hd
      omega
     ·exact ops_seq hT hR0 hY hpre hQ rest (j + 1) ts' bs' _ _ _ hd' h (put v u wr bs' E E' acc w' ts' hSE hst hlt hl ht hb hle hin)
    ·exact h.elim
  | false =>
   simp only [Bool.false_eq_true, if_false] at h ⊢
   obtain ⟨E, acc, hSE⟩ := hS1
   obtain ⟨ts', h, hl, hlt, ht⟩ := putK_inv h
   refine ⟨fun f _ => fen_fn ro f, ops_seq hT hR0 hY hpre hQ rest (j + 1) ts' bs _ _ _ hd' h ?_⟩
   exact put (.tup []) undef [] bs E E acc w ts' hSE (Step.pure hSE.step.rel (undef_rep _)) hlt hl ht rfl (Nat.le_refl _) (fun x hx => by cases hx)
theorem region_sound (hT : TabOK P T) (hm : P.follows .mixedOrders = true) (hR0 : Rel E0 Ho w0) {Y : RoundT} {Fs1 : List (List AV × Act)} (hY : YOK P G E0 Ho w0 Fs1 Y) (hpre : ∃ pre, Fs = pre ++ Fs1) {It : ItT} {ir : Bool} {id : Nat} {ops : Array Oper} {d : Bool} {k : Nat} {K : Post} {ts : List AV} {bs : List Blk} {a : Act} {w : World}
  (h : vcB P G T It k Y ir (.region id ops d) (Fs.map (·.1)) none K ts bs) (hS : Sim G Fs E0 Ho w0 ts bs a w) : (Code.region id ops d).wpIn (fen ro) nn P (PostQ G Fs E0 Ho w0 K) a w := by
 have hops : ops.toList.toArray = ops := by simp
 cases d with
 | false =>
  have := ops_seq (ro := ro) (nn := nn) (Q := PostQ G Fs E0 Ho w0 K) hT hR0 hY hpre (fun ts bs fs a w hk hs => ⟨ts, bs, hk, hs⟩) ops.toList 0 ts bs [] a w rfl h hS
  rw [hops, Array.length_toList, ← List.range_eq_range'] at this
  exact wpIn_region this
 | true =>
  obtain ⟨es, ts2, bs2, h1, h2, h3, h4, h5, h6, h7, h8, h9⟩ := (ops_trace hT h rfl (fun t => .refl _) rfl (fun i e hi => by simp at hi) (Nat.le_refl _) rfl : TraceR P G ops.toList (fun t => ts.getD t .any) (hOf bs) bs.length ts.length ops.toList [] bs _)
  simp only [List.nil_append, List.length_nil, Nat.zero_add, List.reverse_reverse] at h2 h4 h5 h6 h9
  split at h2
  ·rename_i hdraw
   have hlen : ops.toList.length = ops.size := Array.length_toList
   have := ops_any (ro := ro) (nn := nn) (Q := PostQ G Fs E0 Ho w0 K) hR0 h9 h1 h8 hdraw (fun D a w hD hI => ⟨ts2, bs2, h2, region_end hD h3 h4 h5 h6 h7 hI⟩) ops.size (Array.replicate ops.size false) a { w with drawn := w.drawn + 1 } (by simp) (by
    refine Nat.le_trans List.countP_le_length ?_
    rw [List.length_range, hlen]; exact Nat.le_refl _) (fun j o hj hD => by
    by_cases hjs : j < ops.size
    ·simp [hjs] at hD
    ·simp [hjs] at hD) (region_start hS.drewR fun j => by
    by_cases hjs : j < ops.size
    ·simp [hjs]
    ·simp [hjs])
   rw [hops] at this
   exact wpIn_region_any hm this
  ·exact h2.elim
theorem wp_loop_x {X : Type} {c : Code} {Q : Exit -> Act -> World -> Prop} (J : X -> Act -> World -> Prop) (μ : X -> Nat) (round : ∀ x a w, J x a w -> c.wpIn (fen ro) nn P (Exit.then (fun a' w' => ∃ y, J y a' w' /\ μ y < μ x) Q) a w) {x : X} {a : Act} {w : World} (h₀ : J x a w) : (Code.loop c).wpIn (fen ro) nn P Q a w := by
 intro b k cs hro hb hr
 have key : ∀ n x a w, μ x = n -> J x a w ->
   ∃ e a' w', Q e a' w' /\ ArrivesIn (Machine.fenced P (fen ro)) P (lone (b.atR a (.code c :: .inLoop c :: k)) cs w) b k cs e a' w' := by
  intro n
  induction n using Nat.strongRecOn with
  | _ n ih =>
   intro x a w hn hI
   obtain ⟨e, a₁, w₁, hq, harr⟩ := round x a w hI b (.inLoop c :: k) cs hro hb hr
   cases e with
   | normal =>
    obtain ⟨y, hI₁, hlt⟩ := hq
    obtain ⟨e₂, a₂, w₂, hq₂, harr₂⟩ := ih (μ y) (hn ▸ hlt) y a₁ w₁ rfl hI₁
    exact ⟨e₂, a₂, w₂, hq₂, .of_steps (StepsIn.trans harr (.one (fenced_calm hb hr rfl) stepR_inLoop)) harr₂⟩
   | exit id => exact ⟨_, a₁, w₁, hq, .pass (x := .inLoop c) rfl (fun _ _ => .inl (by simp)) harr⟩
   | goto l => exact ⟨_, a₁, w₁, hq, .pass (x := .inLoop c) rfl (fun _ _ => .inl (by simp)) harr⟩
   | ret => exact ⟨_, a₁, w₁, hq, .pass (x := .inLoop c) rfl (fun _ _ => .inl (by simp)) harr⟩
   | panic ch => exact ⟨_, a₁, w₁, hq, .pass (x := .inLoop c) rfl (fun _ _ => .inl (by simp)) harr⟩
   | outgrown => exact ⟨_, a₁, w₁, hq, .pass (x := .inLoop c) rfl (fun _ _ => .inl (by simp)) harr⟩
 obtain ⟨e, a', w', hq, harr⟩ := key _ x a w rfl h₀
 exact ⟨e, a', w', hq, .of_steps (.one (fenced_calm hb hr rfl) stepR_loop) harr⟩
end
end Go.Eng

namespace Go.Eng
theorem map_ren1_nil : ∀ l : List AV, l.map (AV.ren1 []) = l
 | [] => rfl
 | x :: l => by rw [List.map_cons, map_ren1_nil l]; cases x <;> rfl
theorem ren_nil : (x : AV) -> x.ren [] = x
 | .any => rfl
 | .dv _ => rfl
 | .cons x xs => by show AV.cons (x.ren []) (xs.ren []) = _; rw [ren_nil x, ren_nil xs]
 | .ptr _ _ _ => rfl
 | .rp _ => rfl
 | .sl _ _ _ _ _ => rfl
 | .mp _ => rfl
 | .stamp _ => rfl
 | .yld _ => rfl
 | .vs _ _ _ => rfl
 | .slc _ _ _ _ => rfl
 | .emp => rfl
 | .nq _ _ => rfl
 | .fn f caps => by show AV.fn f (caps.map _) = _; rw [map_ren1_nil]
 | .tup xs => by show AV.tup (xs.map _) = _; rw [map_ren1_nil]
 | .ifc t x => by show AV.ifc t (x.ren []) = _; rw [ren_nil x]
def startL (D : List Nat) (U : List (Nat × AV)) : Nat -> List AV -> List AV
 | _, [] => []
 | i, x :: r => (match getU U i with
  | some v => v
  | none => match memN D i with | true => .any | false => x) :: startL D U (i + 1) r
def startBL (B : List (Nat × Blk)) : Nat -> List Blk -> List Blk
 | _, [] => []
 | i, x :: r => (match getU B i with
  | some v => v
  | none => x) :: startBL B (i + 1) r
theorem startK_eq {D : List Nat} {U : List (Nat × AV)} : ∀ {ts : List AV} {i : Nat} {K : List AV -> Prop}, startK D U i ts K = K (startL D U i ts)
 | [], _, _ => rfl
 | x :: r, i, K => by
  simp only [startK, startL]
  cases getU U i with
  | some v => simp only [forceA_eq]; rw [startK_eq]
  | none => cases memN D i <;> simp only <;> rw [startK_eq]
theorem startB_eq {B : List (Nat × Blk)} : ∀ {bs : List Blk} {i : Nat} {K : List Blk -> Prop}, startB B i bs K = K (startBL B i bs)
 | [], _, _ => rfl
 | x :: r, i, K => by
  simp only [startB, startBL]
  cases getU B i with
  | some v => simp only [forceB_eq]; rw [startB_eq]
  | none => simp only; rw [startB_eq]
theorem startL_len {D : List Nat} {U : List (Nat × AV)} : ∀ {ts : List AV} {i : Nat}, (startL D U i ts).length = ts.length
 | [], _ => rfl
 | x :: r, i => by simp [startL, startL_len]
theorem startBL_len {B : List (Nat × Blk)} : ∀ {bs : List Blk} {i : Nat}, (startBL B i bs).length = bs.length
 | [], _ => rfl
 | x :: r, i => by simp [startBL, startBL_len]
theorem startL_get {D : List Nat} {U : List (Nat × AV)} : ∀ {ts : List AV} {i t : Nat}, t < ts.length -> (startL D U i ts).getD t .any = match getU U (i + t) with
  | some v => v
  | none => match memN D (i + t) with | true => .any | false => ts.getD t .any
 | [], _, t, h => by cases h
 | x :: r, i, 0, _ => by simp [startL, List.getD]
 | x :: r, i, t + 1, h => by
  have := startL_get (D := D) (U := U) (ts := r) (i := i + 1) (t := t) (by simpa using h)
  rw [show i + 1 + t = i + (t + 1) from by omega] at this
  simpa [startL, List.getD] using this
theorem maskT_get {D : List Nat} : ∀ {ts ts1 : List AV} {i : Nat}, maskT D i ts1 = maskT D i ts -> ts1.length = ts.length /\ ∀ t, memN D (i + t) = false -> ts1.getD t .any = ts.getD t .any
 | [], [], _, _ => ⟨rfl, fun _ _ => rfl⟩
 | [], _ :: _, _, h => by simp [maskT] at h
 | _ :: _, [], _, h => by simp [maskT] at h
 | x :: r, y :: r', i, h => by
  simp only [maskT] at h
  injection h with h1 h2
  obtain ⟨hl, hg⟩ := maskT_get h2
  refine ⟨by simp [hl], fun t ht => ?_⟩
  cases t with
  | zero =>
   simp only [Nat.add_zero] at ht
   rw [ht] at h1
   simpa [List.getD] using h1
  | succ t =>
   have := hg t (by rw [show i + 1 + t = i + (t + 1) from by omega]; exact ht)
   simpa [List.getD] using this
theorem eqU_mem {σ : List (Nat × Nat)} {ts1 : List AV} : ∀ {U : List (Nat × AV)}, eqU σ ts1 U -> ∀ t v, getU U t = some v -> v = .any \/ ts1.getD t .any = v.ren σ
 | [], _, t, v, h => by cases h
 | (i, x) :: r, h, t, v, hg => by
  simp only [eqU] at h
  have hh : (x = .any \/ ts1.getD i .any = x.ren σ) /\ eqU σ ts1 r := by
   split at h
   ·exact ⟨.inl rfl, h⟩
   ·exact ⟨.inr h.1, h.2⟩
  simp only [getU] at hg
  split at hg
  ·rename_i hb
   cases hg
   rw [Nat.eq_of_beq_eq_true hb]; exact hh.1
  ·exact eqU_mem hh.2 t v hg
theorem underU_mem {p : Nat -> Bool} : ∀ {U : List (Nat × AV)}, underU p U = true -> ∀ t v, getU U t = some v -> v.inB p = true
 | [], _, t, v, h => by cases h
 | (i, x) :: r, h, t, v, hg => by
  simp only [underU] at h
  split at h
  ·rename_i hx
   simp only [getU] at hg
   split at hg
   ·cases hg; exact hx
   ·exact underU_mem h t v hg
  ·cases h
theorem eqBlk_inv {σ : List (Nat × Nat)} {bs1 : List Blk} {i : Nat} {x : Blk} (h : eqBlk σ bs1 i x) : x = .dead \/ hOf bs1 (look σ i) = x.ren σ := by
 unfold eqBlk at h
 split at h
 ·exact .inl rfl
 ·exact .inr h
theorem eqB_get {σ : List (Nat × Nat)} {B : List (Nat × Blk)} {bs1 : List Blk} : ∀ {bs : List Blk} {i : Nat}, eqB σ B bs1 i bs -> ∀ b, b < bs.length -> hOf (startBL B i bs) b = .dead \/ hOf bs1 (look σ (i + b)) = (hOf (startBL B i bs) b).ren σ
 | [], _, _, b, h => by cases h
 | x :: r, i, h, b, hb => by
  have hh : eqBlk σ bs1 i (match getU B i with | some v => v | none => x) /\ eqB σ B bs1 (i + 1) r := by
   simp only [eqB] at h
   split at h
   ·rename_i hg; rw [hg]; exact h
   ·rename_i hg; rw [hg]; exact h
  cases b with
  | zero => exact eqBlk_inv hh.1
  | succ b =>
   have := eqB_get hh.2 b (by simpa using hb)
   rw [show i + 1 + b = i + (b + 1) from by omega] at this
   simpa [startBL, hOf, List.getD] using this
theorem underB_get {p : Nat -> Bool} {B : List (Nat × Blk)} : ∀ {bs : List Blk} {i : Nat}, underB p B i bs = true -> ∀ b, b < bs.length -> (hOf (startBL B i bs) b).inB p = true
 | [], _, _, b, h => by cases h
 | x :: r, i, h, b, hb => by
  have hh : (match getU B i with | some v => v | none => x).inB p = true /\ underB p B (i + 1) r = true := by
   simp only [underB] at h
   split at h
   ·rename_i hg; rw [hg]
    split at h
    ·rename_i h1; exact ⟨h1, h⟩
    ·cases h
   ·rename_i hg; rw [hg]
    split at h
    ·rename_i h1; exact ⟨h1, h⟩
    ·cases h
  cases b with
  | zero => exact hh.1
  | succ b =>
   have := underB_get hh.2 b (by simpa using hb)
   simpa [startBL, hOf, List.getD] using this
theorem stayT_get {p : Nat -> Bool} {D : List Nat} {U : List (Nat × AV)} : ∀ {ts : List AV} {i : Nat}, stayT p D U i ts = true -> ∀ t, t < ts.length -> getU U (i + t) = none -> memN D (i + t) = false -> (ts.getD t .any).inB p = true
 | [], _, _, t, h, _, _ => by cases h
 | x :: r, i, h, t, ht, h1, h2 => by
  simp only [stayT] at h
  cases t with
  | zero =>
   rw [Nat.add_zero] at h1 h2
   rw [h1, h2] at h
   simp only at h
   split at h
   ·rename_i hx; exact hx
   ·cases h
  | succ t =>
   have hr : stayT p D U (i + 1) r = true := by
    split at h
    ·split at h
     ·exact h
     ·cases h
    ·exact h
   have := stayT_get hr t (by simpa using ht) (by rw [show i + 1 + t = i + (t + 1) from by omega]; exact h1) (by rw [show i + 1 + t = i + (t + 1) from by omega]; exact h2)
   simpa [List.getD] using this
theorem nodupN_inj {f : Nat -> Nat} {n : Nat} (h : nodupN ((List.range n).map f) = true) : ∀ b b', b < n -> b' < n -> f b = f b' -> b = b' := by
 have hnd : ∀ l : List Nat, nodupN l = true -> l.Nodup := by
  intro l
  induction l with
  | nil => intro _; exact .nil
  | cons x l ih =>
   intro h
   unfold nodupN at h
   split at h
   ·cases h
   ·rename_i hx
    refine List.nodup_cons.2 ⟨fun hm => ?_, ih h⟩
    rw [mem_memN hm] at hx; cases hx
 have hp := hnd _ h
 intro b b' hb hb' e
 have h1 := List.pairwise_map.1 hp
 rcases Nat.lt_trichotomy b b' with hlt | heq | hgt
 ·have := List.pairwise_iff_getElem.1 h1 b b' (by simpa using hb) (by simpa using hb') hlt
  simp at this; exact absurd e this
 ·exact heq
 ·have := List.pairwise_iff_getElem.1 h1 b' b (by simpa using hb') (by simpa using hb) hgt
  simp at this; exact absurd e.symm this
theorem outB_mem {p : Nat -> Bool} : ∀ {O : List (List AV)}, outB p O = true -> ∀ ts, ts ∈ O -> ∀ x, x ∈ ts -> x.inB p = true
 | [], _, ts, h => by cases h
 | t0 :: O, h, ts, hts => by
  simp only [outB] at h
  split at h
  ·rename_i hu
   rcases List.mem_cons.1 hts with rfl | hts
   ·have : ∀ (l : List AV), underU p (l.map fun x => (0, x)) = true -> ∀ x, x ∈ l -> x.inB p = true := by
     intro l
     induction l with
     | nil => intro _ x hx; cases hx
     | cons y l ih =>
      intro h x hx
      simp only [List.map_cons, underU] at h
      split at h
      ·rename_i hy
       rcases List.mem_cons.1 hx with rfl | hx
       ·exact hy
       ·exact ih h x hx
      ·cases h
    exact this _ hu
   ·exact outB_mem h ts hts
  ·cases h
theorem keysB_look {k : Nat} : ∀ {σ : List (Nat × Nat)}, keysB k σ = true -> ∀ b, b < k -> look σ b = b
 | [], _, _, _ => rfl
 | (i, j) :: r, h, b, hb => by
  simp only [keysB] at h
  split at h
  ·rename_i hk
   have hk := Nat.le_of_ble_eq_true hk
   unfold look
   split
   ·rename_i hbe; have := Nat.eq_of_beq_eq_true hbe; omega
   ·exact keysB_look h b hb
  ·cases h
theorem fixB_iff {σ : List (Nat × Nat)} {n b : Nat} (h : fixB σ n b = true) : b < n /\ look σ b = b := by
 unfold fixB at h
 split at h
 ·rename_i hb
  rw [Nat.blt_eq] at hb
  exact ⟨hb, Nat.eq_of_beq_eq_true h⟩
 ·cases h
section
variable {P : Program} {G : Glob} {T : Tr} {E0 : Env} {Ho : Nat -> Blk} {w0 : World} {Fs : List (List AV × Act)}
def GPlain (G : Glob) : Prop := ∀ g, (G g).inB (fun _ => false) = true
theorem GOK.pull (hG0 : GPlain G) {E E' : Env} (hrd : ∀ r j v, E.rd r j = some v -> E'.rd r j = some v) (hfx : E'.fx = E.fx) (h : GOK E G) : GOK E' G := ⟨fun g => by
 have := RepV.to (A := E) (B := E') (σ := []) (p := fun _ => false) ⟨fun b hb => Bool.noConfusion hb, fun b hb => Bool.noConfusion hb, fun b hb => Bool.noConfusion hb⟩ hrd (hG0 g) (h.1 g)
 rw [ren_nil] at this
 exact this, by rw [hfx]; exact h.2⟩
theorem Meets.sim {X : Type} {F : Fam X} {k : Nat} {D : List Nat} {ts ts1 : List AV} {bs bs1 : List Blk} {y : X} {σ : List (Nat × Nat)} (hR0 : Rel E0 Ho w0) (hG0 : GPlain G) (hk : ∀ b, E0.pl b ≠ .unborn -> b < k /\ b < bs.length) (h : Meets F k (Fs.map (·.1)) D ts bs ts1 bs1 y σ) {a : Act} {w : World} (hS : Sim G Fs E0 Ho w0 ts1 bs1 a w) :
  Sim G Fs E0 Ho w0 (startL D (F.U y) 0 ts) (startBL (F.B y) 0 bs) a w := by
 obtain ⟨hmask, hU, hB, hm⟩ := h
 obtain ⟨E, acc, hS⟩ := hS
 unfold meetB at hm
 split at hm
 ·rename_i hu hub hst hout
  have hσ : (∀ b, b < k -> look σ b = b) /\ ∀ b b', b < bs.length -> b' < bs.length -> look σ b = look σ b' -> b = b' := by
   split at hm
   ·exact ⟨fun _ _ => rfl, fun _ _ _ _ h => h⟩
   ·split at hm
    ·rename_i h1 h2; exact ⟨keysB_look h1, nodupN_inj h2⟩
    ·cases hm
  obtain ⟨hfix, hinj⟩ := hσ
  obtain ⟨hlen, hget⟩ := maskT_get hmask
  have hH' : ∀ b, b < bs.length -> hOf (startBL (F.B y) 0 bs) b = .dead \/ upds Ho acc (look σ b) = (hOf (startBL (F.B y) 0 bs) b).ren σ := by
   intro b hb
   have := eqB_get hB b hb
   rw [Nat.zero_add] at this
   rw [hS.H]; exact this
  have hoff : ∀ b, bs.length ≤ b -> hOf (startBL (F.B y) 0 bs) b = .dead := fun b hb => hOf_off (by rw [startBL_len]; exact hb)
  have hrel := hS.step.rel.pull hH' hoff (underB_get hub) hinj
  have hpl : ∀ b, b < bs.length -> (E.pull σ bs.length).pl b = E.pl (look σ b) := fun b hb => if_pos hb
  have hE : Ext E0 (E.pull σ bs.length) := by
   refine ⟨fun b hb => ?_, fun b hb => ?_, fun b hb => ?_, hS.step.ext.rd, hS.step.ext.fx⟩
   ·rw [hpl b (hk b hb).2, hfix b (hk b hb).1]; exact hS.step.ext.pl b hb
   ·show E.lay (look σ b) = _; rw [hfix b (hk b hb).1]; exact hS.step.ext.lay b hb
   ·show E.top (look σ b) = _; rw [hfix b (hk b hb).1]; exact hS.step.ext.top b hb
  have hat : ∀ b r o, (E.pull σ bs.length).pl b = .at r o -> b < bs.length /\ E.pl (look σ b) = .at r o := by
   intro b r o h
   by_cases hb : b < bs.length
   ·exact ⟨hb, (hpl b hb) ▸ h⟩
   ·have : (if b < bs.length then E.pl (look σ b) else Place.unborn) = .at r o := h
    rw [if_neg hb] at this; cases this
  have hnew : ∀ b, b < bs.length -> E0.pl b = .unborn -> E0.pl (look σ b) = .unborn := by
   intro b hb hu
   refine Classical.byContradiction fun hne => ?_
   obtain ⟨h1, h2⟩ := hk _ hne
   have := hinj b (look σ b) hb h2 (by rw [hfix _ h1])
   rw [← this] at hne
   exact hne hu
  have hown : upds Ho (accOf (startBL (F.B y) 0 bs)) = hOf (startBL (F.B y) 0 bs) := by
   funext b
   rw [accOf_upds]
   split
   ·rfl
   ·rename_i hb
    rw [startBL_len] at hb
    have hu : E0.pl b = .unborn := Classical.byContradiction fun hne => hb (hk b hne).2
    rw [hoff b (Nat.le_of_not_lt hb), hR0.born b hu]
  have hm0 := hS.step.mem
  refine ⟨E.pull σ bs.length, accOf (startBL (F.B y) 0 bs), ⟨.any _ _, by rw [hown]; exact hrel, hE, ⟨hm0.os, hm0.tape, hm0.output, hm0.size, hm0.same, hm0.rd, ?_⟩, ?_, ?_, ?_⟩, hown, by rw [hS.size, startL_len, hlen], ?_, GOK.pull (E := E) (E' := E.pull σ bs.length) hG0 (fun _ _ _ h => h) rfl hS.glob, ?_, ?_, ?_⟩
  ·intro b r o hu hp
   obtain ⟨hb, hp'⟩ := hat b r o hp
   exact hm0.new (look σ b) r o (hnew b hb hu) hp'
  ·intro b _ hb
   refine accOf_ids.2 ?_
   rw [startBL_len]
   exact Nat.lt_of_not_le fun hle => hb (if_neg (Nat.not_lt.2 hle))
  ·intro b hb
   rw [hown] at hb
   by_cases hu : E0.pl b = .unborn
   ·exact .inr hu
   ·have hkb := hk b hu
    rcases hH' b hkb.2 with h1 | h1
    ·rw [h1] at hb; cases hb
    ·rw [hfix b hkb.1] at h1
     exact hS.step.live b (by rw [h1, ren_own]; exact hb)
  ·intro b r o _ hp hno
   exact absurd (accOf_ids.2 (by rw [startBL_len]; exact (hk b (at_born hp)).2)) hno
  ·intro t
   by_cases ht : t < ts.length
   ·rw [startL_get ht, Nat.zero_add]
    cases hg : getU (F.U y) t with
    | some v =>
     simp only
     rcases eqU_mem hU t v hg with e | e
     ·rw [e]; exact .any _ _
     ·have := hS.tmps t
      rw [e] at this
      exact RepV.back (E.pull_mp σ bs.length) (fun _ _ _ h => h) (underU_mem hu t v hg) this
    | none =>
     simp only
     cases hD : memN D t with
     | true => exact .any _ _
     | false =>
      simp only
      have h1 := stayT_get hst t ht (by rw [Nat.zero_add]; exact hg) (by rw [Nat.zero_add]; exact hD)
      have h2 := hS.tmps t
      rw [hget t (by rw [Nat.zero_add]; exact hD)] at h2
      refine RepV.back (A := E.pull σ bs.length) (B := E) (σ := []) ⟨fun b hb => ?_, fun b hb => ?_, fun b hb => ?_⟩ (fun _ _ _ h => h) h1 (by rw [ren_nil]; exact h2)
      ·obtain ⟨h3, h4⟩ := fixB_iff hb
       rw [hpl b h3, h4]; rfl
      ·show E.lay b = E.lay (look σ b); rw [(fixB_iff hb).2]
      ·show E.top b = E.top (look σ b); rw [(fixB_iff hb).2]
   ·have : (startL D (F.U y) 0 ts).getD t .any = .any := by simp [List.getD, List.getElem?_eq_none (show (startL D (F.U y) 0 ts).length ≤ t from by rw [startL_len]; omega)]
    rw [this]; exact .any _ _
  ·intro b hb
   rw [startBL_len]
   exact Nat.lt_of_not_le fun hle => hb (if_neg (Nat.not_lt.2 hle))
  ·intro x hx
   exact accOf_ids.1 (List.mem_map.2 ⟨x, hx, rfl⟩)
  ·have hdf : ∀ ds, DF w0.heap.size E (hOf bs1) w ds -> DF w0.heap.size (E.pull σ bs.length) (hOf (startBL (F.B y) 0 bs)) w ds := by
    intro ds h d hd
    obtain ⟨r, hm, e, hr, hno⟩ := h d hd
    refine ⟨r, hm, e, hr, fun b o hb hp => ?_⟩
    obtain ⟨hbn, hp'⟩ := hat b r o hp
    rcases hH' b hbn with h1 | h1
    ·rw [h1] at hb; cases hb
    ·refine hno (look σ b) o ?_ hp'
     rw [← hS.H, h1, ren_own]; exact hb
   have hrep : ∀ x v, x.inB (fixB σ bs.length) = true -> RepV E x v -> RepV (E.pull σ bs.length) x v := by
    intro x v h1 h2
    refine RepV.back (A := E.pull σ bs.length) (B := E) (σ := []) ⟨fun b hb => ?_, fun b hb => ?_, fun b hb => ?_⟩ (fun _ _ _ h => h) h1 (by rw [ren_nil]; exact h2)
    ·obtain ⟨h3, h4⟩ := fixB_iff hb
     rw [hpl b h3, h4]; rfl
    ·show E.lay b = E.lay (look σ b); rw [(fixB_iff hb).2]
    ·show E.top b = E.top (look σ b); rw [(fixB_iff hb).2]
   refine ⟨hS.defers.nd, hdf _ hS.defers.df, hS.defers.size, fun x hx t => ?_, fun x hx => hdf _ (hS.defers.out x hx)⟩
   have h1 := hS.defers.tmps x hx t
   by_cases ht : t < x.1.length
   ·have e : x.1.getD t .any = x.1[t] := by simp [List.getD, List.getElem?_eq_getElem ht]
    rw [e] at h1 ⊢
    exact hrep _ _ (outB_mem hout x.1 (List.mem_map.2 ⟨x, hx, rfl⟩) _ (List.getElem_mem ht)) h1
   ·have e : x.1.getD t .any = .any := by simp [List.getD, List.getElem?_eq_none (Nat.le_of_not_lt ht)]
    rw [e]; exact .any _ _
 ·cases hm
end
end Go.Eng

namespace Go.Eng
section
variable {P : Program} {G : Glob} {T : Tr} {E0 : Env} {Ho : Nat -> Blk} {w0 : World} {Fs : List (List AV × Act)} {ro : Option Nat} {nn : Nat}
theorem nilsK_sound (hR0 : Rel E0 Ho w0) : ∀ {N : List (Nat × Blk)} {ts : List AV} {bs : List Blk} {K : List AV -> List Blk -> Prop} {a : Act} {w : World}, nilsK N ts bs K -> Sim G Fs E0 Ho w0 ts bs a w -> ∃ ts' bs', K ts' bs' /\ Sim G Fs E0 Ho w0 ts' bs' a w /\ bs.length ≤ bs'.length
 | [], ts, bs, K, a, w, h, hS => ⟨ts, bs, h, hS, Nat.le_refl _⟩
 | (t, x) :: r, ts, bs, K, a, w, h, hS => by
  simp only [nilsK] at h
  split at h
  ·rename_i hts
   have go : ∀ (x : Blk) (la : Lay) (C : Rd -> List Value -> Prop), RowB x 0 la C -> (setK ts t (.sl bs.length [] la 0 0) fun ts => padK bs bs.length x fun bs => nilsK r ts bs K) -> ∃ ts' bs', K ts' bs' /\ Sim G Fs E0 Ho w0 ts' bs' a w /\ bs.length ≤ bs'.length := by
    intro x la C hB h
    obtain ⟨hlt, h⟩ := setK_inv h
    obtain ⟨bs1, h, hl, hc⟩ := padK_inv h
    obtain ⟨E, acc, hS⟩ := hS
    have hk : E.pl bs.length = .unborn := Classical.byContradiction fun hne => by have := hS.unborn _ hne; omega
    obtain ⟨E', hst⟩ := Step.emptyB hS.step.rel hk hB rfl none
    have hv : a.tmps.getD t undef = .slice none 0 0 := by
     have := hS.tmps t
     rw [hts] at this
     exact rep_sc this
    have hS' := hS.next (ts' := ts.set t (.sl bs.length [] la 0 0)) (bs' := bs1) (a' := a) hR0 hst (by funext c; rw [hc]; rfl) (by omega) (fun y hy => by rw [List.mem_singleton.1 hy]; simp only; omega) (by rw [hS.size, List.length_set]) (fun t' => by
     by_cases e : t' = t
     ·subst e
      rw [show (ts.set t' (.sl bs.length [] la 0 0)).getD t' .any = .sl bs.length [] la 0 0 from by simp [List.getD, hlt], hv]
      exact hst.val
     ·rw [show (ts.set t (.sl bs.length [] la 0 0)).getD t' .any = ts.getD t' .any from by simp [List.getD, List.getElem?_set_ne (Ne.symm e)]]
      exact (hS.tmps t').ext hst.ext) rfl
    obtain ⟨ts', bs', g1, g2, g3⟩ := nilsK_sound hR0 h hS'
    exact ⟨ts', bs', g1, g2, by omega⟩
   split at h
   ·split at h
    ·exact go _ _ _ (RowB.ints _ []) h
    ·exact h.elim
   ·split at h
    ·exact go _ _ _ (RowB.parts _ 0 _) h
    ·exact h.elim
   ·exact h.elim
  ·exact h.elim
theorem splice_self {cs cy : List Value} {o : Nat} (h : (cs.drop o).take cy.length = cy) (hle : o + cy.length ≤ cs.length) : splice cs o cy = cs := by
 unfold splice
 have e : cs = cs.take o ++ ((cs.drop o).take cy.length ++ (cs.drop o).drop cy.length) := by
  rw [List.take_append_drop, List.take_append_drop]
 rw [h, List.drop_drop] at e
 rw [List.append_assoc]
 exact e.symm
theorem Step.nilb {E : Env} {H : Nat -> Blk} {w : World} (hR : Rel E H w) {key b : Nat} {p : List Nat} {x : AV} {l : Lay} {o : Nat} {y : Blk} (hku1 : E.pl key = .unborn) (hb : H b = .var x) (hx : x.at p = .dv (.sc (.slice none 0 0))) (hl : locL x.lay p = some (o, .one))
  (hy : (∃ k, y = .rowI k [] /\ l = .one) \/ ∃ g, y = .row l 0 g) (hlay : (x.setP p (.sl key [] l 0 0)).lay = x.lay) : ∃ E', Step E H w [(key, y), (b, .var (x.setP p (.sl key [] l 0 0)))] .any undef E' w := by
 have hyb : BlkRel (E.none_ key l) key w y := by
  rcases hy with ⟨k, rfl, rfl⟩ | ⟨g, rfl⟩
  ·exact ⟨if_pos rfl, .inl ⟨if_pos rfl, rfl⟩⟩
  ·exact ⟨if_pos rfl, .inl ⟨if_pos rfl, rfl⟩⟩
 have s1 := Step.empty hR hku1 l (x := y) hyb (v := .any) (u := undef) (.any _ _)
 have hbk : b ≠ key := fun e => own_born hR (b := b) (by rw [hb]; intro h; cases h) (e ▸ hku1)
 have hHb : upds H [(key, y)] b = .var x := (if_neg hbk).trans hb
 have hbr := s1.rel.blk b
 rw [hHb] at hbr
 obtain ⟨q, oo, cs, hp, hla, hxr, hrs, htop, hroom⟩ := hbr
 obtain ⟨hat, _⟩ := hxr.at hl
 rw [hx] at hat
 have hcs : (cs.drop o).take 1 = [.slice none 0 0] := by
  have := hat.dv_inv
  rw [show Lay.one.size = 1 from rfl] at this
  generalize (cs.drop o).take 1 = q at this
  cases this; rfl
 have hlo := locL_le hl
 have hlen : cs.length = x.lay.size := hxr.len
 have hnil : RepA (E.none_ key l) (.sl key [] l 0 0) [.slice none 0 0] :=
  .sl0 key [] l 0 none 0 0 (by rw [show (E.none_ key l).pl key = .nowhere from if_pos rfl]; intro h; cases h) (by
   rw [locL_nil, show (E.none_ key l).lay key = .arr 0 l from if_pos rfl]) (Nat.le_refl _)
 have hx' : RepA (E.none_ key l) (x.setP p (.sl key [] l 0 0)) cs := by
  have := hxr.setP hl hnil rfl hlay
  rwa [splice_self (by exact hcs) (by rw [hlen]; simpa [Lay.size] using hlo)] at this
 have s2 := Step.write (w' := w) (x := .var (x.setP p (.sl key [] l 0 0))) s1.rel (by rw [hHb]; rfl) hp rfl rfl rfl rfl (fun _ _ => rfl) (fun _ _ => rfl) (fun _ => rfl) rfl ⟨q, oo, cs, hp, by rw [hla, hlay], hx', hrs, htop, hroom⟩ s1.val
 exact ⟨_, Step.trans hR s1 s2⟩
theorem Sim.nilb (hR0 : Rel E0 Ho w0) {ts : List AV} {bs bs1 bs2 : List Blk} {a : Act} {w : World} (hS : Sim G Fs E0 Ho w0 ts bs a w) {b : Nat} {p : List Nat} {x : AV} {l : Lay} {o : Nat} {y : Blk} (hb : hOf bs b = .var x) (hx : x.at p = .dv (.sc (.slice none 0 0))) (hl : locL x.lay p = some (o, .one))
  (hy : (∃ k, y = .rowI k [] /\ l = .one) \/ ∃ g, y = .row l 0 g) (hlay : (x.setP p (.sl bs.length [] l 0 0)).lay = x.lay)
  (h1 : bs1.length = max bs.length (bs.length + 1)) (h2 : ∀ c, hOf bs1 c = if c = bs.length then y else hOf bs c) (h3 : bs2.length = max bs1.length (b + 1)) (h4 : ∀ c, hOf bs2 c = if c = b then .var (x.setP p (.sl bs.length [] l 0 0)) else hOf bs1 c) : Sim G Fs E0 Ho w0 ts bs2 a w := by
 obtain ⟨E, acc, hS⟩ := hS
 have hk : E.pl bs.length = .unborn := Classical.byContradiction fun hne => by have := hS.unborn _ hne; omega
 obtain ⟨E', hst⟩ := Step.nilb hS.step.rel hk (by rw [hS.H]; exact hb) hx hl hy hlay
 have hblt : b < bs.length := hS.unborn b (own_born hS.step.rel (by rw [hS.H, hb]; intro h; cases h))
 refine hS.next hR0 hst ?_ (by omega) (fun z hz => ?_) hS.size (fun t => (hS.tmps t).ext hst.ext) rfl
 ·funext c
  rw [h4]
  show _ = upd1 (upd1 (hOf bs) bs.length y) b _ c
  unfold upd1
  split
  ·rfl
  ·exact h2 c
 ·rcases List.mem_cons.1 hz with e | hz
  ·subst e; simp only; omega
  ·obtain rfl := List.mem_singleton.1 hz
   simp only; omega
theorem nilsB_sound (hR0 : Rel E0 Ho w0) : ∀ {M : List (Nat × List Nat × Blk)} {ts : List AV} {bs : List Blk} {K : List Blk -> Prop} {a : Act} {w : World}, nilsB M bs K -> Sim G Fs E0 Ho w0 ts bs a w -> ∃ bs', K bs' /\ Sim G Fs E0 Ho w0 ts bs' a w /\ bs.length ≤ bs'.length
 | [], ts, bs, K, a, w, h, hS => ⟨bs, h, hS, Nat.le_refl _⟩
 | (b, p, y) :: r, ts, bs, K, a, w, h, hS => by
  simp only [nilsB] at h
  split at h
  ·rename_i x hb
   split at h
   ·rename_i o hx hl
    have go : ∀ (l : Lay) (y : Blk), (∃ k, y = .rowI k [] /\ l = .one) \/ (∃ g, y = .row l 0 g) -> (match decide ((x.setP p (.sl bs.length [] l 0 0)).lay = x.lay) with
      | true => forceA (x.setP p (.sl bs.length [] l 0 0)) fun x' => padK bs bs.length y fun bs => padK bs b (.var x') fun bs => nilsB r bs K
      | false => False) -> ∃ bs', K bs' /\ Sim G Fs E0 Ho w0 ts bs' a w /\ bs.length ≤ bs'.length := by
     intro l y hy h
     split at h
     ·rename_i hlay
      have hlay := of_decide_eq_true hlay
      rw [forceA_eq] at h
      obtain ⟨bs1, h, h1, h2⟩ := padK_inv h
      obtain ⟨bs2, h, h3, h4⟩ := padK_inv h
      obtain ⟨bs', g1, g2, g3⟩ := nilsB_sound hR0 h (hS.nilb hR0 hb hx hl hy hlay h1 h2 h3 h4)
      exact ⟨bs', g1, g2, by omega⟩
     ·exact h.elim
    split at h
    ·split at h
     ·exact go _ _ (.inl ⟨_, rfl, rfl⟩) h
     ·exact h.elim
    ·split at h
     ·exact go _ _ (.inr ⟨_, rfl⟩) h
     ·exact h.elim
    ·exact h.elim
   ·exact h.elim
  ·exact h.elim
theorem padN_sound : ∀ {n : Nat} {bs : List Blk} {K : List Blk -> Prop}, padN n bs K -> ∃ bs', K bs' /\ bs.length ≤ bs'.length
 | 0, bs, K, h => ⟨bs, h, Nat.le_refl _⟩
 | n + 1, bs, K, h => by
  obtain ⟨bs1, h, h1, _⟩ := padK_inv h
  obtain ⟨bs', h, h2⟩ := padN_sound h
  exact ⟨bs', h, by omega⟩
theorem mono_then {K : Post} {c : Code} {a : Act} {w : World} {N : List AV -> List Blk -> Prop} {R : Act -> World -> Prop} (hn : ∀ ts bs a w, N ts bs -> Sim G Fs E0 Ho w0 ts bs a w -> R a w) (h : c.wpIn (fen ro) nn P (PostQ G Fs E0 Ho w0 (thenK N K)) a w) :
  c.wpIn (fen ro) nn P (Exit.then R (PostQ G Fs E0 Ho w0 K)) a w := by
 refine wpIn_mono h fun e a w hq => ?_
 cases e with
 | normal => obtain ⟨ts, bs, h1, h2⟩ := hq; exact hn ts bs a w h1 h2
 | exit i => exact hq
 | goto l => exact hq
 | ret => exact hq
 | panic ch => exact hq
 | outgrown => exact hq
theorem stepR_scope {b : Frame} {a : Act} {k : List Item} {cs : List Frame} {w : World} {c : Code} : step P (lone (b.atR a (.code (.scope c) :: k)) cs w) = .next (lone (b.atR a (.code c :: .inScope c :: k)) cs w) :=
 step_lone_go (by simp [stepG, stepG.exec, Frame.atR])
theorem stepR_inScope {b : Frame} {a : Act} {k : List Item} {cs : List Frame} {w : World} {c : Code} : step P (lone (b.atR a (.inScope c :: k)) cs w) = .next (lone (b.atR a k) cs w) :=
 step_lone_go (by simp [stepG, stepG.exec, Frame.atR])
def Jumps (P : Program) (ro : Option Nat) (nn : Nat) (c : Code) (Q : Exit -> Act -> World -> Prop) (l : Nat) (a : Act) (w : World) : Prop :=
 ∃ rest, findLabel c l = some rest /\ ∀ (b : Frame) (k : List Item) (cs : List Frame), b.roundOf = (fen ro).round -> ∃ e a' w', Q e a' w' /\ ArrivesIn (Machine.fenced P (fen ro)) P (lone (b.atR a (.code rest :: .inScope c :: k)) cs w) b k cs e a' w'
def ScopeQ (P : Program) (ro : Option Nat) (nn : Nat) (c : Code) (Q : Exit -> Act -> World -> Prop) : Exit -> Act -> World -> Prop
 | .goto l, a, w => Jumps P ro nn c Q l a w
 | e, a, w => Q e a w
def PassQ (P : Program) (ro : Option Nat) (nn : Nat) (c : Code) (Q : Exit -> Act -> World -> Prop) (l : Nat) (N : Act -> World -> Prop) : Exit -> Act -> World -> Prop
 | .goto l', a, w => (l' = l /\ N a w) \/ Jumps P ro nn c Q l' a w
 | e, a, w => Q e a w
theorem jump_in {c rest : Code} {l : Nat} (hf : findLabel c l = some rest) (k : List Item) : gotoIn l (.inScope c :: k) = some (.code rest :: .inScope c :: k) := by simp [gotoIn, hf]
theorem exit_in {c : Code} {id : Nat} {k : List Item} : exitTo id (.inScope c :: k) = exitTo id k := by simp [exitTo]
theorem wp_scope_goto {c : Code} {Q : Exit -> Act -> World -> Prop} {a : Act} {w : World} (first : c.wpIn (fen ro) nn P (ScopeQ P ro nn c Q) a w) : (Code.scope c).wpIn (fen ro) nn P Q a w := by
 intro b k cs hro hb hr
 have h0 : (lone (b.atR a (.code (.scope c) :: k)) cs w).fenced P (fen ro) := fenced_calm hb hr rfl
 obtain ⟨e, a₁, w₁, hq, harr⟩ := first b (.inScope c :: k) cs hro hb hr
 cases e with
 | normal => exact ⟨.normal, a₁, w₁, hq, .head h0 stepR_scope (StepsIn.trans harr (.one (fenced_calm hb hr rfl) stepR_inScope))⟩
 | exit id => exact ⟨.exit id, a₁, w₁, hq, fun k' hk => .head h0 stepR_scope (harr.1 k' (by rw [exit_in]; exact hk)),
   fun hr' hk => let ⟨k₁, h1, h2⟩ := harr.2 hr' (by rw [exit_in]; exact hk); ⟨k₁, h1, .head h0 stepR_scope h2⟩⟩
 | goto l =>
  obtain ⟨rest, hf, hj⟩ := hq
  obtain ⟨e₂, a₂, w₂, hq₂, harr₂⟩ := hj b k cs hro
  exact ⟨e₂, a₂, w₂, hq₂, .of_steps (.head h0 stepR_scope (harr.1 _ (jump_in hf k))) harr₂⟩
 | ret => exact ⟨_, a₁, w₁, hq, .of_steps (.one h0 stepR_scope) harr⟩
 | panic ch => exact ⟨_, a₁, w₁, hq, .of_steps (.one h0 stepR_scope) harr⟩
 | outgrown => exact ⟨_, a₁, w₁, hq, .of_steps (.one h0 stepR_scope) harr⟩
theorem jumps_loop {X : Type} {c rest : Code} {l : Nat} {Q : Exit -> Act -> World -> Prop} (J : X -> Act -> World -> Prop) (μ : X -> Nat) (hf : findLabel c l = some rest)
  (pass : ∀ x a w, J x a w -> rest.wpIn (fen ro) nn P (PassQ P ro nn c Q l fun a' w' => ∃ y, J y a' w' /\ μ y < μ x) a w) {x : X} {a : Act} {w : World} (h₀ : J x a w) : Jumps P ro nn c Q l a w := by
 refine ⟨rest, hf, fun b k cs hro => ?_⟩
 have hb := fen_fn ro b.fn
 have hr := fen_room ro (cs.length + 1 + nn)
 have key : ∀ n x a w, μ x = n -> J x a w -> ∃ e a' w', Q e a' w' /\ ArrivesIn (Machine.fenced P (fen ro)) P (lone (b.atR a (.code rest :: .inScope c :: k)) cs w) b k cs e a' w' := by
  intro n
  induction n using Nat.strongRecOn with
  | _ n ih =>
   intro x a w hn hJ
   obtain ⟨e, a₁, w₁, hq, harr⟩ := pass x a w hJ b (.inScope c :: k) cs hro hb hr
   cases e with
   | normal => exact ⟨.normal, a₁, w₁, hq, StepsIn.trans harr (.one (fenced_calm hb hr rfl) stepR_inScope)⟩
   | exit id => exact ⟨.exit id, a₁, w₁, hq, fun k' hk => harr.1 k' (by rw [exit_in]; exact hk), fun hr' hk => harr.2 hr' (by rw [exit_in]; exact hk)⟩
   | goto l' =>
    rcases hq with ⟨rfl, y, hJ', hlt⟩ | ⟨rest', hf', hj⟩
    ·obtain ⟨e₂, a₂, w₂, hq₂, harr₂⟩ := ih (μ y) (hn ▸ hlt) y a₁ w₁ rfl hJ'
     exact ⟨e₂, a₂, w₂, hq₂, .of_steps (harr.1 _ (jump_in hf k)) harr₂⟩
    ·obtain ⟨e₂, a₂, w₂, hq₂, harr₂⟩ := hj b k cs hro
     exact ⟨e₂, a₂, w₂, hq₂, .of_steps (harr.1 _ (jump_in hf' k)) harr₂⟩
   | ret => exact ⟨_, a₁, w₁, hq, harr⟩
   | panic ch => exact ⟨_, a₁, w₁, hq, harr⟩
   | outgrown => exact ⟨_, a₁, w₁, hq, harr⟩
 exact key _ x a w rfl h₀
def FromL (P : Program) (ro : Option Nat) (nn : Nat) (c : Code) (l : Nat) (Q : Exit -> Act -> World -> Prop) (a : Act) (w : World) : Prop := ∃ rest, findLabel c l = some rest /\ rest.wpIn (fen ro) nn P Q a w
theorem pass_of {c : Code} {l : Nat} {K : Post} {N : List AV -> List Blk -> Prop} {N' : Act -> World -> Prop} {oth : Nat -> List AV -> List Blk -> Prop} {rest : Code} (hN : ∀ ts bs a w, N ts bs -> Sim G Fs E0 Ho w0 ts bs a w -> N' a w)
  (ho : ∀ l ts bs a w, oth l ts bs -> Sim G Fs E0 Ho w0 ts bs a w -> Jumps P ro nn c (PostQ G Fs E0 Ho w0 K) l a w) {a : Act} {w : World} (h : rest.wpIn (fen ro) nn P (PostQ G Fs E0 Ho w0 (gotoK l N oth K)) a w) : rest.wpIn (fen ro) nn P (PassQ P ro nn c (PostQ G Fs E0 Ho w0 K) l N') a w := by
 refine wpIn_mono h fun e a w hq => ?_
 cases e with
 | normal => exact hq
 | exit i => exact hq
 | goto i =>
  obtain ⟨ts, bs, h1, h2⟩ := hq
  simp only [gotoK] at h1
  split at h1
  ·rename_i hb
   exact .inl ⟨Nat.eq_of_beq_eq_true hb, hN ts bs a w h1 h2⟩
  ·exact .inr (ho i ts bs a w h1 h2)
 | ret => exact hq
 | panic ch => exact hq
 | outgrown => exact hq
theorem jumps_sound (hR0 : Rel E0 Ho w0) (hG0 : GPlain G) {k : Nat} (hk : ∀ b, E0.pl b ≠ .unborn -> b < k) {c : Code} {D : List Nat} {body : Nat -> Post -> List AV -> List Blk -> Prop} {K : Post}
  (hbody : ∀ l K' ts bs a w, body l K' ts bs -> Sim G Fs E0 Ho w0 ts bs a w -> FromL P ro nn c l (PostQ G Fs E0 Ho w0 K') a w) : ∀ n l ts bs a w, jumps k (Fs.map (·.1)) D body K n l ts bs -> Sim G Fs E0 Ho w0 ts bs a w -> Jumps P ro nn c (PostQ G Fs E0 Ho w0 K) l a w
 | 0, _, _, _, _, _, h, _ => h.elim
 | n + 1, l, ts, bs, a, w, h, hS => by
  have hoth := jumps_sound (D := D) (K := K) hR0 hG0 hk hbody n
  rcases h with h | ⟨Z, X, F, N, M, x, h⟩
  ·obtain ⟨rest, hf, hw⟩ := hbody l _ ts bs a w h hS
   refine jumps_loop (X := Unit) (fun _ a' w' => a' = a /\ w' = w) (fun _ => 0) hf (fun _ a' w' hJ => ?_) (x := ()) ⟨rfl, rfl⟩
   obtain ⟨rfl, rfl⟩ := hJ
   exact pass_of (fun _ _ _ _ h _ => h.elim) hoth hw
  ·obtain ⟨ts, bs, h, hS, _⟩ := nilsK_sound hR0 h hS
   obtain ⟨bs, ⟨hmeet, hround⟩, hS, _⟩ := nilsB_sound hR0 h hS
   have hkb : ∀ b, E0.pl b ≠ .unborn -> b < k /\ b < bs.length := by
    intro b hb
    obtain ⟨E, acc, hS'⟩ := hS
    exact ⟨hk b hb, hS'.unborn b (by rw [hS'.step.ext.pl b hb]; exact hb)⟩
   have hpass : ∀ x a w, Sim G Fs E0 Ho w0 (startL (Z ++ D) (F.U x) 0 ts) (startBL (F.B x) 0 bs) a w -> FromL P ro nn c l (PassQ P ro nn c (PostQ G Fs E0 Ho w0 K) l fun a' w' => ∃ y, Sim G Fs E0 Ho w0 (startL (Z ++ D) (F.U y) 0 ts) (startBL (F.B y) 0 bs) a' w' /\ F.μ y < F.μ x) a w := by
    intro x a w hJ
    have h1 := hround x
    rw [startK_eq, startB_eq] at h1
    obtain ⟨rest, hf, hw⟩ := hbody l _ _ _ a w h1 hJ
    exact ⟨rest, hf, pass_of (fun ts1 bs1 a w ⟨y, σ, hm1, hlt⟩ hS1 => ⟨y, hm1.sim hR0 hG0 hkb hS1, hlt⟩) hoth hw⟩
   have h0 := hmeet.sim hR0 hG0 hkb hS
   obtain ⟨rest, hf, _⟩ := hpass x a w h0
   refine jumps_loop (fun x a w => Sim G Fs E0 Ho w0 (startL (Z ++ D) (F.U x) 0 ts) (startBL (F.B x) 0 bs) a w) F.μ hf (fun x a w hJ => ?_) h0
   obtain ⟨rest', hf', hw⟩ := hpass x a w hJ
   rw [hf] at hf'
   cases hf'
   exact hw
theorem join_sound (hR0 : Rel E0 Ho w0) (hG0 : GPlain G) {k : Nat} (hk : ∀ b, E0.pl b ≠ .unborn -> b < k) {c : Code} {D : List Nat} {go : Post -> Prop} {K : Post} {ts : List AV} {bs : List Blk} {a : Act} {w : World} (hS : Sim G Fs E0 Ho w0 ts bs a w)
  (hgo : ∀ K, go K -> c.wpIn (fen ro) nn P (PostQ G Fs E0 Ho w0 K) a w) (h : JoinP k (Fs.map (·.1)) D go K ts bs) : c.wpIn (fen ro) nn P (PostQ G Fs E0 Ho w0 K) a w := by
 rcases h with h | ⟨Z, X, F, n, h⟩
 ·exact hgo K h
 ·obtain ⟨bs', ⟨hK, h⟩, hle⟩ := padN_sound h
  have hkb : ∀ b, E0.pl b ≠ .unborn -> b < k /\ b < bs'.length := by
   intro b hb
   obtain ⟨E, acc, hS'⟩ := hS
   exact ⟨hk b hb, Nat.lt_of_lt_of_le (hS'.unborn b (by rw [hS'.step.ext.pl b hb]; exact hb)) hle⟩
  refine wpIn_mono (hgo _ h) fun e a w hq => ?_
  cases e with
  | normal =>
   obtain ⟨ts1, bs1, ⟨N, M, hh⟩, hS1⟩ := hq
   obtain ⟨ts1, bs1, hh, hS1, _⟩ := nilsK_sound hR0 hh hS1
   obtain ⟨bs1, ⟨y, σ, hm⟩, hS1, _⟩ := nilsB_sound hR0 hh hS1
   have := hK y
   rw [startK_eq, startB_eq] at this
   exact ⟨_, _, this, hm.sim hR0 hG0 hkb hS1⟩
  | exit i => exact hq
  | goto l => exact hq
  | ret => exact hq
  | panic ch => exact hq
  | outgrown => exact hq
theorem padN_same : ∀ {n : Nat} {bs : List Blk} {K : List Blk -> Prop}, padN n bs K -> ∃ bs', K bs' /\ bs.length ≤ bs'.length /\ hOf bs' = hOf bs
 | 0, bs, K, h => ⟨bs, h, Nat.le_refl _, rfl⟩
 | n + 1, bs, K, h => by
  obtain ⟨bs1, h, h1, h2⟩ := padK_inv h
  obtain ⟨bs', h, h3, h4⟩ := padN_same h
  refine ⟨bs', h, by omega, h4.trans (funext fun c => ?_)⟩
  rw [h2]
  split
  ·rename_i e; subst e; exact (hOf_off (Nat.le_refl _)).symm
  ·rfl
theorem padN_sim {n : Nat} {ts : List AV} {bs : List Blk} {K : List Blk -> Prop} {a : Act} {w : World} (h : padN n bs K) (hS : Sim G Fs E0 Ho w0 ts bs a w) : ∃ bs', K bs' /\ Sim G Fs E0 Ho w0 ts bs' a w := by
 obtain ⟨bs', hK, hle, he⟩ := padN_same h
 obtain ⟨E, acc, hS⟩ := hS
 exact ⟨bs', hK, E, acc, hS.step, by rw [he]; exact hS.H, hS.size, hS.tmps, hS.glob, fun b hb => Nat.lt_of_lt_of_le (hS.unborn b hb) hle, fun x hx => Nat.lt_of_lt_of_le (hS.acc x hx) hle, by rw [he]; exact hS.defers⟩
end
end Go.Eng

namespace Go.Eng
section
variable {P : Program} {G : Glob} {T : Tr} {E0 : Env} {Ho : Nat -> Blk} {w0 : World}
theorem SimE.nextE {Fs : List (List AV × Act)} (hR0 : Rel E0 Ho w0) {ts ts' : List AV} {bs bs' : List Blk} {a a' : Act} {w w' : World} {E E' : Env} {acc wr : List (Nat × Blk)} {v : AV} {u : Value} (h : SimE G Fs E0 Ho w0 ts bs a w E acc) (hst : Step E (upds Ho acc) w wr v u E' w')
  (hH : hOf bs' = upds (hOf bs) wr) (hle : bs.length ≤ bs'.length) (hin : ∀ x, x ∈ wr -> x.1 < bs'.length) (hsz : a'.tmps.size = ts'.length) (ht : ∀ t, RepV E' (ts'.getD t .any) (a'.tmps.getD t undef)) (hd : a'.defers = a.defers) :
  SimE G Fs E0 Ho w0 ts' bs' a' w' E' (acc ++ wr) := by
 refine ⟨(h.step.trans hR0 hst).free (.any _ _), by rw [upds_append, h.H, hH], hsz, ht, h.glob.ext hst.ext, fun b hb => ?_, fun x hx => ?_, by rw [hd, hH, ← h.H]; exact (h.H ▸ h.defers).step hst⟩
 ·by_cases hu : E.pl b = .unborn
  ·obtain ⟨x, hx, e⟩ := List.mem_map.1 (hst.born b hu hb)
   rw [← e]; exact hin x hx
  ·have := h.unborn b hu; omega
 ·rcases List.mem_append.1 hx with hx | hx
  ·have := h.acc x hx; omega
  ·exact hin x hx
theorem SimE.put1 {Fs : List (List AV × Act)} (hR0 : Rel E0 Ho w0) {ts : List AV} {bs bs' : List Blk} {a : Act} {w w' : World} {E E' : Env} {acc : List (Nat × Blk)} {v : AV} {u : Value} {b : Nat} {x : Blk} (h : SimE G Fs E0 Ho w0 ts bs a w E acc) (hst : Step E (upds Ho acc) w [(b, x)] v u E' w')
  (h1 : bs'.length = max bs.length (b + 1)) (h2 : ∀ c, hOf bs' c = if c = b then x else hOf bs c) : SimE G Fs E0 Ho w0 ts bs' a w' E' (acc ++ [(b, x)]) :=
 h.nextE hR0 hst (by funext c; rw [h2]; rfl) (by omega) (fun z hz => by obtain rfl := List.mem_singleton.1 hz; simp only; omega) h.size (fun t => (h.tmps t).ext hst.ext) rfl
theorem Step.lpx {E : Env} {H : Nat -> Blk} {w : World} (hR : Rel E H w) {b r : Nat} {L : Loop} {s : LSt} (hb : H b = .lp L s) (hp : E.pl b = .at r 0) (L2 : Loop) {x : Blk} (hblk : BlkRel E b (w.putObj r (.loop L2)) x) : Step E H w [(b, x)] .any undef E (w.putObj r (.loop L2)) := by
 have hbr := hR.blk b
 rw [hb] at hbr
 obtain ⟨r', hp', hl, ht, hw⟩ := hbr
 rw [hp] at hp'
 injection hp' with e
 subst e
 have hlt : r < w.heap.size := (Array.getElem?_eq_some_iff.1 hw).1
 have hn := World.putObj_heap_same (w := w) (o := .loop L2) hlt
 refine Step.write (w' := w.putObj r (.loop L2)) (x := x) hR (by rw [hb]; rfl) hp rfl rfl rfl (by simp) (fun r' hr => World.putObj_heap_other hr) ?_ ?_ ?_ hblk (.any _ _)
 ·intro j _
  simp only [World.cell?, hw, hn]
 ·intro j
  simp only [World.frozen?, hw, hn]
 ·simp only [World.shape?, hw, hn]
theorem lp_heap {E : Env} {H : Nat -> Blk} {w : World} (hR : Rel E H w) {b r : Nat} {L : Loop} {s : LSt} (hb : H b = .lp L s) (hp : E.pl b = .at r 0) : w.heap[r]? = some (.loop (lpRec L s)) /\ E.lay b = .unit /\ E.top b = 0 := by
 have hbr := hR.blk b
 rw [hb] at hbr
 obtain ⟨r', hp', hl, ht, hw⟩ := hbr
 rw [hp] at hp'
 injection hp' with e
 subst e
 exact ⟨hw, hl, ht⟩
theorem SimE.lp {Fs : List (List AV × Act)} (hR0 : Rel E0 Ho w0) {ts : List AV} {bs bs' : List Blk} {a : Act} {w : World} {E : Env} {acc : List (Nat × Blk)} {b l : Nat} {L : Loop} {s s' : LSt} (h : SimE G Fs E0 Ho w0 ts bs a w E acc) (hb : hOf bs b = .lp L s) (hp : E.pl b = .at l 0)
  (h1 : bs'.length = max bs.length (b + 1)) (h2 : ∀ c, hOf bs' c = if c = b then .lp L s' else hOf bs c) : Sim G Fs E0 Ho w0 ts bs' a (w.putObj l (.loop (lpRec L s'))) := by
 have hb' : upds Ho acc b = .lp L s := by rw [h.H]; exact hb
 obtain ⟨hw, hl, ht⟩ := lp_heap h.step.rel hb' hp
 exact ⟨E, _, h.put1 hR0 (Step.lpx h.step.rel hb' hp _ (x := .lp L s') ⟨l, hp, hl, ht, World.putObj_heap_same (Array.getElem?_eq_some_iff.1 hw).1⟩) h1 h2⟩
theorem setLp_inv {bs : List Blk} {yb : Nat} {st : LSt} {K : List Blk -> Prop} (h : setLp bs yb st K) : ∃ L bs', hOf bs yb = .lp L .busy /\ K bs' /\ bs'.length = max bs.length (yb + 1) /\ ∀ c, hOf bs' c = if c = yb then .lp L st else hOf bs c := by
 unfold setLp at h
 split at h
 ·rename_i L s hb
  split at h
  ·obtain ⟨bs', hK, h1, h2⟩ := padK_inv h
   exact ⟨L, bs', hb, hK, h1, h2⟩
  ·exact h.elim
 ·exact h.elim
theorem startLp_inv {bs : List Blk} {yb : Nat} {K : List Blk -> Prop} (h : startLp bs yb K) : ∃ L bs', hOf bs yb = .lp L .ready /\ K bs' /\ bs'.length = max bs.length (yb + 1) /\ ∀ c, hOf bs' c = if c = yb then .lp L .busy else hOf bs c := by
 unfold startLp at h
 split at h
 ·rename_i L s hb
  split at h
  ·obtain ⟨bs', hK, h1, h2⟩ := padK_inv h
   exact ⟨L, bs', hb, hK, h1, h2⟩
  ·exact h.elim
 ·exact h.elim
theorem yld_place {Fs : List (List AV × Act)} {E : Env} {H : Nat -> Blk} {w : World} {ds : List Deferred} {m yb l : Nat} (h : OK3 m Fs E H w ds) (hm : ([AV.yld yb], ({ tmps := #[.func (.yield l) #[] #[]], defers := [] } : Act)) ∈ Fs) : E.pl yb = .at l 0 := by
 have := h.tmps _ hm 0
 have : RepV E (.yld yb) (.func (.yield l) #[] #[]) := this
 rcases this with h | ⟨cs, hr, e⟩
 ·cases h
 ·cases hr with
  | yld b r hp =>
   injection e with e1
   injection e1 with e2
   rw [e2]; exact hp
theorem setsK_inv : ∀ {ts : List AV} {ps : List Tmp} {xs : List AV} {K : List AV -> Prop}, setsK ts ps xs K -> ∃ ts1, K ts1 /\ ts1.length = ts.length /\ ps.length = xs.length /\ ∀ (E : Env) (vs : List Value) (tm : Array Value), vs.length = xs.length -> (∀ i (h : i < xs.length) (h' : i < vs.length), RepV E xs[i] vs[i]) -> tm.size = ts.length -> (∀ t, RepV E (ts.getD t .any) (tm.getD t undef)) ->
  ((ps.zip vs).foldl (fun t (p, v) => t.setIfInBounds p v) tm).size = ts.length /\ ∀ t, RepV E (ts1.getD t .any) (((ps.zip vs).foldl (fun t (p, v) => t.setIfInBounds p v) tm).getD t undef)
 | ts, [], [], K, h => ⟨ts, h, rfl, rfl, fun E vs tm _ _ hs ht => ⟨hs, ht⟩⟩
 | ts, p :: ps, x :: xs, K, h => by
  simp only [setsK, forceA_eq] at h
  obtain ⟨hlt, h⟩ := setK_inv h
  obtain ⟨ts1, hK, hl, hpl, hrest⟩ := setsK_inv h
  refine ⟨ts1, hK, by rw [hl, List.length_set], by simp [hpl], fun E vs tm hvl hv hs ht => ?_⟩
  match vs, hvl with
  | v :: vs, hvl =>
   have hv0 := hv 0 (by simp) (by simp)
   have := hrest E vs (tm.setIfInBounds p v) (by simpa using hvl) (fun i hi hi' => hv (i + 1) (by simpa using hi) (by simpa using hi')) (by simp [hs]) (fun t => ?_)
   ·rw [List.length_set] at this
    exact this
   ·by_cases e : p = t
    ·subst e
     have : p < tm.size := by rw [hs]; exact hlt
     simp [List.getD, hlt, this]
     exact hv0
    ·have h1 : (ts.set p x).getD t .any = ts.getD t .any := by simp [List.getD, List.getElem?_set_ne e]
     have h2 : (tm.setIfInBounds p v).getD t undef = tm.getD t undef := by simp [Array.getElem?_setIfInBounds_ne e]
     rw [h1, h2]; exact ht t
 | ts, [], _ :: _, K, h => h.elim
 | ts, _ :: _, [], K, h => h.elim
theorem roundK_ok (hR0 : Rel E0 Ho w0) {Fs1 : List (List AV × Act)} {L : Loop} {bodyF assignF : List (List AV) -> Post -> List AV -> List Blk -> Prop} {yb l : Nat} {ts : List AV} {a : Act} {ps : Array Tmp}
  (hyl : ([AV.yld yb], ({ tmps := #[.func (.yield l) #[] #[]], defers := [] } : Act)) ∈ Fs1) (hts : (ts, a) ∈ Fs1) (hL : L.tmps = a.tmps) (hps : L.params = ps)
  (hb : ∀ pre K ts bs a w, bodyF ((pre ++ Fs1).map (·.1)) K ts bs -> Sim G (pre ++ Fs1) E0 Ho w0 ts bs a w -> L.body.wpIn (fen (some l)) 0 P (PostQ G (pre ++ Fs1) E0 Ho w0 K) a w)
  (ha : ∀ pre K ts bs a w, assignF ((pre ++ Fs1).map (·.1)) K ts bs -> Sim G (pre ++ Fs1) E0 Ho w0 ts bs a w -> L.assign.wpIn (fen (some l)) 0 P (PostQ G (pre ++ Fs1) E0 Ho w0 K) a w) :
  YOK P G E0 Ho w0 Fs1 (roundK L bodyF assignF yb ts ps.toList) := by
 intro yb' pre args Kc bs w vs E acc l' h hS hvs hpl
 unfold roundK at h
 split at h
 case h_2 => exact h.elim
 rename_i L' s hbq hblk
 have hyy : yb = yb' := Nat.eq_of_beq_eq_true hbq
 subst hyy
 split at h
 case h_2 => exact h.elim
 obtain ⟨rfl, h⟩ := h
 have hpl' := yld_place hS.defers (List.mem_append_right pre hyl)
 rw [hpl] at hpl'
 injection hpl' with e
 subst e
 have hH : upds Ho acc yb = .lp L' .ready := by rw [hS.H]; exact hblk
 obtain ⟨hw, _, _⟩ := lp_heap hS.step.rel hH hpl
 obtain ⟨ts1, h, hl1, hpl1, hsets⟩ := setsK_inv h
 have hpsz : vs.toArray.size = (lpRec L' .ready).params.size := by
  show vs.toArray.size = L'.params.size
  rw [hps]
  have := hvs.1
  simp; rw [← Array.length_toList]; omega
 have hrun := run_yield (P := P) (args := vs.toArray) hw hpsz
 refine ⟨_, _, _, _, hrun, ?_⟩
 have hfr := List.mem_append_right pre hts
 obtain ⟨g1, g2⟩ := hsets E vs a.tmps (by rw [hvs.1]) hvs.2 (hS.defers.size _ hfr) (hS.defers.tmps _ hfr)
 have efold : ((lpRec L' .ready).params.zip vs.toArray).foldl (fun tmps (x : Tmp × Value) => tmps.setIfInBounds x.1 x.2) (lpRec L' .ready).tmps = (ps.toList.zip vs).foldl (fun t (x : Tmp × Value) => t.setIfInBounds x.1 x.2) a.tmps := by
  show (L'.params.zip vs.toArray).foldl _ L'.tmps = _
  rw [hps, hL, ← Array.foldl_toList, Array.toList_zip]
 have hS1 : Sim G (pre ++ Fs1) E0 Ho w0 ts1 bs { tmps := ((lpRec L' .ready).params.zip vs.toArray).foldl (fun tmps (x : Tmp × Value) => tmps.setIfInBounds x.1 x.2) (lpRec L' .ready).tmps, defers := [] } w :=
  ⟨E, acc, hS.step, hS.H, by rw [efold, hl1]; exact g1, fun t => by rw [efold]; exact g2 t, hS.glob, hS.unborn, hS.acc, hS.defers⟩
 refine roundIn_of_wpIn (F := Fence.wide) trivial (wpIn_mono (ha pre _ ts1 bs _ w h hS1) fun e a1 w1 hq => ?_)
 cases e with
 | normal =>
  obtain ⟨ts2, bs2, h, hS2⟩ := hq
  obtain ⟨L2, bs3, hb2, h, h1, h2⟩ := startLp_inv h
  obtain ⟨E2, acc2, hS2⟩ := hS2
  have hp2 := yld_place hS2.defers (List.mem_append_right pre hyl)
  have hH2 : upds Ho acc2 yb = .lp L2 .ready := by rw [hS2.H]; exact hb2
  obtain ⟨hw2, _, _⟩ := lp_heap hS2.step.rel hH2 hp2
  refine ⟨_, run_beginRound hw2 rfl, ?_⟩
  have hS3 := hS2.lp hR0 hb2 hp2 (s' := .busy) h1 h2
  refine wpIn_mono (hb pre _ ts2 bs3 a1 _ h hS3) fun e a3 w3 hq => ?_
  have fin : ∀ (jump : Option Code) (st : LSt) (ts3 : List AV) (bs4 : List Blk), (lpRec L2 st).state = (if jump.isNone then .ready else .done) -> (∀ L, lpRec L st = { lpRec L .busy with state := (if jump.isNone then .ready else .done), pending := jump }) -> setLp bs4 yb st (Kc jump.isNone) -> Sim G (pre ++ Fs1) E0 Ho w0 ts3 bs4 a3 w3 ->
    ∃ v w', (Instr.endRound l' jump).run P w3 = .ok v w' /\ ∃ b bs', Ending.returned v = .returned (.bool b) /\ Kc b bs' /\ Sim G (pre ++ Fs1) E0 Ho w0 [] bs' { tmps := #[], defers := [] } w' := by
   intro jump st ts3 bs4 _ hrec hset hS4
   obtain ⟨L4, bs5, hb4, hk, h3, h4⟩ := setLp_inv hset
   obtain ⟨E4, acc4, hS4⟩ := hS4
   have hp4 := yld_place hS4.defers (List.mem_append_right pre hyl)
   have hH4 : upds Ho acc4 yb = .lp L4 .busy := by rw [hS4.H]; exact hb4
   obtain ⟨hw4, _, _⟩ := lp_heap hS4.step.rel hH4 hp4
   refine ⟨_, _, run_endRound jump hw4, _, bs5, rfl, hk, ?_⟩
   obtain ⟨E5, acc5, hS5⟩ := hS4.lp hR0 hb4 hp4 (s' := st) h3 h4
   rw [hrec L4] at hS5
   exact ⟨E5, acc5, hS5.step, hS5.H, rfl, fun _ => .any _ _, hS5.glob, hS5.unborn, hS5.acc, ⟨(List.nodup_append.1 hS5.defers.nd).2.1, (fun d hd => by cases hd), hS5.defers.size, hS5.defers.tmps, hS5.defers.out⟩⟩
  cases e with
  | normal =>
   obtain ⟨ts3, bs4, hr, hS4⟩ := hq
   exact fin none .ready ts3 bs4 rfl (fun _ => rfl) hr hS4
  | exit i =>
   obtain ⟨ts3, bs4, hr, hS4⟩ := hq
   exact fin (some (.exit i)) (.done (.exit i)) ts3 bs4 rfl (fun _ => rfl) hr hS4
  | goto i =>
   obtain ⟨ts3, bs4, hr, hS4⟩ := hq
   exact fin (some (.goto i)) (.done (.goto i)) ts3 bs4 rfl (fun _ => rfl) hr hS4
  | ret =>
   obtain ⟨ts3, bs4, hr, hS4⟩ := hq
   exact fin (some .ret) (.done .ret) ts3 bs4 rfl (fun _ => rfl) hr hS4
  | panic ch => exact hq.elim
  | outgrown => exact hq.elim
 | exit i => obtain ⟨_, _, h, _⟩ := hq; exact h.elim
 | goto i => obtain ⟨_, _, h, _⟩ := hq; exact h.elim
 | ret => obtain ⟨_, _, h, _⟩ := hq; exact h.elim
 | panic ch => exact hq.elim
 | outgrown => exact hq.elim
end
end Go.Eng

namespace Go.Eng
section
variable {P : Program} {G : Glob} {T : Tr} {E0 : Env} {Ho : Nat -> Blk} {w0 : World}
def ItOK (P : Program) (G : Glob) (E0 : Env) (Ho : Nat -> Blk) (w0 : World) (k : Nat) (It : ItT) : Prop :=
 ∀ (f : FuncId) (Fs : List (List AV × Act)) (args : List AV) (Y : RoundT) (K : List Blk -> Prop) (bs : List Blk) (w : World) (vs : List Value) (E : Env) (acc : List (Nat × Blk)), It f k (Fs.map (·.1)) args Y K bs -> YOK P G E0 Ho w0 Fs Y ->
  SimE G Fs E0 Ho w0 [] bs { tmps := #[], defers := [] } w E acc -> RepVs E args vs ->
  Callable P f /\ Calls P f vs.toArray w fun e w' => ∃ v bs', e = .returned v /\ K bs' /\ Sim G Fs E0 Ho w0 [] bs' { tmps := #[], defers := [] } w'
theorem noIt_ok {k : Nat} : ItOK P G E0 Ho w0 k noIt := fun _ _ _ _ _ _ _ _ _ _ h => h.elim
theorem SimE.take (hR0 : Rel E0 Ho w0) {Fs : List (List AV × Act)} {ts : List AV} {bs : List Blk} {tmps : Array Value} {d : Deferred} {ds : List Deferred} {w : World} {E : Env} {acc : List (Nat × Blk)} (h : SimE G Fs E0 Ho w0 ts bs { tmps := tmps, defers := d :: ds } w E acc) :
  ∃ r w', d.target = .collected r /\ (Instr.takeDeferred r).run P w = .ok [] w' /\ SimE G Fs E0 Ho w0 ts bs { tmps := tmps, defers := ds } w' E acc := by
 obtain ⟨r, hm, rfl, hr, hno⟩ := h.defers.df d (.head _)
 have hlt : r < w.heap.size := (Array.getElem?_eq_some_iff.1 hr).1
 refine ⟨r, w.putObj r (.deferred none), rfl, run_takeDeferred hr, ?_⟩
 have hn := World.putObj_heap_same (w := w) (o := .deferred none) hlt
 have hoth : ∀ r', r' ≠ r -> (w.putObj r (.deferred none)).heap[r']? = w.heap[r']? := fun r' hr' => World.putObj_heap_other hr'
 have hno' : ∀ b o, (upds Ho acc b).own = true -> E.pl b ≠ .at r o := by rw [h.H]; exact hno
 have hs := h.step
 have hrd : ∀ r' j v, E.rd r' j = some v -> (w.putObj r (.deferred none)).cell? ⟨r', j, none⟩ = some v := by
  intro r' j v hv
  have h1 := hs.rel.rd r' j v hv
  by_cases e : r' = r
  ·subst e
   simp [World.cell?, hr] at h1
  ·rw [cell_same (hoth r' e) j]; exact h1
 have hold : ∀ c r' o, (Ho c).own = true -> E0.pl c = .at r' o -> r' ≠ r := fun c r' o hc hp => by
  have := hR0.old c r' o hp; omega
 have hrel : Rel E (upds Ho acc) (w.putObj r (.deferred none)) := by
  refine ⟨hrd, fun b => (hs.rel.blk b).congr fun ho r' o hp => hoth r' fun e => hno' b o ho (e ▸ hp), hs.rel.sep, hs.rel.apart, fun b r' o hp => by rw [World.putObj_size]; exact hs.rel.old b r' o hp, hs.rel.born, hs.rel.fit, fun r' o h => ?_, hs.rel.fxa⟩
  have h1 := hR0.fx r' o (by rw [← hs.ext.fx]; exact h)
  have := lt_of_heap h1
  rw [hoth r' (by omega)]; exact hs.rel.fx r' o h
 have hm0 := hs.mem
 have hmem : Mem E0 Ho w0 E (w.putObj r (.deferred none)) := by
  refine ⟨hm0.os, hm0.tape, hm0.output, by rw [World.putObj_size]; exact hm0.size, fun r' hr' hno => ?_, hm0.rd, hm0.new⟩
  ·rw [hoth r' (by omega)]; exact hm0.same r' hr' hno
 have hnd := h.defers.nd
 rw [List.cons_append, List.nodup_cons] at hnd
 have hdf : ∀ ds', DF w0.heap.size E (hOf bs) w ds' -> ({ target := .collected r, args := #[] } : Deferred) ∉ ds' -> DF w0.heap.size E (hOf bs) (w.putObj r (.deferred none)) ds' := by
  intro ds' hd hni d hdm
  obtain ⟨r', hm', e, hr', hno''⟩ := hd d hdm
  refine ⟨r', hm', e, ?_, hno''⟩
  rw [hoth r' (fun e' => hni (by rw [e, e'] at hdm; exact hdm))]
  exact hr'
 refine ⟨⟨.any _ _, hrel, hs.ext, hmem, hs.born, hs.live, fun b r' o hb hp hni => ?_⟩, h.H, h.size, h.tmps, h.glob, h.unborn, h.acc, ⟨hnd.2, hdf _ (fun d hd => h.defers.df d (.tail _ hd)) (fun hm => hnd.1 (List.mem_append_left _ hm)), h.defers.size, h.defers.tmps, fun x hx => hdf _ (h.defers.out x hx) fun hm => hnd.1 (List.mem_append_right _ (List.mem_flatMap.2 ⟨x, hx, hm⟩))⟩⟩
 rw [hoth r' (hold b r' o hb hp)]; exact hs.others b r' o hb hp hni
theorem leaves_marks (hR0 : Rel E0 Ho w0) {Fs : List (List AV × Act)} {ts : List AV} {bs : List Blk} {fn : Func} {tmps : Array Value} {R : Ending -> World -> Prop} {E : Env} {acc : List (Nat × Blk)} : ∀ (ds : List Deferred) (w : World), SimE G Fs E0 Ho w0 ts bs { tmps := tmps, defers := ds } w E acc ->
  (∀ w', SimE G Fs E0 Ho w0 ts bs { tmps := tmps, defers := [] } w' E acc -> ∃ v, (results fn tmps).run P w' = .ok v w' /\ R (.returned v) w') -> LeavesInM Fence.wide 0 P fn tmps R ds .returning w
 | [], w, h, hf => by
  obtain ⟨v, h1, h2⟩ := hf w h
  exact ⟨v, h1, h2⟩
 | d :: ds, w, h, hf => by
  obtain ⟨r, w', h1, h2, h3⟩ := h.take (P := P) hR0
  exact ⟨(by intro h; cases h), .inl ⟨r, w', h1, h2, leaves_marks hR0 ds w' h3 hf⟩⟩
theorem calls_body (hR0 : Rel E0 Ho w0) {Fs : List (List AV × Act)} {f : FuncId} {fn : Func} {c : Code} (hf : P.funcs[f]? = some fn) (hb : fn.body = some c) {args : Array Value} {w : World} {R : Ending -> World -> Prop} {K : Post}
  (h : c.wpIn (fen none) 0 P (PostQ G Fs E0 Ho w0 K) { tmps := args ++ Array.replicate (fn.ntmps - args.size) undef, defers := [] } w)
  (hK : ∀ e ts bs tmps w' E acc, (e = .normal \/ e = .ret) -> K e ts bs -> SimE G Fs E0 Ho w0 ts bs { tmps := tmps, defers := [] } w' E acc -> ∃ v, (results fn tmps).run P w' = .ok v w' /\ R (.returned v) w')
  (hno : ∀ i ts bs, ¬ K (.exit i) ts bs) (hno' : ∀ i ts bs, ¬ K (.goto i) ts bs) : Calls P f args w R := by
 refine callsIn_wide.1 (callsIn_of_wp_marks (F := Fence.wide) (n := 0) hf hb trivial (wpIn_mono h fun e a w' hq => ?_))
 cases e with
 | normal =>
  obtain ⟨ts, bs, hk, E, acc, hs⟩ := hq
  exact leaves_marks hR0 a.defers w' hs fun w'' hs' => hK _ ts bs _ w'' E acc (.inl rfl) hk hs'
 | ret =>
  obtain ⟨ts, bs, hk, E, acc, hs⟩ := hq
  exact leaves_marks hR0 a.defers w' hs fun w'' hs' => hK _ ts bs _ w'' E acc (.inr rfl) hk hs'
 | exit i => obtain ⟨ts, bs, hk, _⟩ := hq; exact (hno i ts bs hk).elim
 | goto i => obtain ⟨ts, bs, hk, _⟩ := hq; exact (hno' i ts bs hk).elim
 | panic ch => exact hq.elim
 | outgrown => exact hq.elim
theorem afterK_inv {yb : Nat} {ts : List AV} {K : Post} {bs : List Blk} (h : afterK yb ts K bs) : ∃ L s bs', hOf bs yb = .lp L s /\ (bs'.length = max bs.length (yb + 1) /\ ∀ c, hOf bs' c = if c = yb then .dead else hOf bs c) /\ ((s = .ready /\ K .normal ts bs') \/ (∃ i, s = .done (.exit i) /\ K (.exit i) ts bs') \/ (∃ i, s = .done (.goto i) /\ K (.goto i) ts bs') \/ (s = .done .ret /\ K .ret ts bs')) := by
 unfold afterK at h
 split at h
 ·rename_i L s hb
  obtain ⟨bs', h, h1, h2⟩ := padK_inv h
  refine ⟨L, s, bs', hb, ⟨h1, h2⟩, ?_⟩
  split at h
  ·exact .inl ⟨rfl, h⟩
  ·split at h
   ·exact .inr (.inl ⟨_, rfl, h⟩)
   ·exact .inr (.inr (.inl ⟨_, rfl, h⟩))
   ·exact .inr (.inr (.inr ⟨rfl, h⟩))
   ·exact h.elim
  ·exact h.elim
 ·exact h.elim
theorem rangeFunc_sound (hT : TabOK P T) (hR0 : Rel E0 Ho w0) {Fs : List (List AV × Act)} {It : ItT} {k : Nat} (hIt : ItOK P G E0 Ho w0 k It) {g : Operand} {ps : Array Tmp} {assign body : Code} {f : FuncId} {caps : List AV} {ts : List AV} {bs : List Blk} {K : Post} {a : Act} {w : World} {nn : Nat} {bodyF assignF : List (List AV) -> Post -> List AV -> List Blk -> Prop} (hg : ev G ts g = .fn f caps)
  (h : ∀ L : Loop, padK bs bs.length .dead fun bs0 => padK bs0 bs0.length (.lp L .ready) fun bs1 => It f k ([.yld bs0.length] :: ts :: Fs.map (·.1)) (.yld bs0.length :: caps) (roundK L bodyF assignF bs0.length ts ps.toList) (afterK bs0.length ts K) bs1)
  (hb : ∀ l Fs' K ts bs a w, (∃ pre, Fs' = pre ++ Fs) -> bodyF (Fs'.map (·.1)) K ts bs -> Sim G Fs' E0 Ho w0 ts bs a w -> body.wpIn (fen (some l)) 0 P (PostQ G Fs' E0 Ho w0 K) a w)
  (ha : ∀ l Fs' K ts bs a w, (∃ pre, Fs' = pre ++ Fs) -> assignF (Fs'.map (·.1)) K ts bs -> Sim G Fs' E0 Ho w0 ts bs a w -> assign.wpIn (fen (some l)) 0 P (PostQ G Fs' E0 Ho w0 K) a w)
  (hS : Sim G Fs E0 Ho w0 ts bs a w) : (Code.rangeFunc g ps assign body).wpIn (fen none) nn P (PostQ G Fs E0 Ho w0 K) a w := by
 refine wpIn_rangeFunc fun fn _ => ?_
 obtain ⟨E, acc, hS⟩ := hS
 let L : Loop := { state := .ready, pending := none, fn, tmps := a.tmps, params := ps, assign, body, defers := w.heap.size }
 have h := h L
 obtain ⟨bs0, h, hl0, hc0⟩ := padK_inv h
 obtain ⟨bs1, h, hl1, hc1⟩ := padK_inv h
 have hl0' : bs0.length = bs.length + 1 := by omega
 -- the block of deferred calls
 have hk0 : E.pl bs.length = .unborn := Classical.byContradiction fun hne => by have := hS.unborn _ hne; omega
 have s0 := Step.alloc (x := .dead) (v := .any) (u := undef) hS.step.rel hk0 (.deferred (some [])) .unit 0 (Nat.le_refl _) trivial (.any _ _)
 have hS0 := hS.put1 hR0 s0 hl0 hc0
 generalize hE1 : E.birth bs.length w.heap.size 0 .unit 0 = E1 at s0 hS0
 generalize hw1 : w.alloc (.deferred (some [])) = W1 at s0 hS0
 have hsz1 : W1.heap.size = w.heap.size + 1 := by rw [← hw1]; simp
 have hd1 : W1.heap[w.heap.size]? = some (.deferred (some [])) := by rw [← hw1]; exact World.alloc_heap_new w _
 -- the mark
 let mk : Deferred := { target := .collected w.heap.size, args := #[] }
 have hmk : ∀ b o, (hOf bs0 b).own = true -> E1.pl b ≠ .at w.heap.size o := by
  intro b o ho hp
  have hbne : b ≠ bs.length := by
   intro e; subst e
   rw [hc0, if_pos rfl] at ho; cases ho
  rw [← hE1] at hp
  have hp' : (if b = bs.length then Place.at w.heap.size 0 else E.pl b) = .at w.heap.size o := hp
  rw [if_neg hbne] at hp'
  have := hS.step.rel.old b _ _ hp'
  omega
 have hmold : ∀ ds, DF w0.heap.size E (hOf bs) w ds -> mk ∉ ds := by
  intro ds hd hm
  obtain ⟨r, _, e, hr, _⟩ := hd mk hm
  have e : (Target.collected w.heap.size) = .collected r := congrArg Deferred.target e
  injection e with e
  have := (Array.getElem?_eq_some_iff.1 hr).1
  omega
 let a' : Act := { a with defers := [mk] ++ a.defers }
 have hS0' : SimE G Fs E0 Ho w0 ts bs0 a' W1 E1 (acc ++ [(bs.length, .dead)]) := by
  refine ⟨hS0.step, hS0.H, hS0.size, hS0.tmps, hS0.glob, hS0.unborn, hS0.acc, ⟨?_, ?_, hS0.defers.size, hS0.defers.tmps, hS0.defers.out⟩⟩
  ·show (mk :: (a.defers ++ _)).Nodup
   refine List.nodup_cons.2 ⟨fun hm => ?_, hS0.defers.nd⟩
   rcases List.mem_append.1 hm with hm | hm
   ·exact hmold _ hS.defers.df hm
   ·obtain ⟨x, hx, hm⟩ := List.mem_flatMap.1 hm
    exact hmold _ (hS.defers.out x hx) hm
  ·intro d hd
   rcases List.mem_cons.1 hd with rfl | hd
   ·exact ⟨w.heap.size, hS.step.mem.size, rfl, hd1, hmk⟩
   ·exact hS0.defers.df d hd
 -- the record
 have hk1 : E1.pl bs0.length = .unborn := Classical.byContradiction fun hne => by have := hS0'.unborn _ hne; omega
 have s1 := Step.alloc (x := .lp L .ready) (v := .any) (u := undef) hS0'.step.rel hk1 (.loop L) .unit 0 (Nat.le_refl _) ⟨W1.heap.size, if_pos rfl, if_pos rfl, if_pos rfl, World.alloc_heap_new W1 _⟩ (.any _ _)
 have hS1 := hS0'.put1 hR0 s1 hl1 hc1
 have hpl : (E1.birth bs0.length W1.heap.size 0 .unit 0).pl bs0.length = .at W1.heap.size 0 := if_pos rfl
 generalize hE2 : E1.birth bs0.length W1.heap.size 0 .unit 0 = E2 at s1 hS1 hpl
 have hl : W1.heap.size = w.heap.size + 1 := hsz1
 -- the frames that wait
 have hS2 := Sim.push hS1
 have hS3 : SimE G ((ts, a') :: Fs) E0 Ho w0 [.yld bs0.length] bs1 { tmps := #[.func (.yield W1.heap.size) #[] #[]], defers := [] } (W1.alloc (.loop L)) E2 _ :=
  ⟨hS2.step, hS2.H, rfl, fun t => by
   cases t with
   | zero => exact .one (.yld _ _ hpl) rfl
   | succ t => exact .any _ _, hS2.glob, hS2.unborn, hS2.acc, hS2.defers⟩
 have hS4 := Sim.push hS3
 have hev := hS.ev g
 rw [hg] at hev
 obtain ⟨css, hcl, hcr, hge⟩ : ∃ css : List (List Value), ∃ hlen : css.length = caps.length, (∀ i (h : i < caps.length), RepA E caps[i] (css[i]'(hlen ▸ h))) /\ a.eval g = .func (.func f) #[] ((caps.zip css).map fun x => ofCells x.1.isAgg x.2).toArray := by
  rcases hev with hv | ⟨cs, hr, e⟩
  ·cases hv
  ·cases hr with
   | fn f caps css hlen h => exact ⟨css, hlen, h, e⟩
 generalize hcv : ((caps.zip css).map fun x => ofCells x.1.isAgg x.2) = cvs at hge
 have hext : Ext E E2 := (s0.ext).trans s1.ext
 have hreps : RepVs E2 (.yld bs0.length :: caps) (.func (.yield W1.heap.size) #[] #[] :: cvs) := by
  have hcvl : cvs.length = caps.length := by rw [← hcv, List.length_map, List.length_zip, hcl]; omega
  refine ⟨by simp [hcvl], fun i hi hi' => ?_⟩
  cases i with
  | zero => exact .one (.yld _ _ hpl) rfl
  | succ i =>
   have hi2 : i < caps.length := by simpa using hi
   have := (RepV.of (hcr i hi2) rfl).ext hext
   have e : cvs[i]'(by rw [hcvl]; exact hi2) = ofCells (caps[i]).isAgg (css[i]'(by rw [hcl]; exact hi2)) := by
    subst hcv
    simp
   simp only [List.getElem_cons_succ]
   rw [e]; exact this
 have hY : YOK P G E0 Ho w0 (([AV.yld bs0.length], ({ tmps := #[.func (.yield W1.heap.size) #[] #[]], defers := [] } : Act)) :: (ts, a') :: Fs) (roundK L bodyF assignF bs0.length ts ps.toList) :=
  roundK_ok hR0 (.head _) (.tail _ (.head _)) rfl rfl
   (fun pre K ts bs a w h hs => hb _ _ K ts bs a w ⟨pre ++ [([AV.yld bs0.length], ({ tmps := #[.func (.yield W1.heap.size) #[] #[]], defers := [] } : Act)), _], by simp; rfl⟩ h hs)
   (fun pre K ts bs a w h hs => ha _ _ K ts bs a w ⟨pre ++ [([AV.yld bs0.length], ({ tmps := #[.func (.yield W1.heap.size) #[] #[]], defers := [] } : Act)), _], by simp; rfl⟩ h hs)
 obtain ⟨hcallable, hcalls⟩ := hIt f (([AV.yld bs0.length], ({ tmps := #[.func (.yield W1.heap.size) #[] #[]], defers := [] } : Act)) :: (ts, a') :: Fs) _ _ _ bs1 _ _ E2 _ h hY hS4 hreps
 refine ⟨W1.heap.size, [mk], W1.alloc (.loop L), { target := .fn (.func f) cvs.toArray, args := #[.func (.yield W1.heap.size) #[] #[]] }, W1.alloc (.loop L), f, #[.func (.yield W1.heap.size) #[] #[]] ++ cvs.toArray, W1.alloc (.loop L), ?_, ?_, fun f' _ => fen_fn none f', ?_, (fun h => by rw [fen_depth] at h; cases h), ?_⟩
 ·rw [fen_round, hl, ← hw1]; exact run_enterLoop_outer _ _ _ _ _
 ·simp only [resolve, hge]
  simp [go_sem]
 ·simp only [invoke]
  simp [go_sem]
  exact hcallable _ _
 ·have eargs : #[.func (.yield W1.heap.size) #[] #[]] ++ cvs.toArray = (Value.func (.yield W1.heap.size) #[] #[] :: cvs).toArray := by
   rw [← Array.toList_inj]; simp
  rw [eargs]
  refine calls_fen (hcalls.mono fun e w' => ?_)
  rintro ⟨v, bs', rfl, hK, E3, acc3, hS5⟩
  obtain ⟨L', s, bs2, hb3, ⟨h3, h4⟩, hcase⟩ := afterK_inv hK
  have hp3 := yld_place hS5.defers (.head _)
  have hH3 : upds Ho acc3 bs0.length = .lp L' s := by rw [hS5.H]; exact hb3
  obtain ⟨hw3, _, _⟩ := lp_heap hS5.step.rel hH3 hp3
  have hnb : (lpRec L' s).state ≠ .busy := by
   rcases hcase with ⟨rfl, _⟩ | ⟨_, rfl, _⟩ | ⟨_, rfl, _⟩ | ⟨rfl, _⟩ <;> (intro h; cases h)
  have hend := run_endLoop (P := P) hw3 hnb
  have hS6 : Sim G Fs E0 Ho w0 ts bs2 a' (w'.putObj W1.heap.size (.loop { lpRec L' s with state := .exhausted })) :=
   Sim.pop (Sim.pop ⟨E3, _, hS5.put1 hR0 (Step.lpx hS5.step.rel hH3 hp3 _ (x := .dead) trivial) h3 h4⟩)
  refine ⟨_, _, hend, ?_⟩
  rcases hcase with ⟨rfl, hk⟩ | ⟨i, rfl, hk⟩ | ⟨i, rfl, hk⟩ | ⟨rfl, hk⟩
  ·exact ⟨ts, bs2, hk, hS6⟩
  ·exact wpIn_exit ⟨ts, bs2, hk, hS6⟩
  ·exact wpIn_goto ⟨ts, bs2, hk, hS6⟩
  ·exact wpIn_ret ⟨ts, bs2, hk, hS6⟩
theorem vcB_sound (hT : TabOK P T) (hm : P.follows .mixedOrders = true) (hR0 : Rel E0 Ho w0) (hG0 : GPlain G) {k : Nat} (hk : ∀ b, E0.pl b ≠ .unborn -> b < k) {It : ItT} (hIt : ItOK P G E0 Ho w0 k It) {Y : RoundT} {Fs1 : List (List AV × Act)} (hY : YOK P G E0 Ho w0 Fs1 Y) {nn : Nat} :
  ∀ (c : Code) (o : Option Nat) (ir : Bool) (ro : Option Nat) (Fs : List (List AV × Act)) (K : Post) (ts : List AV) (bs : List Blk) (a : Act) (w : World), (ro.isSome = true -> ir = true) -> (∃ pre, Fs = pre ++ Fs1) ->
  vcB P G T It k Y ir c (Fs.map (·.1)) o K ts bs -> Sim G Fs E0 Ho w0 ts bs a w -> match o with
   | none => c.wpIn (fen ro) nn P (PostQ G Fs E0 Ho w0 K) a w
   | some l => FromL P ro nn c l (PostQ G Fs E0 Ho w0 K) a w
 | .skip, none, ir, ro, Fs, K, ts, bs, a, w, hir, hpre, h, hS => wpIn_skip ⟨ts, bs, h, hS⟩
 | .region id ops d, none, ir, ro, Fs, K, ts, bs, a, w, hir, hpre, h, hS => region_sound hT hm hR0 (k := k) (ir := ir) (It := It) hY hpre h hS
 | .seq x y, none, ir, ro, Fs, K, ts, bs, a, w, hir, hpre, h, hS => by
  refine wpIn_seq (mono_then (fun ts bs a w h hS => ?_) (vcB_sound hT hm hR0 hG0 hk hIt hY x none ir ro Fs _ ts bs a w hir hpre h hS))
  exact vcB_sound hT hm hR0 hG0 hk hIt hY y none ir ro Fs K ts bs a w hir hpre h hS
 | .seq x y, some l, ir, ro, Fs, K, ts, bs, a, w, hir, hpre, h, hS => by
  simp only [vcB] at h
  split at h
  ·rename_i hx
   obtain ⟨rx, hrx, hw⟩ := vcB_sound hT hm hR0 hG0 hk hIt hY x (some l) ir ro Fs _ ts bs a w hir hpre h hS
   refine ⟨.seq rx y, by simp [findLabel, hrx], wpIn_seq (mono_then (fun ts bs a w h hS => ?_) hw)⟩
   exact vcB_sound hT hm hR0 hG0 hk hIt hY y none ir ro Fs K ts bs a w hir hpre h hS
  ·rename_i hx
   obtain ⟨ry, hry, hw⟩ := vcB_sound hT hm hR0 hG0 hk hIt hY y (some l) ir ro Fs K ts bs a w hir hpre h hS
   have hn : findLabel x l = none := by
    cases hfx : findLabel x l with
    | none => rfl
    | some r => rw [hfx] at hx; cases hx
   exact ⟨ry, by simp [findLabel, hn, hry], hw⟩
 | .cond c x y, none, ir, ro, Fs, K, ts, bs, a, w, hir, hpre, h, hS => by
  simp only [vcB] at h
  split at h
  ·rename_i t
   split at h
   ·rename_i b hts
    obtain ⟨E, acc, hS'⟩ := id hS
    have hv : a.eval (.tmp t) = .bool b := by
     have := hS'.tmps t
     rw [hts] at this
     exact rep_sc this
    refine wpIn_cond hv ?_
    cases b with
    | true => exact vcB_sound hT hm hR0 hG0 hk hIt hY x none ir ro Fs K ts bs a w hir hpre h hS
    | false => exact vcB_sound hT hm hR0 hG0 hk hIt hY y none ir ro Fs K ts bs a w hir hpre h hS
   ·rename_i g n hts
    obtain ⟨b0, hv0, hn0⟩ : ∃ b0, a.eval (.tmp t) = .bool (b0 != g) /\ (b0 = true -> n = 0) := by
     obtain ⟨E, acc, hS'⟩ := id hS
     have := hS'.tmps t
     rw [hts] at this
     rcases this with h | ⟨cs, h, e⟩
     ·cases h
     ·cases h with
      | nq _ _ b0 hb => exact ⟨b0, e, hb⟩
    split at h
    ·have both : ∀ K, ((n = 0 -> vcB P G T It k Y ir x (Fs.map (·.1)) none K ts bs) /\ vcB P G T It k Y ir y (Fs.map (·.1)) none K ts bs) -> (Code.cond (.tmp t) x y).wpIn (fen ro) nn P (PostQ G Fs E0 Ho w0 K) a w := by
      intro K h
      rw [Bool.bne_false] at hv0
      refine wpIn_cond hv0 ?_
      cases b0 with
      | true => exact vcB_sound hT hm hR0 hG0 hk hIt hY x none ir ro Fs K ts bs a w hir hpre (h.1 (hn0 rfl)) hS
      | false => exact vcB_sound hT hm hR0 hG0 hk hIt hY y none ir ro Fs K ts bs a w hir hpre h.2 hS
     split at h
     ·exact join_sound hR0 hG0 hk hS both h
     ·exact both K h
    ·have both : ∀ K, (vcB P G T It k Y ir x (Fs.map (·.1)) none K ts bs /\ (n = 0 -> vcB P G T It k Y ir y (Fs.map (·.1)) none K ts bs)) -> (Code.cond (.tmp t) x y).wpIn (fen ro) nn P (PostQ G Fs E0 Ho w0 K) a w := by
      intro K h
      rw [Bool.bne_true] at hv0
      refine wpIn_cond hv0 ?_
      cases b0 with
      | true => exact vcB_sound hT hm hR0 hG0 hk hIt hY y none ir ro Fs K ts bs a w hir hpre (h.2 (hn0 rfl)) hS
      | false => exact vcB_sound hT hm hR0 hG0 hk hIt hY x none ir ro Fs K ts bs a w hir hpre h.1 hS
     split at h
     ·exact join_sound hR0 hG0 hk hS both h
     ·exact both K h
   ·rename_i b hts
    have both : ∀ K, (split b fun b'' => setK ts t (.dv (.sc (.bool b''))) fun ts => match b'' with | true => vcB P G T It k Y ir x (Fs.map (·.1)) none K ts bs | false => vcB P G T It k Y ir y (Fs.map (·.1)) none K ts bs) -> (Code.cond (.tmp t) x y).wpIn (fen ro) nn P (PostQ G Fs E0 Ho w0 K) a w := by
     intro K h
     have h := split_of h
     obtain ⟨hlt, h⟩ := setK_inv h
     obtain ⟨E, acc, hS'⟩ := id hS
     have hv : a.eval (.tmp t) = .bool b := by
      have := hS'.tmps t
      rw [hts] at this
      exact rep_bl this
     have hS2 : Sim G Fs E0 Ho w0 (ts.set t (.dv (.sc (.bool b)))) bs a w := by
      refine ⟨E, acc, hS'.step, hS'.H, by rw [hS'.size, List.length_set], fun t' => ?_, hS'.glob, hS'.unborn, hS'.acc, hS'.defers⟩
      by_cases e : t' = t
      ·subst e
       rw [show (ts.set t' (.dv (.sc (.bool b)))).getD t' .any = .dv (.sc (.bool b)) from by simp [List.getD, hlt]]
       have : a.tmps.getD t' undef = .bool b := hv
       rw [this]; exact sc_rep E trivial
      ·rw [show (ts.set t (.dv (.sc (.bool b)))).getD t' .any = ts.getD t' .any from by simp [List.getD, List.getElem?_set_ne (Ne.symm e)]]
       exact hS'.tmps t'
     refine wpIn_cond hv ?_
     cases b with
     | true => exact vcB_sound hT hm hR0 hG0 hk hIt hY x none ir ro Fs K _ bs a w hir hpre h hS2
     | false => exact vcB_sound hT hm hR0 hG0 hk hIt hY y none ir ro Fs K _ bs a w hir hpre h hS2
    split at h
    ·exact join_sound hR0 hG0 hk hS both h
    ·exact both K h
   ·exact h.elim
  ·rename_i b
   refine wpIn_cond (t := b) rfl ?_
   cases b with
   | true => exact vcB_sound hT hm hR0 hG0 hk hIt hY x none ir ro Fs K ts bs a w hir hpre h hS
   | false => exact vcB_sound hT hm hR0 hG0 hk hIt hY y none ir ro Fs K ts bs a w hir hpre h hS
  ·exact h.elim
 | .block id b, none, ir, ro, Fs, K, ts, bs, a, w, hir, hpre, h, hS => by
  simp only [vcB] at h
  refine join_sound hR0 hG0 hk hS (fun K h => ?_) h
  refine wpIn_block (wpIn_mono (vcB_sound hT hm hR0 hG0 hk hIt hY b none ir ro Fs _ ts bs a w hir hpre h hS) fun e a w hq => ?_)
  cases e with
  | normal => exact hq
  | exit i =>
   obtain ⟨ts, bs, h1, h2⟩ := hq
   simp only [blockK] at h1
   simp only [Exit.inBlock]
   split at h1
   ·rename_i hb
    rw [if_pos (Nat.eq_of_beq_eq_true hb)]; exact ⟨ts, bs, h1, h2⟩
   ·rename_i hb
    rw [if_neg (Nat.ne_of_beq_eq_false hb)]; exact ⟨ts, bs, h1, h2⟩
  | goto l => exact hq
  | ret => exact hq
  | panic ch => exact hq
  | outgrown => exact hq
 | .loop b, none, ir, ro, Fs, K, ts, bs, a, w, hir, hpre, h, hS => by
  rcases h with h | ⟨n, h⟩
  case inr =>
   refine wp_loop_x (fun n a w => ∃ ts bs, unrK (vcB P G T It k Y ir b (Fs.map (·.1)) none) K n ts bs /\ Sim G Fs E0 Ho w0 ts bs a w) (fun n => n) (fun n a w hJ => ?_) ⟨ts, bs, h, hS⟩
   obtain ⟨ts, bs, h, hS⟩ := hJ
   cases n with
   | zero => exact h.elim
   | succ n => exact mono_then (fun ts1 bs1 a w hh hS1 => ⟨n, ⟨ts1, bs1, hh, hS1⟩, Nat.lt_succ_self n⟩) (vcB_sound hT hm hR0 hG0 hk hIt hY b none ir ro Fs _ _ _ a w hir hpre h hS)
  obtain ⟨Z, X, F, N, M, x, h⟩ := h
  obtain ⟨ts, bs, h, hS, _⟩ := nilsK_sound hR0 h hS
  obtain ⟨bs, ⟨hmeet, hround⟩, hS, _⟩ := nilsB_sound hR0 h hS
  have hkb : ∀ b, E0.pl b ≠ .unborn -> b < k /\ b < bs.length := by
   intro b hb
   obtain ⟨E, acc, hS'⟩ := hS
   exact ⟨hk b hb, hS'.unborn b (by rw [hS'.step.ext.pl b hb]; exact hb)⟩
  refine wp_loop_x (fun x a w => Sim G Fs E0 Ho w0 (startL (Z ++ wrs b) (F.U x) 0 ts) (startBL (F.B x) 0 bs) a w) F.μ (fun x a w hJ => ?_) (hmeet.sim hR0 hG0 hkb hS)
  have h1 := hround x
  rw [startK_eq, startB_eq] at h1
  refine mono_then (fun ts1 bs1 a w hh hS1 => ?_) (vcB_sound hT hm hR0 hG0 hk hIt hY b none ir ro Fs _ _ _ a w hir hpre h1 hJ)
  obtain ⟨y, σ, hm1, hlt⟩ := hh
  exact ⟨y, hm1.sim hR0 hG0 hkb hS1, hlt⟩
 | .exit i, none, ir, ro, Fs, K, ts, bs, a, w, hir, hpre, h, hS => wpIn_exit ⟨ts, bs, h, hS⟩
 | .label _, none, ir, ro, Fs, K, ts, bs, a, w, hir, hpre, h, hS => wpIn_label ⟨ts, bs, h, hS⟩
 | .label l', some l, ir, ro, Fs, K, ts, bs, a, w, hir, hpre, h, hS => by
  simp only [vcB] at h
  split at h
  ·rename_i hl
   exact ⟨.skip, by simp only [findLabel]; rw [if_pos hl], wpIn_skip ⟨ts, bs, h, hS⟩⟩
  ·exact h.elim
 | .goto l, none, ir, ro, Fs, K, ts, bs, a, w, hir, hpre, h, hS => wpIn_goto ⟨ts, bs, h, hS⟩
 | .ret, none, ir, ro, Fs, K, ts, bs, a, w, hir, hpre, h, hS => wpIn_ret ⟨ts, bs, h, hS⟩
 | .scope b, none, ir, ro, Fs, K, ts, bs, a, w, hir, hpre, h, hS => by
  refine wp_scope_goto (wpIn_mono (vcB_sound hT hm hR0 hG0 hk hIt hY b none ir ro Fs _ ts bs a w hir hpre h hS) fun e a w hq => ?_)
  cases e with
  | normal => exact hq
  | exit i => exact hq
  | goto l =>
   obtain ⟨ts, bs, h1, h2⟩ := hq
   exact jumps_sound hR0 hG0 hk (fun l K' ts bs a w h hS => vcB_sound (nn := nn) hT hm hR0 hG0 hk hIt hY b (some l) ir ro Fs K' ts bs a w hir hpre h hS) 4 l ts bs a w h1 h2
  | ret => exact hq
  | panic ch => exact hq
  | outgrown => exact hq
 | .rangeFunc g ps assign body, none, ir, ro, Fs, K, ts, bs, a, w, hir, hpre, h, hS => by
  simp only [vcB] at h
  split at h
  ·rename_i f caps hg
   have hro : ro = none := by
    cases ro with
    | none => rfl
    | some l => have := hir rfl; cases this
   subst hro
   obtain ⟨pre, hpre⟩ := hpre
   exact rangeFunc_sound hT hR0 hIt hg h
    (fun l Fs' K ts bs a w ⟨pre', e⟩ h hs => vcB_sound hT hm hR0 hG0 hk hIt hY (nn := 0) body none true (some l) Fs' K ts bs a w (fun _ => rfl) ⟨pre' ++ pre, by rw [e, hpre, List.append_assoc]⟩ h hs)
    (fun l Fs' K ts bs a w ⟨pre', e⟩ h hs => vcB_sound hT hm hR0 hG0 hk hIt hY (nn := 0) assign none true (some l) Fs' K ts bs a w (fun _ => rfl) ⟨pre' ++ pre, by rw [e, hpre, List.append_assoc]⟩ h hs) hS
  ·exact h.elim
 | .refuse _, none, _, _, _, _, _, _, _, _, _, _, h, _ => h.elim
 | .skip, some _, _, _, _, _, _, _, _, _, _, _, h, _ => h.elim
 | .region _ _ _, some _, _, _, _, _, _, _, _, _, _, _, h, _ => h.elim
 | .cond _ _ _, some _, _, _, _, _, _, _, _, _, _, _, h, _ => h.elim
 | .block _ _, some _, _, _, _, _, _, _, _, _, _, _, h, _ => h.elim
 | .loop _, some _, _, _, _, _, _, _, _, _, _, _, h, _ => h.elim
 | .exit _, some _, _, _, _, _, _, _, _, _, _, _, h, _ => h.elim
 | .goto _, some _, _, _, _, _, _, _, _, _, _, _, h, _ => h.elim
 | .ret, some _, _, _, _, _, _, _, _, _, _, _, h, _ => h.elim
 | .scope _, some _, _, _, _, _, _, _, _, _, _, _, h, _ => h.elim
 | .rangeFunc _ _ _ _, some _, _, _, _, _, _, _, _, _, _, _, h, _ => h.elim
 | .refuse _, some _, _, _, _, _, _, _, _, _, _, _, h, _ => h.elim
theorem itN_ok (hT : TabOK P T) (hm : P.follows .mixedOrders = true) (hR0 : Rel E0 Ho w0) (hG0 : GPlain G) {k : Nat} (hk : ∀ b, E0.pl b ≠ .unborn -> b < k) : ∀ n, ItOK P G E0 Ho w0 k (itN P G T n)
 | 0 => noIt_ok
 | n + 1 => by
  intro f Fs args Y K bs w vs E acc h hY hS hvs
  obtain ⟨fn, c, ⟨hf, hb, hname, hres⟩, h⟩ := h
  refine ⟨fun args w => ?_, ?_⟩
  ·have hname' : fn.name ≠ "runtime.NumGoroutine" := by simpa using hname
   simp [callFunc, hf, hname', hb]
  ·have hvl : vs.length = args.length := hvs.1
   have hsim : Sim G Fs E0 Ho w0 (args ++ List.replicate (fn.ntmps - args.length) .any) bs { tmps := vs.toArray ++ Array.replicate (fn.ntmps - vs.toArray.size) undef, defers := [] } w := by
    refine ⟨E, acc, hS.step, hS.H, by simp [hvl], fun t => ?_, hS.glob, hS.unborn, hS.acc, hS.defers⟩
    by_cases ht : t < args.length
    ·have h1 : (args ++ List.replicate (fn.ntmps - args.length) AV.any).getD t .any = args[t] := by
      simp [List.getD, List.getElem?_append_left ht, List.getElem?_eq_getElem ht]
     have h2 : (vs.toArray ++ Array.replicate (fn.ntmps - vs.toArray.size) undef).getD t undef = vs[t]'(by omega) := by
      have : t < vs.length := by omega
      simp [Array.getElem?_append, this]
     rw [h1, h2]
     exact hvs.2 t ht (by omega)
    ·have h1 : (args ++ List.replicate (fn.ntmps - args.length) AV.any).getD t .any = .any := by
      rw [List.getD_eq_getElem?_getD, List.getElem?_append_right (by omega), List.getElem?_replicate]
      split <;> rfl
     rw [h1]; exact .any _ _
   refine calls_body hR0 (K := itPost K) hf hb (vcB_sound hT hm hR0 hG0 hk (itN_ok hT hm hR0 hG0 hk n) hY c none false none Fs _ _ _ _ _ (fun h => by cases h) ⟨[], rfl⟩ h hsim) ?_ (fun _ _ _ h => h) (fun _ _ _ h => h)
   intro e ts bs' tmps w' E' acc' he hk' hs'
   have hk' : K bs' := by rcases he with rfl | rfl <;> exact hk'
   refine ⟨.tuple #[], ?_, _, bs', rfl, hk', E', acc', hs'.step, hs'.H, rfl, fun _ => .any _ _, hs'.glob, hs'.unborn, hs'.acc, hs'.defers⟩
   simp [results, hres]
end
end Go.Eng

namespace Go.Eng
def bornB : Place -> Bool
 | .unborn => false
 | _ => true
theorem bornB_iff {p : Place} : bornB p = true ↔ p ≠ .unborn := by cases p <;> simp [bornB]
def Env.push (E E1 : Env) (τ : List (Nat × Nat)) (news : List Nat) : Env :=
 {pl := fun c => if bornB (E.pl c) = true then E.pl c else match news.find? (fun j => Nat.beq (look τ j) c) with | some j => E1.pl j | none => .unborn
  lay := fun c => if bornB (E.pl c) = true then E.lay c else match news.find? (fun j => Nat.beq (look τ j) c) with | some j => E1.lay j | none => E.lay c
  top := fun c => if bornB (E.pl c) = true then E.top c else match news.find? (fun j => Nat.beq (look τ j) c) with | some j => E1.top j | none => E.top c
  rd := E1.rd
  fx := E1.fx }
section
variable {E E1 : Env} {τ : List (Nat × Nat)} {news : List Nat}
theorem push_old {c : Nat} (h : E.pl c ≠ .unborn) : (E.push E1 τ news).pl c = E.pl c /\ (E.push E1 τ news).lay c = E.lay c /\ (E.push E1 τ news).top c = E.top c := by
 have hb := bornB_iff.2 h
 exact ⟨if_pos hb, if_pos hb, if_pos hb⟩
theorem push_find {j : Nat} (hj : j ∈ news) (hinj : ∀ i j, i ∈ news -> j ∈ news -> look τ i = look τ j -> i = j) : news.find? (fun i => Nat.beq (look τ i) (look τ j)) = some j := by
 cases hf : news.find? (fun i => Nat.beq (look τ i) (look τ j)) with
 | none =>
  have := List.find?_eq_none.1 hf j hj
  simp at this
 | some i =>
  have h1 := List.find?_some hf
  have h2 := List.mem_of_find?_eq_some hf
  rw [hinj i j h2 hj (Nat.eq_of_beq_eq_true h1)]
theorem push_new {j : Nat} (hj : j ∈ news) (hinj : ∀ i j, i ∈ news -> j ∈ news -> look τ i = look τ j -> i = j) (hu : E.pl (look τ j) = .unborn) :
  (E.push E1 τ news).pl (look τ j) = E1.pl j /\ (E.push E1 τ news).lay (look τ j) = E1.lay j /\ (E.push E1 τ news).top (look τ j) = E1.top j := by
 have hb : ¬ bornB (E.pl (look τ j)) = true := by rw [hu]; simp [bornB]
 have hf := push_find hj hinj
 refine ⟨?_, ?_, ?_⟩
 ·show (if _ then _ else _) = _
  rw [if_neg hb, hf]
 ·show (if _ then _ else _) = _
  rw [if_neg hb, hf]
 ·show (if _ then _ else _) = _
  rw [if_neg hb, hf]
theorem push_inv {c : Nat} (hu : E.pl c = .unborn) (h : (E.push E1 τ news).pl c ≠ .unborn) : ∃ j, j ∈ news /\ look τ j = c := by
 have hb : ¬ bornB (E.pl c) = true := by rw [hu]; simp [bornB]
 have h : (if bornB (E.pl c) = true then E.pl c else match news.find? (fun j => Nat.beq (look τ j) c) with | some j => E1.pl j | none => .unborn) ≠ .unborn := h
 rw [if_neg hb] at h
 cases hf : news.find? (fun j => Nat.beq (look τ j) c) with
 | none => rw [hf] at h; exact absurd rfl h
 | some j => exact ⟨j, List.mem_of_find?_eq_some hf, Nat.eq_of_beq_eq_true (List.find?_some (p := fun j => Nat.beq (look τ j) c) hf)⟩
theorem Step.push {H : Nat -> Blk} {w w' : World} (hR : Rel E H w) {k : Nat} {bs0 bs1 : List Blk} {acc : List (Nat × Blk)} {r : AV} {v : Value} (hk : bs0.length = k)
  (hH : ∀ b, b < k -> H (look τ b) = (hOf bs0 b).ren τ) (hnd : ∀ b, b < k -> hOf bs0 b ≠ .dead) (hinj : ∀ i j, i < k -> j < k -> look τ i = look τ j -> i = j) (hnj : ∀ i j, i ∈ news -> j ∈ news -> look τ i = look τ j -> i = j)
  (hnew : ∀ j, j ∈ news -> k ≤ j) (hun : ∀ j, j ∈ news -> E.pl (look τ j) = .unborn) (hS : Step (E.pull τ k) (hOf bs0) w acc .any undef E1 w') (hA : upds (hOf bs0) acc = hOf bs1) (hr : RepV E1 r v) (hrin : r.inB (memN (List.range k ++ news)) = true)
  (hbin : ∀ j, j ∈ List.range k ++ news -> (hOf bs1 j).inB (memN (List.range k ++ news)) = true) :
  Step E H w ((List.range k ++ news).map fun j => (look τ j, (hOf bs1 j).ren τ)) (r.ren τ) v (E.push E1 τ news) w' := by
 have hborn : ∀ b, b < k -> E.pl (look τ b) ≠ .unborn := fun b hb => own_born hR (by rw [hH b hb]; exact fun e => hnd b hb (ren_dead e))
 have h0pl : ∀ b, b < k -> (E.pull τ k).pl b = E.pl (look τ b) := fun b hb => if_pos hb
 have h0un : ∀ b, k ≤ b -> (E.pull τ k).pl b = .unborn := fun b hb => if_neg (Nat.not_lt.2 hb)
 have h1pl : ∀ b, b < k -> E1.pl b = E.pl (look τ b) /\ E1.lay b = E.lay (look τ b) /\ E1.top b = E.top (look τ b) := by
  intro b hb
  have hne : (E.pull τ k).pl b ≠ .unborn := by rw [h0pl b hb]; exact hborn b hb
  exact ⟨by rw [hS.ext.pl b hne, h0pl b hb], hS.ext.lay b hne, hS.ext.top b hne⟩
 have hmem : ∀ j, j ∈ List.range k ++ news ↔ j < k \/ j ∈ news := fun j => by rw [List.mem_append, List.mem_range]
 have hmp : Mp E1 (E.push E1 τ news) τ (memN (List.range k ++ news)) := by
  have : ∀ b, memN (List.range k ++ news) b = true -> (E.push E1 τ news).pl (look τ b) = E1.pl b /\ (E.push E1 τ news).lay (look τ b) = E1.lay b /\ (E.push E1 τ news).top (look τ b) = E1.top b := by
   intro b hb
   rcases (hmem b).1 (memN_mem hb) with h | h
   ·obtain ⟨g1, g2, g3⟩ := push_old (E1 := E1) (τ := τ) (news := news) (hborn b h)
    obtain ⟨q1, q2, q3⟩ := h1pl b h
    exact ⟨by rw [g1, q1], by rw [g2, q2], by rw [g3, q3]⟩
   ·exact push_new h hnj (hun b h)
  exact ⟨fun b hb => (this b hb).1, fun b hb => (this b hb).2.1, fun b hb => (this b hb).2.2⟩
 have hinjL : ∀ i j, i ∈ List.range k ++ news -> j ∈ List.range k ++ news -> look τ i = look τ j -> i = j := by
  intro i j hi hj e
  rcases (hmem i).1 hi with hi | hi <;> rcases (hmem j).1 hj with hj | hj
  ·exact hinj i j hi hj e
  ·exact absurd (by rw [e]; exact hun j hj) (hborn i hi)
  ·exact absurd (by rw [← e]; exact hun i hi) (hborn j hj)
  ·exact hnj i j hi hj e
 have hids : ∀ c, c ∈ ((List.range k ++ news).map fun j => (look τ j, (hOf bs1 j).ren τ)).map (·.1) ↔ ∃ j, j ∈ List.range k ++ news /\ look τ j = c := by
  intro c
  rw [List.map_map]
  constructor
  ·intro h; obtain ⟨j, hj, e⟩ := List.mem_map.1 h; exact ⟨j, hj, e⟩
  ·rintro ⟨j, hj, e⟩; exact List.mem_map.2 ⟨j, hj, e⟩
 have hin : ∀ j, j ∈ List.range k ++ news -> upds H ((List.range k ++ news).map fun j => (look τ j, (hOf bs1 j).ren τ)) (look τ j) = (hOf bs1 j).ren τ := by
  intro j hj
  obtain ⟨x, hx, he⟩ := upds_in ((hids (look τ j)).2 ⟨j, hj, rfl⟩)
  rw [he]
  obtain ⟨i, hi, e⟩ := List.mem_map.1 hx
  injection e with e1 e2
  rw [← e2, hinjL i j hi hj e1]
 have hout : ∀ c, (∀ j, j ∈ List.range k ++ news -> look τ j ≠ c) -> upds H ((List.range k ++ news).map fun j => (look τ j, (hOf bs1 j).ren τ)) c = H c := by
  intro c hc
  exact upds_notin fun z hz e => by
   obtain ⟨j, hj, e'⟩ := (hids c).1 (List.mem_map.2 ⟨z, hz, e⟩)
   exact hc j hj e'
 have hcase : ∀ c, (∃ j, j ∈ List.range k ++ news /\ look τ j = c) \/ ∀ j, j ∈ List.range k ++ news -> look τ j ≠ c := fun c =>
  (Classical.em (∃ j, j ∈ List.range k ++ news /\ look τ j = c)).imp id fun h j hj e => h ⟨j, hj, e⟩
 have hown0 : ∀ b, (hOf bs0 b).own = true -> b < k /\ (H (look τ b)).own = true := by
  intro b hb
  have hbk : b < k := Nat.lt_of_not_le fun h => by rw [hOf_off (by omega)] at hb; cases hb
  exact ⟨hbk, by rw [hH b hbk, ren_own]; exact hb⟩
 have h0at : ∀ b r o, (E.pull τ k).pl b = .at r o -> b < k /\ E.pl (look τ b) = .at r o := by
  intro b r o h
  by_cases hb : b < k
  ·exact ⟨hb, (h0pl b hb) ▸ h⟩
  ·rw [h0un b (Nat.le_of_not_lt hb)] at h; cases h
 -- what lies beside stays
 have hsame : ∀ c r o, (H c).own = true -> E.pl c = .at r o -> (∀ j, j ∈ List.range k ++ news -> look τ j ≠ c) -> w'.heap[r]? = w.heap[r]? := by
  intro c r o hc hp hno
  refine hS.mem.same r (hR.old c r o hp) fun b o' hb hbp => ?_
  obtain ⟨hbk, hbo⟩ := hown0 b hb
  exact hR.sep (look τ b) c r o' r o (hno b ((hmem b).2 (.inl hbk))) hbo hc (h0at b r o' hbp).2 hp rfl
 have hE : Ext E (E.push E1 τ news) := ⟨fun c hc => (push_old hc).1, fun c hc => (push_old hc).2.1, fun c hc => (push_old hc).2.2, fun r j v hv => hS.ext.rd r j v hv, hS.ext.fx⟩
 -- where an own block of the list lies: in a new block of memory, or in one that the caller lent
 have hwhere : ∀ j r o, j ∈ List.range k ++ news -> (hOf bs1 j).own = true -> E1.pl j = .at r o -> w.heap.size ≤ r \/ ∃ b o', b < k /\ (H (look τ b)).own = true /\ E.pl (look τ b) = .at r o' /\ o' ≤ o /\ E1.top j ≤ E.top (look τ b) := by
  intro j r o hj ho hp
  have hl := hS.live j (by rw [hA]; exact ho)
  by_cases hu : (E.pull τ k).pl j = .unborn
  ·rcases hS.mem.new j r o hu hp with h | ⟨b, o', h1, h2, h3, h4⟩
   ·exact .inl h
   ·obtain ⟨hbk, hbo⟩ := hown0 b h1
    exact .inr ⟨b, o', hbk, hbo, (h0at b r o' h2).2, h3, h4⟩
  ·rcases hl with hl | hl
   ·obtain ⟨hjk, hjo⟩ := hown0 j hl
    obtain ⟨q1, q2, q3⟩ := h1pl j hjk
    exact .inr ⟨j, o, hjk, hjo, by rw [← q1]; exact hp, Nat.le_refl _, Nat.le_of_eq q3⟩
   ·exact absurd hl hu
 have hbeside : ∀ j c r o r' o', j ∈ List.range k ++ news -> (hOf bs1 j).own = true -> E1.pl j = .at r o -> (H c).own = true -> E.pl c = .at r' o' -> (∀ j, j ∈ List.range k ++ news -> look τ j ≠ c) -> r ≠ r' := by
  intro j c r o r' o' hj ho hp hc hcp hno
  rcases hwhere j r o hj ho hp with h | ⟨b, o'', hbk, hbo, hbp, _⟩
  ·have := hR.old c r' o' hcp; omega
  ·exact hR.sep (look τ b) c r o'' r' o' (hno b ((hmem b).2 (.inl hbk))) hbo hc hbp hcp
 have hrel : Rel (E.push E1 τ news) (upds H ((List.range k ++ news).map fun j => (look τ j, (hOf bs1 j).ren τ))) w' := by
  have hb1 : ∀ j, BlkRel E1 j w' (hOf bs1 j) := fun j => by rw [← hA]; exact hS.rel.blk j
  have h1own : ∀ j, (hOf bs1 j).own = (upds (hOf bs0) acc j).own := fun j => by rw [hA]
  refine ⟨hS.rel.rd, fun c => ?_, fun c c' r o r' o' hcc h1 h2 h3 h4 => ?_, fun c r o j u h1 h2 h3 => ?_, fun c r o hp => ?_, fun c hu => ?_, fun c r o hp => ?_, hS.rel.fx, fun c r o ob h1 h2 h3 => ?fxa⟩
  ·rcases hcase c with ⟨j, hj, e⟩ | hno
   ·subst e
    rw [hin j hj]
    exact BlkRel.to hmp (fun _ _ _ h => h) (mem_memN hj) (hbin j hj) (hb1 j)
   ·rw [hout c hno]
    refine BlkRel.ext hE (fun hd => own_born hR hd) ((hR.blk c).congr fun hco q o hcp => ?_)
    exact hsame c q o hco hcp hno
  ·rcases hcase c with ⟨j, hj, e⟩ | hno
   ·subst e
    rw [hin j hj, ren_own] at h1
    rw [hmp.pl j (mem_memN hj)] at h3
    rcases hcase c' with ⟨j', hj', e⟩ | hno'
    ·subst e
     rw [hin j' hj', ren_own] at h2
     rw [hmp.pl j' (mem_memN hj')] at h4
     exact hS.rel.sep j j' r o r' o' (fun e => hcc (by rw [e])) (by rw [hA]; exact h1) (by rw [hA]; exact h2) h3 h4
    ·rw [hout c' hno'] at h2
     rw [(push_old (own_born hR (own_dead h2))).1] at h4
     exact hbeside j c' r o r' o' hj h1 h3 h2 h4 hno'
   ·rw [hout c hno] at h1
    rw [(push_old (own_born hR (own_dead h1))).1] at h3
    rcases hcase c' with ⟨j', hj', e⟩ | hno'
    ·subst e
     rw [hin j' hj', ren_own] at h2
     rw [hmp.pl j' (mem_memN hj')] at h4
     exact fun e => hbeside j' c r' o' r o hj' h2 h4 h1 h3 hno e.symm
    ·rw [hout c' hno'] at h2
     rw [(push_old (own_born hR (own_dead h2))).1] at h4
     exact hR.sep c c' r o r' o' hcc h1 h2 h3 h4
  case fxa =>
   rcases hcase c with ⟨i, hi, e⟩ | hno
   ·subst e
    rw [hin i hi, ren_own] at h1
    rw [hmp.pl i (mem_memN hi)] at h2
    exact hS.rel.fxa i r o ob (by rw [hA]; exact h1) h2 h3
   ·rw [hout c hno] at h1
    rw [(push_old (own_born hR (own_dead h1))).1] at h2
    exact hR.fxa c r o ob h1 h2 (by have e : E1.fx = E.fx := hS.ext.fx; rw [← e]; exact h3)
  ·rcases hcase c with ⟨i, hi, e⟩ | hno
   ·subst e
    rw [hin i hi, ren_own] at h1
    rw [hmp.pl i (mem_memN hi)] at h2
    exact hS.rel.apart i r o j u (by rw [hA]; exact h1) h2 h3
   ·rw [hout c hno] at h1
    rw [(push_old (own_born hR (own_dead h1))).1] at h2
    rcases hS.mem.rd r j u h3 with h | h | ⟨b, o', hb, hbp, _⟩
    ·exact hR.apart c r o j u h1 h2 h
    ·have := hR.old c r o h2; omega
    ·obtain ⟨hbk, hbo⟩ := hown0 b hb
     exact hR.sep (look τ b) c r o' r o (hno b ((hmem b).2 (.inl hbk))) hbo h1 (h0at b r o' hbp).2 h2 rfl
  ·by_cases hu : E.pl c = .unborn
   ·obtain ⟨j, hj, e⟩ := push_inv hu (at_born hp)
    subst e
    rw [(push_new hj hnj (hun j hj)).1] at hp
    exact hS.rel.old j r o hp
   ·rw [(push_old hu).1] at hp
    exact Nat.lt_of_lt_of_le (hR.old c r o hp) hS.mem.size
  ·rcases hcase c with ⟨j, hj, e⟩ | hno
   ·subst e
    rw [hin j hj]
    rw [hmp.pl j (mem_memN hj)] at hu
    have := hS.rel.born j hu
    rw [hA] at this
    rw [this]; rfl
   ·rw [hout c hno]
    refine hR.born c (Classical.byContradiction fun hne => ?_)
    rw [(push_old hne).1] at hu
    exact hne hu
  ·by_cases hu : E.pl c = .unborn
   ·obtain ⟨j, hj, e⟩ := push_inv hu (at_born hp)
    subst e
    obtain ⟨g1, g2, g3⟩ := push_new (E1 := E1) hj hnj (hun j hj)
    rw [g1] at hp
    rw [g2, g3]
    exact hS.rel.fit j r o hp
   ·obtain ⟨g1, g2, g3⟩ := push_old (E1 := E1) (τ := τ) (news := news) hu
    rw [g1] at hp
    rw [g2, g3]
    exact hR.fit c r o hp
 refine ⟨RepV.to hmp (fun _ _ _ h => h) hrin hr, hrel, hE, ⟨hS.mem.os, hS.mem.tape, hS.mem.output, hS.mem.size, ?_, ?_, ?_⟩, ?_, ?_, ?_⟩
 ·intro r hr hno
  refine hS.mem.same r hr fun b o hb hbp => ?_
  obtain ⟨hbk, hbo⟩ := hown0 b hb
  exact hno (look τ b) o hbo (h0at b r o hbp).2
 ·intro r j u hu
  rcases hS.mem.rd r j u hu with h | h | ⟨b, o', hb, hbp, h1, h2⟩
  ·exact .inl h
  ·exact .inr (.inl h)
  ·obtain ⟨hbk, hbo⟩ := hown0 b hb
   exact .inr (.inr ⟨look τ b, o', hbo, (h0at b r o' hbp).2, h1, h2⟩)
 ·intro c r o hu hp
  obtain ⟨j, hj, e⟩ := push_inv hu (at_born hp)
  subst e
  obtain ⟨g1, g2, g3⟩ := push_new (E1 := E1) hj hnj (hun j hj)
  rw [g1] at hp
  rw [g3]
  rcases hS.mem.new j r o (h0un j (hnew j hj)) hp with h | ⟨b, o', hb, hbp, h1, h2⟩
  ·exact .inl h
  ·obtain ⟨hbk, hbo⟩ := hown0 b hb
   exact .inr ⟨look τ b, o', hbo, (h0at b r o' hbp).2, h1, h2⟩
 ·intro c hu hb
  obtain ⟨j, hj, e⟩ := push_inv hu hb
  exact (hids c).2 ⟨j, (hmem j).2 (.inr hj), e⟩
 ·intro c hc
  rcases hcase c with ⟨j, hj, e⟩ | hno
  ·subst e
   rw [hin j hj, ren_own] at hc
   rcases (hmem j).1 hj with hjk | hjn
   ·rcases hS.live j (by rw [hA]; exact hc) with h | h
    ·exact .inl (hown0 j h).2
    ·rw [h0pl j hjk] at h; exact absurd h (hborn j hjk)
   ·exact .inr (hun j hjn)
  ·rw [hout c hno] at hc; exact .inl hc
 ·intro c r o hc hp hno
  exact hsame c r o hc hp fun j hj e => hno ((hids c).2 ⟨j, hj, e⟩)
end
end Go.Eng
