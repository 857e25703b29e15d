/-
  A CALCULATOR OVER THE MODEL: part 4 of 4. It holds for every program; its own names only.
-/
import Derived.Test.YtbccddolgoepjaaDoorEngC
import Derived.ChangeArms
import Derived.OpenShut
import Derived.Carry
import Derived.ChangeSame
import Derived.Deep.DeepHandedRow
import Derived.LaidLaws
import Derived.JoinedOf
set_option linter.unusedVariables false
set_option linter.unusedSimpArgs false
namespace Go.Eng
def ShF (S : TypeId -> DV -> Prop) : List (Nat × TypeId) -> DV -> Prop
 | [], x => x = .nil
 | (_, ft) :: r, x => ∃ a b, x = .cons a b /\ S ft a /\ ShF S r b
def Sh (T : Tr) (N : Nat) (dz : TypeId -> DV) : Nat -> TypeId -> DV -> Prop
 | 0, _, _ => False
 | d + 1, t, x => match (T.get t).kind with
  | .int k => ∃ n, x = .sc (.int k n) /\ k.min ≤ n /\ n ≤ k.max
  | .bool => ∃ b, x = .bl b
  | .str => ∃ l, x = .str l /\ l.length ≤ N
  | .arr n e => (match (T.get e).kind with
   | .int k => ∃ l, x = .ints k n l /\ l.length = n /\ ∀ y, y ∈ l -> k.min ≤ y /\ y ≤ k.max
   | _ => ∃ f, x = .fam n (T.get e).lay f /\ (∀ i, i < n -> Sh T N dz d e (f i)) /\ ∀ i, n ≤ i -> f i = dz e)
  | .struct fs => ShF (Sh T N dz d) fs x
  | .sli e => (match (T.get e).kind with
   | .int k => ∃ l, x = .roI k l /\ l.length ≤ N /\ ∀ y, y ∈ l -> k.min ≤ y /\ y ≤ k.max
   | _ => ∃ n f, x = .ro (T.get e).lay n f /\ n ≤ N /\ (∀ i, i < n -> Sh T N dz d e (f i)) /\ ∀ i, n ≤ i -> f i = dz e)
  | _ => False
def layF (T : Tr) : List (Nat × TypeId) -> Lay
 | [] => .unit
 | (_, ft) :: r => .pair (T.get ft).lay (layF T r)
def offF (T : Tr) : Nat -> List (Nat × TypeId) -> Bool
 | _, [] => true
 | o, (o', ft) :: r => Nat.beq o o' && offF T (o + (T.get ft).size) r
def shB (T : Tr) : Nat -> TypeId -> Bool
 | 0, _ => false
 | d + 1, t => match (T.get t).kind with
  | .int _ | .bool | .str => decide ((T.get t).lay = .one)
  | .arr n e => shB T d e && decide ((T.get t).lay = .arr n (T.get e).lay)
  | .struct fs => fs.all (fun f => shB T d f.2) && decide ((T.get t).lay = layF T fs) && offF T 0 fs
  | .sli e => shB T d e && decide ((T.get t).lay = .one) && Nat.blt 0 (T.get e).size
  | _ => false
section
variable {P : Program} {T : Tr} {W : World} {H : Type} {enc : TypeId × Value -> H} {Q : DataW H -> Prop} {N : Nat} {dz : TypeId -> DV}
theorem shB_key {d : Nat} {t : TypeId} (h : shB T d t = true) : t ∈ T.keys := by
 cases d with
 | zero => cases h
 | succ d =>
  refine mem_of_kind fun e => ?_
  unfold shB at h
  rw [e] at h
  cases h
theorem cellsOf_eq (hT : TabOK P T) {t : TypeId} (ht : t ∈ T.keys) : P.cellsOf t = (T.get t).size := by
 obtain ⟨i, d, z, cs, hi, hd, _, hs, _⟩ := (hT.entry ht).info
 simp [Program.cellsOf, hi, hs]
theorem lay_size (hT : TabOK P T) {t : TypeId} (ht : t ∈ T.keys) : (T.get t).lay.size = (T.get t).size := by
 obtain ⟨i, d, z, cs, hi, hd, _, hs, _, hl, _⟩ := (hT.entry ht).info
 exact hl
structure Bnd (Q : DataW H -> Prop) (N : Nat) : Prop where
 str : ∀ l, Q (.lit (.string l)) -> l.length ≤ maxLen -> l.length ≤ N
 sli : ∀ es sp, Q (.slice es sp) -> es.length ≤ maxLen -> es.length ≤ N /\ ∀ e, e ∈ es -> Q e
 agg : ∀ ps, Q (.agg ps) -> ∀ p, p ∈ ps -> Q p
theorem mapM_len {α β : Type} {f : α -> Option β} : ∀ {l : List α} {r : List β}, l.mapM f = some r -> r.length = l.length /\ ∀ (i : Nat) (x : α), l[i]? = some x -> f x = r[i]?
 | [], r, h => by simp at h; subst h; exact ⟨rfl, fun i x h => by simp at h⟩
 | y :: l, r, h => by
  simp only [List.mapM_cons, Option.pure_def, Option.bind_eq_bind, Option.bind_eq_some_iff, Option.some.injEq] at h
  obtain ⟨a, h1, b, h2, rfl⟩ := h
  obtain ⟨h3, h4⟩ := mapM_len h2
  refine ⟨by simp [h3], fun i x hi => ?_⟩
  cases i with
  | zero => simp at hi; subst hi; simp [h1]
  | succ i => simpa using h4 i x (by simpa using hi)
theorem cells_get {a : Addr} {n : Nat} {cs : List Value} (h : W.cells? 0 a n = some cs) : cs.length = n /\ ∀ i (hi : i < cs.length), W.cell? (a.add i) = some cs[i] := by
 unfold World.cells? at h
 rw [if_pos (Nat.zero_le _)] at h
 obtain ⟨h1, h2⟩ := mapM_len h
 have hl : cs.length = n := by rw [h1]; simp
 refine ⟨hl, fun i hi => ?_⟩
 have := h2 i i (by rw [List.getElem?_range (by omega)])
 rw [List.getElem?_eq_getElem hi] at this; exact this
theorem reads_of_cells {r o n : Nat} {cs : List Value} (h : W.cells? 0 ⟨r, o, none⟩ n = some cs) : Reads (cellAt W) r o cs := fun j hj => by
 have := (cells_get h).2 j hj
 rwa [add_at] at this
theorem spot_none {a : Addr} {n : Nat} {cs : List Value} (h : W.cells? 0 a n = some cs) (hn : 0 < n) : a.spot = none := by
 obtain ⟨h1, h2⟩ := cells_get h
 have := h2 0 (by omega)
 unfold World.cell? at this
 split at this
 ·split at this
  ·cases this
  ·rename_i hs
   simpa [Addr.add] using hs
 ·cases this
theorem fields_cells (hT : TabOK P T) {S : TypeId -> DV -> Prop} {cs : List Value} : ∀ {fs : List (Nat × TypeId)} {o : Nat}, offF T o fs = true -> (∀ f, f ∈ fs -> f.2 ∈ T.keys) -> (∀ f, f ∈ fs -> ∃ x, S f.2 x /\ x.lay = (T.get f.2).lay /\ RepD (cellAt W) x ((cs.drop f.1).take (T.get f.2).size)) ->
  ∃ x, ShF S fs x /\ x.lay = layF T fs /\ RepD (cellAt W) x ((cs.drop o).take (layF T fs).size)
 | [], o, _, _, _ => ⟨.nil, rfl, rfl, by rw [show (layF T []).size = 0 from rfl, List.take_zero]; exact .nil⟩
 | (o', ft) :: r, o, ho, hk, h => by
  simp only [offF, Bool.and_eq_true] at ho
  obtain rfl := Nat.eq_of_beq_eq_true ho.1
  obtain ⟨a, h1, h2, h3⟩ := h (o, ft) (.head _)
  obtain ⟨b, h4, h5, h6⟩ := fields_cells hT ho.2 (fun f hf => hk f (.tail _ hf)) (fun f hf => h f (.tail _ hf))
  refine ⟨.cons a b, ⟨a, b, rfl, h1, h4⟩, by rw [DV.lay, h2, h5]; rfl, ?_⟩
  have hs := lay_size hT (hk (o, ft) (.head _))
  have e : (cs.drop o).take (layF T ((o, ft) :: r)).size = (cs.drop o).take (T.get ft).size ++ (cs.drop (o + (T.get ft).size)).take (layF T r).size := by
   rw [show (layF T ((o, ft) :: r)).size = (T.get ft).lay.size + (layF T r).size from rfl, hs, ← List.drop_drop]
   exact List.take_add
  rw [e]
  exact .cons h3 h6
theorem read_sh (hT : TabOK P T) (hQ : Bnd Q N) : ∀ (dep : Nat) (t : TypeId), shB T dep t = true -> ∀ (n : Nat) (cs : List Value) (d : DataW H) (ps : List MemPlace), DataW.trod enc P W 0 (fun _ => true) true n t cs = some (d, ps) -> Q d ->
  ∃ x, Sh T N dz dep t x /\ x.lay = (T.get t).lay /\ RepD (cellAt W) x cs
 | 0, _, hb, _, _, _, _, _, _ => by cases hb
 | dep + 1, t, hb, n, cs, d, ps, h, hq => by
  have hk0 := shB_key hb
  unfold shB at hb
  unfold Sh
  split at hb
  ·rename_i k hk
   obtain ⟨m, rfl, hx, hw⟩ := DataW.trod_int (und_int hT hk) h
   simp only [Lit.wf, Bool.and_eq_true, decide_eq_true_eq] at hw
   exact ⟨.sc (.int k m), ⟨m, rfl, hw.1, hw.2⟩, (of_decide_eq_true hb).symm, .sc _ trivial⟩
  ·rename_i hk
   obtain ⟨b, rfl, hx⟩ := DataW.trod_bool (und_bool hT hk) h
   exact ⟨.bl b, ⟨b, rfl⟩, (of_decide_eq_true hb).symm, .bl b⟩
  ·rename_i hk
   obtain ⟨s, rfl, hx, hs⟩ := DataW.trod_string (und_str hT hk) h
   obtain ⟨⟨l⟩⟩ := s
   cases hx
   exact ⟨.str l, ⟨l, rfl, hQ.str l hq hs⟩, (of_decide_eq_true hb).symm, .str l⟩
  ·rename_i m e hk
   simp only [Bool.and_eq_true, decide_eq_true_eq] at hb
   obtain ⟨hu, i, hi⟩ := und_arr hT hk
   have hke := shB_key hb.1
   have hce := cellsOf_eq hT hke
   obtain ⟨xs, m', rfl, hx, hlen, hxl, hel⟩ := DataW.trod_array hu h
   cases hx
   have hsz : cs.length = m * (T.get e).size := by
    rw [hlen, cellsOf_eq hT hk0, ← lay_size hT hk0, hb.2, Lay.size, lay_size hT hke]
   have each : ∀ j, j < m -> ∃ x, Sh T N dz dep e x /\ x.lay = (T.get e).lay /\ RepD (cellAt W) x ((cs.drop (j * (T.get e).size)).take (T.get e).size) := by
    intro j hj
    have h1 := hel j hj
    rw [hce] at h1
    have hj' : j < xs.length := by omega
    rw [List.getElem?_eq_getElem hj'] at h1
    exact read_sh hT hQ dep _ hb.1 _ _ _ _ h1 (hQ.agg _ hq _ (List.mem_map.2 ⟨_, List.getElem_mem hj', rfl⟩))
   have key : (∃ k, (T.get e).kind = .int k) \/ ∀ k, (T.get e).kind ≠ .int k := by
    cases hke' : (T.get e).kind <;> first | exact .inl ⟨_, rfl⟩ | exact .inr (fun k h => by cases h)
   rcases key with ⟨k, hkk⟩ | hne
   ·simp only [hkk]
    have hlo : (T.get e).lay = .one := by
     have := hb.1
     cases dep with
     | zero => cases this
     | succ dep => unfold shB at this; rw [hkk] at this; exact of_decide_eq_true this
    have hs1 : (T.get e).size = 1 := by rw [← lay_size hT hke, hlo]; rfl
    rw [hs1, Nat.mul_one] at hsz
    have each' : ∀ j (hj : j < cs.length), ∃ y, cs[j] = .int k y /\ k.min ≤ y /\ y ≤ k.max := by
     intro j hj
     obtain ⟨x, h1, h2, h3⟩ := each j (by omega)
     cases dep with
     | zero => exact h1.elim
     | succ dep =>
      unfold Sh at h1
      rw [hkk] at h1
      obtain ⟨y, rfl, h4, h5⟩ := h1
      rw [hs1, Nat.mul_one] at h3
      have e1 : (cs.drop j).take 1 = [cs[j]] := by
       rw [List.drop_eq_getElem_cons hj]; rfl
      rw [e1] at h3
      have := int_inv h3
      exact ⟨y, this, h4, h5⟩
    obtain ⟨l, hl⟩ : ∃ l : List Int, cs = l.map (.int k) /\ ∀ y, y ∈ l -> k.min ≤ y /\ y ≤ k.max := by
     clear hel hlen each h hsz
     induction cs with
     | nil => exact ⟨[], rfl, fun y h => by cases h⟩
     | cons c cs ih =>
      obtain ⟨y, h1, h2⟩ := each' 0 (by simp)
      obtain ⟨l, h3, h4⟩ := ih (fun j hj => by
       have := each' (j + 1) (by simpa using hj)
       simpa using this)
      refine ⟨y :: l, by simp at h1; rw [List.map_cons, ← h3, h1], fun z hz => ?_⟩
      rcases List.mem_cons.1 hz with rfl | hz
      ·exact h2
      ·exact h4 z hz
    obtain ⟨rfl, hr⟩ := hl
    have hll : l.length = m := by simpa using hsz
    exact ⟨.ints k m l, ⟨l, rfl, hll, hr⟩, by rw [hb.2, hlo]; rfl, .ints k m l hll⟩
   ·have goal : ∃ x, (∃ f, x = DV.fam m (T.get e).lay f /\ (∀ i, i < m -> Sh T N dz dep e (f i)) /\ ∀ i, m ≤ i -> f i = dz e) /\ x.lay = (T.get t).lay /\ RepD (cellAt W) x cs := by
     let f : Nat -> DV := fun j => if hj : j < m then Classical.choose (each j hj) else dz e
     have hf : ∀ j (hj : j < m), Sh T N dz dep e (f j) /\ (f j).lay = (T.get e).lay /\ RepD (cellAt W) (f j) ((cs.drop (j * (T.get e).size)).take (T.get e).size) := fun j hj => by
      have := Classical.choose_spec (each j hj)
      simp only [f, hj, dif_pos]; exact this
     refine ⟨.fam m (T.get e).lay f, ⟨f, rfl, fun i hi => (hf i hi).1, fun i hi => dif_neg (by omega)⟩, by rw [hb.2]; rfl, ?_⟩
     have := RepD.fam (rd := cellAt W) m (T.get e).lay f (fun j => (cs.drop (j * (T.get e).size)).take (T.get e).size) (fun i hi => (hf i hi).2.2) (fun i hi => (hf i hi).2.1)
     have e2 : ∀ (q : Nat), q * (T.get e).size ≤ cs.length -> (List.range q).flatMap (fun j => (cs.drop (j * (T.get e).size)).take (T.get e).size) = cs.take (q * (T.get e).size) := by
      intro q
      induction q with
      | zero => intro _; simp
      | succ q ih =>
       intro hq'
       rw [Nat.succ_mul] at hq' ⊢
       rw [List.range_succ, List.flatMap_append, ih (by omega)]
       simp only [List.flatMap_cons, List.flatMap_nil, List.append_nil]
       exact List.take_add.symm
     rw [e2 m (by omega), List.take_of_length_le (by omega)] at this
     exact this
    cases hke' : (T.get e).kind <;> first | (exact absurd hke' (hne _)) | exact goal
  ·rename_i fs hk
   simp only [Bool.and_eq_true, decide_eq_true_eq, List.all_eq_true] at hb
   obtain ⟨⟨hb1, hb2⟩, hb3⟩ := hb
   obtain ⟨fields, hu, hfs, hinfo⟩ := und_struct hT hk
   obtain ⟨xs, m', rfl, hx, hlen, hxl, hel⟩ := DataW.trod_struct hu h
   cases hx
   have hkeys : ∀ f, f ∈ fs -> f.2 ∈ T.keys := fun f hf => shB_key (hb1 f hf)
   obtain ⟨x, h1, h2, h3⟩ := fields_cells hT (S := Sh T N dz dep) (cs := cs) (o := 0) hb3 hkeys (fun f hf => by
    rw [← hfs] at hf
    obtain ⟨fd, hfd, e⟩ := List.mem_map.1 hf
    obtain ⟨i, hi, hfi⟩ := List.mem_iff_getElem.1 hfd
    have hfi' : fields[i]? = some fd := by
     have : fields.toList[i]? = some fd := by rw [List.getElem?_eq_getElem hi, hfi]
     simpa using this
    have h1 := hel i fd hfi'
    have hi' : i < xs.length := by rw [hxl]; simpa using hi
    rw [List.getElem?_eq_getElem hi'] at h1
    subst e
    have hmem : (fd.offset, fd.type) ∈ fs := by rw [← hfs]; exact hf
    rw [cellsOf_eq hT (hkeys _ hmem)] at h1
    exact read_sh hT hQ dep _ (hb1 _ hmem) _ _ _ _ h1 (hQ.agg _ hq _ (List.mem_map.2 ⟨_, List.getElem_mem hi', rfl⟩)))
   refine ⟨x, h1, by rw [hb2]; exact h2, ?_⟩
   rw [List.drop_zero, List.take_of_length_le (by rw [hlen, cellsOf_eq hT hk0, ← lay_size hT hk0, hb2]; exact Nat.le_refl _)] at h3
   exact h3
  ·rename_i e hk
   simp only [Bool.and_eq_true, decide_eq_true_eq] at hb
   obtain ⟨⟨hb1, hb2⟩, hb3⟩ := hb
   have hpos : 0 < (T.get e).size := by simpa [Nat.blt_eq] using hb3
   obtain ⟨hu, i, hi⟩ := und_sli hT hk
   have hke := shB_key hb1
   have hce := cellsOf_eq hT hke
   have key : (∃ k, (T.get e).kind = .int k) \/ ∀ k, (T.get e).kind ≠ .int k := by
    cases hke' : (T.get e).kind <;> first | exact .inl ⟨_, rfl⟩ | exact .inr (fun k h => by cases h)
   rcases DataW.trod_slice hu h with ⟨rfl, hx⟩ | ⟨a, len, cap, elems, rest, m', rfl, rfl, hx, _, hlc, hcm, hel, hget, _, _⟩
   ·cases hx
    rcases key with ⟨k, hkk⟩ | hne
    ·simp only [hkk]
     exact ⟨.roI k [], ⟨[], rfl, Nat.zero_le _, fun y h => by cases h⟩, hb2.symm, .roI0 k none 0 (fun _ => rfl)⟩
    ·have goal : ∃ x, (∃ n f, x = DV.ro (T.get e).lay n f /\ n ≤ N /\ (∀ i, i < n -> Sh T N dz dep e (f i)) /\ ∀ i, n ≤ i -> f i = dz e) /\ x.lay = (T.get t).lay /\ RepD (cellAt W) x [.slice none 0 0] :=
      ⟨.ro (T.get e).lay 0 (fun _ => dz e), ⟨0, _, rfl, Nat.zero_le _, fun i hi => by omega, fun _ _ => rfl⟩, hb2.symm, .ro0 _ _ none 0 (fun _ => rfl)⟩
     cases hke' : (T.get e).kind <;> first | (exact absurd hke' (hne _)) | exact goal
   ·cases hx
    have hq' := hQ.sli _ _ hq (by simp only [List.length_map]; omega)
    simp only [List.length_map, hel] at hq'
    have each : ∀ j, j < len -> ∃ x cs', Sh T N dz dep e x /\ x.lay = (T.get e).lay /\ RepD (cellAt W) x cs' /\ W.cells? 0 (a.add (j * (T.get e).size)) (T.get e).size = some cs' := by
     intro j hj
     have h1 := hget j hj
     rw [hce] at h1
     have hj' : j < elems.length := by omega
     rw [List.getElem?_eq_getElem hj'] at h1
     obtain ⟨cs', hc, h2⟩ := Option.bind_eq_some_iff.1 h1
     obtain ⟨x, h3, h4, h5⟩ := read_sh hT hQ dep _ hb1 _ _ _ _ h2 (hq'.2 _ (List.mem_map.2 ⟨_, List.getElem_mem hj', rfl⟩))
     exact ⟨x, cs', h3, h4, h5, hc⟩
    by_cases h0 : len = 0
    ·subst h0
     rcases key with ⟨k, hkk⟩ | hne
     ·simp only [hkk]
      exact ⟨.roI k [], ⟨[], rfl, Nat.zero_le _, fun y h => by cases h⟩, hb2.symm, .roI0 k (some a) cap (fun h => by cases h)⟩
     ·have goal : ∃ x, (∃ n f, x = DV.ro (T.get e).lay n f /\ n ≤ N /\ (∀ i, i < n -> Sh T N dz dep e (f i)) /\ ∀ i, n ≤ i -> f i = dz e) /\ x.lay = (T.get t).lay /\ RepD (cellAt W) x [.slice (some a) 0 cap] :=
       ⟨.ro (T.get e).lay 0 (fun _ => dz e), ⟨0, _, rfl, Nat.zero_le _, fun i hi => by omega, fun _ _ => rfl⟩, hb2.symm, .ro0 _ _ (some a) cap (fun h => by cases h)⟩
      cases hke' : (T.get e).kind <;> first | (exact absurd hke' (hne _)) | exact goal
    ·have hsp : a.spot = none := by
      obtain ⟨x, cs', _, _, _, hc⟩ := each 0 (by omega)
      have := spot_none hc hpos
      simpa [Addr.add] using this
     obtain ⟨r, o, sp⟩ := a
     simp only at hsp
     subst hsp
     let f : Nat -> DV := fun j => if hj : j < len then Classical.choose (each j hj) else dz e
     let g : Nat -> List Value := fun j => if hj : j < len then Classical.choose (Classical.choose_spec (each j hj)) else []
     have hf : ∀ j (hj : j < len), Sh T N dz dep e (f j) /\ (f j).lay = (T.get e).lay /\ RepD (cellAt W) (f j) (g j) /\ W.cells? 0 ⟨r, o + j * (T.get e).size, none⟩ (T.get e).size = some (g j) := fun j hj => by
      have := Classical.choose_spec (Classical.choose_spec (each j hj))
      simp only [f, g, hj, dif_pos]
      exact ⟨this.1, this.2.1, this.2.2.1, (congrArg (fun q => W.cells? 0 q (T.get e).size = some (Classical.choose (Classical.choose_spec (each j hj)))) (add_at r o (j * (T.get e).size))).mp this.2.2.2⟩
     rcases key with ⟨k, hkk⟩ | hne
     ·simp only [hkk]
      have hlo : (T.get e).lay = .one := by
       cases dep with
       | zero => cases hb1
       | succ dep => unfold shB at hb1; rw [hkk] at hb1; exact of_decide_eq_true hb1
      have hs1 : (T.get e).size = 1 := by rw [← lay_size hT hke, hlo]; rfl
      have each' : ∀ j, j < len -> ∃ y, W.cell? ⟨r, o + j, none⟩ = some (.int k y) /\ k.min ≤ y /\ y ≤ k.max := by
       intro j hj
       obtain ⟨h1, h2, h3, h4⟩ := hf j hj
       rw [hs1, Nat.mul_one] at h4
       obtain ⟨hl, hg⟩ := cells_get h4
       cases dep with
       | zero => exact h1.elim
       | succ dep =>
        unfold Sh at h1
        rw [hkk] at h1
        obtain ⟨y, hy, h5, h6⟩ := h1
        rw [hy] at h3
        have hgj : g j = [.int k y] := by
         generalize g j = q at h3
         cases h3; rfl
        have := hg 0 (by omega)
        rw [add_at, Nat.add_zero] at this
        refine ⟨y, ?_, h5, h6⟩
        rw [this]
        simp [hgj]
      let l : List Int := (List.range len).map fun j => if hj : j < len then Classical.choose (each' j hj) else 0
      have hll : l.length = len := by simp [l]
      have hl : ∀ j (hj : j < len), W.cell? ⟨r, o + j, none⟩ = some (.int k (l[j]'(by omega))) /\ k.min ≤ l[j]'(by omega) /\ l[j]'(by omega) ≤ k.max := fun j hj => by
       have := Classical.choose_spec (each' j hj)
       have e1 : l[j]'(by omega) = Classical.choose (each' j hj) := by simp [l, hj]
       rw [e1]; exact this
      refine ⟨.roI k l, ⟨l, rfl, by omega, fun y hy => ?_⟩, hb2.symm, ?_⟩
      ·obtain ⟨j, hj, rfl⟩ := List.mem_iff_getElem.1 hy
       exact (hl j (by omega)).2
      ·have := RepD.roI (rd := cellAt W) k l r o cap (by omega) (fun j hj => by
        have hj' : j < len := by simp at hj; omega
        rw [List.getElem_map]
        exact (hl j hj').1)
       rwa [hll] at this
     ·have goal : ∃ x, (∃ n f, x = DV.ro (T.get e).lay n f /\ n ≤ N /\ (∀ i, i < n -> Sh T N dz dep e (f i)) /\ ∀ i, n ≤ i -> f i = dz e) /\ x.lay = (T.get t).lay /\ RepD (cellAt W) x [.slice (some ⟨r, o, none⟩) len cap] := by
       refine ⟨.ro (T.get e).lay len f, ⟨len, f, rfl, hq'.1, fun i hi => (hf i hi).1, fun i hi => dif_neg (by omega)⟩, hb2.symm, ?_⟩
       refine .ro (T.get e).lay len f g r o cap hlc (fun i hi => (hf i hi).2.2.1) (fun i hi => (hf i hi).2.1) (fun i hi => ?_)
       rw [lay_size hT hke]
       exact reads_of_cells (hf i hi).2.2.2
      cases hke' : (T.get e).kind <;> first | (exact absurd hke' (hne _)) | exact goal
  ·cases hb
theorem scalar_value {t : TypeId} {v : Value} {x : DV} (hT : TabOK P T) {dep : Nat} (hb : shB T dep t = true) (hv : Value.okWide P W .any 0 t v) (hx : RepD (cellAt W) x v.cells.toList) (hl : x.lay = (T.get t).lay) : v = ofCells x.lay.isAgg v.cells.toList := by
 obtain ⟨i, d, z, cs, hi, hd, hkb, _, _, _, hagg, _⟩ := (hT.entry (shB_key hb)).info
 rw [hl, hagg]
 unfold Value.okWide at hv
 rw [hd] at hv
 cases dep with
 | zero => cases hb
 | succ dep =>
  unfold shB at hb
  have one : ∀ (v : Value), (∀ q, v ≠ .agg q) -> v = ofCells false v.cells.toList := fun v h => by
   cases v <;> first | rfl | exact absurd rfl (h _)
  have cell : ∀ (v : Value), aggB d = false -> (d = .bool \/ d = .string \/ (∃ k, d = .int k) \/ ∃ e, d = .slice e) -> Cell.okWide P W .any 0 t v -> v = ofCells (aggB d) v.cells.toList := fun v hd' hdd hc => by
   rw [hd']
   refine one v fun q e => ?_
   subst e
   unfold Cell.okWide Cell.ok at hc
   rcases hdd with rfl | rfl | ⟨k, rfl⟩ | ⟨e, rfl⟩ <;> simp [hd] at hc
  cases d <;> first
   | (obtain ⟨cs', rfl, _⟩ := hv; rfl)
   | exact cell v rfl (.inl rfl) hv
   | exact cell v rfl (.inr (.inl rfl)) hv
   | exact cell v rfl (.inr (.inr (.inl ⟨_, rfl⟩))) hv
   | exact cell v rfl (.inr (.inr (.inr ⟨_, rfl⟩))) hv
   | (exfalso; cases hk : (T.get t).kind <;> rw [hk] at hkb hb <;> first | (cases hkb; done) | (cases hb; done) | (simp [kindB] at hkb; done) | (simp at hb; done))
theorem open_arg (hT : TabOK P T) (hQ : Bnd Q N) {dep : Nat} {t : TypeId} (hb : shB T dep t = true) {v : Value} {d : DataW H} {ps : List MemPlace} (hv : Value.okWide P W .any 0 t v) (h : DataW.Trod enc P W 0 (fun _ => true) true t v d ps) (hq : Q d) :
  ∃ x, Sh T N dz dep t x /\ ∀ E : Env, E.rd = cellAt W -> RepV E (.dv x) v := by
 obtain ⟨n, hn⟩ := h
 obtain ⟨x, h1, h2, h3⟩ := read_sh hT hQ dep t hb n _ d ps hn hq
 refine ⟨x, h1, fun E hE => .of (.dv (hE ▸ h3)) ?_⟩
 exact scalar_value hT hb hv h3 h2
def env0 (W : World) : Env := { pl := fun _ => .unborn, lay := fun _ => .one, top := fun _ => 0, rd := cellAt W, fx := fun r => W.heap[r]? }
theorem rel0 (W : World) : Rel (env0 W) (fun _ => .dead) W :=
 ⟨fun _ _ _ h => h, fun _ => trivial, fun _ _ _ _ _ _ _ h => by (cases h), fun _ _ _ _ _ h => by (cases h), fun _ _ _ h => by (cases h), fun _ _ => rfl, fun _ _ _ h => by (cases h), fun _ _ h => h, fun _ _ _ _ _ h => by (cases h)⟩
theorem carry_all (hl : laidOutB P = true) {W' : World} (hsame : ∀ r, r < W.heap.size -> W'.heap[r]? = W.heap[r]?) {sp : Nat -> Bool} : ∀ {ts : List TypeId} {vs : List Value} {ds : List (DataW H)} {ps : List MemPlace},
  (∀ t, t ∈ ts -> P.readableRec t = true /\ t < P.types.size) -> DataW.TrodAll enc P W 0 (fun _ => true) true ts vs ds ps -> (∀ p, p ∈ ps -> p.block < W.heap.size) -> (∀ p, p ∈ ps -> sp p.block = true) -> DataW.TrodAll enc P W' 0 sp true ts vs ds ps
 | [], [], [], _, _, h, _, _ => h
 | t :: ts, v :: vs, d :: ds, ps, ht, h, hlt, hsp => by
  obtain ⟨p, q, h1, h2, rfl⟩ := h
  refine ⟨p, q, ?_, carry_all hl hsame (fun t ht' => ht t (.tail _ ht')) h2 (fun x hx => hlt x (List.mem_append_right _ hx)) (fun x hx => hsp x (List.mem_append_right _ hx)), rfl⟩
  refine WideElems.Trod_stays hl (ht t (.head _)).1 (ht t (.head _)).2 h1 (fun x hx => ?_) (fun x hx => hsp x (List.mem_append_left _ hx))
  have := hsame _ (hlt x (List.mem_append_left _ hx))
  cases x with
  | cell b o => exact World.cell?_of_block (w := W) this
  | map b => exact this
 | [], _ :: _, _, _, _, h, _, _ => h.elim
 | [], [], _ :: _, _, _, h, _, _ => h.elim
 | _ :: _, [], _, _, _, h, _, _ => h.elim
 | _ :: _, _ :: _, [], _, _, h, _, _ => h.elim
open Go.ChangeShapes Go.WideShapes Go.RowKit in
theorem law_post {G : Glob} {f : FuncId} {fn : Func} {s : ChangeSpec} {apart fresh handsOn again : Bool} {args : Array Value} {ds gs : List (DataW H)} {before : List MemPlace} {as : List AV} {tb : TypeId}
  (hl : laidOutB P = true) (hp : ∀ t, t ∈ fn.params.toList -> P.readableRec t = true /\ t < P.types.size) (hrt : fn.resultTypes = #[tb]) (hb : P.underlying tb = some .bool) (hvars : s.vars = [])
  (hs : s.fn H (ds ++ gs) = { results := [.lit (.bool true)], args := ds }) (hW : DataW.Whole enc P fn.params.toList s.vars apart W args.toList ds gs before)
  (hF : Fn P G f as [] (.bl true) []) (hG : GOK (env0 W) G) (hargs : RepVs (env0 W) as args.toList) :
  Calls P f args W fun e W' => ∃ v, e = .returned v /\ s.post enc P fn apart fresh handsOn again W args v W' := by
 have hc := hF.2 (env0 W) (fun _ => .dead) W args.toList (rel0 W) hG (fun _ h => by cases h) (fun _ h => by cases h) hargs
 rw [Array.toArray_toList] at hc
 refine hc.mono fun e W' => ?_
 rintro ⟨v, E', rfl, hst⟩
 have hv : v = .bool true := rep_bl hst.val
 subst hv
 refine ⟨_, rfl, ?_⟩
 have hsame : ∀ r, r < W.heap.size -> W'.heap[r]? = W.heap[r]? := fun r hr => hst.mem.same r hr fun _ _ h => by cases h
 have hW' := hW
 obtain ⟨p, q, hA, hV, rfl, hz, hn⟩ := hW
 obtain ⟨rfl, rfl⟩ : gs = [] /\ q = [] := by
  rw [hvars] at hV
  cases gs with
  | nil => exact ⟨rfl, hV⟩
  | cons g r => exact absurd hV (by intro h; cases h)
 rw [List.append_nil] at hW' hz hs
 have hlt : ∀ x, x ∈ p -> x.block < W.heap.size := fun x hx => by simpa using hW'.lt x hx
 have hargs' : ∀ sp : Nat -> Bool, (∀ x ∈ p, sp x.block = true) -> DataW.TrodAll enc P W' 0 sp true fn.params.toList args.toList ds p := fun sp hsp => carry_all hl hsame hp hA hlt hsp
 have hres : ∀ (b : Nat) (sp : Nat -> Bool) (hd : Bool), DataW.TrodAll enc P W' b sp hd fn.resultTypes.toList ((Value.bool true).resultList fn.resultTypes.size) [.lit (.bool true)] [] := by
  intro b sp hd
  rw [hrt]
  exact ⟨[], [], shut_bool hb true, rfl, rfl⟩
 have hfz : ∀ a : Addr, a.block < W.heap.size -> W'.frozen? a = W.frozen? a := fun a ha => by simp only [World.frozen?, hsame _ ha]
 have hk : W.keptBut W' (· ∈ p) := by
  refine ⟨hst.mem.os, hst.mem.output, fun i hi => ?_⟩
  rw [hsame i hi]
  cases hw : W.heap[i]? with
  | none => trivial
  | some o => cases o <;> simp
 have hvv : DataW.TrodVars enc P W' (fun _ => true) s.vars [] [] := by rw [hvars]; rfl
 have hold : ∀ x ∈ p, (fun b => decide (b < W.heap.size)) x.block = true := fun x hx => by simpa using hlt x hx
 refine ⟨ds, [], p, [], p, [], hW', by rw [List.append_nil, hs]; exact hres _ _ _, by rw [List.append_nil, hs]; exact hargs' _ hold, by rw [List.append_nil, hs, hvars]; rfl, World.keptBut_mono (fun x hx => ⟨hx, .inr (.inl hx)⟩) hk, fun _ => ?_⟩
 refine ⟨ok_one (by rw [hrt]) rfl (okWide_bool_mk hb true), _, _, ([] ++ p) ++ [], ⟨[] ++ p, [], trodAll_append (hargs' _ (fun _ _ => rfl)) (hres _ _ _), hvv, rfl, ?_, ?_⟩, ?_⟩
 ·intro b off hx
  have hx' : MemPlace.cell b off ∈ p := by simpa using hx
  rw [hfz _ (hlt _ hx')]
  exact hz b off hx'
 ·intro ha
  have := hn ha
  simpa using this
 ·intro x hx _
  simpa using hx
theorem bnd_all : Bnd (H := H) (fun _ => True) maxLen := ⟨fun _ _ h => h, fun _ _ _ h => ⟨h, fun _ _ => trivial⟩, fun _ _ _ _ => trivial⟩
end
end Go.Eng

namespace Go.Eng
theorem bnd {α β : Type} {o : Option α} {f : α -> Option β} {b : β} (h : o.bind f = some b) : ∃ a, o = some a /\ f a = some b := Option.bind_eq_some_iff.1 h
theorem cond_t {α : Type} {b : Bool} {x y z : α} (h : cond b x y = z) (hb : b = true) : x = z := by rw [hb] at h; exact h
theorem cond_f {α : Type} {b : Bool} {x y z : α} (h : cond b x y = z) (hb : b = false) : y = z := by rw [hb] at h; exact h
theorem gd {α : Type} {p : Prop} [Decidable p] {x : Option α} {z : α} (h : (if p then x else none) = some z) : p /\ x = some z := by
 split at h
 ·exact ⟨‹_›, h⟩
 ·cases h
theorem some_in {α : Type} {a b : α} (h : some a = some b) : a = b := Option.some.inj h
theorem no_none {α : Type} {p : Prop} {a : α} (h : (none : Option α) = some a) : p := nomatch h
def nm {α β : Type} (a : α) (f : α -> β) : β := f a
theorem nm_at {α β : Type} {a : α} {f : α -> β} {z : β} (x : α) (hx : x = a) (h : nm a f = z) : f x = z := by subst hx; exact h
def rw_ {α : Type} (dv : α -> DV) (z : α) (l : List α) : Nat -> DV := fun j => dv (l.getD j z)
def lk {κ α : Type} [BEq κ] (k : κ) : List (κ × α) -> Option α
 | [] => none
 | x :: r => match k == x.1 with
  | true => some x.2
  | false => lk k r
def st {κ α : Type} [BEq κ] (k : κ) (v : α) : List (κ × α) -> List (κ × α)
 | [] => [(k, v)]
 | x :: r => match k == x.1 with
  | true => (k, v) :: r
  | false => x :: st k v r
section
variable {κ α : Type} [BEq κ] {kf : κ -> DV} {vf : α -> DV}
end
theorem ve_full (k : IntKind) (l : List Int) : ViewEq (.dv (.roI k l)) (.dv (.roI k ((l.drop 0).take l.length))) := .inl (by simp)
theorem cut_full (l : List Int) : l = (l.drop 0).take l.length := by simp
theorem cut_0 (l : List Int) (n : Nat) : l.take n = (l.drop 0).take n := rfl
theorem ln_full (l : List Int) : l.length = ((l.drop 0).take l.length).length := by simp
theorem ln_0 (l : List Int) (n : Nat) : (l.take n).length = ((l.drop 0).take n).length := rfl
theorem app_cut {a a' b b' : List Int} (h : a = a') (h' : b = b') : a ++ b = a' ++ b' := by rw [h, h']
theorem app_ln {a b b' : List Int} (h : b.length = b'.length) : (a ++ b).length = a.length + b'.length := by rw [List.length_append, h]
theorem cut_ln {l b b' : List Int} {n : Nat} (hg : n ≤ l.length) (h : b.length = b'.length) : (l.take n ++ b).length = n + b'.length := by rw [List.length_append, List.length_take, h, Nat.min_eq_left hg]
theorem cut_ln2 {l b b' : List Int} {o n : Nat} (hg : o + n ≤ l.length) (h : b.length = b'.length) : ((l.drop o).take n ++ b).length = n + b'.length := by rw [List.length_append, List.length_take, List.length_drop, h, Nat.min_eq_left (by omega)]
theorem le_of_ln {n m : Nat} {c d : Int} (h : n = m) (hg : (n : Int) * c ≤ d) : (m : Int) * c ≤ d := h ▸ hg
theorem le_of_ln2 {n m : Nat} {a c d : Int} (h : n = m) (hg : (a + n) * c ≤ d) : (a + m) * c ≤ d := h ▸ hg
def FUEL : Nat := 18446744073709551616
theorem Fn.bodyE {P : Program} {G : Glob} {T : Tr} (hT : TabOK P T) (hm : P.follows .mixedOrders = true) (hG0 : GPlain G) {f : FuncId} {fn : Func} {c : Code} (hf : P.funcs[f]? = some fn) (hname : (fn.name == "runtime.NumGoroutine") = false) (hb : fn.body = some c)
  (τ : List (Nat × Nat)) (as0 : List AV) (bs0 : List Blk) (news : List Nat) (r0 : AV) (ws : List Blk) {args : List AV} {S wr : List (Nat × Blk)} {r : AV}
  (ha : as0.map (AV.ren τ) = args) (hS : renAll τ (List.range bs0.length) bs0 = S) (hr : r0.ren τ = r) (hw : renAll τ (List.range bs0.length ++ news) ws = wr) (hchk : bodyB as0 bs0 news r0 ws = true)
  (hk : τ.map Prod.fst = List.range bs0.length ++ news) (hn : (τ.map Prod.snd).Nodup) (dp : Nat)
  (h : startT as0 fn.ntmps fun ts => vcR P G T (itR P G T dp) bs0.length noY c false [] none (retK T fn fun r bs => r = r0 /\ leaves bs (List.range bs0.length ++ news) ws) ts bs0) :
  Fn P G f args S r wr := by
 subst ha; subst hS; subst hr; subst hw
 rw [startT_eq] at h
 exact Fn.bodyN hT hm hG0 hf hname hb τ as0 bs0 news r0 ws hchk hk hn dp h
end Go.Eng

namespace Go.Eng
def okA (k : IntKind) (n : Nat) (l : List Int) : Prop := l.length = n /\ ∀ y, y ∈ l -> k.min ≤ y /\ y ≤ k.max
def okB (k : IntKind) (N : Nat) (l : List Int) : Prop := l.length ≤ N /\ ∀ y, y ∈ l -> k.min ≤ y /\ y ≤ k.max
def ErrsOK (ep : TypeId) (er : Nat -> TypeId × Value) (I : List Nat) (fx : Nat -> Option Obj) : Prop :=
 (∀ i, i ∈ I -> ∃ a c t, er i = (ep, .pointer (some a)) /\ fx a.block = some (.cells c t (0, 0))) /\ ∀ i j, i ∈ I -> j ∈ I -> i ≠ j -> er i ≠ er j
def isM (I : List Nat) (a b : Nat) : Option Bool := if a ∈ I /\ b ∈ I then some (decide (a = b)) else none
theorem isM_inv {I : List Nat} {a b : Nat} {r : Bool} (h : isM I a b = some r) : a ∈ I /\ b ∈ I /\ decide (a = b) = r := by
 unfold isM at h
 split at h
 ·rename_i hab; exact ⟨hab.1, hab.2, Option.some.inj h⟩
 ·cases h
theorem callable_of {P : Program} {f : FuncId} {fn : Func} {c : Code} (hf : P.funcs[f]? = some fn) (hname : (fn.name == "runtime.NumGoroutine") = false) (hb : fn.body = some c) : Callable P f := fun args w => by
 have hname' : fn.name ≠ "runtime.NumGoroutine" := by simpa using hname
 simp [callFunc, hf, hname', hb]
section
variable {P : Program} {W : World}
theorem laid_err {nm : String} {ep es : TypeId} (h1 : ∀ u, P.typeName? 3 u = some nm -> u = ep) (hep : P.underlying ep = some (.pointer es)) (hes : P.cellsOf es = 1) : ∀ {l : List (String × DataW Unit)} {ps : List MemPlace}, DataW.LaidVars P W l ps -> (∀ b off, MemPlace.cell b off ∈ ps -> ∀ u v, W.cell? ⟨b, off, none⟩ = some (.iface u v) -> Value.okWide P W .any 0 u v) -> ∀ {n : String} {d : DataW Unit}, (n, DataW.iface nm (.ptr d)) ∈ l -> ∀ {g : Nat} {ti : TypeId} {ms : Array (String × TypeId)},
  P.globalNamed n = some g -> (P.globals[g]?).map (·.type) = some ti -> P.underlying ti = some (.interface ms) -> ∃ a, W.cell? ⟨g, 0, none⟩ = some (.iface ep (.pointer (some a))) /\ MemPlace.cell a.block a.off ∈ ps /\ a.spot = none
 | [], _, _, _, _, _, hm, _, _, _, _, _, _ => by cases hm
 | (n', d') :: r, _, h, hok, n, d, hm, g, ti, ms, hg, hty, hu => by
  obtain ⟨g', t, cs, fuel, p, q, k1, k2, k3, k4, k5, rfl⟩ := h
  rcases List.mem_cons.1 hm with e | hm
  ·cases e
   obtain rfl := Option.some.inj (hg.symm.trans k1)
   obtain rfl := Option.some.inj (hty.symm.trans k2)
   obtain ⟨f2, u, v, hcs, hn, ht⟩ := iface_of_trod hu k4
   obtain rfl := h1 u hn
   obtain ⟨f3, a, cs', q', hv, hc, _, rfl⟩ := ptr_of_trod hep ht
   have hcs' : cs = #[.iface u v] := by rw [← Array.toList_inj, hcs]
   subst hcs'
   have hcell : W.cell? ⟨g, 0, none⟩ = some (.iface u v) := by simpa using World.var?_cell k1 k3 0
   have hw := hok g 0 (by simp [MemPlace.row]) u v hcell
   have hvv : v = .pointer (some a) := by
    have key : ∀ v : Value, (∀ q, v ≠ .agg q) -> v.cells.toList = [.pointer (some a)] -> v = .pointer (some a) := fun v h e => by
     have : v.cells = #[v] := by cases v <;> first | rfl | exact absurd rfl (h _)
     rw [this] at e; simpa using e
    refine key v (fun q e => ?_) hv
    subst e
    unfold Value.okWide Cell.okWide Cell.ok at hw
    simp [hep] at hw
   subst hvv
   refine ⟨a, hcell, ?_, spot_none hc (by rw [hes]; exact Nat.one_pos)⟩
   rw [hes]
   simp [MemPlace.row]
  ·obtain ⟨a, e1, e2, e3⟩ := laid_err h1 hep hes k5 (fun b off hb => hok b off (List.mem_append_right _ hb)) hm hg hty hu
   exact ⟨a, e1, List.mem_append_right _ e2, e3⟩
theorem laid_apart {nm : String} {ep es : TypeId} (h1 : ∀ u, P.typeName? 3 u = some nm -> u = ep) (hep : P.underlying ep = some (.pointer es)) (hes : P.cellsOf es = 1) : ∀ {l : List (String × DataW Unit)} {ps : List MemPlace}, DataW.LaidVars P W l ps -> ps.Nodup -> (∀ b off, MemPlace.cell b off ∈ ps -> ∀ u v, W.cell? ⟨b, off, none⟩ = some (.iface u v) -> Value.okWide P W .any 0 u v) -> ∀ {n n' : String} {d d' : DataW Unit}, n ≠ n' -> (n, DataW.iface nm (.ptr d)) ∈ l -> (n', DataW.iface nm (.ptr d')) ∈ l -> ∀ {g g' : Nat} {ti ti' : TypeId} {ms ms' : Array (String × TypeId)},
  P.globalNamed n = some g -> (P.globals[g]?).map (·.type) = some ti -> P.underlying ti = some (.interface ms) -> P.globalNamed n' = some g' -> (P.globals[g']?).map (·.type) = some ti' -> P.underlying ti' = some (.interface ms') -> ∀ a a', W.cell? ⟨g, 0, none⟩ = some (.iface ep (.pointer (some a))) -> W.cell? ⟨g', 0, none⟩ = some (.iface ep (.pointer (some a'))) -> a ≠ a'
 | [], _, _, _, _, _, _, _, _, _, hm, _, _, _, _, _, _, _, _, _, _, _, _, _, _, _, _, _ => by cases hm
 | (m, dm) :: r, _, h, hn, hok, n, n', d, d', hne, hm, hm', g, g', ti, ti', ms, ms', hg, hty, hu, hg', hty', hu', a, a', hc, hc' => by
  have hall := h
  obtain ⟨g0, t, cs, fuel, p, q, k1, k2, k3, k4, k5, rfl⟩ := h
  -- the head's place and the rest's
  have two : ∀ {n n' : String} {d d' : DataW Unit} {g g' : Nat} {ti ti' : TypeId} {ms ms' : Array (String × TypeId)}, (n, DataW.iface nm (.ptr d)) = (m, dm) -> (n', DataW.iface nm (.ptr d')) ∈ r -> P.globalNamed n = some g -> (P.globals[g]?).map (·.type) = some ti -> P.underlying ti = some (.interface ms) -> P.globalNamed n' = some g' -> (P.globals[g']?).map (·.type) = some ti' -> P.underlying ti' = some (.interface ms') -> ∀ a a', W.cell? ⟨g, 0, none⟩ = some (.iface ep (.pointer (some a))) -> W.cell? ⟨g', 0, none⟩ = some (.iface ep (.pointer (some a'))) -> a ≠ a' := by
   intro n n' d d' g g' ti ti' ms ms' e hr hg hty hu hg' hty' hu' a a' hc hc' ea
   subst ea
   cases e
   have one : DataW.LaidVars P W [(m, DataW.iface nm (.ptr d))] (MemPlace.row ⟨g0, 0, none⟩ cs.size ++ p ++ []) := ⟨g0, t, cs, fuel, p, [], k1, k2, k3, k4, rfl, rfl⟩
   rw [List.append_nil] at one
   obtain ⟨a1, e1, e2, _⟩ := laid_err h1 hep hes one (fun b off hb => hok b off (List.mem_append_left _ hb)) (List.mem_singleton.2 rfl) hg hty hu
   obtain ⟨a2, e3, e4, _⟩ := laid_err h1 hep hes k5 (fun b off hb => hok b off (List.mem_append_right _ hb)) hr hg' hty' hu'
   rw [hc] at e1; rw [hc'] at e3
   injection e1 with e1; injection e1 with _ e1; injection e1 with e1; injection e1 with e1
   injection e3 with e3; injection e3 with _ e3; injection e3 with e3; injection e3 with e3
   subst e1; subst e3
   exact (List.nodup_append.1 hn).2.2 _ e2 _ e4 rfl
  rcases List.mem_cons.1 hm with e | hm
  ·rcases List.mem_cons.1 hm' with e' | hm'
   ·rw [← e'] at e; injection e with e; exact absurd e hne
   ·exact two e hm' hg hty hu hg' hty' hu' a a' hc hc'
  ·rcases List.mem_cons.1 hm' with e' | hm'
   ·exact fun ea => two e' hm hg' hty' hu' hg hty hu a' a hc' hc ea.symm
   ·exact laid_apart h1 hep hes k5 (List.nodup_append.1 hn).2.1 (fun b off hb => hok b off (List.mem_append_right _ hb)) hne hm hm' hg hty hu hg' hty' hu' a a' hc hc'
theorem errs_laid {nm0 : String} {ep es : TypeId} (h1 : ∀ u, P.typeName? 3 u = some nm0 -> u = ep) (hep : P.underlying ep = some (.pointer es)) (hes : P.cellsOf es = 1) {l : List (String × DataW Unit)} (h : laidMet P l W) {I : List Nat} {nm : Nat -> String} {gl : Nat -> Nat}
  (hI : ∀ i, i ∈ I -> (∃ d, (nm i, DataW.iface nm0 (.ptr d)) ∈ l) /\ P.globalNamed (nm i) = some (gl i) /\ ∃ ti ms, (P.globals[gl i]?).map (·.type) = some ti /\ P.underlying ti = some (.interface ms))
  (hinj : ∀ i, i ∈ I -> ∀ j, j ∈ I -> i ≠ j -> nm i ≠ nm j) : ∃ er, ErrsOK ep er I (env0 W).fx /\ ∀ i, i ∈ I -> W.cell? ⟨gl i, 0, none⟩ = some (.iface (er i).1 (er i).2) := by
 obtain ⟨ps, hv, hn, hok⟩ := h
 have hok' : ∀ b off, MemPlace.cell b off ∈ ps -> ∀ u v, W.cell? ⟨b, off, none⟩ = some (.iface u v) -> Value.okWide P W .any 0 u v := fun b off hb => (hok b off hb).2
 have each : ∀ i, i ∈ I -> ∃ a, W.cell? ⟨gl i, 0, none⟩ = some (.iface ep (.pointer (some a))) /\ MemPlace.cell a.block a.off ∈ ps /\ a.spot = none := fun i hi => by
  obtain ⟨⟨d, hd⟩, hg, ti, ms, ht, hu⟩ := hI i hi
  exact laid_err h1 hep hes hv hok' hd hg ht hu
 let er : Nat -> TypeId × Value := fun i => if hi : i ∈ I then (ep, .pointer (some (Classical.choose (each i hi)))) else (0, .nilIface)
 have her : ∀ i (hi : i ∈ I), er i = (ep, .pointer (some (Classical.choose (each i hi)))) := fun i hi => dif_pos hi
 refine ⟨er, ⟨fun i hi => ?_, fun i j hi hj hij e => ?_⟩, fun i hi => ?_⟩
 ·obtain ⟨_, h2, _⟩ := Classical.choose_spec (each i hi)
  obtain ⟨⟨c, t, hc⟩, _⟩ := hok _ _ h2
  exact ⟨_, c, t, her i hi, hc⟩
 ·rw [her i hi, her j hj] at e
  injection e with _ e; injection e with e; injection e with e
  obtain ⟨⟨d, hd⟩, hg, ti, ms, ht, hu⟩ := hI i hi
  obtain ⟨⟨d', hd'⟩, hg', ti', ms', ht', hu'⟩ := hI j hj
  exact laid_apart h1 hep hes hv hn hok' (hinj i hi j hj hij) hd hd' hg ht hu hg' ht' hu' _ _ (Classical.choose_spec (each i hi)).1 (Classical.choose_spec (each j hj)).1 e
 ·rw [her i hi]; exact (Classical.choose_spec (each i hi)).1
theorem laid_ints : ∀ {l : List (String × DataW Unit)} {ps : List MemPlace}, DataW.LaidVars P W l ps -> ∀ {n : String} {k : IntKind} {ns : List Int}, (n, DataW.agg (ns.map fun x => DataW.lit (.int k x))) ∈ l -> ∀ {g : Nat} {ti e : TypeId} {N : Nat},
  P.globalNamed n = some g -> (P.globals[g]?).map (·.type) = some ti -> P.underlying ti = some (.array N e) -> P.underlying e = some (.int k) -> P.cellsOf e = 1 -> P.cellsOf ti = ns.length -> N = ns.length -> ∀ j (h : j < ns.length), W.cell? ⟨g, j, none⟩ = some (.int k ns[j])
 | [], _, _, _, _, _, hm, _, _, _, _, _, _, _, _, _, _, _ => by cases hm
 | (n', d') :: r, _, h, n, k, ns, hm, g, ti, e, N, hg, hty, hu, he, hce, hct, hN => by
  obtain ⟨g', t, cs, fuel, p, q, h1, h2, h3, h4, h5, _⟩ := h
  rcases List.mem_cons.1 hm with e' | hm
  ·cases e'
   obtain rfl := Option.some.inj (hg.symm.trans h1)
   obtain rfl := Option.some.inj (hty.symm.trans h2)
   obtain ⟨xs, m, _, hx, hl, hxl, hel⟩ := DataW.trod_array hu h4
   intro j hj
   have hx1 : xs.map (·.1) = ns.map fun x => DataW.lit (.int k x) := by
    injection hx with hx _
    injection hx with hx
    exact hx.symm
   have hjx : j < xs.length := by omega
   have hj1 := hel j (by omega)
   rw [List.getElem?_eq_getElem hjx, hce, Nat.mul_one] at hj1
   obtain ⟨v, hv1, hv2, _⟩ := DataW.trod_int he hj1
   have hfst : (xs[j]).1 = DataW.lit (.int k ns[j]) := by
    have : (xs.map (·.1))[j]'(by simpa using hjx) = (ns.map fun x => DataW.lit (.int k x))[j]'(by simpa using hj) := by simp only [hx1]
    simpa using this
   rw [hv2] at hfst
   have hvn : v = ns[j] := by
    injection hfst with hfst; injection hfst
   subst hvn
   have hjc : j < cs.size := by
    have : cs.toList.length = cs.size := Array.length_toList
    omega
   have hcell := World.var?_cell h1 h3 j
   rw [hcell, ← Array.getElem?_toList]
   have : (cs.toList.drop j).take 1 = [cs.toList[j]'(by simpa using hjc)] := by
    rw [List.drop_eq_getElem_cons (by simpa using hjc)]; rfl
   rw [this] at hv1
   rw [List.getElem?_eq_getElem (by simpa using hjc)]
   exact congrArg some (List.cons.inj hv1).1
  ·exact laid_ints h5 hm hg hty hu he hce hct hN
theorem table_cell {W : World} {g N : Nat} {k : IntKind} {ns : List Int} (hN : ns.length = N) (h : ∀ j (h : j < ns.length), W.cell? ⟨g, j, none⟩ = some (.int k ns[j])) : RepV (env0 W) (.rp (.ints k N ns)) (.pointer (some ⟨g, 0, none⟩)) :=
 .one (.rp g 0 (.ints k N ns hN) (fun j hj => by
  have hj' : j < ns.length := by simpa using hj
  have := h j hj'
  rw [Nat.zero_add, List.getElem_map]
  exact this)) rfl
theorem err_cell {W : World} {g : Nat} {u : TypeId} {v : Value} (hc : W.cell? ⟨g, 0, none⟩ = some (.iface u v)) : RepV (env0 W) (.rp (.sc (.iface u v))) (.pointer (some ⟨g, 0, none⟩)) :=
 .one (.rp g 0 (.sc (.iface u v) trivial) (fun j hj => by
  obtain rfl : j = 0 := by simpa using hj
  exact hc)) rfl
end
end Go.Eng
