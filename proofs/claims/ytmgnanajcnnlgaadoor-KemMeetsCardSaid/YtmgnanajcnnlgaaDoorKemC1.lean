/-
  Part of a proof: KemC1.
-/
import Derived.Test.YtmgnanajcnnlgaaDoorKemM
set_option linter.unusedVariables false
set_option linter.unusedSimpArgs false
set_option linter.unusedVariables false
set_option linter.unusedSimpArgs false
namespace Go.Eng
open Go.Proofs
set_option maxRecDepth 100000
set_option maxHeartbeats 4000000
section
variable (er : Nat -> ErrV)
def GEv (er : Nat -> ErrV) : Nat -> AV
 | 0 => .rp (.sc (.iface (er 1).1 (er 1).2))
 | 1 => .rp (.sc (.iface (er 2).1 (er 2).2))
 | 2 => .rp (.sc (.iface (er 3).1 (er 3).2))
 | 3 => .rp (.sc (.iface (er 4).1 (er 4).2))
 | 4 => .rp (.sc (.iface (er 5).1 (er 5).2))
 | 5 => .rp (.sc (.iface (er 6).1 (er 6).2))
 | 6 => .rp (.sc (.iface (er 7).1 (er 7).2))
 | 7 => .rp (.sc (.iface (er 8).1 (er 8).2))
 | 8 => .rp (.sc (.iface (er 9).1 (er 9).2))
 | 9 => .rp (.sc (.iface (er 10).1 (er 10).2))
 | 10 => .rp (.sc (.iface (er 11).1 (er 11).2))
 | 11 => .rp (.sc (.iface (er 12).1 (er 12).2))
 | 12 => .rp (.sc (.iface (er 13).1 (er 13).2))
 | 13 => .rp (.sc (.iface (er 14).1 (er 14).2))
 | 14 => .rp (.sc (.iface (er 15).1 (er 15).2))
 | 15 => .rp (.sc (.iface (er 16).1 (er 16).2))
 | 16 => .rp (.sc (.iface (er 17).1 (er 17).2))
 | 17 => .rp (.sc (.iface (er 18).1 (er 18).2))
 | 18 => .rp (.sc (.iface (er 19).1 (er 19).2))
 | 19 => .rp (.ints .u64 10 tb_field_many)
 | 20 => .rp (.ints .u32 64 tb_sha_constants)
 | _ => .any
def GE (er : Nat -> ErrV) : Glob := ⟨GEv er, ErrsOK 133 er errI⟩
theorem GE_plain (er : Nat -> ErrV) : GPlain (GE er) := fun g => by show (GEv er g).inB _ = true; unfold GEv; split <;> rfl
theorem bE (er : Nat -> ErrV) {f : FuncId} {fn : Func} {c : Code} (hf : Tryd.prog.funcs[f]? = some fn) (hname : (fn.name == "runtime.NumGoroutine") = false) (hb : fn.body = some c) (τ : List (Nat × Nat)) (as0 : List AV) (bs0 : List Blk) (news : List Nat) (r0 : AV) (ws : List Blk) {args : List AV} {S wr : List (Nat × Blk)} {r : AV} (ha : as0.map (AV.ren τ) = args) (hS : renAll τ (List.range bs0.length) bs0 = S) (hr : r0.ren τ = r) (hw : renAll τ (List.range bs0.length ++ news) ws = wr) (hchk : bodyB as0 bs0 news r0 ws = true) (hk : τ.map Prod.fst = List.range bs0.length ++ news) (hn : (τ.map Prod.snd).Nodup) (dp : Nat) (h : startT as0 fn.ntmps fun ts => vcR Tryd.prog (GE er) tab (itR Tryd.prog (GE er) tab dp) bs0.length noY c false [] none (retK tab fn fun r bs => r = r0 /\ leaves bs (List.range bs0.length ++ news) ws) ts bs0) : Fn Tryd.prog (GE er) f args S r wr :=
 Fn.bodyE tabOK mixed (GE_plain er) hf hname hb τ as0 bs0 news r0 ws ha hS hr hw hchk hk hn dp h
theorem slices_Grow_byte_byte_2_c (k0 : Nat) (hn : [k0].Nodup) (x16 : Int) (res : Nat × (List Int)) (h : slices_Grow_byte_byte_2 x16 = some res) :
  Fn Tryd.prog (GE er) 43 [(.dv (.sc (.slice none 0 0))), (.int .i64 x16)] [] (.sl k0 [] ly5 0 res.1) [(k0, (.rowI .u8 res.2))] := by
 refine bE er Tryd.func43 rfl rfl [(0, k0)] [(.dv (.sc (.slice none 0 0))), (.int .i64 x16)] [] [0] (.sl 0 [] ly5 0 res.1) [(.rowI .u8 res.2)] rfl rfl rfl rfl rfl rfl hn 3 ?_
 replace h := (show slices_Grow_byte_byte_2 x16 = _ from h)
 unfold slices_Grow_byte_byte_2 at h
 refine Or.inl ?_
 refine And.intro (fun hb => ?_) (fun hb => ?_)
 ·replace h := cond_t h hb
  exact no_none h
 ·replace h := cond_f h hb
  obtain ⟨r1_0_18, hl1_18, hr1_18⟩ := bnd h
  refine Or.inr ⟨[], {p : Nat × (List Int) // p = r1_0_18}, ⟨fun | ⟨(x17, x18), _⟩ => [(0, (.sl 0 [] ly5 0 x17))], fun | ⟨(x17, x18), _⟩ => [(0, (.rowI .u8 x18))], fun _ => 0⟩, 1, ?_, ?_⟩
  ·rintro ⟨⟨x17, x18⟩, hp⟩
   subst hp
   replace h := hr1_18
   obtain rfl := some_in h
   exact ⟨0, [], [], rfl, rfl, trivial⟩
  ·replace h := hl1_18
   refine And.intro (fun hb => ?_) (fun hb => ?_)
   ·replace h := cond_t h hb
    refine And.intro (by decide) ?_
    refine And.intro (by decide) ?_
    obtain ⟨hg, h⟩ := gd h
    refine And.intro hg ?_
    refine ⟨(List.replicate (Int.toNat (IntKind.wrap .i64 (x16 - 0))) (0 : Int)), rfl, 0, (List.length (List.replicate (Int.toNat (IntKind.wrap .i64 (x16 - 0))) (0 : Int))), ⟨rfl, List.length_replicate ..⟩, ?_⟩
    refine Or.inl ?_
    let x19 : List Int := (List.replicate (Int.toNat (IntKind.wrap .i64 (x16 - 0))) (0 : Int))
    replace h := nm_at x19 rfl h
    obtain ⟨hg, h⟩ := gd h
    refine And.intro hg ?_
    refine And.intro (by decide) ?_
    refine ⟨0, 0, ⟨by simp, rfl⟩, ?_⟩
    exact ⟨[], [], ⟨(0, x19), some_in h⟩, [], rfl, ⟨rfl, trivial⟩, ⟨rfl, trivial⟩, rfl⟩
   ·replace h := cond_f h hb
    exact ⟨[(0, .rowI .u8 [])], [], ⟨((List.length ([] : List Int)), ([] : List Int)), some_in h⟩, [], rfl, ⟨rfl, trivial⟩, ⟨rfl, trivial⟩, rfl⟩
theorem slices_Concat_byte_byte_c (b0 b1 k0 : Nat) (hn : [b0, b1, k0].Nodup) (x12 : Nat) (x13 : List Int) (res : (List Int)) (h : slices_Concat_byte_byte x12 x13 = some res) :
  Fn Tryd.prog (GE er) 27 [(.vs b0 0 1)] [(b0, (.var (.cons (.sl b1 [] ly5 0 x12) (.dv .nil)))), (b1, (.frzI .u8 x13))] (.sl k0 [] ly5 0 (List.length res)) [(b0, (.var (.cons (.sl b1 [] ly5 0 x12) (.dv .nil)))), (b1, (.frzI .u8 x13)), (k0, (.rowI .u8 res))] := by
 refine bE er Tryd.func27 rfl rfl [(0, b0), (1, b1), (3, k0)] [(.vs 0 0 1)] [(.var (.cons (.sl 1 [] ly5 0 x12) (.dv .nil))), (.frzI .u8 x13)] [3] (.sl 3 [] ly5 0 (List.length res)) [(.var (.cons (.sl 1 [] ly5 0 x12) (.dv .nil))), (.frzI .u8 x13), (.rowI .u8 res)] rfl rfl rfl rfl rfl rfl hn 3 ?_
 replace h := (show slices_Concat_byte_byte x12 x13 = _ from h)
 unfold slices_Concat_byte_byte at h
 obtain ⟨r1_0_13, hl1_13, hr1_13⟩ := bnd h
 refine Or.inr ⟨[10], {p : Unit // p = r1_0_13}, ⟨fun | ⟨(), _⟩ => [(3, (.int .i64 (IntKind.wrap .i64 (0 + (x12 : Int)))))], fun | ⟨(), _⟩ => [], fun _ => 0⟩, 0, ?_, ?_⟩
 ·rintro ⟨⟨⟩, hp⟩
  subst hp
  replace h := hr1_13
  obtain ⟨r15, hc15, h⟩ := bnd h
  obtain ⟨x14, x15⟩ := r15
  refine ⟨[], _, _, _, ⟨⟨_, slices_Grow_byte_byte_2_c er 2 (by decide) (IntKind.wrap .i64 (0 + (x12 : Int))) (x14, x15) hc15, ⟨.inl rfl, .inl rfl, trivial⟩⟩, trivial, rfl⟩, ?_⟩
  refine Or.inl ?_
  obtain ⟨r2_0_15, hl2_15, hr2_15⟩ := bnd h
  refine Or.inr ⟨[24, 26], {p : Unit // p = r2_0_15}, ⟨fun | ⟨(), _⟩ => [(6, (.sl 3 [] ly5 0 (List.length ((List.take x14 x15) ++ (List.take x12 x13)))))], fun | ⟨(), _⟩ => [(2, .dead), (3, (.rowI .u8 ((List.take x14 x15) ++ (List.take x12 x13))))], fun _ => 0⟩, 1, ?_, ?_⟩
  ·rintro ⟨⟨⟩, hp⟩
   subst hp
   replace h := hr2_15
   obtain rfl := some_in h
   exact ⟨0, [], [], rfl, rfl, rfl, rfl, trivial⟩
  ·replace h := hl2_15
   refine Or.inr ⟨30, ?_⟩
   refine And.intro (fun _ => ?_) (fun h0 => Bool.noConfusion h0)
   refine Or.inl ?_
   refine And.intro (by decide) ?_
   obtain ⟨hg, h⟩ := gd h
   refine And.intro (le_of_ln2 (ln_0 _ _) hg) ?_
   obtain ⟨hg2, h⟩ := gd h
   refine ⟨((List.take x14 x15) ++ (List.take x12 x13)), app_cut (cut_0 _ _) (cut_0 _ _), 0, (List.length ((List.take x14 x15) ++ (List.take x12 x13))), ⟨rfl, cut_ln hg2 (ln_0 _ _)⟩, ?_⟩
   refine Or.inl ?_
   refine And.intro (fun h0 => Bool.noConfusion h0) (fun _ => ?_)
   exact ⟨[], [], ⟨(), some_in h⟩, [], rfl, ⟨rfl, trivial⟩, ⟨rfl, rfl, trivial, rfl, trivial⟩, rfl⟩
 ·replace h := hl1_13
  refine Or.inr ⟨30, ?_⟩
  refine And.intro (fun _ => ?_) (fun h0 => Bool.noConfusion h0)
  refine Or.inl ?_
  refine And.intro (by decide) ?_
  refine Or.inl ?_
  refine And.intro (fun hb => ?_) (fun hb => ?_)
  ·replace h := cond_t h hb
   exact no_none h
  ·replace h := cond_f h hb
   refine And.intro (fun h0 => Bool.noConfusion h0) (fun _ => ?_)
   exact ⟨[], [], ⟨(), some_in h⟩, [], rfl, ⟨rfl, trivial⟩, ⟨rfl, rfl, trivial⟩, rfl⟩
theorem sha_begin_c (res : (List Int)) (h : sha_begin = some res) :
  Fn Tryd.prog (GE er) 76 [] [] (.dv (.ints .u32 8 res)) [] := by
 refine bE er Tryd.func76 rfl rfl [] [] [] [] (.dv (.ints .u32 8 res)) [] rfl rfl rfl rfl rfl rfl .nil 3 ?_
 replace h := (show sha_begin = _ from h)
 unfold sha_begin at h
 let x21 : List Int := [1779033703, 3144134277, 1013904242, 2773480762, 1359893119, 2600822924, 528734635, 1541459225]
 replace h := nm_at x21 rfl h
 obtain rfl := some_in h
 exact ⟨0, [], [], rfl, trivial⟩
theorem sha_New_c (k0 : Nat) (hn : [k0].Nodup) (res : (List Int)) (h : sha_New = some res) :
  Fn Tryd.prog (GE er) 59 [] [] (.ptr k0 [] ly125) [(k0, (.var (.dv (.cons (.ints .u32 8 res) (.cons (.sc (.slice none 0 0)) (.cons (.sc (.int .u64 0)) .nil))))))] := by
 refine bE er Tryd.func59 rfl rfl [(0, k0)] [] [] [0] (.ptr 0 [] ly125) [(.var (.dv (.cons (.ints .u32 8 res) (.cons (.sc (.slice none 0 0)) (.cons (.sc (.int .u64 0)) .nil)))))] rfl rfl rfl rfl rfl rfl hn 3 ?_
 replace h := (show sha_New = _ from h)
 unfold sha_New at h
 obtain ⟨x21, hc21, h⟩ := bnd h
 refine ⟨[], _, _, _, ⟨⟨_, sha_begin_c er x21 hc21, trivial⟩, trivial, rfl⟩, ?_⟩
 obtain rfl := some_in h
 exact ⟨0, [], [], rfl, rfl, trivial⟩
theorem words_Right_c (x35 : Int) (x36 : Int) (res : Int) (h : words_Right x35 x36 = some res) :
  Fn Tryd.prog (GE er) 83 [(.int .u32 x35), (.int .i64 x36)] [] (.int .u32 res) [] := by
 refine bE er Tryd.func83 rfl rfl [] [(.int .u32 x35), (.int .i64 x36)] [] [] (.int .u32 res) [] rfl rfl rfl rfl rfl rfl .nil 3 ?_
 replace h := (show words_Right x35 x36 = _ from h)
 unfold words_Right at h
 refine And.intro (by decide) ?_
 obtain ⟨hg, h⟩ := gd h
 refine And.intro hg ?_
 let x37 : Int := (Int.fdiv x35 (2 ^ (min (Int.toNat (Int.tmod (IntKind.wrap .u64 x36) 32)) (IntKind.bits .u32))))
 replace h := nm_at x37 rfl h
 let x38 : Int := (IntKind.wrap .u64 (32 - (Int.tmod (IntKind.wrap .u64 x36) 32)))
 replace h := nm_at x38 rfl h
 obtain ⟨hg, h⟩ := gd h
 refine And.intro hg ?_
 let x39 : Int := (IntKind.wrap .u32 (x35 * 2 ^ (min (Int.toNat x38) (IntKind.bits .u32))))
 replace h := nm_at x39 rfl h
 obtain rfl := some_in h
 exact ⟨0, [], [], rfl, trivial⟩
theorem sha_schedule_c (x33 : List Int) (res : (List Int)) (h : sha_schedule x33 = some res) :
  Fn Tryd.prog (GE er) 82 [(.dv (.roI .u8 x33))] [] (.dv (.ints .u32 64 res)) [] := by
 refine bE er Tryd.func82 rfl rfl [] [(.dv (.roI .u8 x33))] [] [] (.dv (.ints .u32 64 res)) [] rfl rfl rfl rfl rfl rfl .nil 3 ?_
 replace h := (show sha_schedule x33 = _ from h)
 unfold sha_schedule at h
 obtain ⟨r1_0_34, hl1_34, hr1_34⟩ := bnd h
 refine Or.inr ⟨[0], {p : (List Int) // p = r1_0_34}, ⟨fun | ⟨x34, _⟩ => [], fun | ⟨x34, _⟩ => [(1, (.var (.dv (.ints .u32 64 x34))))], fun _ => 0⟩, 0, ?_, ?_⟩
 ·rintro ⟨x34, hp⟩
  subst hp
  replace h := hr1_34
  obtain ⟨r2_1_44, hl2_44, hr2_44⟩ := bnd h
  refine Or.inr ⟨[], {p : (List Int) // p = r2_1_44}, ⟨fun | ⟨x44, _⟩ => [], fun | ⟨x44, _⟩ => [(1, (.var (.dv (.ints .u32 64 x44))))], fun _ => 0⟩, 0, ?_, ?_⟩
  ·rintro ⟨x44, hp⟩
   subst hp
   replace h := hr2_44
   obtain rfl := some_in h
   exact ⟨0, [], [], rfl, trivial⟩
  ·replace h := hl2_44
   refine Or.inl ?_
   refine ⟨[], {x : Nat × Int × (List Int) // sha_schedule_l2 x.1 x.2.1 x.2.2 = some r2_1_44}, ⟨fun | ⟨(n2, x45, x46), _⟩ => [(5, (.int .i64 x45))], fun | ⟨(n2, x45, x46), _⟩ => [(1, (.var (.dv (.ints .u32 64 x46))))], fun | ⟨(n2, x45, x46), _⟩ => n2⟩, [], [], ⟨(FUEL, 16, x34), h⟩, ⟨rfl, ⟨rfl, trivial⟩, ⟨rfl, rfl, trivial⟩, rfl⟩, ?_⟩
   rintro ⟨⟨n2, x45, x46⟩, h⟩
   cases n2 with
   | zero => exact no_none h
   | succ n2 =>
    replace h := (show sha_schedule_l2 (n2 + 1) x45 x46 = _ from h)
    replace h := (sha_schedule_l2.eq_2 .. ).symm.trans h
    refine And.intro (fun hb => ?_) (fun hb => ?_)
    ·replace h := cond_t h hb
     refine Or.inl ?_
     obtain ⟨hg, h⟩ := gd h
     refine And.intro hg ?_
     obtain ⟨hg, h⟩ := gd h
     refine And.intro hg ?_
     obtain ⟨x47, hc55, h⟩ := bnd h
     refine ⟨[], _, _, _, ⟨⟨_, words_Right_c er (List.getD x46 (Int.toNat (IntKind.wrap .i64 (x45 - 15))) 0) 7 x47 hc55, ⟨.inl rfl, .inl rfl, trivial⟩⟩, trivial, rfl⟩, ?_⟩
     obtain ⟨x48, hc55, h⟩ := bnd h
     refine ⟨[], _, _, _, ⟨⟨_, words_Right_c er (List.getD x46 (Int.toNat (IntKind.wrap .i64 (x45 - 15))) 0) 18 x48 hc55, ⟨.inl rfl, .inl rfl, trivial⟩⟩, trivial, rfl⟩, ?_⟩
     refine And.intro (by decide) ?_
     let x49 : Int := (Int.fdiv (List.getD x46 (Int.toNat (IntKind.wrap .i64 (x45 - 15))) 0) (2 ^ 3))
     replace h := nm_at x49 rfl h
     obtain ⟨x50, hc55, h⟩ := bnd h
     refine ⟨[], _, _, _, ⟨⟨_, words_Right_c er (List.getD x46 (Int.toNat (IntKind.wrap .i64 (x45 - 2))) 0) 17 x50 hc55, ⟨.inl rfl, .inl rfl, trivial⟩⟩, trivial, rfl⟩, ?_⟩
     obtain ⟨x51, hc55, h⟩ := bnd h
     refine ⟨[], _, _, _, ⟨⟨_, words_Right_c er (List.getD x46 (Int.toNat (IntKind.wrap .i64 (x45 - 2))) 0) 19 x51 hc55, ⟨.inl rfl, .inl rfl, trivial⟩⟩, trivial, rfl⟩, ?_⟩
     refine And.intro (by decide) ?_
     let x52 : Int := (Int.fdiv (List.getD x46 (Int.toNat (IntKind.wrap .i64 (x45 - 2))) 0) (2 ^ 10))
     replace h := nm_at x52 rfl h
     obtain ⟨hg, h⟩ := gd h
     refine And.intro hg ?_
     let x53 : Int := (IntKind.wrap .u32 ((List.getD x46 (Int.toNat (IntKind.wrap .i64 (x45 - 16))) 0) + (bits .u32 .xor (bits .u32 .xor x47 x48) x49)))
     replace h := nm_at x53 rfl h
     obtain ⟨hg, h⟩ := gd h
     refine And.intro hg ?_
     let x54 : Int := (IntKind.wrap .u32 (x53 + (List.getD x46 (Int.toNat (IntKind.wrap .i64 (x45 - 7))) 0)))
     replace h := nm_at x54 rfl h
     let x55 : Int := (IntKind.wrap .u32 (x54 + (bits .u32 .xor (bits .u32 .xor x50 x51) x52)))
     replace h := nm_at x55 rfl h
     obtain ⟨hg, h⟩ := gd h
     refine And.intro hg ?_
     exact ⟨⟨(n2, (IntKind.wrap .i64 (x45 + 1)), (List.set x46 (Int.toNat x45) x55)), h⟩, [], ⟨rfl, ⟨rfl, trivial⟩, ⟨rfl, rfl, trivial⟩, rfl⟩, Nat.lt_succ_self _⟩
    ·replace h := cond_f h hb
     exact ⟨[], [], ⟨x46, some_in h⟩, [], rfl, trivial, ⟨rfl, rfl, trivial⟩, rfl⟩
 ·replace h := hl1_34
  refine Or.inl ?_
  refine ⟨[], {x : Nat × Int × (List Int) // sha_schedule_l1 x33 x.1 x.2.1 x.2.2 = some r1_0_34}, ⟨fun | ⟨(n1, x35, x36), _⟩ => [(10, (.int .i64 x35))], fun | ⟨(n1, x35, x36), _⟩ => [(1, (.var (.dv (.ints .u32 64 x36))))], fun | ⟨(n1, x35, x36), _⟩ => n1⟩, [], [], ⟨(FUEL, 0, (List.replicate 64 (0 : Int))), h⟩, ⟨rfl, ⟨rfl, trivial⟩, ⟨rfl, rfl, trivial⟩, rfl⟩, ?_⟩
  rintro ⟨⟨n1, x35, x36⟩, h⟩
  cases n1 with
  | zero => exact no_none h
  | succ n1 =>
   replace h := (show sha_schedule_l1 x33 (n1 + 1) x35 x36 = _ from h)
   replace h := (sha_schedule_l1.eq_2 .. ).symm.trans h
   refine And.intro (fun hb => ?_) (fun hb => ?_)
   ·replace h := cond_t h hb
    refine Or.inl ?_
    obtain ⟨hg, h⟩ := gd h
    refine And.intro hg ?_
    let x37 : Int := (IntKind.wrap .u32 (List.getD x33 (Int.toNat (IntKind.wrap .i64 (4 * x35))) 0))
    replace h := nm_at x37 rfl h
    refine And.intro (by decide) ?_
    obtain ⟨hg, h⟩ := gd h
    refine And.intro hg ?_
    let x38 : Int := (List.getD x33 (Int.toNat (IntKind.wrap .i64 ((IntKind.wrap .i64 (4 * x35)) + 1))) 0)
    replace h := nm_at x38 rfl h
    refine And.intro (by decide) ?_
    let x39 : Int := (bits .u32 .or (IntKind.wrap .u32 (x37 * 2 ^ 24)) (IntKind.wrap .u32 ((IntKind.wrap .u32 x38) * 2 ^ 16)))
    replace h := nm_at x39 rfl h
    obtain ⟨hg, h⟩ := gd h
    refine And.intro hg ?_
    let x40 : Int := (List.getD x33 (Int.toNat (IntKind.wrap .i64 ((IntKind.wrap .i64 (4 * x35)) + 2))) 0)
    replace h := nm_at x40 rfl h
    refine And.intro (by decide) ?_
    let x41 : Int := (bits .u32 .or x39 (IntKind.wrap .u32 ((IntKind.wrap .u32 x40) * 2 ^ 8)))
    replace h := nm_at x41 rfl h
    obtain ⟨hg, h⟩ := gd h
    refine And.intro hg ?_
    let x42 : Int := (List.getD x33 (Int.toNat (IntKind.wrap .i64 ((IntKind.wrap .i64 (4 * x35)) + 3))) 0)
    replace h := nm_at x42 rfl h
    obtain ⟨hg, h⟩ := gd h
    refine And.intro hg ?_
    let x43 : List Int := (List.set x36 (Int.toNat x35) (bits .u32 .or x41 (IntKind.wrap .u32 x42)))
    replace h := nm_at x43 rfl h
    exact ⟨⟨(n1, (IntKind.wrap .i64 (x35 + 1)), x43), h⟩, [], ⟨rfl, ⟨rfl, trivial⟩, ⟨rfl, rfl, trivial⟩, rfl⟩, Nat.lt_succ_self _⟩
   ·replace h := cond_f h hb
    exact ⟨[], [], ⟨x36, some_in h⟩, [], rfl, trivial, ⟨rfl, rfl, trivial⟩, rfl⟩
theorem sha_state_take_4_c (b0 b1 : Nat) (hn : [b0, b1].Nodup) (x36 : Nat) (x37 : Nat) (x38 : List Int) (x39 : Nat) (x40 : Nat) (x41 : Int) (x42 : List Int) (res : (List Int)) (h : sha_state_take_4 x36 x37 x38 x39 x40 x41 x42 = some res) :
  Fn Tryd.prog (GE er) 77 [(.ptr b0 [0] ly122), (.sl b1 [] ly5 x36 x37)] [(b0, (.var (.cons (.dv (.ints .u32 8 x38)) (.cons (.sl b1 [] ly5 x39 x40) (.dv (.cons (.sc (.int .u64 x41)) .nil)))))), (b1, (.rowI .u8 x42))] (.tup []) [(b0, (.var (.cons (.dv (.ints .u32 8 res)) (.cons (.sl b1 [] ly5 x39 x40) (.dv (.cons (.sc (.int .u64 x41)) .nil)))))), (b1, (.rowI .u8 x42))] := by
 refine bE er Tryd.func77 rfl rfl [(0, b0), (1, b1)] [(.ptr 0 [0] ly122), (.sl 1 [] ly5 x36 x37)] [(.var (.cons (.dv (.ints .u32 8 x38)) (.cons (.sl 1 [] ly5 x39 x40) (.dv (.cons (.sc (.int .u64 x41)) .nil))))), (.rowI .u8 x42)] [] (.tup []) [(.var (.cons (.dv (.ints .u32 8 res)) (.cons (.sl 1 [] ly5 x39 x40) (.dv (.cons (.sc (.int .u64 x41)) .nil))))), (.rowI .u8 x42)] rfl rfl rfl rfl rfl rfl hn 3 ?_
 replace h := (show sha_state_take_4 x36 x37 x38 x39 x40 x41 x42 = _ from h)
 unfold sha_state_take_4 at h
 obtain ⟨x43, hc66, h⟩ := bnd h
 refine ⟨[true], _, _, _, ⟨⟨_, sha_schedule_c er (List.take x37 (List.drop x36 x42)) x43 hc66, ⟨.inl rfl, trivial⟩⟩, trivial, rfl⟩, ?_⟩
 obtain ⟨r1_0_44, hl1_44, hr1_44⟩ := bnd h
 refine Or.inr ⟨[20], {p : (List Int) // p = r1_0_44}, ⟨fun | ⟨x44, _⟩ => [], fun | ⟨x44, _⟩ => [(3, (.var (.dv (.ints .u32 8 x44))))], fun _ => 0⟩, 0, ?_, ?_⟩
 ·rintro ⟨x44, hp⟩
  subst hp
  replace h := hr1_44
  obtain ⟨r2_1_63, hl2_63, hr2_63⟩ := bnd h
  refine Or.inr ⟨[], {p : (List Int) // p = r2_1_63}, ⟨fun | ⟨x63, _⟩ => [], fun | ⟨x63, _⟩ => [(0, (.var (.cons (.dv (.ints .u32 8 x63)) (.cons (.sl 1 [] ly5 x39 x40) (.dv (.cons (.sc (.int .u64 x41)) .nil))))))], fun _ => 0⟩, 0, ?_, ?_⟩
  ·rintro ⟨x63, hp⟩
   subst hp
   replace h := hr2_63
   obtain rfl := some_in h
   exact ⟨0, [], [], rfl, rfl, rfl, trivial⟩
  ·replace h := hl2_63
   refine Or.inl ?_
   refine ⟨[], {x : Nat × Int × (List Int) // sha_state_take_4_l2 x44 x.1 x.2.1 x.2.2 = some r2_1_63}, ⟨fun | ⟨(n2, x64, x65), _⟩ => [(96, (.int .i64 x64))], fun | ⟨(n2, x64, x65), _⟩ => [(0, (.var (.cons (.dv (.ints .u32 8 x65)) (.cons (.sl 1 [] ly5 x39 x40) (.dv (.cons (.sc (.int .u64 x41)) .nil))))))], fun | ⟨(n2, x64, x65), _⟩ => n2⟩, [], [], ⟨(FUEL, 0, x38), h⟩, ⟨rfl, ⟨rfl, trivial⟩, ⟨rfl, rfl, rfl, rfl, trivial⟩, rfl⟩, ?_⟩
   rintro ⟨⟨n2, x64, x65⟩, h⟩
   cases n2 with
   | zero => exact no_none h
   | succ n2 =>
    replace h := (show sha_state_take_4_l2 x44 (n2 + 1) x64 x65 = _ from h)
    replace h := (sha_state_take_4_l2.eq_2 .. ).symm.trans h
    refine And.intro (fun hb => ?_) (fun hb => ?_)
    ·replace h := cond_t h hb
     refine Or.inl ?_
     obtain ⟨hg, h⟩ := gd h
     refine And.intro hg ?_
     obtain ⟨hg, h⟩ := gd h
     refine And.intro hg ?_
     let x66 : Int := (IntKind.wrap .u32 ((List.getD x65 (Int.toNat x64) 0) + (List.getD x44 (Int.toNat x64) 0)))
     replace h := nm_at x66 rfl h
     obtain ⟨hg, h⟩ := gd h
     refine And.intro hg ?_
     exact ⟨⟨(n2, (IntKind.wrap .i64 (x64 + 1)), (List.set x65 (Int.toNat x64) x66)), h⟩, [], ⟨rfl, ⟨rfl, trivial⟩, ⟨rfl, rfl, rfl, rfl, trivial⟩, rfl⟩, Nat.lt_succ_self _⟩
    ·replace h := cond_f h hb
     exact ⟨[], [], ⟨x65, some_in h⟩, [], rfl, trivial, ⟨rfl, rfl, rfl, rfl, trivial⟩, rfl⟩
 ·replace h := hl1_44
  refine Or.inl ?_
  refine ⟨[], {x : Nat × Int × (List Int) // sha_state_take_4_l1 x43 x.1 x.2.1 x.2.2 = some r1_0_44}, ⟨fun | ⟨(n1, x45, x46), _⟩ => [(21, (.int .i64 x45))], fun | ⟨(n1, x45, x46), _⟩ => [(3, (.var (.dv (.ints .u32 8 x46))))], fun | ⟨(n1, x45, x46), _⟩ => n1⟩, [], [], ⟨(FUEL, 0, x38), h⟩, ⟨rfl, ⟨rfl, trivial⟩, ⟨rfl, rfl, rfl, rfl, trivial⟩, rfl⟩, ?_⟩
  rintro ⟨⟨n1, x45, x46⟩, h⟩
  cases n1 with
  | zero => exact no_none h
  | succ n1 =>
   replace h := (show sha_state_take_4_l1 x43 (n1 + 1) x45 x46 = _ from h)
   replace h := (sha_state_take_4_l1.eq_2 .. ).symm.trans h
   refine And.intro (fun hb => ?_) (fun hb => ?_)
   ·replace h := cond_t h hb
    refine Or.inl ?_
    obtain ⟨hg, h⟩ := gd h
    refine And.intro hg ?_
    refine And.intro (by decide) ?_
    refine And.intro (by decide) ?_
    obtain ⟨x47, hc62, h⟩ := bnd h
    refine ⟨[], _, _, _, ⟨⟨_, words_Right_c er (List.getD x46 4 0) 6 x47 hc62, ⟨.inl rfl, .inl rfl, trivial⟩⟩, trivial, rfl⟩, ?_⟩
    obtain ⟨x48, hc62, h⟩ := bnd h
    refine ⟨[], _, _, _, ⟨⟨_, words_Right_c er (List.getD x46 4 0) 11 x48 hc62, ⟨.inl rfl, .inl rfl, trivial⟩⟩, trivial, rfl⟩, ?_⟩
    obtain ⟨x49, hc62, h⟩ := bnd h
    refine ⟨[], _, _, _, ⟨⟨_, words_Right_c er (List.getD x46 4 0) 25 x49 hc62, ⟨.inl rfl, .inl rfl, trivial⟩⟩, trivial, rfl⟩, ?_⟩
    refine And.intro (by decide) ?_
    let x50 : Int := (IntKind.wrap .u32 ((List.getD x46 7 0) + (bits .u32 .xor (bits .u32 .xor x47 x48) x49)))
    replace h := nm_at x50 rfl h
    refine And.intro (by decide) ?_
    refine And.intro (by decide) ?_
    let x51 : Int := (bits .u32 .and (bits .u32 .xor (IntKind.max .u32) (List.getD x46 4 0)) (List.getD x46 6 0))
    replace h := nm_at x51 rfl h
    let x52 : Int := (bits .u32 .xor (bits .u32 .and (List.getD x46 4 0) (List.getD x46 5 0)) x51)
    replace h := nm_at x52 rfl h
    let x53 : Int := (IntKind.wrap .u32 ((IntKind.wrap .u32 (x50 + x52)) + (List.getD tb_sha_constants (Int.toNat x45) 0)))
    replace h := nm_at x53 rfl h
    obtain ⟨hg, h⟩ := gd h
    refine And.intro hg ?_
    let x54 : Int := (IntKind.wrap .u32 (x53 + (List.getD x43 (Int.toNat x45) 0)))
    replace h := nm_at x54 rfl h
    obtain ⟨x55, hc62, h⟩ := bnd h
    refine ⟨[], _, _, _, ⟨⟨_, words_Right_c er (List.getD x46 0 0) 2 x55 hc62, ⟨.inl rfl, .inl rfl, trivial⟩⟩, trivial, rfl⟩, ?_⟩
    obtain ⟨x56, hc62, h⟩ := bnd h
    refine ⟨[], _, _, _, ⟨⟨_, words_Right_c er (List.getD x46 0 0) 13 x56 hc62, ⟨.inl rfl, .inl rfl, trivial⟩⟩, trivial, rfl⟩, ?_⟩
    obtain ⟨x57, hc62, h⟩ := bnd h
    refine ⟨[], _, _, _, ⟨⟨_, words_Right_c er (List.getD x46 0 0) 22 x57 hc62, ⟨.inl rfl, .inl rfl, trivial⟩⟩, trivial, rfl⟩, ?_⟩
    refine And.intro (by decide) ?_
    refine And.intro (by decide) ?_
    let x58 : Int := (bits .u32 .xor (bits .u32 .and (List.getD x46 0 0) (List.getD x46 1 0)) (bits .u32 .and (List.getD x46 0 0) (List.getD x46 2 0)))
    replace h := nm_at x58 rfl h
    refine And.intro (by decide) ?_
    refine And.intro (by decide) ?_
    let x59 : Int := (bits .u32 .xor x58 (bits .u32 .and (List.getD x46 1 0) (List.getD x46 2 0)))
    replace h := nm_at x59 rfl h
    let x60 : Int := (IntKind.wrap .u32 ((bits .u32 .xor (bits .u32 .xor x55 x56) x57) + x59))
    replace h := nm_at x60 rfl h
    refine Or.inl ?_
    refine And.intro (by decide) ?_
    refine ⟨1, 7, ⟨rfl, rfl⟩, ?_⟩
    refine Or.inl ?_
    refine And.intro (by decide) ?_
    refine And.intro (by decide) ?_
    refine ⟨0, 7, ⟨rfl, rfl⟩, ?_⟩
    refine And.intro (by decide) ?_
    let x61 : Int := (IntKind.wrap .u32 ((List.getD (over x46 1 (List.take 7 (List.take 7 x46))) 4 0) + x54))
    replace h := nm_at x61 rfl h
    refine And.intro (by decide) ?_
    let x62 : List Int := (List.set (over x46 1 (List.take 7 (List.take 7 x46))) 4 x61)
    replace h := nm_at x62 rfl h
    refine And.intro (by decide) ?_
    exact ⟨⟨(n1, (IntKind.wrap .i64 (x45 + 1)), (List.set x62 0 (IntKind.wrap .u32 (x54 + x60)))), h⟩, [], ⟨rfl, ⟨rfl, trivial⟩, ⟨rfl, rfl, rfl, rfl, trivial⟩, rfl⟩, Nat.lt_succ_self _⟩
   ·replace h := cond_f h hb
    exact ⟨[], [], ⟨x46, some_in h⟩, [], rfl, trivial, ⟨rfl, rfl, rfl, rfl, trivial⟩, rfl⟩
theorem sha_Hash_Write_c (b0 k0 : Nat) (hn : [b0, k0].Nodup) (x27 : List Int) (x28 : List Int) (x29 : Int) (res : (List Int) × Nat × Nat × Int) (h : sha_Hash_Write x27 x28 x29 = some res) :
  Fn Tryd.prog (GE er) 60 [(.ptr b0 [] ly125), (.dv (.roI .u8 x27))] [(b0, (.var (.dv (.cons (.ints .u32 8 x28) (.cons (.sc (.slice none 0 0)) (.cons (.sc (.int .u64 x29)) .nil))))))] (.tup []) [(b0, (.var (.cons (.dv (.ints .u32 8 res.1)) (.cons (.sl k0 [] ly5 res.2.1 res.2.2.1) (.dv (.cons (.sc (.int .u64 res.2.2.2)) .nil)))))), (k0, (.rowI .u8 x27))] := by
 refine bE er Tryd.func60 rfl rfl [(0, b0), (1, k0)] [(.ptr 0 [] ly125), (.dv (.roI .u8 x27))] [(.var (.dv (.cons (.ints .u32 8 x28) (.cons (.sc (.slice none 0 0)) (.cons (.sc (.int .u64 x29)) .nil)))))] [1] (.tup []) [(.var (.cons (.dv (.ints .u32 8 res.1)) (.cons (.sl 1 [] ly5 res.2.1 res.2.2.1) (.dv (.cons (.sc (.int .u64 res.2.2.2)) .nil))))), (.rowI .u8 x27)] rfl rfl rfl rfl rfl rfl hn 3 ?_
 replace h := (show sha_Hash_Write x27 x28 x29 = _ from h)
 unfold sha_Hash_Write at h
 let x30 : Int := (IntKind.wrap .u64 (x29 + (IntKind.wrap .u64 (List.length x27 : Int))))
 replace h := nm_at x30 rfl h
 obtain ⟨hg, h⟩ := gd h
 refine And.intro (hg) ?_
 refine ⟨x27, rfl, 0, (List.length x27), ⟨rfl, rfl⟩, ?_⟩
 refine Or.inl ?_
 obtain ⟨r1_0_33, hl1_33, hr1_33⟩ := bnd h
 refine Or.inr ⟨[], {p : (List Int) × Nat × Nat // p = r1_0_33}, ⟨fun | ⟨(x31, x32, x33), _⟩ => [], fun | ⟨(x31, x32, x33), _⟩ => [(0, (.var (.cons (.dv (.ints .u32 8 x31)) (.cons (.sl 1 [] ly5 x32 x33) (.dv (.cons (.sc (.int .u64 x30)) .nil))))))], fun _ => 0⟩, 0, ?_, ?_⟩
 ·rintro ⟨⟨x31, x32, x33⟩, hp⟩
  subst hp
  replace h := hr1_33
  obtain rfl := some_in h
  exact ⟨0, [], [], rfl, rfl, rfl, trivial⟩
 ·replace h := hl1_33
  refine Or.inl ?_
  refine ⟨[], {x : Nat × (List Int) × Nat × Nat // sha_Hash_Write_l1 x27 x30 x.1 x.2.1 x.2.2.1 x.2.2.2 = some r1_0_33}, ⟨fun | ⟨(n1, x36, x37, x38), _⟩ => [], fun | ⟨(n1, x36, x37, x38), _⟩ => [(0, (.var (.cons (.dv (.ints .u32 8 x36)) (.cons (.sl 1 [] ly5 x37 x38) (.dv (.cons (.sc (.int .u64 x30)) .nil))))))], fun | ⟨(n1, x36, x37, x38), _⟩ => n1⟩, [], [], ⟨(FUEL, x28, 0, (List.length x27)), h⟩, ⟨rfl, trivial, ⟨rfl, rfl, trivial⟩, rfl⟩, ?_⟩
  rintro ⟨⟨n1, x36, x37, x38⟩, h⟩
  cases n1 with
  | zero => exact no_none h
  | succ n1 =>
   replace h := (show sha_Hash_Write_l1 x27 x30 (n1 + 1) x36 x37 x38 = _ from h)
   replace h := (sha_Hash_Write_l1.eq_2 .. ).symm.trans h
   refine And.intro (fun hb => ?_) (fun hb => ?_)
   ·replace h := cond_t h hb
    refine Or.inl ?_
    obtain ⟨hg, h⟩ := gd h
    refine And.intro hg ?_
    refine And.intro (by decide) ?_
    refine ⟨x37, 64, ⟨rfl, rfl⟩, ?_⟩
    obtain ⟨x39, hc39, h⟩ := bnd h
    refine ⟨[], _, _, _, ⟨⟨_, sha_state_take_4_c er 0 1 (by decide) x37 64 x36 x37 x38 x30 x27 x39 hc39, ⟨.inl rfl, .inl rfl, trivial⟩⟩, ⟨⟨rfl, rfl⟩, ⟨rfl, rfl⟩, trivial⟩, rfl⟩, ?_⟩
    obtain ⟨hg, h⟩ := gd h
    refine And.intro hg ?_
    refine ⟨(x37 + 64), (Int.toNat ((x38 : Int) - 64)), ⟨rfl, rfl⟩, ?_⟩
    exact ⟨⟨(n1, x39, (x37 + 64), (Int.toNat ((x38 : Int) - 64))), h⟩, [], ⟨rfl, trivial, ⟨rfl, rfl, trivial⟩, rfl⟩, Nat.lt_succ_self _⟩
   ·replace h := cond_f h hb
    exact ⟨[], [], ⟨(x36, x37, x38), some_in h⟩, [], rfl, trivial, ⟨rfl, rfl, trivial⟩, rfl⟩
theorem sha_Hash_Write_2_c (b0 b1 k0 : Nat) (hn : [b0, b1, k0].Nodup) (x27 : List Int) (x28 : List Int) (x29 : Int) (x30 : List Int) (res : (List Int) × Nat × Nat × Int) (h : sha_Hash_Write_2 x27 x28 x29 x30 = some res) :
  Fn Tryd.prog (GE er) 60 [(.ptr b0 [] ly125), (.dv (.roI .u8 x27))] [(b0, (.var (.cons (.dv (.ints .u32 8 x28)) (.cons (.sl b1 [] ly5 0 (List.length x30)) (.dv (.cons (.sc (.int .u64 x29)) .nil)))))), (b1, (.rowI .u8 x30))] (.tup []) [(b0, (.var (.cons (.dv (.ints .u32 8 res.1)) (.cons (.sl k0 [] ly5 res.2.1 res.2.2.1) (.dv (.cons (.sc (.int .u64 res.2.2.2)) .nil)))))), (b1, .dead), (k0, (.rowI .u8 (x30 ++ x27)))] := by
 refine bE er Tryd.func60 rfl rfl [(0, b0), (1, b1), (2, k0)] [(.ptr 0 [] ly125), (.dv (.roI .u8 x27))] [(.var (.cons (.dv (.ints .u32 8 x28)) (.cons (.sl 1 [] ly5 0 (List.length x30)) (.dv (.cons (.sc (.int .u64 x29)) .nil))))), (.rowI .u8 x30)] [2] (.tup []) [(.var (.cons (.dv (.ints .u32 8 res.1)) (.cons (.sl 2 [] ly5 res.2.1 res.2.2.1) (.dv (.cons (.sc (.int .u64 res.2.2.2)) .nil))))), .dead, (.rowI .u8 (x30 ++ x27))] rfl rfl rfl rfl rfl rfl hn 3 ?_
 replace h := (show sha_Hash_Write_2 x27 x28 x29 x30 = _ from h)
 unfold sha_Hash_Write_2 at h
 let x31 : Int := (IntKind.wrap .u64 (x29 + (IntKind.wrap .u64 (List.length x27 : Int))))
 replace h := nm_at x31 rfl h
 obtain ⟨hg, h⟩ := gd h
 refine And.intro (hg) ?_
 refine ⟨(x30 ++ x27), app_cut (cut_full _) (rfl), 0, (List.length (x30 ++ x27)), ⟨rfl, app_ln (rfl)⟩, ?_⟩
 refine Or.inl ?_
 obtain ⟨r1_0_34, hl1_34, hr1_34⟩ := bnd h
 refine Or.inr ⟨[], {p : (List Int) × Nat × Nat // p = r1_0_34}, ⟨fun | ⟨(x32, x33, x34), _⟩ => [], fun | ⟨(x32, x33, x34), _⟩ => [(0, (.var (.cons (.dv (.ints .u32 8 x32)) (.cons (.sl 2 [] ly5 x33 x34) (.dv (.cons (.sc (.int .u64 x31)) .nil))))))], fun _ => 0⟩, 0, ?_, ?_⟩
 ·rintro ⟨⟨x32, x33, x34⟩, hp⟩
  subst hp
  replace h := hr1_34
  obtain rfl := some_in h
  exact ⟨0, [], [], rfl, rfl, rfl, rfl, trivial⟩
 ·replace h := hl1_34
  refine Or.inl ?_
  refine ⟨[], {x : Nat × (List Int) × Nat × Nat // sha_Hash_Write_2_l1 x27 x30 x31 x.1 x.2.1 x.2.2.1 x.2.2.2 = some r1_0_34}, ⟨fun | ⟨(n1, x37, x38, x39), _⟩ => [], fun | ⟨(n1, x37, x38, x39), _⟩ => [(0, (.var (.cons (.dv (.ints .u32 8 x37)) (.cons (.sl 2 [] ly5 x38 x39) (.dv (.cons (.sc (.int .u64 x31)) .nil))))))], fun | ⟨(n1, x37, x38, x39), _⟩ => n1⟩, [], [], ⟨(FUEL, x28, 0, (List.length (x30 ++ x27))), h⟩, ⟨rfl, trivial, ⟨rfl, trivial, rfl, trivial⟩, rfl⟩, ?_⟩
  rintro ⟨⟨n1, x37, x38, x39⟩, h⟩
  cases n1 with
  | zero => exact no_none h
  | succ n1 =>
   replace h := (show sha_Hash_Write_2_l1 x27 x30 x31 (n1 + 1) x37 x38 x39 = _ from h)
   replace h := (sha_Hash_Write_2_l1.eq_2 .. ).symm.trans h
   refine And.intro (fun hb => ?_) (fun hb => ?_)
   ·replace h := cond_t h hb
    refine Or.inl ?_
    obtain ⟨hg, h⟩ := gd h
    refine And.intro hg ?_
    refine And.intro (by decide) ?_
    refine ⟨x38, 64, ⟨rfl, rfl⟩, ?_⟩
    obtain ⟨x40, hc40, h⟩ := bnd h
    refine ⟨[], _, _, _, ⟨⟨_, sha_state_take_4_c er 0 2 (by decide) x38 64 x37 x38 x39 x31 (x30 ++ x27) x40 hc40, ⟨.inl rfl, .inl rfl, trivial⟩⟩, ⟨⟨rfl, rfl⟩, ⟨rfl, rfl⟩, trivial⟩, rfl⟩, ?_⟩
    obtain ⟨hg, h⟩ := gd h
    refine And.intro hg ?_
    refine ⟨(x38 + 64), (Int.toNat ((x39 : Int) - 64)), ⟨rfl, rfl⟩, ?_⟩
    exact ⟨⟨(n1, x40, (x38 + 64), (Int.toNat ((x39 : Int) - 64))), h⟩, [], ⟨rfl, trivial, ⟨rfl, trivial, rfl, trivial⟩, rfl⟩, Nat.lt_succ_self _⟩
   ·replace h := cond_f h hb
    exact ⟨[], [], ⟨(x37, x38, x39), some_in h⟩, [], rfl, trivial, ⟨rfl, trivial, rfl, trivial⟩, rfl⟩
theorem sha_Hash_Write_3_c (b0 b1 k0 : Nat) (hn : [b0, b1, k0].Nodup) (x32 : List Int) (x33 : List Int) (x34 : Nat) (x35 : Nat) (x36 : Int) (x37 : List Int) (res : (List Int) × Nat × Nat × Int) (h : sha_Hash_Write_3 x32 x33 x34 x35 x36 x37 = some res) :
  Fn Tryd.prog (GE er) 60 [(.ptr b0 [] ly125), (.dv (.roI .u8 x32))] [(b0, (.var (.cons (.dv (.ints .u32 8 x33)) (.cons (.sl b1 [] ly5 x34 x35) (.dv (.cons (.sc (.int .u64 x36)) .nil)))))), (b1, (.rowI .u8 x37))] (.tup []) [(b0, (.var (.cons (.dv (.ints .u32 8 res.1)) (.cons (.sl k0 [] ly5 res.2.1 res.2.2.1) (.dv (.cons (.sc (.int .u64 res.2.2.2)) .nil)))))), (b1, .dead), (k0, (.rowI .u8 ((List.take x35 (List.drop x34 x37)) ++ x32)))] := by
 refine bE er Tryd.func60 rfl rfl [(0, b0), (1, b1), (2, k0)] [(.ptr 0 [] ly125), (.dv (.roI .u8 x32))] [(.var (.cons (.dv (.ints .u32 8 x33)) (.cons (.sl 1 [] ly5 x34 x35) (.dv (.cons (.sc (.int .u64 x36)) .nil))))), (.rowI .u8 x37)] [2] (.tup []) [(.var (.cons (.dv (.ints .u32 8 res.1)) (.cons (.sl 2 [] ly5 res.2.1 res.2.2.1) (.dv (.cons (.sc (.int .u64 res.2.2.2)) .nil))))), .dead, (.rowI .u8 ((List.take x35 (List.drop x34 x37)) ++ x32))] rfl rfl rfl rfl rfl rfl hn 3 ?_
 replace h := (show sha_Hash_Write_3 x32 x33 x34 x35 x36 x37 = _ from h)
 unfold sha_Hash_Write_3 at h
 let x38 : Int := (IntKind.wrap .u64 (x36 + (IntKind.wrap .u64 (List.length x32 : Int))))
 replace h := nm_at x38 rfl h
 obtain ⟨hg, h⟩ := gd h
 refine And.intro (hg) ?_
 obtain ⟨hg2, h⟩ := gd h
 refine ⟨((List.take x35 (List.drop x34 x37)) ++ x32), app_cut (rfl) (rfl), 0, (List.length ((List.take x35 (List.drop x34 x37)) ++ x32)), ⟨rfl, cut_ln2 hg2 (rfl)⟩, ?_⟩
 refine Or.inl ?_
 obtain ⟨r1_0_41, hl1_41, hr1_41⟩ := bnd h
 refine Or.inr ⟨[], {p : (List Int) × Nat × Nat // p = r1_0_41}, ⟨fun | ⟨(x39, x40, x41), _⟩ => [], fun | ⟨(x39, x40, x41), _⟩ => [(0, (.var (.cons (.dv (.ints .u32 8 x39)) (.cons (.sl 2 [] ly5 x40 x41) (.dv (.cons (.sc (.int .u64 x38)) .nil))))))], fun _ => 0⟩, 0, ?_, ?_⟩
 ·rintro ⟨⟨x39, x40, x41⟩, hp⟩
  subst hp
  replace h := hr1_41
  obtain rfl := some_in h
  exact ⟨0, [], [], rfl, rfl, rfl, rfl, trivial⟩
 ·replace h := hl1_41
  refine Or.inl ?_
  refine ⟨[], {x : Nat × (List Int) × Nat × Nat // sha_Hash_Write_3_l1 x32 x34 x35 x37 x38 x.1 x.2.1 x.2.2.1 x.2.2.2 = some r1_0_41}, ⟨fun | ⟨(n1, x44, x45, x46), _⟩ => [], fun | ⟨(n1, x44, x45, x46), _⟩ => [(0, (.var (.cons (.dv (.ints .u32 8 x44)) (.cons (.sl 2 [] ly5 x45 x46) (.dv (.cons (.sc (.int .u64 x38)) .nil))))))], fun | ⟨(n1, x44, x45, x46), _⟩ => n1⟩, [], [], ⟨(FUEL, x33, 0, (List.length ((List.take x35 (List.drop x34 x37)) ++ x32))), h⟩, ⟨rfl, trivial, ⟨rfl, trivial, rfl, trivial⟩, rfl⟩, ?_⟩
  rintro ⟨⟨n1, x44, x45, x46⟩, h⟩
  cases n1 with
  | zero => exact no_none h
  | succ n1 =>
   replace h := (show sha_Hash_Write_3_l1 x32 x34 x35 x37 x38 (n1 + 1) x44 x45 x46 = _ from h)
   replace h := (sha_Hash_Write_3_l1.eq_2 .. ).symm.trans h
   refine And.intro (fun hb => ?_) (fun hb => ?_)
   ·replace h := cond_t h hb
    refine Or.inl ?_
    obtain ⟨hg, h⟩ := gd h
    refine And.intro hg ?_
    refine And.intro (by decide) ?_
    refine ⟨x45, 64, ⟨rfl, rfl⟩, ?_⟩
    obtain ⟨x47, hc47, h⟩ := bnd h
    refine ⟨[], _, _, _, ⟨⟨_, sha_state_take_4_c er 0 2 (by decide) x45 64 x44 x45 x46 x38 ((List.take x35 (List.drop x34 x37)) ++ x32) x47 hc47, ⟨.inl rfl, .inl rfl, trivial⟩⟩, ⟨⟨rfl, rfl⟩, ⟨rfl, rfl⟩, trivial⟩, rfl⟩, ?_⟩
    obtain ⟨hg, h⟩ := gd h
    refine And.intro hg ?_
    refine ⟨(x45 + 64), (Int.toNat ((x46 : Int) - 64)), ⟨rfl, rfl⟩, ?_⟩
    exact ⟨⟨(n1, x47, (x45 + 64), (Int.toNat ((x46 : Int) - 64))), h⟩, [], ⟨rfl, trivial, ⟨rfl, trivial, rfl, trivial⟩, rfl⟩, Nat.lt_succ_self _⟩
   ·replace h := cond_f h hb
    exact ⟨[], [], ⟨(x44, x45, x46), some_in h⟩, [], rfl, trivial, ⟨rfl, trivial, rfl, trivial⟩, rfl⟩
theorem slices_Clone_byte_byte_c (k0 : Nat) (hn : [k0].Nodup) (x42 : List Int) (res : (List Int)) (h : slices_Clone_byte_byte x42 = some res) :
  Fn Tryd.prog (GE er) 84 [(.dv (.roI .u8 x42))] [] (.sl k0 [] ly5 0 (List.length res)) [(k0, (.rowI .u8 res))] := by
 refine bE er Tryd.func84 rfl rfl [(1, k0)] [(.dv (.roI .u8 x42))] [] [1] (.sl 1 [] ly5 0 (List.length res)) [(.rowI .u8 res)] rfl rfl rfl rfl rfl rfl hn 3 ?_
 replace h := (show slices_Clone_byte_byte x42 = _ from h)
 unfold slices_Clone_byte_byte at h
 refine And.intro ?_ ?_
 ·intro hnil
  replace hnil : x42 = [] := List.eq_nil_of_length_eq_zero hnil
  replace h : (some ([] : List Int)) = some res := by simpa [hnil] using h
  obtain rfl := some_in h
  exact ⟨1, [(2, (.rowI .u8 ([] : List Int)))], [], rfl, rfl, trivial⟩
 ·refine Or.inl ?_
  obtain ⟨hg, h⟩ := gd h
  refine And.intro (hg) ?_
  refine ⟨(([] : List Int) ++ x42), app_cut (cut_full _) (rfl), 0, (List.length (([] : List Int) ++ x42)), ⟨rfl, app_ln (rfl)⟩, ?_⟩
  refine Or.inl ?_
  obtain rfl := some_in h
  exact ⟨0, [], [], rfl, rfl, trivial⟩
theorem sha_Hash_Copy_c (b0 b1 k0 k1 : Nat) (hn : [b0, b1, k0, k1].Nodup) (x37 : List Int) (x38 : Nat) (x39 : Nat) (x40 : Int) (x41 : List Int) (res : (List Int)) (h : sha_Hash_Copy x37 x38 x39 x40 x41 = some res) :
  Fn Tryd.prog (GE er) 78 [(.ptr b0 [] ly125)] [(b0, (.var (.cons (.dv (.ints .u32 8 x37)) (.cons (.sl b1 [] ly5 x38 x39) (.dv (.cons (.sc (.int .u64 x40)) .nil)))))), (b1, (.rowI .u8 x41))] (.ptr k0 [] ly125) [(b0, (.var (.cons (.dv (.ints .u32 8 x37)) (.cons (.sl b1 [] ly5 x38 x39) (.dv (.cons (.sc (.int .u64 x40)) .nil)))))), (b1, (.rowI .u8 x41)), (k0, (.var (.cons (.dv (.ints .u32 8 x37)) (.cons (.sl k1 [] ly5 0 (List.length res)) (.dv (.cons (.sc (.int .u64 x40)) .nil)))))), (k1, (.rowI .u8 res))] := by
 refine bE er Tryd.func78 rfl rfl [(0, b0), (1, b1), (3, k0), (2, k1)] [(.ptr 0 [] ly125)] [(.var (.cons (.dv (.ints .u32 8 x37)) (.cons (.sl 1 [] ly5 x38 x39) (.dv (.cons (.sc (.int .u64 x40)) .nil))))), (.rowI .u8 x41)] [3, 2] (.ptr 3 [] ly125) [(.var (.cons (.dv (.ints .u32 8 x37)) (.cons (.sl 1 [] ly5 x38 x39) (.dv (.cons (.sc (.int .u64 x40)) .nil))))), (.rowI .u8 x41), (.var (.cons (.dv (.ints .u32 8 x37)) (.cons (.sl 2 [] ly5 0 (List.length res)) (.dv (.cons (.sc (.int .u64 x40)) .nil))))), (.rowI .u8 res)] rfl rfl rfl rfl rfl rfl hn 3 ?_
 replace h := (show sha_Hash_Copy x37 x38 x39 x40 x41 = _ from h)
 unfold sha_Hash_Copy at h
 obtain ⟨x42, hc42, h⟩ := bnd h
 refine ⟨[true], _, _, _, ⟨⟨_, slices_Clone_byte_byte_c er 2 (by decide) (List.take x39 (List.drop x38 x41)) x42 hc42, ⟨.inl rfl, trivial⟩⟩, trivial, rfl⟩, ?_⟩
 refine Or.inl ?_
 obtain rfl := some_in h
 exact ⟨0, [], [], rfl, rfl, rfl, rfl, rfl, trivial⟩
theorem words_PutLittle_c (k0 : Nat) (hn : [k0].Nodup) (x46 : Int) (x47 : Int) (res : (((List Int)) ⊕ Unit)) (h : words_PutLittle x46 x47 = some res) :
  Fn Tryd.prog (GE er) 85 [(.int .u64 x46), (.int .i64 x47)] [] (match res with | (Sum.inl p0) => (.tup [(.sl k0 [] ly5 0 (List.length (List.replicate (Int.toNat x47) (0 : Int)))), (.dv (.sc .nilIface))]) | (Sum.inr _) => (.tup [(.dv (.sc (.slice none 0 0))), (errA er 1)])) (match res with | (Sum.inl p0) => [(k0, (.rowI .u8 p0))] | (Sum.inr _) => []) := by
 refine bE er Tryd.func85 rfl rfl ((match res with | (Sum.inl p0) => [(0, k0)] | (Sum.inr _) => [])) [(.int .u64 x46), (.int .i64 x47)] [] (match res with | (Sum.inl p0) => [0] | (Sum.inr _) => []) (match res with | (Sum.inl p0) => (.tup [(.sl 0 [] ly5 0 (List.length (List.replicate (Int.toNat x47) (0 : Int)))), (.dv (.sc .nilIface))]) | (Sum.inr _) => (.tup [(.dv (.sc (.slice none 0 0))), (errA er 1)])) (match res with | (Sum.inl p0) => [(.rowI .u8 p0)] | (Sum.inr _) => []) rfl rfl (by rcases res with _ | _ <;> rfl) (by rcases res with _ | _ <;> rfl) (by rcases res with _ | _ <;> rfl) (by rcases res with _ | _ <;> rfl) (by rcases res with _ | _ <;> first | exact hn.sublist (.cons_cons _ .slnil) | exact hn.sublist (.cons _ .slnil)) 3 ?_
 replace h := (show words_PutLittle x46 x47 = _ from h)
 unfold words_PutLittle at h
 refine And.intro (fun hb => ?_) (fun hb => ?_)
 ·replace h := cond_t h hb
  obtain rfl := some_in h
  exact ⟨0, [], [], rfl, trivial⟩
 ·replace h := cond_f h hb
  refine And.intro (fun hb => ?_) (fun hb => ?_)
  ·replace h := cond_t h hb
   obtain rfl := some_in h
   exact ⟨0, [], [], rfl, trivial⟩
  ·replace h := cond_f h hb
   obtain ⟨hg, h⟩ := gd h
   refine And.intro hg ?_
   refine Or.inl ?_
   refine ⟨(List.replicate (Int.toNat x47) (0 : Int)), rfl, 0, (List.length (List.replicate (Int.toNat x47) (0 : Int))), ⟨rfl, List.length_replicate ..⟩, ?_⟩
   refine Or.inl ?_
   refine And.intro (fun hb => ?_) (fun hb => ?_)
   ·replace h := cond_t h hb
    obtain ⟨hg, h⟩ := gd h
    refine And.intro hg ?_
    let x48 : List Int := (List.set (List.replicate (Int.toNat x47) (0 : Int)) (Int.toNat 0) (IntKind.wrap .u8 x46))
    replace h := nm_at x48 rfl h
    refine And.intro (by decide) ?_
    refine Or.inr ⟨[], {x : Nat × Int × Int × (List Int) // words_PutLittle_l1 x47 x.1 x.2.1 x.2.2.1 x.2.2.2 = some res}, ⟨fun | ⟨(n1, x49, x50, x51), _⟩ => [(0, (.int .u64 x49)), (4, (.dv (.sc (.slice none 0 0)))), (5, (.dv (.sc .nilIface))), (6, (.sl 0 [] ly5 0 (List.length (List.replicate (Int.toNat x47) (0 : Int))))), (7, (.int .i64 x50))], fun | ⟨(n1, x49, x50, x51), _⟩ => [(0, (.rowI .u8 x51))], fun | ⟨(n1, x49, x50, x51), _⟩ => n1⟩, [], [], ⟨(FUEL, (Int.fdiv x46 (2 ^ 8)), 1, x48), h⟩, ⟨rfl, ⟨rfl, rfl, rfl, rfl, rfl, trivial⟩, ⟨rfl, trivial⟩, rfl⟩, ?_⟩
    rintro ⟨⟨n1, x49, x50, x51⟩, h⟩
    cases n1 with
    | zero => exact no_none h
    | succ n1 =>
     replace h := (show words_PutLittle_l1 x47 (n1 + 1) x49 x50 x51 = _ from h)
     replace h := (words_PutLittle_l1.eq_2 .. ).symm.trans h
     refine And.intro (fun hb => ?_) (fun hb => ?_)
     ·replace h := cond_t h hb
      obtain ⟨hg, h⟩ := gd h
      refine And.intro hg ?_
      refine And.intro (by decide) ?_
      exact ⟨⟨(n1, (Int.fdiv x49 (2 ^ 8)), (IntKind.wrap .i64 (x50 + 1)), (List.set x51 (Int.toNat x50) (IntKind.wrap .u8 x49))), h⟩, [], ⟨rfl, ⟨rfl, rfl, rfl, rfl, rfl, trivial⟩, ⟨rfl, trivial⟩, rfl⟩, Nat.lt_succ_self _⟩
     ·replace h := cond_f h hb
      obtain rfl := some_in h
      exact ⟨0, [], [], rfl, rfl, trivial⟩
   ·replace h := cond_f h hb
    obtain rfl := some_in h
    exact ⟨0, [], [], rfl, rfl, trivial⟩
theorem slices_Reverse_byte_byte_2_c (b0 : Nat) (hn : [b0].Nodup) (x54 : Nat) (x55 : List Int) (res : (List Int)) (h : slices_Reverse_byte_byte_2 x54 x55 = some res) :
  Fn Tryd.prog (GE er) 86 [(.sl b0 [] ly5 0 x54)] [(b0, (.rowI .u8 x55))] (.tup []) [(b0, (.rowI .u8 res))] := by
 refine bE er Tryd.func86 rfl rfl [(0, b0)] [(.sl 0 [] ly5 0 x54)] [(.rowI .u8 x55)] [] (.tup []) [(.rowI .u8 res)] rfl rfl rfl rfl rfl rfl hn 3 ?_
 replace h := (show slices_Reverse_byte_byte_2 x54 x55 = _ from h)
 unfold slices_Reverse_byte_byte_2 at h
 obtain ⟨r1_0_56, hl1_56, hr1_56⟩ := bnd h
 refine Or.inr ⟨[], {p : (List Int) // p = r1_0_56}, ⟨fun | ⟨x56, _⟩ => [], fun | ⟨x56, _⟩ => [(0, (.rowI .u8 x56))], fun _ => 0⟩, 0, ?_, ?_⟩
 ·rintro ⟨x56, hp⟩
  subst hp
  replace h := hr1_56
  obtain rfl := some_in h
  exact ⟨0, [], [], rfl, rfl, trivial⟩
 ·replace h := hl1_56
  refine Or.inl ?_
  refine ⟨[], {x : Nat × Int × Int × (List Int) // slices_Reverse_byte_byte_2_l1 x54 x.1 x.2.1 x.2.2.1 x.2.2.2 = some r1_0_56}, ⟨fun | ⟨(n1, x57, x58, x59), _⟩ => [(2, (.int .i64 x57)), (3, (.int .i64 x58))], fun | ⟨(n1, x57, x58, x59), _⟩ => [(0, (.rowI .u8 x59))], fun | ⟨(n1, x57, x58, x59), _⟩ => n1⟩, [], [], ⟨(FUEL, 0, (IntKind.wrap .i64 ((x54 : Int) - 1)), x55), h⟩, ⟨rfl, ⟨rfl, rfl, trivial⟩, ⟨rfl, trivial⟩, rfl⟩, ?_⟩
  rintro ⟨⟨n1, x57, x58, x59⟩, h⟩
  cases n1 with
  | zero => exact no_none h
  | succ n1 =>
   replace h := (show slices_Reverse_byte_byte_2_l1 x54 (n1 + 1) x57 x58 x59 = _ from h)
   replace h := (slices_Reverse_byte_byte_2_l1.eq_2 .. ).symm.trans h
   refine And.intro (fun hb => ?_) (fun hb => ?_)
   ·replace h := cond_t h hb
    refine Or.inl ?_
    obtain ⟨hg, h⟩ := gd h
    refine And.intro hg ?_
    obtain ⟨hg, h⟩ := gd h
    refine And.intro hg ?_
    obtain ⟨hg, h⟩ := gd h
    refine And.intro hg ?_
    let x60 : List Int := (List.set x59 (Int.toNat x57) (List.getD x59 (Int.toNat x58) 0))
    replace h := nm_at x60 rfl h
    obtain ⟨hg, h⟩ := gd h
    refine And.intro hg ?_
    let x61 : List Int := (List.set x60 (Int.toNat x58) (List.getD x59 (Int.toNat x57) 0))
    replace h := nm_at x61 rfl h
    exact ⟨⟨(n1, (IntKind.wrap .i64 (x57 + 1)), (IntKind.wrap .i64 (x58 - 1)), x61), h⟩, [], ⟨rfl, ⟨rfl, rfl, trivial⟩, ⟨rfl, trivial⟩, rfl⟩, Nat.lt_succ_self _⟩
   ·replace h := cond_f h hb
    exact ⟨[], [], ⟨x59, some_in h⟩, [], rfl, trivial, ⟨rfl, trivial⟩, rfl⟩
theorem slices_Reverse_byte_byte_3_c (res : Unit) (h : slices_Reverse_byte_byte_3 = some res) :
  Fn Tryd.prog (GE er) 86 [(.dv (.sc (.slice none 0 0)))] [] (.tup []) [] := by
 refine bE er Tryd.func86 rfl rfl [] [(.dv (.sc (.slice none 0 0)))] [] [] (.tup []) [] rfl rfl rfl rfl rfl rfl .nil 3 ?_
 replace h := (show slices_Reverse_byte_byte_3 = _ from h)
 unfold slices_Reverse_byte_byte_3 at h
 obtain ⟨r1_0_62, hl1_62, hr1_62⟩ := bnd h
 refine Or.inr ⟨[], {p : Unit // p = r1_0_62}, ⟨fun | ⟨(), _⟩ => [], fun | ⟨(), _⟩ => [], fun _ => 0⟩, 0, ?_, ?_⟩
 ·rintro ⟨⟨⟩, hp⟩
  subst hp
  replace h := hr1_62
  obtain rfl := some_in h
  exact ⟨0, [], [], rfl, trivial⟩
 ·replace h := hl1_62
  refine Or.inl ?_
  refine ⟨[], {x : Nat // slices_Reverse_byte_byte_3_l1 x = some r1_0_62}, ⟨fun | ⟨n1, _⟩ => [(2, (.int .i64 0)), (3, (.int .i64 (-1)))], fun | ⟨n1, _⟩ => [], fun | ⟨n1, _⟩ => n1⟩, [], [], ⟨FUEL, h⟩, ⟨rfl, ⟨rfl, rfl, trivial⟩, trivial, rfl⟩, ?_⟩
  rintro ⟨n1, h⟩
  cases n1 with
  | zero => exact no_none h
  | succ n1 =>
   replace h := (show slices_Reverse_byte_byte_3_l1 (n1 + 1) = _ from h)
   replace h := (slices_Reverse_byte_byte_3_l1.eq_2 .. ).symm.trans h
   refine And.intro (fun h0 => Bool.noConfusion h0) (fun _ => ?_)
   exact ⟨[], [], ⟨(), some_in h⟩, [], rfl, trivial, trivial, rfl⟩
theorem words_PutBig_c (k0 : Nat) (hn : [k0].Nodup) (x44 : Int) (x45 : Int) (res : (((List Int)) ⊕ Unit)) (h : words_PutBig x44 x45 = some res) :
  Fn Tryd.prog (GE er) 79 [(.int .u64 x44), (.int .i64 x45)] [] (match res with | (Sum.inl p0) => (.tup [(.sl k0 [] ly5 0 (List.length (List.replicate (Int.toNat x45) (0 : Int)))), (.dv (.sc .nilIface))]) | (Sum.inr _) => (.tup [(.dv (.sc (.slice none 0 0))), (errA er 1)])) (match res with | (Sum.inl p0) => [(k0, (.rowI .u8 p0))] | (Sum.inr _) => []) := by
 refine bE er Tryd.func79 rfl rfl ((match res with | (Sum.inl p0) => [(0, k0)] | (Sum.inr _) => [])) [(.int .u64 x44), (.int .i64 x45)] [] (match res with | (Sum.inl p0) => [0] | (Sum.inr _) => []) (match res with | (Sum.inl p0) => (.tup [(.sl 0 [] ly5 0 (List.length (List.replicate (Int.toNat x45) (0 : Int)))), (.dv (.sc .nilIface))]) | (Sum.inr _) => (.tup [(.dv (.sc (.slice none 0 0))), (errA er 1)])) (match res with | (Sum.inl p0) => [(.rowI .u8 p0)] | (Sum.inr _) => []) rfl rfl (by rcases res with _ | _ <;> rfl) (by rcases res with _ | _ <;> rfl) (by rcases res with _ | _ <;> rfl) (by rcases res with _ | _ <;> rfl) (by rcases res with _ | _ <;> first | exact hn.sublist (.cons_cons _ .slnil) | exact hn.sublist (.cons _ .slnil)) 3 ?_
 replace h := (show words_PutBig x44 x45 = _ from h)
 unfold words_PutBig at h
 obtain ⟨r47, hc47, h⟩ := bnd h
 rcases r47 with x46 | ⟨⟩
 ·refine ⟨[], _, _, _, ⟨⟨_, words_PutLittle_c er 0 (by decide) x44 x45 (Sum.inl x46) hc47, ⟨.inl rfl, .inl rfl, trivial⟩⟩, trivial, rfl⟩, ?_⟩
  refine Or.inl ?_
  obtain ⟨x47, hc47, h⟩ := bnd h
  refine ⟨[], _, _, _, ⟨⟨_, slices_Reverse_byte_byte_2_c er 0 (by decide) (List.length (List.replicate (Int.toNat x45) (0 : Int))) x46 x47 hc47, ⟨.inl rfl, trivial⟩⟩, ⟨⟨rfl, rfl⟩, trivial⟩, rfl⟩, ?_⟩
  obtain rfl := some_in h
  exact ⟨0, [], [], rfl, rfl, trivial⟩
 ·refine ⟨[], _, _, _, ⟨⟨_, words_PutLittle_c er 0 (by decide) x44 x45 (Sum.inr ()) hc47, ⟨.inl rfl, .inl rfl, trivial⟩⟩, trivial, rfl⟩, ?_⟩
  obtain ⟨r47, hc47, h⟩ := bnd h
  refine ⟨[], _, _, _, ⟨⟨_, slices_Reverse_byte_byte_3_c er r47 hc47, ⟨.inl rfl, trivial⟩⟩, trivial, rfl⟩, ?_⟩
  obtain rfl := some_in h
  exact ⟨0, [], [], rfl, trivial⟩
theorem sha_Hash_Sum_c (b0 b1 : Nat) (hn : [b0, b1].Nodup) (x32 : List Int) (x33 : Nat) (x34 : Nat) (x35 : Int) (x36 : List Int) (res : (List Int)) (h : sha_Hash_Sum x32 x33 x34 x35 x36 = some res) :
  Fn Tryd.prog (GE er) 62 [(.ptr b0 [] ly125)] [(b0, (.var (.cons (.dv (.ints .u32 8 x32)) (.cons (.sl b1 [] ly5 x33 x34) (.dv (.cons (.sc (.int .u64 x35)) .nil)))))), (b1, (.rowI .u8 x36))] (.dv (.ints .u8 32 res)) [(b0, (.var (.cons (.dv (.ints .u32 8 x32)) (.cons (.sl b1 [] ly5 x33 x34) (.dv (.cons (.sc (.int .u64 x35)) .nil)))))), (b1, (.rowI .u8 x36))] := by
 refine bE er Tryd.func62 rfl rfl [(0, b0), (1, b1)] [(.ptr 0 [] ly125)] [(.var (.cons (.dv (.ints .u32 8 x32)) (.cons (.sl 1 [] ly5 x33 x34) (.dv (.cons (.sc (.int .u64 x35)) .nil))))), (.rowI .u8 x36)] [] (.dv (.ints .u8 32 res)) [(.var (.cons (.dv (.ints .u32 8 x32)) (.cons (.sl 1 [] ly5 x33 x34) (.dv (.cons (.sc (.int .u64 x35)) .nil))))), (.rowI .u8 x36)] rfl rfl rfl rfl rfl rfl hn 3 ?_
 replace h := (show sha_Hash_Sum x32 x33 x34 x35 x36 = _ from h)
 unfold sha_Hash_Sum at h
 obtain ⟨x37, hc72, h⟩ := bnd h
 refine ⟨[], _, _, _, ⟨⟨_, sha_Hash_Copy_c er 0 1 3 4 (by decide) x32 x33 x34 x35 x36 x37 hc72, ⟨.inl rfl, trivial⟩⟩, ⟨⟨rfl, rfl⟩, ⟨rfl, rfl⟩, trivial⟩, rfl⟩, ?_⟩
 obtain ⟨r72, hc72, h⟩ := bnd h
 rcases r72 with x38 | ⟨⟩
 ·refine ⟨[], _, _, _, ⟨⟨_, words_PutBig_c er 5 (by decide) (IntKind.wrap .u64 (8 * x35)) 8 (Sum.inl x38) hc72, ⟨.inl rfl, .inl rfl, trivial⟩⟩, trivial, rfl⟩, ?_⟩
  refine Or.inl ?_
  refine And.intro (fun h0 => Bool.noConfusion h0) (fun _ => ?_)
  refine Or.inl ?_
  obtain ⟨r72, hc72, h⟩ := bnd h
  obtain ⟨x39, x40, x41, x42⟩ := r72
  refine ⟨[false, true], _, _, _, ⟨⟨_, sha_Hash_Write_2_c er 3 4 7 (by decide) [128] x32 x35 x37 (x39, x40, x41, x42) hc72, ⟨.inl rfl, ve_full _ _, trivial⟩⟩, ⟨⟨rfl, rfl⟩, ⟨rfl, rfl⟩, trivial⟩, rfl⟩, ?_⟩
  obtain ⟨r1_0_47, hl1_47, hr1_47⟩ := bnd h
  refine Or.inr ⟨[25], {p : (List Int) × Nat × Nat × Int × (List Int) // p = r1_0_47}, ⟨fun | ⟨(x43, x44, x45, x46, x47), _⟩ => [], fun | ⟨(x43, x44, x45, x46, x47), _⟩ => [(3, (.var (.cons (.dv (.ints .u32 8 x43)) (.cons (.sl 7 [] ly5 x44 x45) (.dv (.cons (.sc (.int .u64 x46)) .nil)))))), (7, (.rowI .u8 x47))], fun _ => 0⟩, 0, ?_, ?_⟩
  ·rintro ⟨⟨x43, x44, x45, x46, x47⟩, hp⟩
   subst hp
   replace h := hr1_47
   obtain ⟨r72, hc72, h⟩ := bnd h
   obtain ⟨x57, x58, x59, x60⟩ := r72
   refine ⟨[false, true], _, _, _, ⟨⟨_, sha_Hash_Write_3_c er 3 7 8 (by decide) (List.take (List.length (List.replicate (Int.toNat 8) (0 : Int))) x38) x43 x44 x45 x46 x47 (x57, x58, x59, x60) hc72, ⟨.inl rfl, .inl rfl, trivial⟩⟩, ⟨⟨rfl, rfl⟩, ⟨rfl, rfl⟩, trivial⟩, rfl⟩, ?_⟩
   let x61 : List Int := ((List.take x45 (List.drop x44 x47)) ++ (List.take (List.length (List.replicate (Int.toNat 8) (0 : Int))) x38))
   replace h := nm_at x61 rfl h
   obtain ⟨r2_1_62, hl2_62, hr2_62⟩ := bnd h
   refine Or.inr ⟨[37, 41], {p : (List Int) // p = r2_1_62}, ⟨fun | ⟨x62, _⟩ => [], fun | ⟨x62, _⟩ => [(9, (.var (.dv (.ints .u8 32 x62))))], fun _ => 0⟩, 0, ?_, ?_⟩
   ·rintro ⟨x62, hp⟩
    subst hp
    replace h := hr2_62
    obtain rfl := some_in h
    exact ⟨0, [], [], rfl, rfl, rfl, trivial⟩
   ·replace h := hl2_62
    refine Or.inl ?_
    refine ⟨[37], {x : Nat × Int × (List Int) // sha_Hash_Sum_l2 x57 x.1 x.2.1 x.2.2 = some r2_1_62}, ⟨fun | ⟨(n2, x63, x64), _⟩ => [(42, (.int .i64 x63))], fun | ⟨(n2, x63, x64), _⟩ => [(9, (.var (.dv (.ints .u8 32 x64))))], fun | ⟨(n2, x63, x64), _⟩ => n2⟩, [], [], ⟨(FUEL, 0, (List.replicate 32 (0 : Int))), h⟩, ⟨rfl, ⟨rfl, trivial⟩, ⟨rfl, rfl, rfl, rfl, trivial, rfl, rfl, trivial, rfl, rfl, trivial⟩, rfl⟩, ?_⟩
    rintro ⟨⟨n2, x63, x64⟩, h⟩
    cases n2 with
    | zero => exact no_none h
    | succ n2 =>
     replace h := (show sha_Hash_Sum_l2 x57 (n2 + 1) x63 x64 = _ from h)
     replace h := (sha_Hash_Sum_l2.eq_2 .. ).symm.trans h
     refine And.intro (fun hb => ?_) (fun hb => ?_)
     ·replace h := cond_t h hb
      refine Or.inl ?_
      obtain ⟨hg, h⟩ := gd h
      refine And.intro hg ?_
      refine And.intro (by decide) ?_
      let x65 : Int := (IntKind.wrap .u8 (Int.fdiv (List.getD x57 (Int.toNat x63) 0) (2 ^ 24)))
      replace h := nm_at x65 rfl h
      refine And.intro (by decide) ?_
      let x66 : Int := (IntKind.wrap .u8 (Int.fdiv (List.getD x57 (Int.toNat x63) 0) (2 ^ 16)))
      replace h := nm_at x66 rfl h
      refine And.intro (by decide) ?_
      let x67 : Int := (IntKind.wrap .u8 (Int.fdiv (List.getD x57 (Int.toNat x63) 0) (2 ^ 8)))
      replace h := nm_at x67 rfl h
      obtain ⟨hg, h⟩ := gd h
      refine And.intro hg ?_
      obtain ⟨hg, h⟩ := gd h
      refine And.intro hg ?_
      let x68 : Nat := (Int.toNat (IntKind.wrap .i64 ((IntKind.wrap .i64 (4 * x63)) + 1)))
      replace h := nm_at x68 rfl h
      let x69 : List Int := (List.set (List.set x64 (Int.toNat (IntKind.wrap .i64 (4 * x63))) x65) x68 x66)
      replace h := nm_at x69 rfl h
      obtain ⟨hg, h⟩ := gd h
      refine And.intro hg ?_
      let x70 : Nat := (Int.toNat (IntKind.wrap .i64 ((IntKind.wrap .i64 (4 * x63)) + 2)))
      replace h := nm_at x70 rfl h
      obtain ⟨hg, h⟩ := gd h
      refine And.intro hg ?_
      let x71 : Nat := (Int.toNat (IntKind.wrap .i64 ((IntKind.wrap .i64 (4 * x63)) + 3)))
      replace h := nm_at x71 rfl h
      let x72 : List Int := (List.set (List.set x69 x70 x67) x71 (IntKind.wrap .u8 (List.getD x57 (Int.toNat x63) 0)))
      replace h := nm_at x72 rfl h
      exact ⟨⟨(n2, (IntKind.wrap .i64 (x63 + 1)), x72), h⟩, [], ⟨rfl, ⟨rfl, trivial⟩, ⟨rfl, rfl, rfl, rfl, trivial, rfl, rfl, trivial, rfl, rfl, trivial⟩, rfl⟩, Nat.lt_succ_self _⟩
     ·replace h := cond_f h hb
      exact ⟨[], [], ⟨x64, some_in h⟩, [], rfl, trivial, ⟨rfl, rfl, rfl, rfl, trivial, rfl, rfl, trivial, rfl, rfl, trivial⟩, rfl⟩
  ·replace h := hl1_47
   refine Or.inl ?_
   refine ⟨[25], {x : Nat × (List Int) × Nat × Nat × Int × (List Int) // sha_Hash_Sum_l1 x.1 x.2.1 x.2.2.1 x.2.2.2.1 x.2.2.2.2.1 x.2.2.2.2.2 = some r1_0_47}, ⟨fun | ⟨(n1, x48, x49, x50, x51, x52), _⟩ => [], fun | ⟨(n1, x48, x49, x50, x51, x52), _⟩ => [(3, (.var (.cons (.dv (.ints .u32 8 x48)) (.cons (.sl 7 [] ly5 x49 x50) (.dv (.cons (.sc (.int .u64 x51)) .nil)))))), (7, (.rowI .u8 x52))], fun | ⟨(n1, x48, x49, x50, x51, x52), _⟩ => n1⟩, [], [], ⟨(FUEL, x39, x40, x41, x42, (x37 ++ [128])), h⟩, ⟨rfl, trivial, ⟨rfl, rfl, rfl, rfl, trivial, rfl, rfl, rfl, trivial⟩, rfl⟩, ?_⟩
   rintro ⟨⟨n1, x48, x49, x50, x51, x52⟩, h⟩
   cases n1 with
   | zero => exact no_none h
   | succ n1 =>
    replace h := (show sha_Hash_Sum_l1 (n1 + 1) x48 x49 x50 x51 x52 = _ from h)
    replace h := (sha_Hash_Sum_l1.eq_2 .. ).symm.trans h
    refine And.intro (fun hb => ?_) (fun hb => ?_)
    ·replace h := cond_t h hb
     refine Or.inl ?_
     refine Or.inl ?_
     obtain ⟨r56, hc56, h⟩ := bnd h
     obtain ⟨x53, x54, x55, x56⟩ := r56
     refine ⟨[false, true], _, _, _, ⟨⟨_, sha_Hash_Write_3_c er 3 7 9 (by decide) [0] x48 x49 x50 x51 x52 (x53, x54, x55, x56) hc56, ⟨.inl rfl, ve_full _ _, trivial⟩⟩, ⟨⟨rfl, rfl⟩, ⟨rfl, rfl⟩, trivial⟩, rfl⟩, ?_⟩
     exact ⟨⟨(n1, x53, x54, x55, x56, ((List.take x50 (List.drop x49 x52)) ++ [0])), h⟩, [(7, 9)], ⟨rfl, trivial, ⟨rfl, rfl, rfl, rfl, trivial, rfl, rfl, rfl, trivial⟩, rfl⟩, Nat.lt_succ_self _⟩
    ·replace h := cond_f h hb
     exact ⟨[], [], ⟨(x48, x49, x50, x51, x52), some_in h⟩, [], rfl, trivial, ⟨rfl, rfl, rfl, rfl, trivial, rfl, rfl, rfl, trivial⟩, rfl⟩
 ·refine ⟨[], _, _, _, ⟨⟨_, words_PutBig_c er 5 (by decide) (IntKind.wrap .u64 (8 * x35)) 8 (Sum.inr ()) hc72, ⟨.inl rfl, .inl rfl, trivial⟩⟩, trivial, rfl⟩, ?_⟩
  refine And.intro (fun _ => ?_) (fun h0 => Bool.noConfusion h0)
  obtain rfl := some_in h
  exact ⟨0, [], [], rfl, rfl, rfl, trivial⟩
theorem sha_Sum_c (x25 : List (List Int)) (res : (List Int)) (h : sha_Sum x25 = some res) :
  Fn Tryd.prog (GE er) 63 [(.dv (.ro ly22 (List.length x25) (rw_ (fun q => .roI .u8 q) [] x25)))] [] (.dv (.ints .u8 32 res)) [] := by
 refine bE er Tryd.func63 rfl rfl [] [(.dv (.ro ly22 (List.length x25) (rw_ (fun q => .roI .u8 q) [] x25)))] [] [] (.dv (.ints .u8 32 res)) [] rfl rfl rfl rfl rfl rfl .nil 3 ?_
 replace h := (show sha_Sum x25 = _ from h)
 unfold sha_Sum at h
 obtain ⟨x26, hc48, h⟩ := bnd h
 refine ⟨[], _, _, _, ⟨⟨_, sha_New_c er 1 (by decide) x26 hc48, trivial⟩, trivial, rfl⟩, ?_⟩
 obtain ⟨r1_0_31, hl1_31, hr1_31⟩ := bnd h
 refine Or.inr ⟨[8], {p : (List Int) × Nat × Nat × Int × (List Int) // p = r1_0_31}, ⟨fun | ⟨(x27, x28, x29, x30, x31), _⟩ => [], fun | ⟨(x27, x28, x29, x30, x31), _⟩ => [(1, (.var (.cons (.dv (.ints .u32 8 x27)) (.cons (.sl 2 [] ly5 x28 x29) (.dv (.cons (.sc (.int .u64 x30)) .nil)))))), (2, (.rowI .u8 x31))], fun _ => 0⟩, 1, ?_, ?_⟩
 ·rintro ⟨⟨x27, x28, x29, x30, x31⟩, hp⟩
  subst hp
  replace h := hr1_31
  obtain ⟨x48, hc48, h⟩ := bnd h
  refine ⟨[], _, _, _, ⟨⟨_, sha_Hash_Sum_c er 1 2 (by decide) x27 x28 x29 x30 x31 x48 hc48, ⟨.inl rfl, trivial⟩⟩, ⟨⟨rfl, rfl⟩, ⟨rfl, rfl⟩, trivial⟩, rfl⟩, ?_⟩
  obtain rfl := some_in h
  exact ⟨0, [], [], rfl, trivial⟩
 ·replace h := hl1_31
  refine Or.inl ?_
  refine ⟨[], {x : Nat × Int × (List Int) × Nat × Nat × Int × (List Int) // sha_Sum_l1 x25 x.1 x.2.1 x.2.2.1 x.2.2.2.1 x.2.2.2.2.1 x.2.2.2.2.2.1 x.2.2.2.2.2.2 = some r1_0_31}, ⟨fun | ⟨(n1, x37, x38, x39, x40, x41, x42), _⟩ => [(9, (.int .i64 x37))], fun | ⟨(n1, x37, x38, x39, x40, x41, x42), _⟩ => [(1, (.var (.cons (.dv (.ints .u32 8 x38)) (.cons (.sl 2 [] ly5 x39 x40) (.dv (.cons (.sc (.int .u64 x41)) .nil)))))), (2, (.rowI .u8 x42))], fun | ⟨(n1, x37, x38, x39, x40, x41, x42), _⟩ => n1⟩, [], [(1, [1], .rowI .u8 [])], ⟨(FUEL, 0, x26, 0, (List.length ([] : List Int)), 0, ([] : List Int)), h⟩, ⟨rfl, ⟨rfl, trivial⟩, ⟨rfl, rfl, rfl, trivial⟩, rfl⟩, ?_⟩
  rintro ⟨⟨n1, x37, x38, x39, x40, x41, x42⟩, h⟩
  cases n1 with
  | zero => exact no_none h
  | succ n1 =>
   replace h := (show sha_Sum_l1 x25 (n1 + 1) x37 x38 x39 x40 x41 x42 = _ from h)
   replace h := (sha_Sum_l1.eq_2 .. ).symm.trans h
   refine And.intro (fun hb => ?_) (fun hb => ?_)
   ·replace h := cond_t h hb
    refine Or.inl ?_
    obtain ⟨hg, h⟩ := gd h
    refine And.intro hg ?_
    obtain ⟨r47, hc47, h⟩ := bnd h
    obtain ⟨x43, x44, x45, x46⟩ := r47
    refine ⟨[], _, _, _, ⟨⟨_, sha_Hash_Write_3_c er 1 2 3 (by decide) (List.getD x25 (Int.toNat x37) []) x38 x39 x40 x41 x42 (x43, x44, x45, x46) hc47, ⟨.inl rfl, .inl rfl, trivial⟩⟩, ⟨⟨rfl, rfl⟩, ⟨rfl, rfl⟩, trivial⟩, rfl⟩, ?_⟩
    let x47 : List Int := ((List.take x40 (List.drop x39 x42)) ++ (List.getD x25 (Int.toNat x37) []))
    replace h := nm_at x47 rfl h
    exact ⟨⟨(n1, (IntKind.wrap .i64 (x37 + 1)), x43, x44, x45, x46, x47), h⟩, [(2, 3)], ⟨rfl, ⟨rfl, trivial⟩, ⟨rfl, rfl, rfl, trivial⟩, rfl⟩, Nat.lt_succ_self _⟩
   ·replace h := cond_f h hb
    exact ⟨[], [], ⟨(x38, x39, x40, x41, x42), some_in h⟩, [], rfl, trivial, ⟨rfl, rfl, rfl, trivial⟩, rfl⟩
theorem mac_padded_c (k0 : Nat) (hn : [k0].Nodup) (x23 : List Int) (x24 : Int) (res : (List Int)) (h : mac_padded x23 x24 = some res) :
  Fn Tryd.prog (GE er) 61 [(.dv (.roI .u8 x23)), (.int .u8 x24)] [] (.sl k0 [] ly5 0 (List.length (List.replicate 64 (0 : Int)))) [(k0, (.rowI .u8 res))] := by
 refine bE er Tryd.func61 rfl rfl [(0, k0)] [(.dv (.roI .u8 x23)), (.int .u8 x24)] [] [0] (.sl 0 [] ly5 0 (List.length (List.replicate 64 (0 : Int)))) [(.rowI .u8 res)] rfl rfl rfl rfl rfl rfl hn 3 ?_
 replace h := (show mac_padded x23 x24 = _ from h)
 unfold mac_padded at h
 refine And.intro (by decide) ?_
 refine Or.inl ?_
 refine ⟨(List.replicate 64 (0 : Int)), rfl, 0, (List.length (List.replicate 64 (0 : Int))), ⟨rfl, List.length_replicate ..⟩, ?_⟩
 refine Or.inl ?_
 obtain ⟨r1_0_25, hl1_25, hr1_25⟩ := bnd h
 refine Or.inr ⟨[], (({p : (List Int) // (Sum.inl p) = r1_0_25}) ⊕ ({p : Unit // (Sum.inr p) = r1_0_25})), ⟨fun | (Sum.inl (⟨x25, _⟩)) => [(0, (.sl 1 [] ly5 0 32))] | (Sum.inr (⟨(), _⟩)) => [(0, (.dv (.roI .u8 x23)))], fun | (Sum.inl (⟨x25, _⟩)) => [(1, (.var (.dv (.ints .u8 32 x25))))] | (Sum.inr (⟨(), _⟩)) => [], fun _ => 0⟩, 1, ?_, ?_⟩
 ·rintro (⟨x25, hp⟩ | ⟨⟨⟩, hp⟩)
  ·subst hp
   replace h := hr1_25
   refine ⟨(over (List.replicate 64 (0 : Int)) 0 (List.take (List.length (List.replicate 64 (0 : Int))) (List.take 32 x25))), rfl, ?_⟩
   let x27 : List Int := (over (List.replicate 64 (0 : Int)) 0 (List.take (List.length (List.replicate 64 (0 : Int))) (List.take 32 x25)))
   replace h := nm_at x27 rfl h
   let x28 : Int := (min (List.length (List.take 32 x25)) (List.length (List.replicate 64 (0 : Int))) : Nat)
   replace h := nm_at x28 rfl h
   obtain ⟨r2_0_29, hl2_29, hr2_29⟩ := bnd h
   refine Or.inr ⟨[1, 18, 20], {p : (List Int) // p = r2_0_29}, ⟨fun | ⟨x29, _⟩ => [], fun | ⟨x29, _⟩ => [(0, (.rowI .u8 x29))], fun _ => 0⟩, 0, ?_, ?_⟩
   ·rintro ⟨x29, hp⟩
    subst hp
    replace h := hr2_29
    obtain rfl := some_in h
    exact ⟨0, [], [], rfl, rfl, trivial⟩
   ·replace h := hl2_29
    refine Or.inl ?_
    refine ⟨[18], {x : Nat × Int × (List Int) // mac_padded_l1 x24 x.1 x.2.1 x.2.2 = some r2_0_29}, ⟨fun | ⟨(n1, x30, x31), _⟩ => [(21, (.int .i64 x30))], fun | ⟨(n1, x30, x31), _⟩ => [(0, (.rowI .u8 x31))], fun | ⟨(n1, x30, x31), _⟩ => n1⟩, [], [], ⟨(FUEL, 0, x27), h⟩, ⟨rfl, ⟨rfl, trivial⟩, ⟨rfl, rfl, trivial⟩, rfl⟩, ?_⟩
    rintro ⟨⟨n1, x30, x31⟩, h⟩
    cases n1 with
    | zero => exact no_none h
    | succ n1 =>
     replace h := (show mac_padded_l1 x24 (n1 + 1) x30 x31 = _ from h)
     replace h := (mac_padded_l1.eq_2 .. ).symm.trans h
     let x32 : Bool := (decide (x30 < ((List.length (List.replicate 64 (0 : Int))) : Int)))
     replace h := nm_at x32 rfl h
     refine And.intro (fun hb => ?_) (fun hb => ?_)
     ·replace h := cond_t h hb
      refine Or.inl ?_
      obtain ⟨hg, h⟩ := gd h
      refine And.intro hg ?_
      obtain ⟨hg, h⟩ := gd h
      refine And.intro hg ?_
      let x33 : List Int := (List.set x31 (Int.toNat x30) (bits .u8 .xor (List.getD x31 (Int.toNat x30) 0) x24))
      replace h := nm_at x33 rfl h
      exact ⟨⟨(n1, (IntKind.wrap .i64 (x30 + 1)), x33), h⟩, [], ⟨rfl, ⟨rfl, trivial⟩, ⟨rfl, rfl, trivial⟩, rfl⟩, Nat.lt_succ_self _⟩
     ·replace h := cond_f h hb
      exact ⟨[], [], ⟨x31, some_in h⟩, [], rfl, trivial, ⟨rfl, rfl, trivial⟩, rfl⟩
  ·subst hp
   replace h := hr1_25
   refine ⟨(over (List.replicate 64 (0 : Int)) 0 (List.take (List.length (List.replicate 64 (0 : Int))) x23)), rfl, ?_⟩
   let x34 : List Int := (over (List.replicate 64 (0 : Int)) 0 (List.take (List.length (List.replicate 64 (0 : Int))) x23))
   replace h := nm_at x34 rfl h
   let x35 : Int := (min (List.length x23) (List.length (List.replicate 64 (0 : Int))) : Nat)
   replace h := nm_at x35 rfl h
   obtain ⟨r3_1_36, hl3_36, hr3_36⟩ := bnd h
   refine Or.inr ⟨[1, 18, 20], {p : (List Int) // p = r3_1_36}, ⟨fun | ⟨x36, _⟩ => [], fun | ⟨x36, _⟩ => [(0, (.rowI .u8 x36))], fun _ => 0⟩, 0, ?_, ?_⟩
   ·rintro ⟨x36, hp⟩
    subst hp
    replace h := hr3_36
    obtain rfl := some_in h
    exact ⟨0, [], [], rfl, rfl, trivial⟩
   ·replace h := hl3_36
    refine Or.inl ?_
    refine ⟨[18], {x : Nat × Int × (List Int) // mac_padded_l2 x24 x.1 x.2.1 x.2.2 = some r3_1_36}, ⟨fun | ⟨(n2, x37, x38), _⟩ => [(21, (.int .i64 x37))], fun | ⟨(n2, x37, x38), _⟩ => [(0, (.rowI .u8 x38))], fun | ⟨(n2, x37, x38), _⟩ => n2⟩, [], [], ⟨(FUEL, 0, x34), h⟩, ⟨rfl, ⟨rfl, trivial⟩, ⟨rfl, trivial, trivial⟩, rfl⟩, ?_⟩
    rintro ⟨⟨n2, x37, x38⟩, h⟩
    cases n2 with
    | zero => exact no_none h
    | succ n2 =>
     replace h := (show mac_padded_l2 x24 (n2 + 1) x37 x38 = _ from h)
     replace h := (mac_padded_l2.eq_2 .. ).symm.trans h
     let x39 : Bool := (decide (x37 < ((List.length (List.replicate 64 (0 : Int))) : Int)))
     replace h := nm_at x39 rfl h
     refine And.intro (fun hb => ?_) (fun hb => ?_)
     ·replace h := cond_t h hb
      refine Or.inl ?_
      obtain ⟨hg, h⟩ := gd h
      refine And.intro hg ?_
      obtain ⟨hg, h⟩ := gd h
      refine And.intro hg ?_
      let x40 : List Int := (List.set x38 (Int.toNat x37) (bits .u8 .xor (List.getD x38 (Int.toNat x37) 0) x24))
      replace h := nm_at x40 rfl h
      exact ⟨⟨(n2, (IntKind.wrap .i64 (x37 + 1)), x40), h⟩, [], ⟨rfl, ⟨rfl, trivial⟩, ⟨rfl, trivial, trivial⟩, rfl⟩, Nat.lt_succ_self _⟩
     ·replace h := cond_f h hb
      exact ⟨[], [], ⟨x38, some_in h⟩, [], rfl, trivial, ⟨rfl, trivial, trivial⟩, rfl⟩
 ·replace h := hl1_25
  refine And.intro (fun hb => ?_) (fun hb => ?_)
  ·replace h := cond_t h hb
   refine Or.inl ?_
   refine ⟨(List.length [x23]), (rw_ (fun q => .roI .u8 q) [] [x23]), ⟨rfl, fun j hj => match j, hj with | 0, _ => rfl | _ + 1, hj => absurd hj (by omega)⟩, ?_⟩
   refine Or.inl ?_
   obtain ⟨x26, hc26, h⟩ := bnd h
   refine ⟨[true], _, _, _, ⟨⟨_, sha_Sum_c er [x23] x26 hc26, ⟨.inl rfl, trivial⟩⟩, trivial, rfl⟩, ?_⟩
   refine Or.inl ?_
   refine And.intro (by omega) ?_
   refine ⟨0, 32, ⟨rfl, rfl⟩, ?_⟩
   exact ⟨[], [], (Sum.inl (⟨x26, some_in h⟩)), [(1, 2)], rfl, ⟨rfl, trivial⟩, ⟨rfl, rfl, trivial⟩, rfl⟩
  ·replace h := cond_f h hb
   exact ⟨[], [], (Sum.inr (⟨(), some_in h⟩)), [], rfl, ⟨rfl, trivial⟩, ⟨rfl, trivial, trivial⟩, rfl⟩
theorem sha_Sum_2_c (b0 b1 b2 : Nat) (hn : [b0, b1, b2].Nodup) (x53 : Nat) (x54 : Nat) (x55 : List Int) (x56 : List Int) (res : (List Int)) (h : sha_Sum_2 x53 x54 x55 x56 = some res) :
  Fn Tryd.prog (GE er) 63 [(.vs b0 0 2)] [(b0, (.var (.cons (.sl b1 [] ly5 0 x53) (.cons (.sl b2 [] ly5 0 x54) (.dv .nil))))), (b1, (.rowI .u8 x55)), (b2, (.var (.dv (.ints .u8 32 x56))))] (.dv (.ints .u8 32 res)) [(b0, (.var (.cons (.sl b1 [] ly5 0 x53) (.cons (.sl b2 [] ly5 0 x54) (.dv .nil))))), (b1, (.rowI .u8 x55)), (b2, (.var (.dv (.ints .u8 32 x56))))] := by
 refine bE er Tryd.func63 rfl rfl [(0, b0), (1, b1), (2, b2)] [(.vs 0 0 2)] [(.var (.cons (.sl 1 [] ly5 0 x53) (.cons (.sl 2 [] ly5 0 x54) (.dv .nil)))), (.rowI .u8 x55), (.var (.dv (.ints .u8 32 x56)))] [] (.dv (.ints .u8 32 res)) [(.var (.cons (.sl 1 [] ly5 0 x53) (.cons (.sl 2 [] ly5 0 x54) (.dv .nil)))), (.rowI .u8 x55), (.var (.dv (.ints .u8 32 x56)))] rfl rfl rfl rfl rfl rfl hn 3 ?_
 replace h := (show sha_Sum_2 x53 x54 x55 x56 = _ from h)
 unfold sha_Sum_2 at h
 obtain ⟨x57, hc72, h⟩ := bnd h
 refine ⟨[], _, _, _, ⟨⟨_, sha_New_c er 4 (by decide) x57 hc72, trivial⟩, trivial, rfl⟩, ?_⟩
 obtain ⟨r1_0_62, hl1_62, hr1_62⟩ := bnd h
 refine Or.inr ⟨[8], {p : (List Int) × Nat × Nat × Int × (List Int) // p = r1_0_62}, ⟨fun | ⟨(x58, x59, x60, x61, x62), _⟩ => [], fun | ⟨(x58, x59, x60, x61, x62), _⟩ => [(4, (.var (.cons (.dv (.ints .u32 8 x58)) (.cons (.sl 5 [] ly5 x59 x60) (.dv (.cons (.sc (.int .u64 x61)) .nil)))))), (5, (.rowI .u8 x62))], fun _ => 0⟩, 1, ?_, ?_⟩
 ·rintro ⟨⟨x58, x59, x60, x61, x62⟩, hp⟩
  subst hp
  replace h := hr1_62
  obtain ⟨x72, hc72, h⟩ := bnd h
  refine ⟨[], _, _, _, ⟨⟨_, sha_Hash_Sum_c er 4 5 (by decide) x58 x59 x60 x61 x62 x72 hc72, ⟨.inl rfl, trivial⟩⟩, ⟨⟨rfl, rfl⟩, ⟨rfl, rfl⟩, trivial⟩, rfl⟩, ?_⟩
  obtain rfl := some_in h
  exact ⟨0, [], [], rfl, rfl, rfl, rfl, trivial⟩
 ·replace h := hl1_62
  refine Or.inr ⟨30, ?_⟩
  refine And.intro (fun _ => ?_) (fun h0 => Bool.noConfusion h0)
  refine Or.inl ?_
  refine And.intro (by decide) ?_
  obtain ⟨r71, hc71, h⟩ := bnd h
  obtain ⟨x63, x64, x65, x66⟩ := r71
  refine ⟨[false, true], _, _, _, ⟨⟨_, sha_Hash_Write_c er 4 5 (by decide) (List.take x53 x55) x57 0 (x63, x64, x65, x66) hc71, ⟨.inl rfl, .inl rfl, trivial⟩⟩, ⟨⟨rfl, rfl⟩, trivial⟩, rfl⟩, ?_⟩
  refine And.intro (fun _ => ?_) (fun h0 => Bool.noConfusion h0)
  refine Or.inl ?_
  refine And.intro (by decide) ?_
  obtain ⟨r71, hc71, h⟩ := bnd h
  obtain ⟨x67, x68, x69, x70⟩ := r71
  refine ⟨[false, true], _, _, _, ⟨⟨_, sha_Hash_Write_3_c er 4 5 6 (by decide) (List.take x54 x56) x63 x64 x65 x66 (List.take x53 x55) (x67, x68, x69, x70) hc71, ⟨.inl rfl, .inl rfl, trivial⟩⟩, ⟨⟨rfl, rfl⟩, ⟨rfl, rfl⟩, trivial⟩, rfl⟩, ?_⟩
  let x71 : List Int := ((List.take x65 (List.drop x64 (List.take x53 x55))) ++ (List.take x54 x56))
  replace h := nm_at x71 rfl h
  refine And.intro (fun h0 => Bool.noConfusion h0) (fun _ => ?_)
  exact ⟨[], [], ⟨(x67, x68, x69, x70, x71), some_in h⟩, [(5, 6)], rfl, trivial, ⟨rfl, rfl, rfl, rfl, rfl, rfl, trivial⟩, rfl⟩
theorem mac_Sum_c (x19 : List Int) (x20 : List (List Int)) (res : (List Int)) (h : mac_Sum x19 x20 = some res) :
  Fn Tryd.prog (GE er) 42 [(.dv (.roI .u8 x19)), (.dv (.ro ly22 (List.length x20) (rw_ (fun q => .roI .u8 q) [] x20)))] [] (.dv (.ints .u8 32 res)) [] := by
 refine bE er Tryd.func42 rfl rfl [] [(.dv (.roI .u8 x19)), (.dv (.ro ly22 (List.length x20) (rw_ (fun q => .roI .u8 q) [] x20)))] [] [] (.dv (.ints .u8 32 res)) [] rfl rfl rfl rfl rfl rfl .nil 3 ?_
 replace h := (show mac_Sum x19 x20 = _ from h)
 unfold mac_Sum at h
 obtain ⟨x21, hc45, h⟩ := bnd h
 refine ⟨[], _, _, _, ⟨⟨_, sha_New_c er 1 (by decide) x21 hc45, trivial⟩, trivial, rfl⟩, ?_⟩
 obtain ⟨x22, hc45, h⟩ := bnd h
 refine ⟨[], _, _, _, ⟨⟨_, mac_padded_c er 2 (by decide) x19 54 x22 hc45, ⟨.inl rfl, .inl rfl, trivial⟩⟩, trivial, rfl⟩, ?_⟩
 refine Or.inl ?_
 obtain ⟨r45, hc45, h⟩ := bnd h
 obtain ⟨x23, x24, x25, x26⟩ := r45
 refine ⟨[false, true], _, _, _, ⟨⟨_, sha_Hash_Write_c er 1 3 (by decide) (List.take (List.length (List.replicate 64 (0 : Int))) x22) x21 0 (x23, x24, x25, x26) hc45, ⟨.inl rfl, .inl rfl, trivial⟩⟩, ⟨⟨rfl, rfl⟩, trivial⟩, rfl⟩, ?_⟩
 obtain ⟨r1_0_31, hl1_31, hr1_31⟩ := bnd h
 refine Or.inr ⟨[13, 15], {p : (List Int) × Nat × Nat × Int × (List Int) // p = r1_0_31}, ⟨fun | ⟨(x27, x28, x29, x30, x31), _⟩ => [], fun | ⟨(x27, x28, x29, x30, x31), _⟩ => [(1, (.var (.cons (.dv (.ints .u32 8 x27)) (.cons (.sl 3 [] ly5 x28 x29) (.dv (.cons (.sc (.int .u64 x30)) .nil)))))), (3, (.rowI .u8 x31))], fun _ => 0⟩, 0, ?_, ?_⟩
 ·rintro ⟨⟨x27, x28, x29, x30, x31⟩, hp⟩
  subst hp
  replace h := hr1_31
  obtain ⟨x43, hc45, h⟩ := bnd h
  refine ⟨[], _, _, _, ⟨⟨_, sha_Hash_Sum_c er 1 3 (by decide) x27 x28 x29 x30 x31 x43 hc45, ⟨.inl rfl, trivial⟩⟩, ⟨⟨rfl, rfl⟩, ⟨rfl, rfl⟩, trivial⟩, rfl⟩, ?_⟩
  obtain ⟨x44, hc45, h⟩ := bnd h
  refine ⟨[], _, _, _, ⟨⟨_, mac_padded_c er 5 (by decide) x19 92 x44 hc45, ⟨.inl rfl, .inl rfl, trivial⟩⟩, trivial, rfl⟩, ?_⟩
  refine Or.inl ?_
  refine Or.inl ?_
  refine And.intro (by omega) ?_
  refine ⟨0, 32, ⟨rfl, rfl⟩, ?_⟩
  refine Or.inr ?_
  obtain ⟨x45, hc45, h⟩ := bnd h
  refine ⟨[], _, _, _, ⟨⟨_, sha_Sum_2_c er 6 5 4 (by decide) (List.length (List.replicate 64 (0 : Int))) 32 x44 x43 x45 hc45, ⟨.inl rfl, trivial⟩⟩, ⟨⟨rfl, rfl⟩, ⟨rfl, rfl⟩, ⟨rfl, rfl⟩, trivial⟩, rfl⟩, ?_⟩
  obtain rfl := some_in h
  exact ⟨0, [], [], rfl, trivial⟩
 ·replace h := hl1_31
  refine Or.inl ?_
  refine ⟨[13], {x : Nat × Int × (List Int) × Nat × Nat × Int × (List Int) // mac_Sum_l1 x20 x.1 x.2.1 x.2.2.1 x.2.2.2.1 x.2.2.2.2.1 x.2.2.2.2.2.1 x.2.2.2.2.2.2 = some r1_0_31}, ⟨fun | ⟨(n1, x32, x33, x34, x35, x36, x37), _⟩ => [(16, (.int .i64 x32))], fun | ⟨(n1, x32, x33, x34, x35, x36, x37), _⟩ => [(1, (.var (.cons (.dv (.ints .u32 8 x33)) (.cons (.sl 3 [] ly5 x34 x35) (.dv (.cons (.sc (.int .u64 x36)) .nil)))))), (3, (.rowI .u8 x37))], fun | ⟨(n1, x32, x33, x34, x35, x36, x37), _⟩ => n1⟩, [], [], ⟨(FUEL, 0, x23, x24, x25, x26, (List.take (List.length (List.replicate 64 (0 : Int))) x22)), h⟩, ⟨rfl, ⟨rfl, trivial⟩, ⟨rfl, rfl, rfl, rfl, trivial⟩, rfl⟩, ?_⟩
  rintro ⟨⟨n1, x32, x33, x34, x35, x36, x37⟩, h⟩
  cases n1 with
  | zero => exact no_none h
  | succ n1 =>
   replace h := (show mac_Sum_l1 x20 (n1 + 1) x32 x33 x34 x35 x36 x37 = _ from h)
   replace h := (mac_Sum_l1.eq_2 .. ).symm.trans h
   refine And.intro (fun hb => ?_) (fun hb => ?_)
   ·replace h := cond_t h hb
    refine Or.inl ?_
    obtain ⟨hg, h⟩ := gd h
    refine And.intro hg ?_
    obtain ⟨r42, hc42, h⟩ := bnd h
    obtain ⟨x38, x39, x40, x41⟩ := r42
    refine ⟨[], _, _, _, ⟨⟨_, sha_Hash_Write_3_c er 1 3 4 (by decide) (List.getD x20 (Int.toNat x32) []) x33 x34 x35 x36 x37 (x38, x39, x40, x41) hc42, ⟨.inl rfl, .inl rfl, trivial⟩⟩, ⟨⟨rfl, rfl⟩, ⟨rfl, rfl⟩, trivial⟩, rfl⟩, ?_⟩
    let x42 : List Int := ((List.take x35 (List.drop x34 x37)) ++ (List.getD x20 (Int.toNat x32) []))
    replace h := nm_at x42 rfl h
    exact ⟨⟨(n1, (IntKind.wrap .i64 (x32 + 1)), x38, x39, x40, x41, x42), h⟩, [(3, 4)], ⟨rfl, ⟨rfl, trivial⟩, ⟨rfl, rfl, rfl, rfl, trivial⟩, rfl⟩, Nat.lt_succ_self _⟩
   ·replace h := cond_f h hb
    exact ⟨[], [], ⟨(x33, x34, x35, x36, x37), some_in h⟩, [], rfl, trivial, ⟨rfl, rfl, rfl, rfl, trivial⟩, rfl⟩
theorem derive_Extract_c (x17 : List Int) (x18 : List Int) (res : (List Int)) (h : derive_Extract x17 x18 = some res) :
  Fn Tryd.prog (GE er) 28 [(.dv (.roI .u8 x17)), (.dv (.roI .u8 x18))] [] (.dv (.ints .u8 32 res)) [] := by
 refine bE er Tryd.func28 rfl rfl [] [(.dv (.roI .u8 x17)), (.dv (.roI .u8 x18))] [] [] (.dv (.ints .u8 32 res)) [] rfl rfl rfl rfl rfl rfl .nil 3 ?_
 replace h := (show derive_Extract x17 x18 = _ from h)
 unfold derive_Extract at h
 refine Or.inl ?_
 refine ⟨(List.length [x18]), (rw_ (fun q => .roI .u8 q) [] [x18]), ⟨rfl, fun j hj => match j, hj with | 0, _ => rfl | _ + 1, hj => absurd hj (by omega)⟩, ?_⟩
 refine Or.inl ?_
 obtain ⟨x19, hc19, h⟩ := bnd h
 refine ⟨[false, true], _, _, _, ⟨⟨_, mac_Sum_c er x17 [x18] x19 hc19, ⟨.inl rfl, .inl rfl, trivial⟩⟩, trivial, rfl⟩, ?_⟩
 obtain rfl := some_in h
 exact ⟨0, [], [], rfl, trivial⟩
theorem kem_extract_c (b0 b1 : Nat) (hn : [b0, b1].Nodup) (x8 : List UInt8) (x9 : Nat) (x10 : List Int) (res : (List Int)) (h : kem_extract x8 x9 x10 = some res) :
  Fn Tryd.prog (GE er) 15 [(.dv (.str x8)), (.vs b0 0 1)] [(b0, (.var (.cons (.sl b1 [] ly5 0 x9) (.dv .nil)))), (b1, (.frzI .u8 x10))] (.dv (.ints .u8 32 res)) [(b0, (.var (.cons (.sl b1 [] ly5 0 x9) (.dv .nil)))), (b1, (.frzI .u8 x10))] := by
 refine bE er Tryd.func15 rfl rfl [(0, b0), (1, b1)] [(.dv (.str x8)), (.vs 0 0 1)] [(.var (.cons (.sl 1 [] ly5 0 x9) (.dv .nil))), (.frzI .u8 x10)] [] (.dv (.ints .u8 32 res)) [(.var (.cons (.sl 1 [] ly5 0 x9) (.dv .nil))), (.frzI .u8 x10)] rfl rfl rfl rfl rfl rfl hn 3 ?_
 replace h := (show kem_extract x8 x9 x10 = _ from h)
 unfold kem_extract at h
 obtain ⟨hg, h⟩ := gd h
 refine And.intro hg ?_
 refine ⟨(List.map (fun q : UInt8 => (q.toNat : Int)) ([72, 80, 75, 69, 45, 118, 49, 75, 69, 77, 0, 32] ++ x8)), rfl, 0, (List.length (List.map (fun q : UInt8 => (q.toNat : Int)) ([72, 80, 75, 69, 45, 118, 49, 75, 69, 77, 0, 32] ++ x8))), ⟨rfl, List.length_map ..⟩, ?_⟩
 refine Or.inl ?_
 let x11 : List Int := (List.map (fun q : UInt8 => (q.toNat : Int)) ([72, 80, 75, 69, 45, 118, 49, 75, 69, 77, 0, 32] ++ x8))
 replace h := nm_at x11 rfl h
 obtain ⟨x12, hc13, h⟩ := bnd h
 refine ⟨[], _, _, _, ⟨⟨_, slices_Concat_byte_byte_c er 0 1 4 (by decide) x9 x10 x12 hc13, ⟨.inl rfl, trivial⟩⟩, ⟨⟨rfl, rfl⟩, ⟨rfl, rfl⟩, trivial⟩, rfl⟩, ?_⟩
 refine Or.inl ?_
 obtain ⟨hg, h⟩ := gd h
 refine And.intro (le_of_ln2 (ln_full x12) hg) ?_
 refine ⟨(x11 ++ x12), app_cut (cut_full _) (cut_full x12), 0, (List.length (x11 ++ x12)), ⟨rfl, app_ln (ln_full x12)⟩, ?_⟩
 refine Or.inl ?_
 obtain ⟨x13, hc13, h⟩ := bnd h
 refine ⟨[false, true], _, _, _, ⟨⟨_, derive_Extract_c er ([] : List Int) (x11 ++ x12) x13 hc13, ⟨(.inr (.inr ⟨rfl, .inl ⟨_, rfl⟩⟩)), ve_full _ _, trivial⟩⟩, trivial, rfl⟩, ?_⟩
 obtain rfl := some_in h
 exact ⟨0, [], [], rfl, rfl, rfl, trivial⟩
theorem slices_Concat_byte_byte_2_c (k0 : Nat) (hn : [k0].Nodup) (x19 : List (List Int)) (res : Nat × (List Int)) (h : slices_Concat_byte_byte_2 x19 = some res) :
  Fn Tryd.prog (GE er) 27 [(.dv (.ro ly22 (List.length x19) (rw_ (fun q => .roI .u8 q) [] x19)))] [] (.sl k0 [] ly5 0 res.1) [(k0, (.rowI .u8 res.2))] := by
 refine bE er Tryd.func27 rfl rfl [(0, k0)] [(.dv (.ro ly22 (List.length x19) (rw_ (fun q => .roI .u8 q) [] x19)))] [] [0] (.sl 0 [] ly5 0 res.1) [(.rowI .u8 res.2)] rfl rfl rfl rfl rfl rfl hn 3 ?_
 replace h := (show slices_Concat_byte_byte_2 x19 = _ from h)
 unfold slices_Concat_byte_byte_2 at h
 obtain ⟨r1_0_20, hl1_20, hr1_20⟩ := bnd h
 refine Or.inr ⟨[10], {p : Int // p = r1_0_20}, ⟨fun | ⟨x20, _⟩ => [(3, (.int .i64 x20))], fun | ⟨x20, _⟩ => [], fun _ => 0⟩, 0, ?_, ?_⟩
 ·rintro ⟨x20, hp⟩
  subst hp
  replace h := hr1_20
  obtain ⟨r30, hc30, h⟩ := bnd h
  obtain ⟨x24, x25⟩ := r30
  refine ⟨[], _, _, _, ⟨⟨_, slices_Grow_byte_byte_2_c er 0 (by decide) x20 (x24, x25) hc30, ⟨.inl rfl, .inl rfl, trivial⟩⟩, trivial, rfl⟩, ?_⟩
  refine Or.inl ?_
  obtain ⟨r2_1_27, hl2_27, hr2_27⟩ := bnd h
  refine Or.inr ⟨[24, 26], (({p : Unit // (Sum.inl p) = r2_1_27}) ⊕ ({p : Nat × (List Int) // (Sum.inr p) = r2_1_27})), ⟨fun | (Sum.inl (⟨(), _⟩)) => [(6, (.sl 0 [] ly5 0 x24)), (24, (.sl 0 [] ly5 0 x24))] | (Sum.inr (⟨(x26, x27), _⟩)) => [(6, (.sl 0 [] ly5 0 x26))], fun | (Sum.inl (⟨(), _⟩)) => [] | (Sum.inr (⟨(x26, x27), _⟩)) => [(0, (.rowI .u8 x27))], fun _ => 0⟩, 0, ?_, ?_⟩
  ·rintro (⟨⟨⟩, hp⟩ | ⟨⟨x26, x27⟩, hp⟩)
   ·subst hp
    replace h := hr2_27
    obtain rfl := some_in h
    exact ⟨0, [], [], rfl, rfl, trivial⟩
   ·subst hp
    replace h := hr2_27
    obtain rfl := some_in h
    exact ⟨0, [], [], rfl, rfl, trivial⟩
  ·replace h := hl2_27
   refine Or.inl ?_
   refine ⟨[24], {x : Nat × Nat × Int × (List Int) // slices_Concat_byte_byte_2_l2 x19 x.1 x.2.1 x.2.2.1 x.2.2.2 = some r2_1_27}, ⟨fun | ⟨(n2, x28, x29, x30), _⟩ => [(6, (.sl 0 [] ly5 0 x28)), (27, (.int .i64 x29))], fun | ⟨(n2, x28, x29, x30), _⟩ => [(0, (.rowI .u8 x30))], fun | ⟨(n2, x28, x29, x30), _⟩ => n2⟩, [], [], ⟨(FUEL, x24, 0, x25), h⟩, ⟨rfl, ⟨rfl, rfl, trivial⟩, ⟨rfl, trivial⟩, rfl⟩, ?_⟩
   rintro ⟨⟨n2, x28, x29, x30⟩, h⟩
   cases n2 with
   | zero => exact no_none h
   | succ n2 =>
    replace h := (show slices_Concat_byte_byte_2_l2 x19 (n2 + 1) x28 x29 x30 = _ from h)
    replace h := (slices_Concat_byte_byte_2_l2.eq_2 .. ).symm.trans h
    refine And.intro (fun hb => ?_) (fun hb => ?_)
    ·replace h := cond_t h hb
     refine Or.inl ?_
     obtain ⟨hg, h⟩ := gd h
     refine And.intro hg ?_
     obtain ⟨hg, h⟩ := gd h
     refine And.intro (hg) ?_
     obtain ⟨hg2, h⟩ := gd h
     refine ⟨((List.take x28 x30) ++ (List.getD x19 (Int.toNat x29) [])), app_cut (cut_0 _ _) (rfl), 0, (List.length ((List.take x28 x30) ++ (List.getD x19 (Int.toNat x29) []))), ⟨rfl, cut_ln hg2 (rfl)⟩, ?_⟩
     refine Or.inl ?_
     exact ⟨⟨(n2, (List.length ((List.take x28 x30) ++ (List.getD x19 (Int.toNat x29) []))), (IntKind.wrap .i64 (x29 + 1)), ((List.take x28 x30) ++ (List.getD x19 (Int.toNat x29) []))), h⟩, [(0, 1)], ⟨rfl, ⟨rfl, rfl, trivial⟩, ⟨rfl, trivial⟩, rfl⟩, Nat.lt_succ_self _⟩
    ·replace h := cond_f h hb
     exact ⟨[], [], (Sum.inr (⟨(x28, x30), some_in h⟩)), [], rfl, ⟨rfl, trivial⟩, ⟨rfl, trivial⟩, rfl⟩
 ·replace h := hl1_20
  refine Or.inl ?_
  refine ⟨[], {x : Nat × Int × Int // slices_Concat_byte_byte_2_l1 x19 x.1 x.2.1 x.2.2 = some r1_0_20}, ⟨fun | ⟨(n1, x21, x22), _⟩ => [(3, (.int .i64 x21)), (11, (.int .i64 x22))], fun | ⟨(n1, x21, x22), _⟩ => [], fun | ⟨(n1, x21, x22), _⟩ => n1⟩, [], [], ⟨(FUEL, 0, 0), h⟩, ⟨rfl, ⟨rfl, rfl, trivial⟩, trivial, rfl⟩, ?_⟩
  rintro ⟨⟨n1, x21, x22⟩, h⟩
  cases n1 with
  | zero => exact no_none h
  | succ n1 =>
   replace h := (show slices_Concat_byte_byte_2_l1 x19 (n1 + 1) x21 x22 = _ from h)
   replace h := (slices_Concat_byte_byte_2_l1.eq_2 .. ).symm.trans h
   refine And.intro (fun hb => ?_) (fun hb => ?_)
   ·replace h := cond_t h hb
    refine Or.inl ?_
    obtain ⟨hg, h⟩ := gd h
    refine And.intro hg ?_
    let x23 : Int := (IntKind.wrap .i64 (x21 + (List.length (List.getD x19 (Int.toNat x22) []) : Int)))
    replace h := nm_at x23 rfl h
    refine Or.inl ?_
    refine And.intro (fun hb => ?_) (fun hb => ?_)
    ·replace h := cond_t h hb
     exact no_none h
    ·replace h := cond_f h hb
     exact ⟨⟨(n1, x23, (IntKind.wrap .i64 (x22 + 1))), h⟩, [], ⟨rfl, ⟨rfl, rfl, trivial⟩, trivial, rfl⟩, Nat.lt_succ_self _⟩
   ·replace h := cond_f h hb
    exact ⟨[], [], ⟨x21, some_in h⟩, [], rfl, ⟨rfl, trivial⟩, trivial, rfl⟩
theorem mac_Sum_2_c (b0 b1 : Nat) (hn : [b0, b1].Nodup) (x37 : List Int) (x38 : List Int) (x39 : Nat) (x40 : List Int) (res : (List Int)) (h : mac_Sum_2 x37 x38 x39 x40 = some res) :
  Fn Tryd.prog (GE er) 42 [(.dv (.roI .u8 x37)), (.vs b0 0 3)] [(b0, (.var (.cons (.dv (.sc (.slice none 0 0))) (.cons (.dv (.roI .u8 x38)) (.cons (.sl b1 [] ly5 0 x39) (.dv .nil)))))), (b1, (.rowI .u8 x40))] (.dv (.ints .u8 32 res)) [(b0, (.var (.cons (.dv (.sc (.slice none 0 0))) (.cons (.dv (.roI .u8 x38)) (.cons (.sl b1 [] ly5 0 x39) (.dv .nil)))))), (b1, (.rowI .u8 x40))] := by
 refine bE er Tryd.func42 rfl rfl [(0, b0), (1, b1)] [(.dv (.roI .u8 x37)), (.vs 0 0 3)] [(.var (.cons (.dv (.sc (.slice none 0 0))) (.cons (.dv (.roI .u8 x38)) (.cons (.sl 1 [] ly5 0 x39) (.dv .nil))))), (.rowI .u8 x40)] [] (.dv (.ints .u8 32 res)) [(.var (.cons (.dv (.sc (.slice none 0 0))) (.cons (.dv (.roI .u8 x38)) (.cons (.sl 1 [] ly5 0 x39) (.dv .nil))))), (.rowI .u8 x40)] rfl rfl rfl rfl rfl rfl hn 3 ?_
 replace h := (show mac_Sum_2 x37 x38 x39 x40 = _ from h)
 unfold mac_Sum_2 at h
 obtain ⟨x41, hc68, h⟩ := bnd h
 refine ⟨[], _, _, _, ⟨⟨_, sha_New_c er 3 (by decide) x41 hc68, trivial⟩, trivial, rfl⟩, ?_⟩
 obtain ⟨x42, hc68, h⟩ := bnd h
 refine ⟨[], _, _, _, ⟨⟨_, mac_padded_c er 4 (by decide) x37 54 x42 hc68, ⟨.inl rfl, .inl rfl, trivial⟩⟩, trivial, rfl⟩, ?_⟩
 refine Or.inl ?_
 obtain ⟨r68, hc68, h⟩ := bnd h
 obtain ⟨x43, x44, x45, x46⟩ := r68
 refine ⟨[false, true], _, _, _, ⟨⟨_, sha_Hash_Write_c er 3 5 (by decide) (List.take (List.length (List.replicate 64 (0 : Int))) x42) x41 0 (x43, x44, x45, x46) hc68, ⟨.inl rfl, .inl rfl, trivial⟩⟩, ⟨⟨rfl, rfl⟩, trivial⟩, rfl⟩, ?_⟩
 obtain ⟨r1_0_51, hl1_51, hr1_51⟩ := bnd h
 refine Or.inr ⟨[13, 15], {p : (List Int) × Nat × Nat × Int × (List Int) // p = r1_0_51}, ⟨fun | ⟨(x47, x48, x49, x50, x51), _⟩ => [], fun | ⟨(x47, x48, x49, x50, x51), _⟩ => [(3, (.var (.cons (.dv (.ints .u32 8 x47)) (.cons (.sl 6 [] ly5 x48 x49) (.dv (.cons (.sc (.int .u64 x50)) .nil)))))), (5, .dead), (6, (.rowI .u8 x51))], fun _ => 0⟩, 1, ?_, ?_⟩
 ·rintro ⟨⟨x47, x48, x49, x50, x51⟩, hp⟩
  subst hp
  replace h := hr1_51
  obtain ⟨x66, hc68, h⟩ := bnd h
  refine ⟨[], _, _, _, ⟨⟨_, sha_Hash_Sum_c er 3 6 (by decide) x47 x48 x49 x50 x51 x66 hc68, ⟨.inl rfl, trivial⟩⟩, ⟨⟨rfl, rfl⟩, ⟨rfl, rfl⟩, trivial⟩, rfl⟩, ?_⟩
  obtain ⟨x67, hc68, h⟩ := bnd h
  refine ⟨[], _, _, _, ⟨⟨_, mac_padded_c er 8 (by decide) x37 92 x67 hc68, ⟨.inl rfl, .inl rfl, trivial⟩⟩, trivial, rfl⟩, ?_⟩
  refine Or.inl ?_
  refine Or.inl ?_
  refine And.intro (by omega) ?_
  refine ⟨0, 32, ⟨rfl, rfl⟩, ?_⟩
  refine Or.inr ?_
  obtain ⟨x68, hc68, h⟩ := bnd h
  refine ⟨[], _, _, _, ⟨⟨_, sha_Sum_2_c er 9 8 7 (by decide) (List.length (List.replicate 64 (0 : Int))) 32 x67 x66 x68 hc68, ⟨.inl rfl, trivial⟩⟩, ⟨⟨rfl, rfl⟩, ⟨rfl, rfl⟩, ⟨rfl, rfl⟩, trivial⟩, rfl⟩, ?_⟩
  obtain rfl := some_in h
  exact ⟨0, [], [], rfl, rfl, rfl, trivial⟩
 ·replace h := hl1_51
  refine Or.inr ⟨30, ?_⟩
  refine And.intro (fun _ => ?_) (fun h0 => Bool.noConfusion h0)
  refine Or.inl ?_
  refine And.intro (by decide) ?_
  obtain ⟨r65, hc65, h⟩ := bnd h
  obtain ⟨x52, x53, x54, x55⟩ := r65
  refine ⟨[], _, _, _, ⟨⟨_, sha_Hash_Write_3_c er 3 5 6 (by decide) ([] : List Int) x43 x44 x45 x46 (List.take (List.length (List.replicate 64 (0 : Int))) x42) (x52, x53, x54, x55) hc65, ⟨.inl rfl, (.inr (.inr ⟨rfl, .inl ⟨_, rfl⟩⟩)), trivial⟩⟩, ⟨⟨rfl, rfl⟩, ⟨rfl, rfl⟩, trivial⟩, rfl⟩, ?_⟩
  let x56 : List Int := ((List.take x45 (List.drop x44 (List.take (List.length (List.replicate 64 (0 : Int))) x42))) ++ ([] : List Int))
  replace h := nm_at x56 rfl h
  refine And.intro (fun _ => ?_) (fun h0 => Bool.noConfusion h0)
  refine Or.inl ?_
  refine And.intro (by decide) ?_
  obtain ⟨r65, hc65, h⟩ := bnd h
  obtain ⟨x57, x58, x59, x60⟩ := r65
  refine ⟨[], _, _, _, ⟨⟨_, sha_Hash_Write_3_c er 3 6 7 (by decide) x38 x52 x53 x54 x55 x56 (x57, x58, x59, x60) hc65, ⟨.inl rfl, .inl rfl, trivial⟩⟩, ⟨⟨rfl, rfl⟩, ⟨rfl, rfl⟩, trivial⟩, rfl⟩, ?_⟩
  refine And.intro (fun _ => ?_) (fun h0 => Bool.noConfusion h0)
  refine Or.inl ?_
  refine And.intro (by decide) ?_
  obtain ⟨r65, hc65, h⟩ := bnd h
  obtain ⟨x61, x62, x63, x64⟩ := r65
  refine ⟨[false, true], _, _, _, ⟨⟨_, sha_Hash_Write_3_c er 3 7 8 (by decide) (List.take x39 x40) x57 x58 x59 x60 ((List.take x54 (List.drop x53 x56)) ++ x38) (x61, x62, x63, x64) hc65, ⟨.inl rfl, .inl rfl, trivial⟩⟩, ⟨⟨rfl, rfl⟩, ⟨rfl, rfl⟩, trivial⟩, rfl⟩, ?_⟩
  let x65 : List Int := ((List.take x59 (List.drop x58 ((List.take x54 (List.drop x53 x56)) ++ x38))) ++ (List.take x39 x40))
  replace h := nm_at x65 rfl h
  refine And.intro (fun h0 => Bool.noConfusion h0) (fun _ => ?_)
  exact ⟨[], [], ⟨(x61, x62, x63, x64, x65), some_in h⟩, [(6, 8)], rfl, trivial, ⟨rfl, rfl, rfl, rfl, rfl, trivial, rfl, trivial⟩, rfl⟩
theorem mac_Sum_3_c (b0 b1 b2 : Nat) (hn : [b0, b1, b2].Nodup) (x70 : List Int) (x71 : Nat) (x72 : List Int) (x73 : Nat) (x74 : List Int) (x75 : List Int) (res : (List Int)) (h : mac_Sum_3 x70 x71 x72 x73 x74 x75 = some res) :
  Fn Tryd.prog (GE er) 42 [(.dv (.roI .u8 x70)), (.vs b0 0 3)] [(b0, (.var (.cons (.sl b1 [] ly5 0 x71) (.cons (.dv (.roI .u8 x72)) (.cons (.sl b2 [] ly5 0 x73) (.dv .nil)))))), (b1, (.rowI .u8 x74)), (b2, (.rowI .u8 x75))] (.dv (.ints .u8 32 res)) [(b0, (.var (.cons (.sl b1 [] ly5 0 x71) (.cons (.dv (.roI .u8 x72)) (.cons (.sl b2 [] ly5 0 x73) (.dv .nil)))))), (b1, (.rowI .u8 x74)), (b2, (.rowI .u8 x75))] := by
 refine bE er Tryd.func42 rfl rfl [(0, b0), (1, b1), (2, b2)] [(.dv (.roI .u8 x70)), (.vs 0 0 3)] [(.var (.cons (.sl 1 [] ly5 0 x71) (.cons (.dv (.roI .u8 x72)) (.cons (.sl 2 [] ly5 0 x73) (.dv .nil))))), (.rowI .u8 x74), (.rowI .u8 x75)] [] (.dv (.ints .u8 32 res)) [(.var (.cons (.sl 1 [] ly5 0 x71) (.cons (.dv (.roI .u8 x72)) (.cons (.sl 2 [] ly5 0 x73) (.dv .nil))))), (.rowI .u8 x74), (.rowI .u8 x75)] rfl rfl rfl rfl rfl rfl hn 3 ?_
 replace h := (show mac_Sum_3 x70 x71 x72 x73 x74 x75 = _ from h)
 unfold mac_Sum_3 at h
 obtain ⟨x76, hc103, h⟩ := bnd h
 refine ⟨[], _, _, _, ⟨⟨_, sha_New_c er 4 (by decide) x76 hc103, trivial⟩, trivial, rfl⟩, ?_⟩
 obtain ⟨x77, hc103, h⟩ := bnd h
 refine ⟨[], _, _, _, ⟨⟨_, mac_padded_c er 5 (by decide) x70 54 x77 hc103, ⟨.inl rfl, .inl rfl, trivial⟩⟩, trivial, rfl⟩, ?_⟩
 refine Or.inl ?_
 obtain ⟨r103, hc103, h⟩ := bnd h
 obtain ⟨x78, x79, x80, x81⟩ := r103
 refine ⟨[false, true], _, _, _, ⟨⟨_, sha_Hash_Write_c er 4 6 (by decide) (List.take (List.length (List.replicate 64 (0 : Int))) x77) x76 0 (x78, x79, x80, x81) hc103, ⟨.inl rfl, .inl rfl, trivial⟩⟩, ⟨⟨rfl, rfl⟩, trivial⟩, rfl⟩, ?_⟩
 obtain ⟨r1_0_86, hl1_86, hr1_86⟩ := bnd h
 refine Or.inr ⟨[13, 15], {p : (List Int) × Nat × Nat × Int × (List Int) // p = r1_0_86}, ⟨fun | ⟨(x82, x83, x84, x85, x86), _⟩ => [], fun | ⟨(x82, x83, x84, x85, x86), _⟩ => [(4, (.var (.cons (.dv (.ints .u32 8 x82)) (.cons (.sl 7 [] ly5 x83 x84) (.dv (.cons (.sc (.int .u64 x85)) .nil)))))), (6, .dead), (7, (.rowI .u8 x86))], fun _ => 0⟩, 1, ?_, ?_⟩
 ·rintro ⟨⟨x82, x83, x84, x85, x86⟩, hp⟩
  subst hp
  replace h := hr1_86
  obtain ⟨x101, hc103, h⟩ := bnd h
  refine ⟨[], _, _, _, ⟨⟨_, sha_Hash_Sum_c er 4 7 (by decide) x82 x83 x84 x85 x86 x101 hc103, ⟨.inl rfl, trivial⟩⟩, ⟨⟨rfl, rfl⟩, ⟨rfl, rfl⟩, trivial⟩, rfl⟩, ?_⟩
  obtain ⟨x102, hc103, h⟩ := bnd h
  refine ⟨[], _, _, _, ⟨⟨_, mac_padded_c er 9 (by decide) x70 92 x102 hc103, ⟨.inl rfl, .inl rfl, trivial⟩⟩, trivial, rfl⟩, ?_⟩
  refine Or.inl ?_
  refine Or.inl ?_
  refine And.intro (by omega) ?_
  refine ⟨0, 32, ⟨rfl, rfl⟩, ?_⟩
  refine Or.inr ?_
  obtain ⟨x103, hc103, h⟩ := bnd h
  refine ⟨[], _, _, _, ⟨⟨_, sha_Sum_2_c er 10 9 8 (by decide) (List.length (List.replicate 64 (0 : Int))) 32 x102 x101 x103 hc103, ⟨.inl rfl, trivial⟩⟩, ⟨⟨rfl, rfl⟩, ⟨rfl, rfl⟩, ⟨rfl, rfl⟩, trivial⟩, rfl⟩, ?_⟩
  obtain rfl := some_in h
  exact ⟨0, [], [], rfl, rfl, rfl, rfl, trivial⟩
 ·replace h := hl1_86
  refine Or.inr ⟨30, ?_⟩
  refine And.intro (fun _ => ?_) (fun h0 => Bool.noConfusion h0)
  refine Or.inl ?_
  refine And.intro (by decide) ?_
  obtain ⟨r100, hc100, h⟩ := bnd h
  obtain ⟨x87, x88, x89, x90⟩ := r100
  refine ⟨[false, true], _, _, _, ⟨⟨_, sha_Hash_Write_3_c er 4 6 7 (by decide) (List.take x71 x74) x78 x79 x80 x81 (List.take (List.length (List.replicate 64 (0 : Int))) x77) (x87, x88, x89, x90) hc100, ⟨.inl rfl, .inl rfl, trivial⟩⟩, ⟨⟨rfl, rfl⟩, ⟨rfl, rfl⟩, trivial⟩, rfl⟩, ?_⟩
  let x91 : List Int := ((List.take x80 (List.drop x79 (List.take (List.length (List.replicate 64 (0 : Int))) x77))) ++ (List.take x71 x74))
  replace h := nm_at x91 rfl h
  refine And.intro (fun _ => ?_) (fun h0 => Bool.noConfusion h0)
  refine Or.inl ?_
  refine And.intro (by decide) ?_
  obtain ⟨r100, hc100, h⟩ := bnd h
  obtain ⟨x92, x93, x94, x95⟩ := r100
  refine ⟨[], _, _, _, ⟨⟨_, sha_Hash_Write_3_c er 4 7 8 (by decide) x72 x87 x88 x89 x90 x91 (x92, x93, x94, x95) hc100, ⟨.inl rfl, .inl rfl, trivial⟩⟩, ⟨⟨rfl, rfl⟩, ⟨rfl, rfl⟩, trivial⟩, rfl⟩, ?_⟩
  refine And.intro (fun _ => ?_) (fun h0 => Bool.noConfusion h0)
  refine Or.inl ?_
  refine And.intro (by decide) ?_
  obtain ⟨r100, hc100, h⟩ := bnd h
  obtain ⟨x96, x97, x98, x99⟩ := r100
  refine ⟨[false, true], _, _, _, ⟨⟨_, sha_Hash_Write_3_c er 4 8 9 (by decide) (List.take x73 x75) x92 x93 x94 x95 ((List.take x89 (List.drop x88 x91)) ++ x72) (x96, x97, x98, x99) hc100, ⟨.inl rfl, .inl rfl, trivial⟩⟩, ⟨⟨rfl, rfl⟩, ⟨rfl, rfl⟩, trivial⟩, rfl⟩, ?_⟩
  let x100 : List Int := ((List.take x94 (List.drop x93 ((List.take x89 (List.drop x88 x91)) ++ x72))) ++ (List.take x73 x75))
  replace h := nm_at x100 rfl h
  refine And.intro (fun h0 => Bool.noConfusion h0) (fun _ => ?_)
  exact ⟨[], [], ⟨(x96, x97, x98, x99, x100), some_in h⟩, [(7, 9)], rfl, trivial, ⟨rfl, rfl, rfl, rfl, rfl, rfl, trivial, rfl, trivial⟩, rfl⟩
theorem derive_Expand_c (k0 : Nat) (hn : [k0].Nodup) (x34 : List Int) (x35 : List Int) (x36 : Int) (res : ((Nat × (List Int)) ⊕ Nat)) (h : derive_Expand x34 x35 x36 = some res) :
  Fn Tryd.prog (GE er) 26 [(.dv (.roI .u8 x34)), (.dv (.roI .u8 x35)), (.int .i64 x36)] [] (match res with | (Sum.inl (p0, p1)) => (.tup [(.sl k0 [] ly5 0 p0), (.dv (.sc .nilIface))]) | (Sum.inr p0) => (.tup [(.dv (.sc (.slice none 0 0))), (errA er p0)])) (match res with | (Sum.inl (p0, p1)) => [(k0, (.rowI .u8 p1))] | (Sum.inr p0) => []) := by
 refine bE er Tryd.func26 rfl rfl ((match res with | (Sum.inl (p0, p1)) => [(3, k0)] | (Sum.inr p0) => [])) [(.dv (.roI .u8 x34)), (.dv (.roI .u8 x35)), (.int .i64 x36)] [] (match res with | (Sum.inl (p0, p1)) => [3] | (Sum.inr p0) => []) (match res with | (Sum.inl (p0, p1)) => (.tup [(.sl 3 [] ly5 0 p0), (.dv (.sc .nilIface))]) | (Sum.inr p0) => (.tup [(.dv (.sc (.slice none 0 0))), (errA er p0)])) (match res with | (Sum.inl (p0, p1)) => [(.rowI .u8 p1)] | (Sum.inr p0) => []) rfl rfl (by rcases res with _ | _ <;> rfl) (by rcases res with _ | _ <;> rfl) (by rcases res with _ | _ <;> rfl) (by rcases res with _ | _ <;> rfl) (by rcases res with _ | _ <;> first | exact hn.sublist (.cons_cons _ .slnil) | exact hn.sublist (.cons _ .slnil)) 3 ?_
 replace h := (show derive_Expand x34 x35 x36 = _ from h)
 unfold derive_Expand at h
 refine Or.inl ?_
 refine And.intro (fun hb => ?_) (fun hb => ?_)
 ·replace h := cond_t h hb
  obtain rfl := some_in h
  exact ⟨0, [], [], rfl, trivial⟩
 ·replace h := cond_f h hb
  refine And.intro (fun hb => ?_) (fun hb => ?_)
  ·replace h := cond_t h hb
   obtain rfl := some_in h
   exact ⟨0, [], [], rfl, trivial⟩
  ·replace h := cond_f h hb
   refine And.intro (fun hb => ?_) (fun hb => ?_)
   ·replace h := cond_t h hb
    obtain rfl := some_in h
    exact ⟨0, [], [], rfl, trivial⟩
   ·replace h := cond_f h hb
    refine And.intro (fun hb => ?_) (fun hb => ?_)
    ·replace h := cond_t h hb
     refine Or.inl ?_
     refine Or.inr ?_
     obtain ⟨x37, hc41, h⟩ := bnd h
     refine ⟨[], _, _, _, ⟨⟨_, mac_Sum_2_c er 1 0 (by decide) x34 x35 (List.length [1]) [1] x37 hc41, ⟨.inl rfl, .inl rfl, trivial⟩⟩, ⟨⟨rfl, rfl⟩, ⟨rfl, rfl⟩, trivial⟩, rfl⟩, ?_⟩
     refine Or.inr ?_
     refine And.intro (by omega) ?_
     refine ⟨x37, rfl, 0, 32, ⟨rfl, rfl⟩, ?_⟩
     obtain ⟨hg, h⟩ := gd h
     refine And.intro (le_of_ln (ln_0 _ _) hg) ?_
     refine ⟨(List.take 32 x37), cut_0 _ _, 0, (List.length (List.take 32 x37)), ⟨rfl, ln_0 _ _⟩, ?_⟩
     refine Or.inl ?_
     refine Or.inr ⟨[], {x : Nat × Int × (List Int) × (List Int) // derive_Expand_l1 x34 x35 x36 x.1 x.2.1 x.2.2.1 x.2.2.2 = some res}, ⟨fun | ⟨(n1, x38, x39, x40), _⟩ => [(6, (.dv (.sc (.slice none 0 0)))), (7, (.dv (.sc .nilIface))), (8, (.sl 3 [] ly5 0 (List.length x40))), (9, (.sl 2 [] ly5 0 32)), (10, (.int .u8 x38))], fun | ⟨(n1, x38, x39, x40), _⟩ => [(2, (.rowI .u8 x39)), (3, (.rowI .u8 x40))], fun | ⟨(n1, x38, x39, x40), _⟩ => n1⟩, [], [], ⟨(FUEL, 1, x37, (List.take 32 x37)), h⟩, ⟨rfl, ⟨rfl, rfl, rfl, rfl, rfl, trivial⟩, ⟨rfl, rfl, rfl, rfl, trivial⟩, rfl⟩, ?_⟩
     rintro ⟨⟨n1, x38, x39, x40⟩, h⟩
     cases n1 with
     | zero => exact no_none h
     | succ n1 =>
      replace h := (show derive_Expand_l1 x34 x35 x36 (n1 + 1) x38 x39 x40 = _ from h)
      replace h := (derive_Expand_l1.eq_2 .. ).symm.trans h
      refine And.intro (fun hb => ?_) (fun hb => ?_)
      ·replace h := cond_t h hb
       refine Or.inl ?_
       refine Or.inr ?_
       obtain ⟨x41, hc41, h⟩ := bnd h
       refine ⟨[], _, _, _, ⟨⟨_, mac_Sum_3_c er 5 2 4 (by decide) x34 32 x35 (List.length [(IntKind.wrap .u8 (x38 + 1))]) x39 [(IntKind.wrap .u8 (x38 + 1))] x41 hc41, ⟨.inl rfl, .inl rfl, trivial⟩⟩, ⟨⟨rfl, rfl⟩, ⟨rfl, rfl⟩, ⟨rfl, rfl⟩, trivial⟩, rfl⟩, ?_⟩
       refine Or.inr ?_
       refine And.intro (by omega) ?_
       refine ⟨x41, rfl, 0, 32, ⟨rfl, rfl⟩, ?_⟩
       obtain ⟨hg, h⟩ := gd h
       refine And.intro (le_of_ln2 (ln_0 _ _) hg) ?_
       refine ⟨(x40 ++ (List.take 32 x41)), app_cut (cut_full _) (cut_0 _ _), 0, (List.length (x40 ++ (List.take 32 x41))), ⟨rfl, app_ln (ln_0 _ _)⟩, ?_⟩
       refine Or.inl ?_
       exact ⟨⟨(n1, (IntKind.wrap .u8 (x38 + 1)), x41, (x40 ++ (List.take 32 x41))), h⟩, [(2, 6), (3, 7)], ⟨rfl, ⟨rfl, rfl, rfl, rfl, rfl, trivial⟩, ⟨rfl, rfl, rfl, rfl, trivial⟩, rfl⟩, Nat.lt_succ_self _⟩
      ·replace h := cond_f h hb
       obtain ⟨hg, h⟩ := gd h
       refine And.intro hg ?_
       obtain ⟨hg, h⟩ := gd h
       refine And.intro hg ?_
       refine ⟨0, (Int.toNat (x36 - 0)), ⟨by simp, rfl⟩, ?_⟩
       obtain rfl := some_in h
       exact ⟨0, [], [], rfl, rfl, trivial⟩
    ·replace h := cond_f h hb
     obtain ⟨hg, h⟩ := gd h
     refine And.intro hg ?_
     obtain ⟨hg, h⟩ := gd h
     refine And.intro hg ?_
     obtain rfl := some_in h
     exact ⟨3, [(6, (.rowI .u8 ([] : List Int)))], [], rfl, rfl, trivial⟩
theorem kem_expand_c (x15 : List Int) (x16 : List UInt8) (x17 : List (List Int)) (res : (List Int)) (h : kem_expand x15 x16 x17 = some res) :
  Fn Tryd.prog (GE er) 14 [(.dv (.ints .u8 32 x15)), (.dv (.str x16)), (.dv (.ro ly22 (List.length x17) (rw_ (fun q => .roI .u8 q) [] x17)))] [] (.dv (.ints .u8 32 res)) [] := by
 refine bE er Tryd.func14 rfl rfl [] [(.dv (.ints .u8 32 x15)), (.dv (.str x16)), (.dv (.ro ly22 (List.length x17) (rw_ (fun q => .roI .u8 q) [] x17)))] [] [] (.dv (.ints .u8 32 res)) [] rfl rfl rfl rfl rfl rfl .nil 3 ?_
 replace h := (show kem_expand x15 x16 x17 = _ from h)
 unfold kem_expand at h
 obtain ⟨hg, h⟩ := gd h
 refine And.intro hg ?_
 let x18 : List UInt8 := ([0, 32, 72, 80, 75, 69, 45, 118, 49, 75, 69, 77, 0, 32] ++ x16)
 replace h := nm_at x18 rfl h
 refine ⟨(List.map (fun q : UInt8 => (q.toNat : Int)) x18), rfl, 0, (List.length (List.map (fun q : UInt8 => (q.toNat : Int)) x18)), ⟨rfl, List.length_map ..⟩, ?_⟩
 refine Or.inl ?_
 refine Or.inl ?_
 refine And.intro (by omega) ?_
 refine ⟨0, 32, ⟨rfl, rfl⟩, ?_⟩
 obtain ⟨r25, hc25, h⟩ := bnd h
 obtain ⟨x19, x20⟩ := r25
 refine ⟨[], _, _, _, ⟨⟨_, slices_Concat_byte_byte_2_c er 4 (by decide) x17 (x19, x20) hc25, ⟨.inl rfl, trivial⟩⟩, trivial, rfl⟩, ?_⟩
 refine Or.inl ?_
 obtain ⟨hg, h⟩ := gd h
 refine And.intro (le_of_ln2 (ln_0 _ _) hg) ?_
 refine ⟨((List.map (fun q : UInt8 => (q.toNat : Int)) x18) ++ (List.take x19 x20)), app_cut (cut_full _) (cut_0 _ _), 0, (List.length ((List.map (fun q : UInt8 => (q.toNat : Int)) x18) ++ (List.take x19 x20))), ⟨rfl, app_ln (ln_0 _ _)⟩, ?_⟩
 refine Or.inl ?_
 let x21 : List Int := ((List.map (fun q : UInt8 => (q.toNat : Int)) x18) ++ (List.take x19 x20))
 replace h := nm_at x21 rfl h
 obtain ⟨r25, hc25, h⟩ := bnd h
 rcases r25 with ⟨x22, x23⟩ | x25
 ·refine ⟨[true, true, false], _, _, _, ⟨⟨_, derive_Expand_c er 6 (by decide) (List.take 32 x15) x21 32 (Sum.inl (x22, x23)) hc25, ⟨.inl rfl, ve_full _ _, .inl rfl, trivial⟩⟩, trivial, rfl⟩, ?_⟩
  refine Or.inl ?_
  refine Or.inl ?_
  refine And.intro (fun _ => ?_) (fun h0 => Bool.noConfusion h0)
  refine Or.inl ?_
  refine And.intro (by omega) ?_
  refine ⟨0, 32, ⟨rfl, rfl⟩, ?_⟩
  let x24 : List Int := (over (List.replicate 32 (0 : Int)) 0 (List.take 32 (List.take x22 x23)))
  replace h := nm_at x24 rfl h
  obtain rfl := some_in h
  exact ⟨0, [], [], rfl, trivial⟩
 ·refine ⟨[true, true, false], _, _, _, ⟨⟨_, derive_Expand_c er 6 (by decide) (List.take 32 x15) x21 32 (Sum.inr x25) hc25, ⟨.inl rfl, ve_full _ _, .inl rfl, trivial⟩⟩, trivial, rfl⟩, ?_⟩
  refine Or.inl ?_
  refine And.intro (fun h0 => Bool.noConfusion h0) (fun _ => ?_)
  obtain rfl := some_in h
  exact ⟨0, [], [], rfl, trivial⟩
theorem ladder_Clamp_c (x30 : List Int) (res : (List Int)) (h : ladder_Clamp x30 = some res) :
  Fn Tryd.prog (GE er) 44 [(.dv (.ints .u8 32 x30))] [] (.dv (.ints .u8 32 res)) [] := by
 refine bE er Tryd.func44 rfl rfl [] [(.dv (.ints .u8 32 x30))] [] [] (.dv (.ints .u8 32 res)) [] rfl rfl rfl rfl rfl rfl .nil 3 ?_
 replace h := (show ladder_Clamp x30 = _ from h)
 unfold ladder_Clamp at h
 refine And.intro (by decide) ?_
 refine And.intro (by decide) ?_
 refine And.intro (by decide) ?_
 let x31 : Int := (List.getD (List.set x30 0 (bits .u8 .and (List.getD x30 0 0) 248)) 31 0)
 replace h := nm_at x31 rfl h
 refine And.intro (by decide) ?_
 let x32 : List Int := (List.set (List.set x30 0 (bits .u8 .and (List.getD x30 0 0) 248)) 31 (bits .u8 .and x31 127))
 replace h := nm_at x32 rfl h
 refine And.intro (by decide) ?_
 refine And.intro (by decide) ?_
 obtain rfl := some_in h
 exact ⟨0, [], [], rfl, trivial⟩
theorem field_Read_c (x34 : List Int) (res : T_field_Elem) (h : field_Read x34 = some res) :
  Fn Tryd.prog (GE er) 45 [(.dv (.ints .u8 32 x34))] [] (.dv (T_field_Elem.dv res)) [] := by
 refine bE er Tryd.func45 rfl rfl [] [(.dv (.ints .u8 32 x34))] [] [] (.dv (T_field_Elem.dv res)) [] rfl rfl rfl rfl rfl rfl .nil 3 ?_
 replace h := (show field_Read x34 = _ from h)
 unfold field_Read at h
 obtain ⟨r1_0_35, hl1_35, hr1_35⟩ := bnd h
 refine Or.inr ⟨[1], {p : (List Int) // p = r1_0_35}, ⟨fun | ⟨x35, _⟩ => [], fun | ⟨x35, _⟩ => [(2, (.var (.dv (.cons (.ints .u64 10 x35) .nil))))], fun _ => 0⟩, 0, ?_, ?_⟩
 ·rintro ⟨x35, hp⟩
  subst hp
  replace h := hr1_35
  obtain rfl := some_in h
  exact ⟨0, [], [], rfl, trivial⟩
 ·replace h := hl1_35
  refine Or.inl ?_
  refine ⟨[], {x : Nat × Int × (List Int) // field_Read_l1 x34 x.1 x.2.1 x.2.2 = some r1_0_35}, ⟨fun | ⟨(n1, x36, x37), _⟩ => [(5, (.int .i64 x36))], fun | ⟨(n1, x36, x37), _⟩ => [(2, (.var (.dv (.cons (.ints .u64 10 x37) .nil))))], fun | ⟨(n1, x36, x37), _⟩ => n1⟩, [], [], ⟨(FUEL, 0, (List.replicate 10 (0 : Int))), h⟩, ⟨rfl, ⟨rfl, trivial⟩, ⟨rfl, rfl, rfl, trivial⟩, rfl⟩, ?_⟩
  rintro ⟨⟨n1, x36, x37⟩, h⟩
  cases n1 with
  | zero => exact no_none h
  | succ n1 =>
   replace h := (show field_Read_l1 x34 (n1 + 1) x36 x37 = _ from h)
   replace h := (field_Read_l1.eq_2 .. ).symm.trans h
   refine And.intro (fun hb => ?_) (fun hb => ?_)
   ·replace h := cond_t h hb
    refine Or.inl ?_
    refine And.intro (by decide) ?_
    obtain ⟨hg, h⟩ := gd h
    refine And.intro hg ?_
    let x38 : Int := (List.getD x37 (Int.toNat (IntKind.wrap .i64 (Int.tdiv x36 26))) 0)
    replace h := nm_at x38 rfl h
    refine And.intro (by decide) ?_
    obtain ⟨hg, h⟩ := gd h
    refine And.intro hg ?_
    let x39 : Int := (List.getD x34 (Int.toNat (IntKind.wrap .i64 (Int.tdiv x36 8))) 0)
    replace h := nm_at x39 rfl h
    refine And.intro (by decide) ?_
    obtain ⟨hg, h⟩ := gd h
    refine And.intro hg ?_
    let x40 : Int := (Int.fdiv x39 (2 ^ (min (Int.toNat (Int.tmod x36 8)) (IntKind.bits .u8))))
    replace h := nm_at x40 rfl h
    refine And.intro (by decide) ?_
    obtain ⟨hg, h⟩ := gd h
    refine And.intro hg ?_
    let x41 : Int := (IntKind.wrap .u64 ((IntKind.wrap .u64 (bits .u8 .and x40 1)) * 2 ^ (min (Int.toNat (Int.tmod x36 26)) (IntKind.bits .u64))))
    replace h := nm_at x41 rfl h
    obtain ⟨hg, h⟩ := gd h
    refine And.intro hg ?_
    let x42 : List Int := (List.set x37 (Int.toNat (IntKind.wrap .i64 (Int.tdiv x36 26))) (bits .u64 .or x38 x41))
    replace h := nm_at x42 rfl h
    exact ⟨⟨(n1, (IntKind.wrap .i64 (x36 + 1)), x42), h⟩, [], ⟨rfl, ⟨rfl, trivial⟩, ⟨rfl, rfl, rfl, trivial⟩, rfl⟩, Nat.lt_succ_self _⟩
   ·replace h := cond_f h hb
    exact ⟨[], [], ⟨x37, some_in h⟩, [], rfl, trivial, ⟨rfl, rfl, rfl, trivial⟩, rfl⟩
theorem field_Elem_carry_2_c (b0 : Nat) (hn : [b0].Nodup) (x51 : T_field_Elem) (res : T_field_Elem) (h : field_Elem_carry_2 x51 = some res) :
  Fn Tryd.prog (GE er) 68 [(.ptr b0 [] ly84)] [(b0, (.var (.dv (T_field_Elem.dv x51))))] (.tup []) [(b0, (.var (.dv (T_field_Elem.dv res))))] := by
 refine bE er Tryd.func68 rfl rfl [(0, b0)] [(.ptr 0 [] ly84)] [(.var (.dv (T_field_Elem.dv x51)))] [] (.tup []) [(.var (.dv (T_field_Elem.dv res)))] rfl rfl rfl rfl rfl rfl hn 3 ?_
 replace h := (show field_Elem_carry_2 x51 = _ from h)
 unfold field_Elem_carry_2 at h
 obtain ⟨r1_0_52, hl1_52, hr1_52⟩ := bnd h
 refine Or.inr ⟨[0], {p : (List Int) // p = r1_0_52}, ⟨fun | ⟨x52, _⟩ => [], fun | ⟨x52, _⟩ => [(0, (.var (.dv (.cons (.ints .u64 10 x52) .nil))))], fun _ => 0⟩, 0, ?_, ?_⟩
 ·rintro ⟨x52, hp⟩
  subst hp
  replace h := hr1_52
  obtain rfl := some_in h
  exact ⟨0, [], [], rfl, rfl, trivial⟩
 ·replace h := hl1_52
  refine Or.inl ?_
  refine ⟨[], {x : Nat × Int × (List Int) // field_Elem_carry_2_l1 x.1 x.2.1 x.2.2 = some r1_0_52}, ⟨fun | ⟨(n1, x53, x54), _⟩ => [(4, (.int .i64 x53))], fun | ⟨(n1, x53, x54), _⟩ => [(0, (.var (.dv (.cons (.ints .u64 10 x54) .nil))))], fun | ⟨(n1, x53, x54), _⟩ => n1⟩, [], [], ⟨(FUEL, 0, x51.fn), h⟩, ⟨rfl, ⟨rfl, trivial⟩, ⟨rfl, trivial⟩, rfl⟩, ?_⟩
  rintro ⟨⟨n1, x53, x54⟩, h⟩
  cases n1 with
  | zero => exact no_none h
  | succ n1 =>
   replace h := (show field_Elem_carry_2_l1 (n1 + 1) x53 x54 = _ from h)
   replace h := (field_Elem_carry_2_l1.eq_2 .. ).symm.trans h
   refine And.intro (fun hb => ?_) (fun hb => ?_)
   ·replace h := cond_t h hb
    refine Or.inl ?_
    obtain ⟨r2_0_56, hl2_56, hr2_56⟩ := bnd h
    refine Or.inr ⟨[], {p : Int × (List Int) // p = r2_0_56}, ⟨fun | ⟨(x55, x56), _⟩ => [(2, (.int .u64 x55))], fun | ⟨(x55, x56), _⟩ => [(0, (.var (.dv (.cons (.ints .u64 10 x56) .nil))))], fun _ => 0⟩, 0, ?_, ?_⟩
    ·rintro ⟨⟨x55, x56⟩, hp⟩
     subst hp
     replace h := hr2_56
     refine And.intro (by decide) ?_
     let x64 : Int := (IntKind.wrap .u64 ((List.getD x56 0 0) + (IntKind.wrap .u64 (608 * x55))))
     replace h := nm_at x64 rfl h
     refine And.intro (by decide) ?_
     exact ⟨⟨(n1, (IntKind.wrap .i64 (x53 + 1)), (List.set x56 0 x64)), h⟩, [], ⟨rfl, ⟨rfl, trivial⟩, ⟨rfl, trivial⟩, rfl⟩, Nat.lt_succ_self _⟩
    ·replace h := hl2_56
     refine Or.inl ?_
     refine ⟨[], {x : Nat × Int × Int × (List Int) // field_Elem_carry_2_l2 x.1 x.2.1 x.2.2.1 x.2.2.2 = some r2_0_56}, ⟨fun | ⟨(n2, x57, x58, x59), _⟩ => [(2, (.int .u64 x57)), (6, (.int .i64 x58))], fun | ⟨(n2, x57, x58, x59), _⟩ => [(0, (.var (.dv (.cons (.ints .u64 10 x59) .nil))))], fun | ⟨(n2, x57, x58, x59), _⟩ => n2⟩, [], [], ⟨(FUEL, 0, 0, x54), h⟩, ⟨rfl, ⟨rfl, rfl, trivial⟩, ⟨rfl, trivial⟩, rfl⟩, ?_⟩
     rintro ⟨⟨n2, x57, x58, x59⟩, h⟩
     cases n2 with
     | zero => exact no_none h
     | succ n2 =>
      replace h := (show field_Elem_carry_2_l2 (n2 + 1) x57 x58 x59 = _ from h)
      replace h := (field_Elem_carry_2_l2.eq_2 .. ).symm.trans h
      refine And.intro (fun hb => ?_) (fun hb => ?_)
      ·replace h := cond_t h hb
       refine Or.inl ?_
       obtain ⟨hg, h⟩ := gd h
       refine And.intro hg ?_
       let x60 : Int := (IntKind.wrap .u64 ((List.getD x59 (Int.toNat x58) 0) + x57))
       replace h := nm_at x60 rfl h
       obtain ⟨hg, h⟩ := gd h
       refine And.intro hg ?_
       obtain ⟨hg, h⟩ := gd h
       refine And.intro hg ?_
       let x61 : Int := (List.getD (List.set x59 (Int.toNat x58) x60) (Int.toNat x58) 0)
       replace h := nm_at x61 rfl h
       refine And.intro (by decide) ?_
       obtain ⟨hg, h⟩ := gd h
       refine And.intro hg ?_
       let x62 : Int := (List.getD (List.set x59 (Int.toNat x58) x60) (Int.toNat x58) 0)
       replace h := nm_at x62 rfl h
       obtain ⟨hg, h⟩ := gd h
       refine And.intro hg ?_
       let x63 : List Int := (List.set (List.set x59 (Int.toNat x58) x60) (Int.toNat x58) (bits .u64 .and x62 67108863))
       replace h := nm_at x63 rfl h
       exact ⟨⟨(n2, (Int.fdiv x61 (2 ^ 26)), (IntKind.wrap .i64 (x58 + 1)), x63), h⟩, [], ⟨rfl, ⟨rfl, rfl, trivial⟩, ⟨rfl, trivial⟩, rfl⟩, Nat.lt_succ_self _⟩
      ·replace h := cond_f h hb
       exact ⟨[], [], ⟨(x57, x59), some_in h⟩, [], rfl, ⟨rfl, trivial⟩, ⟨rfl, trivial⟩, rfl⟩
   ·replace h := cond_f h hb
    exact ⟨[], [], ⟨x54, some_in h⟩, [], rfl, trivial, ⟨rfl, trivial⟩, rfl⟩
theorem field_Elem_Sub_c (x47 : T_field_Elem) (x48 : T_field_Elem) (res : T_field_Elem) (h : field_Elem_Sub x47 x48 = some res) :
  Fn Tryd.prog (GE er) 64 [(.dv (T_field_Elem.dv x47)), (.dv (T_field_Elem.dv x48))] [] (.dv (T_field_Elem.dv res)) [] := by
 refine bE er Tryd.func64 rfl rfl [] [(.dv (T_field_Elem.dv x47)), (.dv (T_field_Elem.dv x48))] [] [] (.dv (T_field_Elem.dv res)) [] rfl rfl rfl rfl rfl rfl .nil 3 ?_
 replace h := (show field_Elem_Sub x47 x48 = _ from h)
 unfold field_Elem_Sub at h
 obtain ⟨r1_0_49, hl1_49, hr1_49⟩ := bnd h
 refine Or.inr ⟨[3], {p : (List Int) // p = r1_0_49}, ⟨fun | ⟨x49, _⟩ => [], fun | ⟨x49, _⟩ => [(0, (.var (.dv (.cons (.ints .u64 10 x49) .nil))))], fun _ => 0⟩, 0, ?_, ?_⟩
 ·rintro ⟨x49, hp⟩
  subst hp
  replace h := hr1_49
  obtain ⟨x54, hc54, h⟩ := bnd h
  refine ⟨[], _, _, _, ⟨⟨_, field_Elem_carry_2_c er 0 (by decide) ({ fn := x49 } : T_field_Elem) x54 hc54, ⟨.inl rfl, trivial⟩⟩, ⟨⟨rfl, rfl⟩, trivial⟩, rfl⟩, ?_⟩
  obtain rfl := some_in h
  exact ⟨0, [], [], rfl, trivial⟩
 ·replace h := hl1_49
  refine Or.inl ?_
  refine ⟨[], {x : Nat × Int × (List Int) // field_Elem_Sub_l1 x48 x.1 x.2.1 x.2.2 = some r1_0_49}, ⟨fun | ⟨(n1, x50, x51), _⟩ => [(6, (.int .i64 x50))], fun | ⟨(n1, x50, x51), _⟩ => [(0, (.var (.dv (.cons (.ints .u64 10 x51) .nil))))], fun | ⟨(n1, x50, x51), _⟩ => n1⟩, [], [], ⟨(FUEL, 0, x47.fn), h⟩, ⟨rfl, ⟨rfl, trivial⟩, ⟨rfl, rfl, rfl, trivial⟩, rfl⟩, ?_⟩
  rintro ⟨⟨n1, x50, x51⟩, h⟩
  cases n1 with
  | zero => exact no_none h
  | succ n1 =>
   replace h := (show field_Elem_Sub_l1 x48 (n1 + 1) x50 x51 = _ from h)
   replace h := (field_Elem_Sub_l1.eq_2 .. ).symm.trans h
   refine And.intro (fun hb => ?_) (fun hb => ?_)
   ·replace h := cond_t h hb
    refine Or.inl ?_
    obtain ⟨hg, h⟩ := gd h
    refine And.intro hg ?_
    obtain ⟨hg, h⟩ := gd h
    refine And.intro hg ?_
    obtain ⟨hg, h⟩ := gd h
    refine And.intro hg ?_
    let x52 : Int := (IntKind.wrap .u64 ((List.getD tb_field_many (Int.toNat x50) 0) - (List.getD x48.fn (Int.toNat x50) 0)))
    replace h := nm_at x52 rfl h
    let x53 : Int := (IntKind.wrap .u64 ((List.getD x51 (Int.toNat x50) 0) + x52))
    replace h := nm_at x53 rfl h
    obtain ⟨hg, h⟩ := gd h
    refine And.intro hg ?_
    exact ⟨⟨(n1, (IntKind.wrap .i64 (x50 + 1)), (List.set x51 (Int.toNat x50) x53)), h⟩, [], ⟨rfl, ⟨rfl, trivial⟩, ⟨rfl, rfl, rfl, trivial⟩, rfl⟩, Nat.lt_succ_self _⟩
   ·replace h := cond_f h hb
    exact ⟨[], [], ⟨x51, some_in h⟩, [], rfl, trivial, ⟨rfl, rfl, rfl, trivial⟩, rfl⟩
theorem field_Small_c (x44 : Int) (res : T_field_Elem) (h : field_Small x44 = some res) :
  Fn Tryd.prog (GE er) 46 [(.int .i64 x44)] [] (.dv (T_field_Elem.dv res)) [] := by
 refine bE er Tryd.func46 rfl rfl [] [(.int .i64 x44)] [] [] (.dv (T_field_Elem.dv res)) [] rfl rfl rfl rfl rfl rfl .nil 3 ?_
 replace h := (show field_Small x44 = _ from h)
 unfold field_Small at h
 obtain ⟨r1_0_45, hl1_45, hr1_45⟩ := bnd h
 refine Or.inr ⟨[], {p : Int // p = r1_0_45}, ⟨fun | ⟨x45, _⟩ => [(4, (.int .u64 x45))], fun | ⟨x45, _⟩ => [], fun _ => 0⟩, 0, ?_, ?_⟩
 ·rintro ⟨x45, hp⟩
  subst hp
  replace h := hr1_45
  obtain ⟨r2_0_46, hl2_46, hr2_46⟩ := bnd h
  refine Or.inr ⟨[], {p : (List Int) // p = r2_0_46}, ⟨fun | ⟨x46, _⟩ => [], fun | ⟨x46, _⟩ => [(1, (.var (.dv (.cons (.ints .u64 10 x46) .nil))))], fun _ => 0⟩, 0, ?_, ?_⟩
  ·rintro ⟨x46, hp⟩
   subst hp
   replace h := hr2_46
   refine And.intro (fun hb => ?_) (fun hb => ?_)
   ·replace h := cond_t h hb
    obtain ⟨x50, hc50, h⟩ := bnd h
    refine ⟨[], _, _, _, ⟨⟨_, field_Elem_Sub_c er ({ fn := (List.replicate 10 (0 : Int)) } : T_field_Elem) ({ fn := x46 } : T_field_Elem) x50 hc50, ⟨.inl rfl, .inl rfl, trivial⟩⟩, trivial, rfl⟩, ?_⟩
    obtain rfl := some_in h
    exact ⟨0, [], [], rfl, trivial⟩
   ·replace h := cond_f h hb
    obtain rfl := some_in h
    exact ⟨0, [], [], rfl, trivial⟩
  ·replace h := hl2_46
   refine Or.inl ?_
   refine ⟨[], {x : Nat × Int × (List Int) // field_Small_l1 x45 x.1 x.2.1 x.2.2 = some r2_0_46}, ⟨fun | ⟨(n1, x47, x48), _⟩ => [(12, (.int .i64 x47))], fun | ⟨(n1, x47, x48), _⟩ => [(1, (.var (.dv (.cons (.ints .u64 10 x48) .nil))))], fun | ⟨(n1, x47, x48), _⟩ => n1⟩, [], [], ⟨(FUEL, 0, (List.replicate 10 (0 : Int))), h⟩, ⟨rfl, ⟨rfl, trivial⟩, ⟨rfl, rfl, trivial⟩, rfl⟩, ?_⟩
   rintro ⟨⟨n1, x47, x48⟩, h⟩
   cases n1 with
   | zero => exact no_none h
   | succ n1 =>
    replace h := (show field_Small_l1 x45 (n1 + 1) x47 x48 = _ from h)
    replace h := (field_Small_l1.eq_2 .. ).symm.trans h
    refine And.intro (fun hb => ?_) (fun hb => ?_)
    ·replace h := cond_t h hb
     refine Or.inl ?_
     obtain ⟨hg, h⟩ := gd h
     refine And.intro hg ?_
     let x49 : Int := (Int.fdiv x45 (2 ^ (min (Int.toNat (IntKind.wrap .i64 (26 * x47))) (IntKind.bits .u64))))
     replace h := nm_at x49 rfl h
     obtain ⟨hg, h⟩ := gd h
     refine And.intro hg ?_
     exact ⟨⟨(n1, (IntKind.wrap .i64 (x47 + 1)), (List.set x48 (Int.toNat x47) (bits .u64 .and x49 67108863))), h⟩, [], ⟨rfl, ⟨rfl, trivial⟩, ⟨rfl, rfl, trivial⟩, rfl⟩, Nat.lt_succ_self _⟩
    ·replace h := cond_f h hb
     exact ⟨[], [], ⟨x48, some_in h⟩, [], rfl, trivial, ⟨rfl, rfl, trivial⟩, rfl⟩
 ·replace h := hl1_45
  refine And.intro (fun hb => ?_) (fun hb => ?_)
  ·replace h := cond_t h hb
   exact ⟨[], [], ⟨(IntKind.wrap .u64 (0 - (IntKind.wrap .u64 x44))), some_in h⟩, [], rfl, ⟨rfl, trivial⟩, ⟨rfl, rfl, trivial⟩, rfl⟩
  ·replace h := cond_f h hb
   exact ⟨[], [], ⟨(IntKind.wrap .u64 x44), some_in h⟩, [], rfl, ⟨rfl, trivial⟩, ⟨rfl, rfl, trivial⟩, rfl⟩
theorem words_Pick_c (x59 : Bool) (x60 : Int) (x61 : Int) (res : Int) (h : words_Pick x59 x60 x61 = some res) :
  Fn Tryd.prog (GE er) 80 [(.bl x59), (.int .u64 x60), (.int .u64 x61)] [] (.int .u64 res) [] := by
 refine bE er Tryd.func80 rfl rfl [] [(.bl x59), (.int .u64 x60), (.int .u64 x61)] [] [] (.int .u64 res) [] rfl rfl rfl rfl rfl rfl .nil 3 ?_
 replace h := (show words_Pick x59 x60 x61 = _ from h)
 unfold words_Pick at h
 obtain ⟨r1_0_62, hl1_62, hr1_62⟩ := bnd h
 refine Or.inr ⟨[], {p : Int // p = r1_0_62}, ⟨fun | ⟨x62, _⟩ => [(7, (.int .u64 x62))], fun | ⟨x62, _⟩ => [], fun _ => 0⟩, 0, ?_, ?_⟩
 ·rintro ⟨x62, hp⟩
  subst hp
  replace h := hr1_62
  let x63 : Int := (bits .u64 .or (bits .u64 .and x60 x62) (bits .u64 .andNot x61 x62))
  replace h := nm_at x63 rfl h
  obtain rfl := some_in h
  exact ⟨0, [], [], rfl, trivial⟩
 ·replace h := hl1_62
  refine And.intro (fun hb => ?_) (fun hb => ?_)
  ·replace h := cond_t h hb
   exact ⟨[], [], ⟨18446744073709551615, some_in h⟩, [], rfl, ⟨rfl, trivial⟩, trivial, rfl⟩
  ·replace h := cond_f h hb
   exact ⟨[], [], ⟨0, some_in h⟩, [], rfl, ⟨rfl, trivial⟩, trivial, rfl⟩
theorem field_Pick_c (x56 : Bool) (x57 : T_field_Elem) (x58 : T_field_Elem) (res : T_field_Elem) (h : field_Pick x56 x57 x58 = some res) :
  Fn Tryd.prog (GE er) 65 [(.bl x56), (.dv (T_field_Elem.dv x57)), (.dv (T_field_Elem.dv x58))] [] (.dv (T_field_Elem.dv res)) [] := by
 refine bE er Tryd.func65 rfl rfl [] [(.bl x56), (.dv (T_field_Elem.dv x57)), (.dv (T_field_Elem.dv x58))] [] [] (.dv (T_field_Elem.dv res)) [] rfl rfl rfl rfl rfl rfl .nil 3 ?_
 replace h := (show field_Pick x56 x57 x58 = _ from h)
 unfold field_Pick at h
 obtain ⟨r1_0_59, hl1_59, hr1_59⟩ := bnd h
 refine Or.inr ⟨[0, 5], {p : (List Int) // p = r1_0_59}, ⟨fun | ⟨x59, _⟩ => [], fun | ⟨x59, _⟩ => [(0, (.var (.dv (.cons (.ints .u64 10 x59) .nil))))], fun _ => 0⟩, 0, ?_, ?_⟩
 ·rintro ⟨x59, hp⟩
  subst hp
  replace h := hr1_59
  obtain rfl := some_in h
  exact ⟨0, [], [], rfl, trivial⟩
 ·replace h := hl1_59
  refine Or.inl ?_
  refine ⟨[], {x : Nat × Int × (List Int) // field_Pick_l1 x56 x58 x.1 x.2.1 x.2.2 = some r1_0_59}, ⟨fun | ⟨(n1, x60, x61), _⟩ => [(8, (.int .i64 x60))], fun | ⟨(n1, x60, x61), _⟩ => [(0, (.var (.dv (.cons (.ints .u64 10 x61) .nil))))], fun | ⟨(n1, x60, x61), _⟩ => n1⟩, [], [], ⟨(FUEL, 0, x57.fn), h⟩, ⟨rfl, ⟨rfl, trivial⟩, ⟨rfl, rfl, rfl, trivial⟩, rfl⟩, ?_⟩
  rintro ⟨⟨n1, x60, x61⟩, h⟩
  cases n1 with
  | zero => exact no_none h
  | succ n1 =>
   replace h := (show field_Pick_l1 x56 x58 (n1 + 1) x60 x61 = _ from h)
   replace h := (field_Pick_l1.eq_2 .. ).symm.trans h
   refine And.intro (fun hb => ?_) (fun hb => ?_)
   ·replace h := cond_t h hb
    refine Or.inl ?_
    obtain ⟨hg, h⟩ := gd h
    refine And.intro hg ?_
    obtain ⟨hg, h⟩ := gd h
    refine And.intro hg ?_
    obtain ⟨x62, hc62, h⟩ := bnd h
    refine ⟨[], _, _, _, ⟨⟨_, words_Pick_c er x56 (List.getD x61 (Int.toNat x60) 0) (List.getD x58.fn (Int.toNat x60) 0) x62 hc62, ⟨.inl rfl, .inl rfl, .inl rfl, trivial⟩⟩, trivial, rfl⟩, ?_⟩
    obtain ⟨hg, h⟩ := gd h
    refine And.intro hg ?_
    exact ⟨⟨(n1, (IntKind.wrap .i64 (x60 + 1)), (List.set x61 (Int.toNat x60) x62)), h⟩, [], ⟨rfl, ⟨rfl, trivial⟩, ⟨rfl, rfl, rfl, trivial⟩, rfl⟩, Nat.lt_succ_self _⟩
   ·replace h := cond_f h hb
    exact ⟨[], [], ⟨x61, some_in h⟩, [], rfl, trivial, ⟨rfl, rfl, rfl, trivial⟩, rfl⟩
theorem ladder_step_swapped_c (x54 : T_ladder_step) (x55 : Bool) (res : T_ladder_step) (h : ladder_step_swapped x54 x55 = some res) :
  Fn Tryd.prog (GE er) 47 [(.dv (T_ladder_step.dv x54)), (.bl x55)] [] (.dv (T_ladder_step.dv res)) [] := by
 refine bE er Tryd.func47 rfl rfl [] [(.dv (T_ladder_step.dv x54)), (.bl x55)] [] [] (.dv (T_ladder_step.dv res)) [] rfl rfl rfl rfl rfl rfl .nil 3 ?_
 replace h := (show ladder_step_swapped x54 x55 = _ from h)
 unfold ladder_step_swapped at h
 obtain ⟨x56, hc59, h⟩ := bnd h
 refine ⟨[], _, _, _, ⟨⟨_, field_Pick_c er x55 x54.fx3 x54.fx2 x56 hc59, ⟨.inl rfl, .inl rfl, .inl rfl, trivial⟩⟩, trivial, rfl⟩, ?_⟩
 obtain ⟨x57, hc59, h⟩ := bnd h
 refine ⟨[], _, _, _, ⟨⟨_, field_Pick_c er x55 x54.fz3 x54.fz2 x57 hc59, ⟨.inl rfl, .inl rfl, .inl rfl, trivial⟩⟩, trivial, rfl⟩, ?_⟩
 obtain ⟨x58, hc59, h⟩ := bnd h
 refine ⟨[], _, _, _, ⟨⟨_, field_Pick_c er x55 x54.fx2 x54.fx3 x58 hc59, ⟨.inl rfl, .inl rfl, .inl rfl, trivial⟩⟩, trivial, rfl⟩, ?_⟩
 obtain ⟨x59, hc59, h⟩ := bnd h
 refine ⟨[], _, _, _, ⟨⟨_, field_Pick_c er x55 x54.fz2 x54.fz3 x59 hc59, ⟨.inl rfl, .inl rfl, .inl rfl, trivial⟩⟩, trivial, rfl⟩, ?_⟩
 obtain rfl := some_in h
 exact ⟨0, [], [], rfl, trivial⟩
theorem field_Elem_Add_c (x63 : T_field_Elem) (x64 : T_field_Elem) (res : T_field_Elem) (h : field_Elem_Add x63 x64 = some res) :
  Fn Tryd.prog (GE er) 66 [(.dv (T_field_Elem.dv x63)), (.dv (T_field_Elem.dv x64))] [] (.dv (T_field_Elem.dv res)) [] := by
 refine bE er Tryd.func66 rfl rfl [] [(.dv (T_field_Elem.dv x63)), (.dv (T_field_Elem.dv x64))] [] [] (.dv (T_field_Elem.dv res)) [] rfl rfl rfl rfl rfl rfl .nil 3 ?_
 replace h := (show field_Elem_Add x63 x64 = _ from h)
 unfold field_Elem_Add at h
 obtain ⟨r1_0_65, hl1_65, hr1_65⟩ := bnd h
 refine Or.inr ⟨[3], {p : (List Int) // p = r1_0_65}, ⟨fun | ⟨x65, _⟩ => [], fun | ⟨x65, _⟩ => [(0, (.var (.dv (.cons (.ints .u64 10 x65) .nil))))], fun _ => 0⟩, 0, ?_, ?_⟩
 ·rintro ⟨x65, hp⟩
  subst hp
  replace h := hr1_65
  obtain ⟨x69, hc69, h⟩ := bnd h
  refine ⟨[], _, _, _, ⟨⟨_, field_Elem_carry_2_c er 0 (by decide) ({ fn := x65 } : T_field_Elem) x69 hc69, ⟨.inl rfl, trivial⟩⟩, ⟨⟨rfl, rfl⟩, trivial⟩, rfl⟩, ?_⟩
  obtain rfl := some_in h
  exact ⟨0, [], [], rfl, trivial⟩
 ·replace h := hl1_65
  refine Or.inl ?_
  refine ⟨[], {x : Nat × Int × (List Int) // field_Elem_Add_l1 x64 x.1 x.2.1 x.2.2 = some r1_0_65}, ⟨fun | ⟨(n1, x66, x67), _⟩ => [(6, (.int .i64 x66))], fun | ⟨(n1, x66, x67), _⟩ => [(0, (.var (.dv (.cons (.ints .u64 10 x67) .nil))))], fun | ⟨(n1, x66, x67), _⟩ => n1⟩, [], [], ⟨(FUEL, 0, x63.fn), h⟩, ⟨rfl, ⟨rfl, trivial⟩, ⟨rfl, rfl, rfl, trivial⟩, rfl⟩, ?_⟩
  rintro ⟨⟨n1, x66, x67⟩, h⟩
  cases n1 with
  | zero => exact no_none h
  | succ n1 =>
   replace h := (show field_Elem_Add_l1 x64 (n1 + 1) x66 x67 = _ from h)
   replace h := (field_Elem_Add_l1.eq_2 .. ).symm.trans h
   refine And.intro (fun hb => ?_) (fun hb => ?_)
   ·replace h := cond_t h hb
    refine Or.inl ?_
    obtain ⟨hg, h⟩ := gd h
    refine And.intro hg ?_
    obtain ⟨hg, h⟩ := gd h
    refine And.intro hg ?_
    let x68 : Int := (IntKind.wrap .u64 ((List.getD x67 (Int.toNat x66) 0) + (List.getD x64.fn (Int.toNat x66) 0)))
    replace h := nm_at x68 rfl h
    obtain ⟨hg, h⟩ := gd h
    refine And.intro hg ?_
    exact ⟨⟨(n1, (IntKind.wrap .i64 (x66 + 1)), (List.set x67 (Int.toNat x66) x68)), h⟩, [], ⟨rfl, ⟨rfl, trivial⟩, ⟨rfl, rfl, rfl, trivial⟩, rfl⟩, Nat.lt_succ_self _⟩
   ·replace h := cond_f h hb
    exact ⟨[], [], ⟨x67, some_in h⟩, [], rfl, trivial, ⟨rfl, rfl, rfl, trivial⟩, rfl⟩
theorem field_Elem_Times_c (x73 : T_field_Elem) (x74 : T_field_Elem) (res : T_field_Elem) (h : field_Elem_Times x73 x74 = some res) :
  Fn Tryd.prog (GE er) 49 [(.dv (T_field_Elem.dv x73)), (.dv (T_field_Elem.dv x74))] [] (.dv (T_field_Elem.dv res)) [] := by
 refine bE er Tryd.func49 rfl rfl [] [(.dv (T_field_Elem.dv x73)), (.dv (T_field_Elem.dv x74))] [] [] (.dv (T_field_Elem.dv res)) [] rfl rfl rfl rfl rfl rfl .nil 3 ?_
 replace h := (show field_Elem_Times x73 x74 = _ from h)
 unfold field_Elem_Times at h
 obtain ⟨r1_0_75, hl1_75, hr1_75⟩ := bnd h
 refine Or.inr ⟨[3, 14], {p : (List Int) // p = r1_0_75}, ⟨fun | ⟨x75, _⟩ => [], fun | ⟨x75, _⟩ => [(3, (.var (.dv (.ints .u64 20 x75))))], fun _ => 0⟩, 0, ?_, ?_⟩
 ·rintro ⟨x75, hp⟩
  subst hp
  replace h := hr1_75
  obtain ⟨r3_2_84, hl3_84, hr3_84⟩ := bnd h
  refine Or.inr ⟨[], {p : (List Int) // p = r3_2_84}, ⟨fun | ⟨x84, _⟩ => [], fun | ⟨x84, _⟩ => [(3, (.var (.dv (.ints .u64 20 x84))))], fun _ => 0⟩, 0, ?_, ?_⟩
  ·rintro ⟨x84, hp⟩
   subst hp
   replace h := hr3_84
   obtain ⟨r4_3_90, hl4_90, hr4_90⟩ := bnd h
   refine Or.inr ⟨[], {p : (List Int) // p = r4_3_90}, ⟨fun | ⟨x90, _⟩ => [], fun | ⟨x90, _⟩ => [(4, (.var (.dv (.cons (.ints .u64 10 x90) .nil))))], fun _ => 0⟩, 0, ?_, ?_⟩
   ·rintro ⟨x90, hp⟩
    subst hp
    replace h := hr4_90
    obtain ⟨x95, hc95, h⟩ := bnd h
    refine ⟨[], _, _, _, ⟨⟨_, field_Elem_carry_2_c er 4 (by decide) ({ fn := x90 } : T_field_Elem) x95 hc95, ⟨.inl rfl, trivial⟩⟩, ⟨⟨rfl, rfl⟩, trivial⟩, rfl⟩, ?_⟩
    obtain rfl := some_in h
    exact ⟨0, [], [], rfl, trivial⟩
   ·replace h := hl4_90
    refine Or.inl ?_
    refine ⟨[], {x : Nat × Int × (List Int) // field_Elem_Times_l4 x84 x.1 x.2.1 x.2.2 = some r4_3_90}, ⟨fun | ⟨(n4, x91, x92), _⟩ => [(56, (.int .i64 x91))], fun | ⟨(n4, x91, x92), _⟩ => [(4, (.var (.dv (.cons (.ints .u64 10 x92) .nil))))], fun | ⟨(n4, x91, x92), _⟩ => n4⟩, [], [], ⟨(FUEL, 0, (List.replicate 10 (0 : Int))), h⟩, ⟨rfl, ⟨rfl, trivial⟩, ⟨rfl, rfl, rfl, rfl, rfl, trivial⟩, rfl⟩, ?_⟩
    rintro ⟨⟨n4, x91, x92⟩, h⟩
    cases n4 with
    | zero => exact no_none h
    | succ n4 =>
     replace h := (show field_Elem_Times_l4 x84 (n4 + 1) x91 x92 = _ from h)
     replace h := (field_Elem_Times_l4.eq_2 .. ).symm.trans h
     refine And.intro (fun hb => ?_) (fun hb => ?_)
     ·replace h := cond_t h hb
      refine Or.inl ?_
      obtain ⟨hg, h⟩ := gd h
      refine And.intro hg ?_
      obtain ⟨hg, h⟩ := gd h
      refine And.intro hg ?_
      let x93 : Int := (IntKind.wrap .u64 (608 * (List.getD x84 (Int.toNat (IntKind.wrap .i64 (10 + x91))) 0)))
      replace h := nm_at x93 rfl h
      let x94 : Int := (IntKind.wrap .u64 ((List.getD x84 (Int.toNat x91) 0) + x93))
      replace h := nm_at x94 rfl h
      obtain ⟨hg, h⟩ := gd h
      refine And.intro hg ?_
      exact ⟨⟨(n4, (IntKind.wrap .i64 (x91 + 1)), (List.set x92 (Int.toNat x91) x94)), h⟩, [], ⟨rfl, ⟨rfl, trivial⟩, ⟨rfl, rfl, rfl, rfl, rfl, trivial⟩, rfl⟩, Nat.lt_succ_self _⟩
     ·replace h := cond_f h hb
      exact ⟨[], [], ⟨x92, some_in h⟩, [], rfl, trivial, ⟨rfl, rfl, rfl, rfl, rfl, trivial⟩, rfl⟩
  ·replace h := hl3_84
   refine Or.inl ?_
   refine ⟨[], {x : Nat × Int × (List Int) // field_Elem_Times_l3 x.1 x.2.1 x.2.2 = some r3_2_84}, ⟨fun | ⟨(n3, x85, x86), _⟩ => [(37, (.int .i64 x85))], fun | ⟨(n3, x85, x86), _⟩ => [(3, (.var (.dv (.ints .u64 20 x86))))], fun | ⟨(n3, x85, x86), _⟩ => n3⟩, [], [], ⟨(FUEL, 0, x75), h⟩, ⟨rfl, ⟨rfl, trivial⟩, ⟨rfl, rfl, rfl, rfl, trivial⟩, rfl⟩, ?_⟩
   rintro ⟨⟨n3, x85, x86⟩, h⟩
   cases n3 with
   | zero => exact no_none h
   | succ n3 =>
    replace h := (show field_Elem_Times_l3 (n3 + 1) x85 x86 = _ from h)
    replace h := (field_Elem_Times_l3.eq_2 .. ).symm.trans h
    refine And.intro (fun hb => ?_) (fun hb => ?_)
    ·replace h := cond_t h hb
     refine Or.inl ?_
     obtain ⟨hg, h⟩ := gd h
     refine And.intro hg ?_
     obtain ⟨hg, h⟩ := gd h
     refine And.intro hg ?_
     refine And.intro (by decide) ?_
     let x87 : Int := (IntKind.wrap .u64 ((List.getD x86 (Int.toNat (IntKind.wrap .i64 (x85 + 1))) 0) + (Int.fdiv (List.getD x86 (Int.toNat x85) 0) (2 ^ 26))))
     replace h := nm_at x87 rfl h
     obtain ⟨hg, h⟩ := gd h
     refine And.intro hg ?_
     obtain ⟨hg, h⟩ := gd h
     refine And.intro hg ?_
     let x88 : Int := (List.getD (List.set x86 (Int.toNat (IntKind.wrap .i64 (x85 + 1))) x87) (Int.toNat x85) 0)
     replace h := nm_at x88 rfl h
     obtain ⟨hg, h⟩ := gd h
     refine And.intro hg ?_
     let x89 : List Int := (List.set (List.set x86 (Int.toNat (IntKind.wrap .i64 (x85 + 1))) x87) (Int.toNat x85) (bits .u64 .and x88 67108863))
     replace h := nm_at x89 rfl h
     exact ⟨⟨(n3, (IntKind.wrap .i64 (x85 + 1)), x89), h⟩, [], ⟨rfl, ⟨rfl, trivial⟩, ⟨rfl, rfl, rfl, rfl, trivial⟩, rfl⟩, Nat.lt_succ_self _⟩
    ·replace h := cond_f h hb
     exact ⟨[], [], ⟨x86, some_in h⟩, [], rfl, trivial, ⟨rfl, rfl, rfl, rfl, trivial⟩, rfl⟩
 ·replace h := hl1_75
  refine Or.inl ?_
  refine ⟨[], {x : Nat × Int × (List Int) // field_Elem_Times_l1 x73 x74 x.1 x.2.1 x.2.2 = some r1_0_75}, ⟨fun | ⟨(n1, x76, x77), _⟩ => [(15, (.int .i64 x76))], fun | ⟨(n1, x76, x77), _⟩ => [(3, (.var (.dv (.ints .u64 20 x77))))], fun | ⟨(n1, x76, x77), _⟩ => n1⟩, [], [], ⟨(FUEL, 0, (List.replicate 20 (0 : Int))), h⟩, ⟨rfl, ⟨rfl, trivial⟩, ⟨rfl, rfl, rfl, rfl, trivial⟩, rfl⟩, ?_⟩
  rintro ⟨⟨n1, x76, x77⟩, h⟩
  cases n1 with
  | zero => exact no_none h
  | succ n1 =>
   replace h := (show field_Elem_Times_l1 x73 x74 (n1 + 1) x76 x77 = _ from h)
   replace h := (field_Elem_Times_l1.eq_2 .. ).symm.trans h
   refine And.intro (fun hb => ?_) (fun hb => ?_)
   ·replace h := cond_t h hb
    refine Or.inl ?_
    obtain ⟨hg, h⟩ := gd h
    refine And.intro hg ?_
    obtain ⟨r2_0_78, hl2_78, hr2_78⟩ := bnd h
    refine Or.inr ⟨[6, 7, 20], {p : (List Int) // p = r2_0_78}, ⟨fun | ⟨x78, _⟩ => [], fun | ⟨x78, _⟩ => [(3, (.var (.dv (.ints .u64 20 x78))))], fun _ => 0⟩, 0, ?_, ?_⟩
    ·rintro ⟨x78, hp⟩
     subst hp
     replace h := hr2_78
     exact ⟨⟨(n1, (IntKind.wrap .i64 (x76 + 1)), x78), h⟩, [], ⟨rfl, ⟨rfl, trivial⟩, ⟨rfl, rfl, rfl, rfl, trivial⟩, rfl⟩, Nat.lt_succ_self _⟩
    ·replace h := hl2_78
     refine Or.inl ?_
     refine ⟨[], {x : Nat × Int × (List Int) // field_Elem_Times_l2 x73 x74 x76 x.1 x.2.1 x.2.2 = some r2_0_78}, ⟨fun | ⟨(n2, x79, x80), _⟩ => [(21, (.int .i64 x79))], fun | ⟨(n2, x79, x80), _⟩ => [(3, (.var (.dv (.ints .u64 20 x80))))], fun | ⟨(n2, x79, x80), _⟩ => n2⟩, [], [], ⟨(FUEL, 0, x77), h⟩, ⟨rfl, ⟨rfl, trivial⟩, ⟨rfl, rfl, rfl, rfl, trivial⟩, rfl⟩, ?_⟩
     rintro ⟨⟨n2, x79, x80⟩, h⟩
     cases n2 with
     | zero => exact no_none h
     | succ n2 =>
      replace h := (show field_Elem_Times_l2 x73 x74 x76 (n2 + 1) x79 x80 = _ from h)
      replace h := (field_Elem_Times_l2.eq_2 .. ).symm.trans h
      refine And.intro (fun hb => ?_) (fun hb => ?_)
      ·replace h := cond_t h hb
       refine Or.inl ?_
       obtain ⟨hg, h⟩ := gd h
       refine And.intro hg ?_
       obtain ⟨hg, h⟩ := gd h
       refine And.intro hg ?_
       let x81 : Int := (List.getD x80 (Int.toNat (IntKind.wrap .i64 (x76 + x79))) 0)
       replace h := nm_at x81 rfl h
       let x82 : Int := (IntKind.wrap .u64 ((List.getD x73.fn (Int.toNat x76) 0) * (List.getD x74.fn (Int.toNat x79) 0)))
       replace h := nm_at x82 rfl h
       obtain ⟨hg, h⟩ := gd h
       refine And.intro hg ?_
       let x83 : List Int := (List.set x80 (Int.toNat (IntKind.wrap .i64 (x76 + x79))) (IntKind.wrap .u64 (x81 + x82)))
       replace h := nm_at x83 rfl h
       exact ⟨⟨(n2, (IntKind.wrap .i64 (x79 + 1)), x83), h⟩, [], ⟨rfl, ⟨rfl, trivial⟩, ⟨rfl, rfl, rfl, rfl, trivial⟩, rfl⟩, Nat.lt_succ_self _⟩
      ·replace h := cond_f h hb
       exact ⟨[], [], ⟨x80, some_in h⟩, [], rfl, trivial, ⟨rfl, rfl, rfl, rfl, trivial⟩, rfl⟩
   ·replace h := cond_f h hb
    exact ⟨[], [], ⟨x77, some_in h⟩, [], rfl, trivial, ⟨rfl, rfl, rfl, rfl, trivial⟩, rfl⟩
theorem field_Elem_Square_c (x72 : T_field_Elem) (res : T_field_Elem) (h : field_Elem_Square x72 = some res) :
  Fn Tryd.prog (GE er) 67 [(.dv (T_field_Elem.dv x72))] [] (.dv (T_field_Elem.dv res)) [] := by
 refine bE er Tryd.func67 rfl rfl [] [(.dv (T_field_Elem.dv x72))] [] [] (.dv (T_field_Elem.dv res)) [] rfl rfl rfl rfl rfl rfl .nil 3 ?_
 replace h := (show field_Elem_Square x72 = _ from h)
 unfold field_Elem_Square at h
 obtain ⟨x73, hc73, h⟩ := bnd h
 refine ⟨[], _, _, _, ⟨⟨_, field_Elem_Times_c er x72 x72 x73 hc73, ⟨.inl rfl, .inl rfl, trivial⟩⟩, trivial, rfl⟩, ?_⟩
 obtain rfl := some_in h
 exact ⟨0, [], [], rfl, trivial⟩
theorem ladder_step_next_c (x61 : T_ladder_step) (x62 : T_field_Elem) (res : T_ladder_step) (h : ladder_step_next x61 x62 = some res) :
  Fn Tryd.prog (GE er) 48 [(.dv (T_ladder_step.dv x61)), (.dv (T_field_Elem.dv x62))] [] (.dv (T_ladder_step.dv res)) [] := by
 refine bE er Tryd.func48 rfl rfl [] [(.dv (T_ladder_step.dv x61)), (.dv (T_field_Elem.dv x62))] [] [] (.dv (T_ladder_step.dv res)) [] rfl rfl rfl rfl rfl rfl .nil 3 ?_
 replace h := (show ladder_step_next x61 x62 = _ from h)
 unfold ladder_step_next at h
 obtain ⟨x63, hc81, h⟩ := bnd h
 refine ⟨[], _, _, _, ⟨⟨_, field_Elem_Add_c er x61.fx2 x61.fz2 x63 hc81, ⟨.inl rfl, .inl rfl, trivial⟩⟩, trivial, rfl⟩, ?_⟩
 obtain ⟨x64, hc81, h⟩ := bnd h
 refine ⟨[], _, _, _, ⟨⟨_, field_Elem_Sub_c er x61.fx2 x61.fz2 x64 hc81, ⟨.inl rfl, .inl rfl, trivial⟩⟩, trivial, rfl⟩, ?_⟩
 obtain ⟨x65, hc81, h⟩ := bnd h
 refine ⟨[], _, _, _, ⟨⟨_, field_Elem_Square_c er x63 x65 hc81, ⟨.inl rfl, trivial⟩⟩, trivial, rfl⟩, ?_⟩
 obtain ⟨x66, hc81, h⟩ := bnd h
 refine ⟨[], _, _, _, ⟨⟨_, field_Elem_Square_c er x64 x66 hc81, ⟨.inl rfl, trivial⟩⟩, trivial, rfl⟩, ?_⟩
 obtain ⟨x67, hc81, h⟩ := bnd h
 refine ⟨[], _, _, _, ⟨⟨_, field_Elem_Sub_c er x65 x66 x67 hc81, ⟨.inl rfl, .inl rfl, trivial⟩⟩, trivial, rfl⟩, ?_⟩
 obtain ⟨x68, hc81, h⟩ := bnd h
 refine ⟨[], _, _, _, ⟨⟨_, field_Elem_Sub_c er x61.fx3 x61.fz3 x68 hc81, ⟨.inl rfl, .inl rfl, trivial⟩⟩, trivial, rfl⟩, ?_⟩
 obtain ⟨x69, hc81, h⟩ := bnd h
 refine ⟨[], _, _, _, ⟨⟨_, field_Elem_Times_c er x68 x63 x69 hc81, ⟨.inl rfl, .inl rfl, trivial⟩⟩, trivial, rfl⟩, ?_⟩
 obtain ⟨x70, hc81, h⟩ := bnd h
 refine ⟨[], _, _, _, ⟨⟨_, field_Elem_Add_c er x61.fx3 x61.fz3 x70 hc81, ⟨.inl rfl, .inl rfl, trivial⟩⟩, trivial, rfl⟩, ?_⟩
 obtain ⟨x71, hc81, h⟩ := bnd h
 refine ⟨[], _, _, _, ⟨⟨_, field_Elem_Times_c er x70 x64 x71 hc81, ⟨.inl rfl, .inl rfl, trivial⟩⟩, trivial, rfl⟩, ?_⟩
 obtain ⟨x72, hc81, h⟩ := bnd h
 refine ⟨[], _, _, _, ⟨⟨_, field_Elem_Times_c er x65 x66 x72 hc81, ⟨.inl rfl, .inl rfl, trivial⟩⟩, trivial, rfl⟩, ?_⟩
 obtain ⟨x73, hc81, h⟩ := bnd h
 refine ⟨[], _, _, _, ⟨⟨_, field_Small_c er 121665 x73 hc81, ⟨.inl rfl, trivial⟩⟩, trivial, rfl⟩, ?_⟩
 obtain ⟨x74, hc81, h⟩ := bnd h
 refine ⟨[], _, _, _, ⟨⟨_, field_Elem_Times_c er x67 x73 x74 hc81, ⟨.inl rfl, .inl rfl, trivial⟩⟩, trivial, rfl⟩, ?_⟩
 obtain ⟨x75, hc81, h⟩ := bnd h
 refine ⟨[], _, _, _, ⟨⟨_, field_Elem_Add_c er x65 x74 x75 hc81, ⟨.inl rfl, .inl rfl, trivial⟩⟩, trivial, rfl⟩, ?_⟩
 obtain ⟨x76, hc81, h⟩ := bnd h
 refine ⟨[], _, _, _, ⟨⟨_, field_Elem_Times_c er x67 x75 x76 hc81, ⟨.inl rfl, .inl rfl, trivial⟩⟩, trivial, rfl⟩, ?_⟩
 obtain ⟨x77, hc81, h⟩ := bnd h
 refine ⟨[], _, _, _, ⟨⟨_, field_Elem_Add_c er x69 x71 x77 hc81, ⟨.inl rfl, .inl rfl, trivial⟩⟩, trivial, rfl⟩, ?_⟩
 obtain ⟨x78, hc81, h⟩ := bnd h
 refine ⟨[], _, _, _, ⟨⟨_, field_Elem_Square_c er x77 x78 hc81, ⟨.inl rfl, trivial⟩⟩, trivial, rfl⟩, ?_⟩
 obtain ⟨x79, hc81, h⟩ := bnd h
 refine ⟨[], _, _, _, ⟨⟨_, field_Elem_Sub_c er x69 x71 x79 hc81, ⟨.inl rfl, .inl rfl, trivial⟩⟩, trivial, rfl⟩, ?_⟩
 obtain ⟨x80, hc81, h⟩ := bnd h
 refine ⟨[], _, _, _, ⟨⟨_, field_Elem_Square_c er x79 x80 hc81, ⟨.inl rfl, trivial⟩⟩, trivial, rfl⟩, ?_⟩
 obtain ⟨x81, hc81, h⟩ := bnd h
 refine ⟨[], _, _, _, ⟨⟨_, field_Elem_Times_c er x80 x62 x81 hc81, ⟨.inl rfl, .inl rfl, trivial⟩⟩, trivial, rfl⟩, ?_⟩
 obtain rfl := some_in h
 exact ⟨0, [], [], rfl, trivial⟩
theorem field_Elem_squares_c (x94 : T_field_Elem) (x95 : Int) (res : T_field_Elem) (h : field_Elem_squares x94 x95 = some res) :
  Fn Tryd.prog (GE er) 70 [(.dv (T_field_Elem.dv x94)), (.int .i64 x95)] [] (.dv (T_field_Elem.dv res)) [] := by
 refine bE er Tryd.func70 rfl rfl [] [(.dv (T_field_Elem.dv x94)), (.int .i64 x95)] [] [] (.dv (T_field_Elem.dv res)) [] rfl rfl rfl rfl rfl rfl .nil 3 ?_
 replace h := (show field_Elem_squares x94 x95 = _ from h)
 unfold field_Elem_squares at h
 refine And.intro (fun hb => ?_) (fun hb => ?_)
 ·replace h := cond_t h hb
  obtain ⟨x96, hc99, h⟩ := bnd h
  refine ⟨[], _, _, _, ⟨⟨_, field_Elem_Square_c er x94 x96 hc99, ⟨.inl rfl, trivial⟩⟩, trivial, rfl⟩, ?_⟩
  refine Or.inr ⟨[], {x : Nat × Int × T_field_Elem // field_Elem_squares_l1 x.1 x.2.1 x.2.2 = some res}, ⟨fun | ⟨(n1, x97, x98), _⟩ => [(1, (.int .i64 x97))], fun | ⟨(n1, x97, x98), _⟩ => [(0, (.var (.dv (T_field_Elem.dv x98))))], fun | ⟨(n1, x97, x98), _⟩ => n1⟩, [], [], ⟨(FUEL, (IntKind.wrap .i64 (x95 - 1)), x96), h⟩, ⟨rfl, ⟨rfl, trivial⟩, ⟨rfl, rfl, trivial⟩, rfl⟩, ?_⟩
  rintro ⟨⟨n1, x97, x98⟩, h⟩
  cases n1 with
  | zero => exact no_none h
  | succ n1 =>
   replace h := (show field_Elem_squares_l1 (n1 + 1) x97 x98 = _ from h)
   replace h := (field_Elem_squares_l1.eq_2 .. ).symm.trans h
   refine And.intro (fun hb => ?_) (fun hb => ?_)
   ·replace h := cond_t h hb
    obtain ⟨x99, hc99, h⟩ := bnd h
    refine ⟨[], _, _, _, ⟨⟨_, field_Elem_Square_c er x98 x99 hc99, ⟨.inl rfl, trivial⟩⟩, trivial, rfl⟩, ?_⟩
    exact ⟨⟨(n1, (IntKind.wrap .i64 (x97 - 1)), x99), h⟩, [], ⟨rfl, ⟨rfl, trivial⟩, ⟨rfl, rfl, trivial⟩, rfl⟩, Nat.lt_succ_self _⟩
   ·replace h := cond_f h hb
    obtain rfl := some_in h
    exact ⟨0, [], [], rfl, trivial⟩
 ·replace h := cond_f h hb
  obtain rfl := some_in h
  exact ⟨0, [], [], rfl, trivial⟩
theorem field_Elem_power_c (x92 : T_field_Elem) (res : T_field_Elem × T_field_Elem) (h : field_Elem_power x92 = some res) :
  Fn Tryd.prog (GE er) 69 [(.dv (T_field_Elem.dv x92))] [] (.tup [(.dv (T_field_Elem.dv res.1)), (.dv (T_field_Elem.dv res.2))]) [] := by
 refine bE er Tryd.func69 rfl rfl [] [(.dv (T_field_Elem.dv x92))] [] [] (.tup [(.dv (T_field_Elem.dv res.1)), (.dv (T_field_Elem.dv res.2))]) [] rfl rfl rfl rfl rfl rfl .nil 3 ?_
 replace h := (show field_Elem_power x92 = _ from h)
 unfold field_Elem_power at h
 obtain ⟨x93, hc112, h⟩ := bnd h
 refine ⟨[], _, _, _, ⟨⟨_, field_Elem_Square_c er x92 x93 hc112, ⟨.inl rfl, trivial⟩⟩, trivial, rfl⟩, ?_⟩
 obtain ⟨x94, hc112, h⟩ := bnd h
 refine ⟨[], _, _, _, ⟨⟨_, field_Elem_squares_c er x93 2 x94 hc112, ⟨.inl rfl, .inl rfl, trivial⟩⟩, trivial, rfl⟩, ?_⟩
 obtain ⟨x95, hc112, h⟩ := bnd h
 refine ⟨[], _, _, _, ⟨⟨_, field_Elem_Times_c er x94 x92 x95 hc112, ⟨.inl rfl, .inl rfl, trivial⟩⟩, trivial, rfl⟩, ?_⟩
 obtain ⟨x96, hc112, h⟩ := bnd h
 refine ⟨[], _, _, _, ⟨⟨_, field_Elem_Times_c er x95 x93 x96 hc112, ⟨.inl rfl, .inl rfl, trivial⟩⟩, trivial, rfl⟩, ?_⟩
 obtain ⟨x97, hc112, h⟩ := bnd h
 refine ⟨[], _, _, _, ⟨⟨_, field_Elem_Square_c er x96 x97 hc112, ⟨.inl rfl, trivial⟩⟩, trivial, rfl⟩, ?_⟩
 obtain ⟨x98, hc112, h⟩ := bnd h
 refine ⟨[], _, _, _, ⟨⟨_, field_Elem_Times_c er x97 x95 x98 hc112, ⟨.inl rfl, .inl rfl, trivial⟩⟩, trivial, rfl⟩, ?_⟩
 obtain ⟨x99, hc112, h⟩ := bnd h
 refine ⟨[], _, _, _, ⟨⟨_, field_Elem_squares_c er x98 5 x99 hc112, ⟨.inl rfl, .inl rfl, trivial⟩⟩, trivial, rfl⟩, ?_⟩
 obtain ⟨x100, hc112, h⟩ := bnd h
 refine ⟨[], _, _, _, ⟨⟨_, field_Elem_Times_c er x99 x98 x100 hc112, ⟨.inl rfl, .inl rfl, trivial⟩⟩, trivial, rfl⟩, ?_⟩
 obtain ⟨x101, hc112, h⟩ := bnd h
 refine ⟨[], _, _, _, ⟨⟨_, field_Elem_squares_c er x100 10 x101 hc112, ⟨.inl rfl, .inl rfl, trivial⟩⟩, trivial, rfl⟩, ?_⟩
 obtain ⟨x102, hc112, h⟩ := bnd h
 refine ⟨[], _, _, _, ⟨⟨_, field_Elem_Times_c er x101 x100 x102 hc112, ⟨.inl rfl, .inl rfl, trivial⟩⟩, trivial, rfl⟩, ?_⟩
 obtain ⟨x103, hc112, h⟩ := bnd h
 refine ⟨[], _, _, _, ⟨⟨_, field_Elem_squares_c er x102 20 x103 hc112, ⟨.inl rfl, .inl rfl, trivial⟩⟩, trivial, rfl⟩, ?_⟩
 obtain ⟨x104, hc112, h⟩ := bnd h
 refine ⟨[], _, _, _, ⟨⟨_, field_Elem_Times_c er x103 x102 x104 hc112, ⟨.inl rfl, .inl rfl, trivial⟩⟩, trivial, rfl⟩, ?_⟩
 obtain ⟨x105, hc112, h⟩ := bnd h
 refine ⟨[], _, _, _, ⟨⟨_, field_Elem_squares_c er x104 10 x105 hc112, ⟨.inl rfl, .inl rfl, trivial⟩⟩, trivial, rfl⟩, ?_⟩
 obtain ⟨x106, hc112, h⟩ := bnd h
 refine ⟨[], _, _, _, ⟨⟨_, field_Elem_Times_c er x105 x100 x106 hc112, ⟨.inl rfl, .inl rfl, trivial⟩⟩, trivial, rfl⟩, ?_⟩
 obtain ⟨x107, hc112, h⟩ := bnd h
 refine ⟨[], _, _, _, ⟨⟨_, field_Elem_squares_c er x106 50 x107 hc112, ⟨.inl rfl, .inl rfl, trivial⟩⟩, trivial, rfl⟩, ?_⟩
 obtain ⟨x108, hc112, h⟩ := bnd h
 refine ⟨[], _, _, _, ⟨⟨_, field_Elem_Times_c er x107 x106 x108 hc112, ⟨.inl rfl, .inl rfl, trivial⟩⟩, trivial, rfl⟩, ?_⟩
 obtain ⟨x109, hc112, h⟩ := bnd h
 refine ⟨[], _, _, _, ⟨⟨_, field_Elem_squares_c er x108 100 x109 hc112, ⟨.inl rfl, .inl rfl, trivial⟩⟩, trivial, rfl⟩, ?_⟩
 obtain ⟨x110, hc112, h⟩ := bnd h
 refine ⟨[], _, _, _, ⟨⟨_, field_Elem_Times_c er x109 x108 x110 hc112, ⟨.inl rfl, .inl rfl, trivial⟩⟩, trivial, rfl⟩, ?_⟩
 obtain ⟨x111, hc112, h⟩ := bnd h
 refine ⟨[], _, _, _, ⟨⟨_, field_Elem_squares_c er x110 50 x111 hc112, ⟨.inl rfl, .inl rfl, trivial⟩⟩, trivial, rfl⟩, ?_⟩
 obtain ⟨x112, hc112, h⟩ := bnd h
 refine ⟨[], _, _, _, ⟨⟨_, field_Elem_Times_c er x111 x106 x112 hc112, ⟨.inl rfl, .inl rfl, trivial⟩⟩, trivial, rfl⟩, ?_⟩
 obtain rfl := some_in h
 exact ⟨0, [], [], rfl, trivial⟩
theorem field_Elem_Invert_c (x91 : T_field_Elem) (res : T_field_Elem) (h : field_Elem_Invert x91 = some res) :
  Fn Tryd.prog (GE er) 50 [(.dv (T_field_Elem.dv x91))] [] (.dv (T_field_Elem.dv res)) [] := by
 refine bE er Tryd.func50 rfl rfl [] [(.dv (T_field_Elem.dv x91))] [] [] (.dv (T_field_Elem.dv res)) [] rfl rfl rfl rfl rfl rfl .nil 3 ?_
 replace h := (show field_Elem_Invert x91 = _ from h)
 unfold field_Elem_Invert at h
 obtain ⟨r95, hc95, h⟩ := bnd h
 obtain ⟨x92, x93⟩ := r95
 refine ⟨[], _, _, _, ⟨⟨_, field_Elem_power_c er x91 (x92, x93) hc95, ⟨.inl rfl, trivial⟩⟩, trivial, rfl⟩, ?_⟩
 obtain ⟨x94, hc95, h⟩ := bnd h
 refine ⟨[], _, _, _, ⟨⟨_, field_Elem_squares_c er x92 5 x94 hc95, ⟨.inl rfl, .inl rfl, trivial⟩⟩, trivial, rfl⟩, ?_⟩
 obtain ⟨x95, hc95, h⟩ := bnd h
 refine ⟨[], _, _, _, ⟨⟨_, field_Elem_Times_c er x94 x93 x95 hc95, ⟨.inl rfl, .inl rfl, trivial⟩⟩, trivial, rfl⟩, ?_⟩
 obtain rfl := some_in h
 exact ⟨0, [], [], rfl, trivial⟩
theorem field_Elem_fold_2_c (b0 : Nat) (hn : [b0].Nodup) (x102 : T_field_Elem) (res : T_field_Elem) (h : field_Elem_fold_2 x102 = some res) :
  Fn Tryd.prog (GE er) 81 [(.ptr b0 [] ly84)] [(b0, (.var (.dv (T_field_Elem.dv x102))))] (.tup []) [(b0, (.var (.dv (T_field_Elem.dv res))))] := by
 refine bE er Tryd.func81 rfl rfl [(0, b0)] [(.ptr 0 [] ly84)] [(.var (.dv (T_field_Elem.dv x102)))] [] (.tup []) [(.var (.dv (T_field_Elem.dv res)))] rfl rfl rfl rfl rfl rfl hn 3 ?_
 replace h := (show field_Elem_fold_2 x102 = _ from h)
 unfold field_Elem_fold_2 at h
 refine And.intro (by decide) ?_
 refine And.intro (by decide) ?_
 refine And.intro (by decide) ?_
 refine And.intro (by decide) ?_
 let x103 : List Int := (List.set x102.fn 9 (bits .u64 .and (List.getD x102.fn 9 0) 2097151))
 replace h := nm_at x103 rfl h
 refine And.intro (by decide) ?_
 let x104 : Int := (IntKind.wrap .u64 (19 * (Int.fdiv (List.getD x102.fn 9 0) (2 ^ 21))))
 replace h := nm_at x104 rfl h
 refine And.intro (by decide) ?_
 let x105 : List Int := (List.set x103 0 (IntKind.wrap .u64 ((List.getD x103 0 0) + x104)))
 replace h := nm_at x105 rfl h
 obtain ⟨r1_0_106, hl1_106, hr1_106⟩ := bnd h
 refine Or.inr ⟨[], {p : (List Int) // p = r1_0_106}, ⟨fun | ⟨x106, _⟩ => [], fun | ⟨x106, _⟩ => [(0, (.var (.dv (.cons (.ints .u64 10 x106) .nil))))], fun _ => 0⟩, 0, ?_, ?_⟩
 ·rintro ⟨x106, hp⟩
  subst hp
  replace h := hr1_106
  obtain rfl := some_in h
  exact ⟨0, [], [], rfl, rfl, trivial⟩
 ·replace h := hl1_106
  refine Or.inl ?_
  refine ⟨[], {x : Nat × Int × (List Int) // field_Elem_fold_2_l1 x.1 x.2.1 x.2.2 = some r1_0_106}, ⟨fun | ⟨(n1, x107, x108), _⟩ => [(30, (.int .i64 x107))], fun | ⟨(n1, x107, x108), _⟩ => [(0, (.var (.dv (.cons (.ints .u64 10 x108) .nil))))], fun | ⟨(n1, x107, x108), _⟩ => n1⟩, [], [], ⟨(FUEL, 0, x105), h⟩, ⟨rfl, ⟨rfl, trivial⟩, ⟨rfl, trivial⟩, rfl⟩, ?_⟩
  rintro ⟨⟨n1, x107, x108⟩, h⟩
  cases n1 with
  | zero => exact no_none h
  | succ n1 =>
   replace h := (show field_Elem_fold_2_l1 (n1 + 1) x107 x108 = _ from h)
   replace h := (field_Elem_fold_2_l1.eq_2 .. ).symm.trans h
   refine And.intro (fun hb => ?_) (fun hb => ?_)
   ·replace h := cond_t h hb
    refine Or.inl ?_
    obtain ⟨hg, h⟩ := gd h
    refine And.intro hg ?_
    let x109 : Int := (List.getD x108 (Int.toNat (IntKind.wrap .i64 (x107 + 1))) 0)
    replace h := nm_at x109 rfl h
    obtain ⟨hg, h⟩ := gd h
    refine And.intro hg ?_
    refine And.intro (by decide) ?_
    let x110 : Int := (IntKind.wrap .u64 (x109 + (Int.fdiv (List.getD x108 (Int.toNat x107) 0) (2 ^ 26))))
    replace h := nm_at x110 rfl h
    obtain ⟨hg, h⟩ := gd h
    refine And.intro hg ?_
    let x111 : List Int := (List.set x108 (Int.toNat (IntKind.wrap .i64 (x107 + 1))) x110)
    replace h := nm_at x111 rfl h
    obtain ⟨hg, h⟩ := gd h
    refine And.intro hg ?_
    let x112 : Int := (bits .u64 .and (List.getD x111 (Int.toNat x107) 0) 67108863)
    replace h := nm_at x112 rfl h
    obtain ⟨hg, h⟩ := gd h
    refine And.intro hg ?_
    exact ⟨⟨(n1, (IntKind.wrap .i64 (x107 + 1)), (List.set x111 (Int.toNat x107) x112)), h⟩, [], ⟨rfl, ⟨rfl, trivial⟩, ⟨rfl, trivial⟩, rfl⟩, Nat.lt_succ_self _⟩
   ·replace h := cond_f h hb
    exact ⟨[], [], ⟨x108, some_in h⟩, [], rfl, trivial, ⟨rfl, trivial⟩, rfl⟩
theorem field_Elem_least_c (x99 : T_field_Elem) (res : T_field_Elem) (h : field_Elem_least x99 = some res) :
  Fn Tryd.prog (GE er) 71 [(.dv (T_field_Elem.dv x99))] [] (.dv (T_field_Elem.dv res)) [] := by
 refine bE er Tryd.func71 rfl rfl [] [(.dv (T_field_Elem.dv x99))] [] [] (.dv (T_field_Elem.dv res)) [] rfl rfl rfl rfl rfl rfl .nil 3 ?_
 replace h := (show field_Elem_least x99 = _ from h)
 unfold field_Elem_least at h
 obtain ⟨x100, hc112, h⟩ := bnd h
 refine ⟨[], _, _, _, ⟨⟨_, field_Elem_carry_2_c er 0 (by decide) x99 x100 hc112, ⟨.inl rfl, trivial⟩⟩, ⟨⟨rfl, rfl⟩, trivial⟩, rfl⟩, ?_⟩
 obtain ⟨x101, hc112, h⟩ := bnd h
 refine ⟨[], _, _, _, ⟨⟨_, field_Elem_fold_2_c er 0 (by decide) x100 x101 hc112, ⟨.inl rfl, trivial⟩⟩, ⟨⟨rfl, rfl⟩, trivial⟩, rfl⟩, ?_⟩
 obtain ⟨x102, hc112, h⟩ := bnd h
 refine ⟨[], _, _, _, ⟨⟨_, field_Elem_fold_2_c er 0 (by decide) x101 x102 hc112, ⟨.inl rfl, trivial⟩⟩, ⟨⟨rfl, rfl⟩, trivial⟩, rfl⟩, ?_⟩
 refine And.intro (by decide) ?_
 refine And.intro (by decide) ?_
 let x103 : List Int := (List.set x102.fn 0 (IntKind.wrap .u64 ((List.getD x102.fn 0 0) + 19)))
 replace h := nm_at x103 rfl h
 obtain ⟨r1_0_104, hl1_104, hr1_104⟩ := bnd h
 refine Or.inr ⟨[6, 7, 8], {p : (List Int) // p = r1_0_104}, ⟨fun | ⟨x104, _⟩ => [], fun | ⟨x104, _⟩ => [(2, (.var (.dv (.cons (.ints .u64 10 x104) .nil))))], fun _ => 0⟩, 0, ?_, ?_⟩
 ·rintro ⟨x104, hp⟩
  subst hp
  replace h := hr1_104
  refine And.intro (by decide) ?_
  refine And.intro (by decide) ?_
  refine And.intro (by decide) ?_
  refine And.intro (by decide) ?_
  let x111 : List Int := (List.set x104 9 (bits .u64 .and (List.getD x104 9 0) 2097151))
  replace h := nm_at x111 rfl h
  obtain ⟨x112, hc112, h⟩ := bnd h
  refine ⟨[], _, _, _, ⟨⟨_, field_Pick_c er (!((Int.fdiv (List.getD x104 9 0) (2 ^ 21)) == 0)) ({ fn := x111 } : T_field_Elem) x102 x112 hc112, ⟨.inl rfl, .inl rfl, .inl rfl, trivial⟩⟩, trivial, rfl⟩, ?_⟩
  obtain rfl := some_in h
  exact ⟨0, [], [], rfl, trivial⟩
 ·replace h := hl1_104
  refine Or.inl ?_
  refine ⟨[6, 7, 8], {x : Nat × Int × (List Int) // field_Elem_least_l1 x.1 x.2.1 x.2.2 = some r1_0_104}, ⟨fun | ⟨(n1, x105, x106), _⟩ => [(16, (.int .i64 x105))], fun | ⟨(n1, x105, x106), _⟩ => [(2, (.var (.dv (.cons (.ints .u64 10 x106) .nil))))], fun | ⟨(n1, x105, x106), _⟩ => n1⟩, [], [], ⟨(FUEL, 0, x103), h⟩, ⟨rfl, ⟨rfl, trivial⟩, ⟨rfl, rfl, rfl, trivial⟩, rfl⟩, ?_⟩
  rintro ⟨⟨n1, x105, x106⟩, h⟩
  cases n1 with
  | zero => exact no_none h
  | succ n1 =>
   replace h := (show field_Elem_least_l1 (n1 + 1) x105 x106 = _ from h)
   replace h := (field_Elem_least_l1.eq_2 .. ).symm.trans h
   refine And.intro (fun hb => ?_) (fun hb => ?_)
   ·replace h := cond_t h hb
    refine Or.inl ?_
    obtain ⟨hg, h⟩ := gd h
    refine And.intro hg ?_
    let x107 : Int := (List.getD x106 (Int.toNat (IntKind.wrap .i64 (x105 + 1))) 0)
    replace h := nm_at x107 rfl h
    obtain ⟨hg, h⟩ := gd h
    refine And.intro hg ?_
    refine And.intro (by decide) ?_
    let x108 : Int := (IntKind.wrap .u64 (x107 + (Int.fdiv (List.getD x106 (Int.toNat x105) 0) (2 ^ 26))))
    replace h := nm_at x108 rfl h
    obtain ⟨hg, h⟩ := gd h
    refine And.intro hg ?_
    let x109 : List Int := (List.set x106 (Int.toNat (IntKind.wrap .i64 (x105 + 1))) x108)
    replace h := nm_at x109 rfl h
    obtain ⟨hg, h⟩ := gd h
    refine And.intro hg ?_
    let x110 : Int := (bits .u64 .and (List.getD x109 (Int.toNat x105) 0) 67108863)
    replace h := nm_at x110 rfl h
    obtain ⟨hg, h⟩ := gd h
    refine And.intro hg ?_
    exact ⟨⟨(n1, (IntKind.wrap .i64 (x105 + 1)), (List.set x109 (Int.toNat x105) x110)), h⟩, [], ⟨rfl, ⟨rfl, trivial⟩, ⟨rfl, rfl, rfl, trivial⟩, rfl⟩, Nat.lt_succ_self _⟩
   ·replace h := cond_f h hb
    exact ⟨[], [], ⟨x106, some_in h⟩, [], rfl, trivial, ⟨rfl, rfl, rfl, trivial⟩, rfl⟩
theorem field_Elem_Bytes_c (x98 : T_field_Elem) (res : (List Int)) (h : field_Elem_Bytes x98 = some res) :
  Fn Tryd.prog (GE er) 51 [(.dv (T_field_Elem.dv x98))] [] (.dv (.ints .u8 32 res)) [] := by
 refine bE er Tryd.func51 rfl rfl [] [(.dv (T_field_Elem.dv x98))] [] [] (.dv (.ints .u8 32 res)) [] rfl rfl rfl rfl rfl rfl .nil 3 ?_
 replace h := (show field_Elem_Bytes x98 = _ from h)
 unfold field_Elem_Bytes at h
 obtain ⟨x99, hc107, h⟩ := bnd h
 refine ⟨[], _, _, _, ⟨⟨_, field_Elem_least_c er x98 x99 hc107, ⟨.inl rfl, trivial⟩⟩, trivial, rfl⟩, ?_⟩
 obtain ⟨r1_0_100, hl1_100, hr1_100⟩ := bnd h
 refine Or.inr ⟨[], {p : (List Int) // p = r1_0_100}, ⟨fun | ⟨x100, _⟩ => [], fun | ⟨x100, _⟩ => [(3, (.var (.dv (.ints .u8 32 x100))))], fun _ => 0⟩, 0, ?_, ?_⟩
 ·rintro ⟨x100, hp⟩
  subst hp
  replace h := hr1_100
  obtain rfl := some_in h
  exact ⟨0, [], [], rfl, trivial⟩
 ·replace h := hl1_100
  refine Or.inl ?_
  refine ⟨[], {x : Nat × Int × (List Int) // field_Elem_Bytes_l1 x99 x.1 x.2.1 x.2.2 = some r1_0_100}, ⟨fun | ⟨(n1, x101, x102), _⟩ => [(8, (.int .i64 x101))], fun | ⟨(n1, x101, x102), _⟩ => [(3, (.var (.dv (.ints .u8 32 x102))))], fun | ⟨(n1, x101, x102), _⟩ => n1⟩, [], [], ⟨(FUEL, 0, (List.replicate 32 (0 : Int))), h⟩, ⟨rfl, ⟨rfl, trivial⟩, ⟨rfl, rfl, rfl, rfl, trivial⟩, rfl⟩, ?_⟩
  rintro ⟨⟨n1, x101, x102⟩, h⟩
  cases n1 with
  | zero => exact no_none h
  | succ n1 =>
   replace h := (show field_Elem_Bytes_l1 x99 (n1 + 1) x101 x102 = _ from h)
   replace h := (field_Elem_Bytes_l1.eq_2 .. ).symm.trans h
   refine And.intro (fun hb => ?_) (fun hb => ?_)
   ·replace h := cond_t h hb
    refine Or.inl ?_
    refine And.intro (by decide) ?_
    obtain ⟨hg, h⟩ := gd h
    refine And.intro hg ?_
    let x103 : Int := (List.getD x102 (Int.toNat (IntKind.wrap .i64 (Int.tdiv x101 8))) 0)
    replace h := nm_at x103 rfl h
    refine And.intro (by decide) ?_
    obtain ⟨hg, h⟩ := gd h
    refine And.intro hg ?_
    let x104 : Int := (List.getD x99.fn (Int.toNat (IntKind.wrap .i64 (Int.tdiv x101 26))) 0)
    replace h := nm_at x104 rfl h
    refine And.intro (by decide) ?_
    obtain ⟨hg, h⟩ := gd h
    refine And.intro hg ?_
    let x105 : Int := (Int.fdiv x104 (2 ^ (min (Int.toNat (Int.tmod x101 26)) (IntKind.bits .u64))))
    replace h := nm_at x105 rfl h
    refine And.intro (by decide) ?_
    obtain ⟨hg, h⟩ := gd h
    refine And.intro hg ?_
    let x106 : Int := (IntKind.wrap .u8 ((IntKind.wrap .u8 (bits .u64 .and x105 1)) * 2 ^ (min (Int.toNat (Int.tmod x101 8)) (IntKind.bits .u8))))
    replace h := nm_at x106 rfl h
    obtain ⟨hg, h⟩ := gd h
    refine And.intro hg ?_
    let x107 : List Int := (List.set x102 (Int.toNat (IntKind.wrap .i64 (Int.tdiv x101 8))) (bits .u8 .or x103 x106))
    replace h := nm_at x107 rfl h
    exact ⟨⟨(n1, (IntKind.wrap .i64 (x101 + 1)), x107), h⟩, [], ⟨rfl, ⟨rfl, trivial⟩, ⟨rfl, rfl, rfl, rfl, trivial⟩, rfl⟩, Nat.lt_succ_self _⟩
   ·replace h := cond_f h hb
    exact ⟨[], [], ⟨x102, some_in h⟩, [], rfl, trivial, ⟨rfl, rfl, rfl, rfl, trivial⟩, rfl⟩
theorem ladder_Mult_c (x28 : List Int) (x29 : List Int) (res : (List Int)) (h : ladder_Mult x28 x29 = some res) :
  Fn Tryd.prog (GE er) 29 [(.dv (.ints .u8 32 x28)), (.dv (.ints .u8 32 x29))] [] (.dv (.ints .u8 32 res)) [] := by
 refine bE er Tryd.func29 rfl rfl [] [(.dv (.ints .u8 32 x28)), (.dv (.ints .u8 32 x29))] [] [] (.dv (.ints .u8 32 res)) [] rfl rfl rfl rfl rfl rfl .nil 3 ?_
 replace h := (show ladder_Mult x28 x29 = _ from h)
 unfold ladder_Mult at h
 obtain ⟨x30, hc47, h⟩ := bnd h
 refine ⟨[], _, _, _, ⟨⟨_, ladder_Clamp_c er x28 x30 hc47, ⟨.inl rfl, trivial⟩⟩, trivial, rfl⟩, ?_⟩
 obtain ⟨x31, hc47, h⟩ := bnd h
 refine ⟨[], _, _, _, ⟨⟨_, field_Read_c er x29 x31 hc47, ⟨.inl rfl, trivial⟩⟩, trivial, rfl⟩, ?_⟩
 obtain ⟨x32, hc47, h⟩ := bnd h
 refine ⟨[], _, _, _, ⟨⟨_, field_Small_c er 1 x32 hc47, ⟨.inl rfl, trivial⟩⟩, trivial, rfl⟩, ?_⟩
 obtain ⟨x33, hc47, h⟩ := bnd h
 refine ⟨[], _, _, _, ⟨⟨_, field_Small_c er 1 x33 hc47, ⟨.inl rfl, trivial⟩⟩, trivial, rfl⟩, ?_⟩
 refine And.intro (fun _ => ?_) (fun h0 => Bool.noConfusion h0)
 refine And.intro (by decide) ?_
 refine And.intro (by decide) ?_
 refine And.intro (by decide) ?_
 refine And.intro (by decide) ?_
 let x34 : Bool := ((bits .u8 .and (Int.fdiv (List.getD x30 31 0) (2 ^ 6)) 1) == 1)
 replace h := nm_at x34 rfl h
 obtain ⟨x35, hc47, h⟩ := bnd h
 refine ⟨[], _, _, _, ⟨⟨_, ladder_step_swapped_c er ({ fx2 := x32, fz2 := ({ fn := (List.replicate 10 (0 : Int)) } : T_field_Elem), fx3 := x31, fz3 := x33 } : T_ladder_step) x34 x35 hc47, ⟨.inl rfl, .inl rfl, trivial⟩⟩, trivial, rfl⟩, ?_⟩
 obtain ⟨x36, hc47, h⟩ := bnd h
 refine ⟨[], _, _, _, ⟨⟨_, ladder_step_next_c er x35 x31 x36 hc47, ⟨.inl rfl, .inl rfl, trivial⟩⟩, trivial, rfl⟩, ?_⟩
 obtain ⟨x37, hc47, h⟩ := bnd h
 refine ⟨[], _, _, _, ⟨⟨_, ladder_step_swapped_c er x36 x34 x37 hc47, ⟨.inl rfl, .inl rfl, trivial⟩⟩, trivial, rfl⟩, ?_⟩
 refine Or.inr ⟨[3], {x : Nat × Int × T_ladder_step // ladder_Mult_l1 x30 x31 x.1 x.2.1 x.2.2 = some res}, ⟨fun | ⟨(n1, x38, x39), _⟩ => [(5, (.ptr 3 [] ly84)), (6, (.ptr 4 [] ly88)), (7, (.int .i64 x38))], fun | ⟨(n1, x38, x39), _⟩ => [(4, (.var (.dv (T_ladder_step.dv x39))))], fun | ⟨(n1, x38, x39), _⟩ => n1⟩, [], [], ⟨(FUEL, 253, x37), h⟩, ⟨rfl, ⟨rfl, rfl, rfl, trivial⟩, ⟨rfl, rfl, rfl, rfl, rfl, trivial⟩, rfl⟩, ?_⟩
 rintro ⟨⟨n1, x38, x39⟩, h⟩
 cases n1 with
 | zero => exact no_none h
 | succ n1 =>
  replace h := (show ladder_Mult_l1 x30 x31 (n1 + 1) x38 x39 = _ from h)
  replace h := (ladder_Mult_l1.eq_2 .. ).symm.trans h
  refine And.intro (fun hb => ?_) (fun hb => ?_)
  ·replace h := cond_t h hb
   refine And.intro (by decide) ?_
   obtain ⟨hg, h⟩ := gd h
   refine And.intro hg ?_
   let x40 : Int := (List.getD x30 (Int.toNat (IntKind.wrap .i64 (Int.tdiv x38 8))) 0)
   replace h := nm_at x40 rfl h
   refine And.intro (by decide) ?_
   obtain ⟨hg, h⟩ := gd h
   refine And.intro hg ?_
   let x41 : Int := (Int.fdiv x40 (2 ^ (min (Int.toNat (Int.tmod x38 8)) (IntKind.bits .u8))))
   replace h := nm_at x41 rfl h
   obtain ⟨x42, hc44, h⟩ := bnd h
   refine ⟨[], _, _, _, ⟨⟨_, ladder_step_swapped_c er x39 ((bits .u8 .and x41 1) == 1) x42 hc44, ⟨.inl rfl, .inl rfl, trivial⟩⟩, trivial, rfl⟩, ?_⟩
   obtain ⟨x43, hc44, h⟩ := bnd h
   refine ⟨[], _, _, _, ⟨⟨_, ladder_step_next_c er x42 x31 x43 hc44, ⟨.inl rfl, .inl rfl, trivial⟩⟩, trivial, rfl⟩, ?_⟩
   obtain ⟨x44, hc44, h⟩ := bnd h
   refine ⟨[], _, _, _, ⟨⟨_, ladder_step_swapped_c er x43 ((bits .u8 .and x41 1) == 1) x44 hc44, ⟨.inl rfl, .inl rfl, trivial⟩⟩, trivial, rfl⟩, ?_⟩
   exact ⟨⟨(n1, (IntKind.wrap .i64 (x38 - 1)), x44), h⟩, [], ⟨rfl, ⟨rfl, rfl, rfl, trivial⟩, ⟨rfl, rfl, rfl, rfl, rfl, trivial⟩, rfl⟩, Nat.lt_succ_self _⟩
  ·replace h := cond_f h hb
   obtain ⟨x45, hc47, h⟩ := bnd h
   refine ⟨[], _, _, _, ⟨⟨_, field_Elem_Invert_c er x39.fz2 x45 hc47, ⟨.inl rfl, trivial⟩⟩, trivial, rfl⟩, ?_⟩
   obtain ⟨x46, hc47, h⟩ := bnd h
   refine ⟨[], _, _, _, ⟨⟨_, field_Elem_Times_c er x39.fx2 x45 x46 hc47, ⟨.inl rfl, .inl rfl, trivial⟩⟩, trivial, rfl⟩, ?_⟩
   obtain ⟨x47, hc47, h⟩ := bnd h
   refine ⟨[], _, _, _, ⟨⟨_, field_Elem_Bytes_c er x46 x47 hc47, ⟨.inl rfl, trivial⟩⟩, trivial, rfl⟩, ?_⟩
   obtain rfl := some_in h
   exact ⟨0, [], [], rfl, trivial⟩
theorem ladder_Base_c (x27 : List Int) (res : (List Int)) (h : ladder_Base x27 = some res) :
  Fn Tryd.prog (GE er) 16 [(.dv (.ints .u8 32 x27))] [] (.dv (.ints .u8 32 res)) [] := by
 refine bE er Tryd.func16 rfl rfl [] [(.dv (.ints .u8 32 x27))] [] [] (.dv (.ints .u8 32 res)) [] rfl rfl rfl rfl rfl rfl .nil 3 ?_
 replace h := (show ladder_Base x27 = _ from h)
 unfold ladder_Base at h
 obtain ⟨x28, hc28, h⟩ := bnd h
 refine ⟨[], _, _, _, ⟨⟨_, ladder_Mult_c er x27 (List.set (List.replicate 32 (0 : Int)) 0 9) x28 hc28, ⟨.inl rfl, .inl rfl, trivial⟩⟩, trivial, rfl⟩, ?_⟩
 obtain rfl := some_in h
 exact ⟨0, [], [], rfl, trivial⟩
theorem kem_Pair_c (b0 b1 : Nat) (hn : [b0, b1].Nodup) (x6 : Nat) (x7 : List Int) (res : (List Int) × (List Int)) (h : kem_Pair x6 x7 = some res) :
  Fn Tryd.prog (GE er) 7 [(.vs b0 0 1)] [(b0, (.var (.cons (.sl b1 [] ly5 0 x6) (.dv .nil)))), (b1, (.frzI .u8 x7))] (.tup [(.dv (.ints .u8 32 res.1)), (.dv (.ints .u8 32 res.2))]) [(b0, (.var (.cons (.sl b1 [] ly5 0 x6) (.dv .nil)))), (b1, (.frzI .u8 x7))] := by
 refine bE er Tryd.func7 rfl rfl [(0, b0), (1, b1)] [(.vs 0 0 1)] [(.var (.cons (.sl 1 [] ly5 0 x6) (.dv .nil))), (.frzI .u8 x7)] [] (.tup [(.dv (.ints .u8 32 res.1)), (.dv (.ints .u8 32 res.2))]) [(.var (.cons (.sl 1 [] ly5 0 x6) (.dv .nil))), (.frzI .u8 x7)] rfl rfl rfl rfl rfl rfl hn 3 ?_
 replace h := (show kem_Pair x6 x7 = _ from h)
 unfold kem_Pair at h
 obtain ⟨x8, hc10, h⟩ := bnd h
 refine ⟨[], _, _, _, ⟨⟨_, kem_extract_c er 0 1 (by decide) [100, 107, 112, 95, 112, 114, 107] x6 x7 x8 hc10, ⟨.inl rfl, .inl rfl, trivial⟩⟩, ⟨⟨rfl, rfl⟩, ⟨rfl, rfl⟩, trivial⟩, rfl⟩, ?_⟩
 obtain ⟨x9, hc10, h⟩ := bnd h
 refine ⟨[], _, _, _, ⟨⟨_, kem_expand_c er x8 [115, 107] ([] : List (List Int)) x9 hc10, ⟨.inl rfl, .inl rfl, (.inr (.inr ⟨rfl, .inr ⟨_, _, rfl⟩⟩)), trivial⟩⟩, trivial, rfl⟩, ?_⟩
 obtain ⟨x10, hc10, h⟩ := bnd h
 refine ⟨[], _, _, _, ⟨⟨_, ladder_Base_c er x9 x10 hc10, ⟨.inl rfl, trivial⟩⟩, trivial, rfl⟩, ?_⟩
 obtain rfl := some_in h
 exact ⟨0, [], [], rfl, rfl, rfl, trivial⟩
theorem words_Zero_c (x16 : List Int) (res : Bool) (h : words_Zero x16 = some res) :
  Fn Tryd.prog (GE er) 32 [(.dv (.roI .u8 x16))] [] (.bl res) [] := by
 refine bE er Tryd.func32 rfl rfl [] [(.dv (.roI .u8 x16))] [] [] (.bl res) [] rfl rfl rfl rfl rfl rfl .nil 3 ?_
 replace h := (show words_Zero x16 = _ from h)
 unfold words_Zero at h
 obtain ⟨r1_0_17, hl1_17, hr1_17⟩ := bnd h
 refine Or.inr ⟨[7], {p : Int // p = r1_0_17}, ⟨fun | ⟨x17, _⟩ => [(3, (.int .u8 x17))], fun | ⟨x17, _⟩ => [], fun _ => 0⟩, 0, ?_, ?_⟩
 ·rintro ⟨x17, hp⟩
  subst hp
  replace h := hr1_17
  obtain rfl := some_in h
  exact ⟨0, [], [], rfl, trivial⟩
 ·replace h := hl1_17
  refine Or.inl ?_
  refine ⟨[], {x : Nat × Int × Int // words_Zero_l1 x16 x.1 x.2.1 x.2.2 = some r1_0_17}, ⟨fun | ⟨(n1, x18, x19), _⟩ => [(3, (.int .u8 x18)), (8, (.int .i64 x19))], fun | ⟨(n1, x18, x19), _⟩ => [], fun | ⟨(n1, x18, x19), _⟩ => n1⟩, [], [], ⟨(FUEL, 0, 0), h⟩, ⟨rfl, ⟨rfl, rfl, trivial⟩, trivial, rfl⟩, ?_⟩
  rintro ⟨⟨n1, x18, x19⟩, h⟩
  cases n1 with
  | zero => exact no_none h
  | succ n1 =>
   replace h := (show words_Zero_l1 x16 (n1 + 1) x18 x19 = _ from h)
   replace h := (words_Zero_l1.eq_2 .. ).symm.trans h
   refine And.intro (fun hb => ?_) (fun hb => ?_)
   ·replace h := cond_t h hb
    refine Or.inl ?_
    obtain ⟨hg, h⟩ := gd h
    refine And.intro hg ?_
    exact ⟨⟨(n1, (bits .u8 .or x18 (List.getD x16 (Int.toNat x19) 0)), (IntKind.wrap .i64 (x19 + 1))), h⟩, [], ⟨rfl, ⟨rfl, rfl, trivial⟩, trivial, rfl⟩, Nat.lt_succ_self _⟩
   ·replace h := cond_f h hb
    exact ⟨[], [], ⟨x18, some_in h⟩, [], rfl, ⟨rfl, trivial⟩, trivial, rfl⟩
theorem ladder_Shared_c (x13 : List Int) (x14 : List Int) (res : (((List Int)) ⊕ Unit)) (h : ladder_Shared x13 x14 = some res) :
  Fn Tryd.prog (GE er) 21 [(.dv (.ints .u8 32 x13)), (.dv (.ints .u8 32 x14))] [] (match res with | (Sum.inl p0) => (.tup [(.dv (.ints .u8 32 p0)), (.dv (.sc .nilIface))]) | (Sum.inr _) => (.tup [(.dv (.ints .u8 32 (List.replicate 32 (0 : Int)))), (errA er 5)])) (match res with | (Sum.inl p0) => [] | (Sum.inr _) => []) := by
 refine bE er Tryd.func21 rfl rfl [] [(.dv (.ints .u8 32 x13)), (.dv (.ints .u8 32 x14))] [] [] (match res with | (Sum.inl p0) => (.tup [(.dv (.ints .u8 32 p0)), (.dv (.sc .nilIface))]) | (Sum.inr _) => (.tup [(.dv (.ints .u8 32 (List.replicate 32 (0 : Int)))), (errA er 5)])) (match res with | (Sum.inl p0) => [] | (Sum.inr _) => []) rfl rfl (by rcases res with _ | _ <;> rfl) (by rcases res with _ | _ <;> rfl) (by rcases res with _ | _ <;> rfl) (by rcases res with _ | _ <;> rfl) (by rcases res with _ | _ <;> exact .nil) 3 ?_
 replace h := (show ladder_Shared x13 x14 = _ from h)
 unfold ladder_Shared at h
 obtain ⟨x15, hc16, h⟩ := bnd h
 refine ⟨[], _, _, _, ⟨⟨_, ladder_Mult_c er x13 x14 x15 hc16, ⟨.inl rfl, .inl rfl, trivial⟩⟩, trivial, rfl⟩, ?_⟩
 refine Or.inl ?_
 refine And.intro (by omega) ?_
 refine ⟨0, 32, ⟨rfl, rfl⟩, ?_⟩
 obtain ⟨x16, hc16, h⟩ := bnd h
 refine ⟨[true], _, _, _, ⟨⟨_, words_Zero_c er (List.take 32 x15) x16 hc16, ⟨.inl rfl, trivial⟩⟩, trivial, rfl⟩, ?_⟩
 refine And.intro (fun hb => ?_) (fun hb => ?_)
 ·replace h := cond_t h hb
  obtain rfl := some_in h
  exact ⟨0, [], [], rfl, trivial⟩
 ·replace h := cond_f h hb
  obtain rfl := some_in h
  exact ⟨0, [], [], rfl, trivial⟩
theorem slices_Concat_byte_byte_3_c (b0 b1 k0 : Nat) (hn : [b0, b1, k0].Nodup) (x25 : Nat) (x26 : List Int) (res : (List Int)) (h : slices_Concat_byte_byte_3 x25 x26 = some res) :
  Fn Tryd.prog (GE er) 27 [(.vs b0 0 1)] [(b0, (.var (.cons (.sl b1 [] ly5 0 x25) (.dv .nil)))), (b1, (.var (.dv (.ints .u8 32 x26))))] (.sl k0 [] ly5 0 (List.length res)) [(b0, (.var (.cons (.sl b1 [] ly5 0 x25) (.dv .nil)))), (b1, (.var (.dv (.ints .u8 32 x26)))), (k0, (.rowI .u8 res))] := by
 refine bE er Tryd.func27 rfl rfl [(0, b0), (1, b1), (3, k0)] [(.vs 0 0 1)] [(.var (.cons (.sl 1 [] ly5 0 x25) (.dv .nil))), (.var (.dv (.ints .u8 32 x26)))] [3] (.sl 3 [] ly5 0 (List.length res)) [(.var (.cons (.sl 1 [] ly5 0 x25) (.dv .nil))), (.var (.dv (.ints .u8 32 x26))), (.rowI .u8 res)] rfl rfl rfl rfl rfl rfl hn 3 ?_
 replace h := (show slices_Concat_byte_byte_3 x25 x26 = _ from h)
 unfold slices_Concat_byte_byte_3 at h
 obtain ⟨r1_0_26, hl1_26, hr1_26⟩ := bnd h
 refine Or.inr ⟨[10], {p : Unit // p = r1_0_26}, ⟨fun | ⟨(), _⟩ => [(3, (.int .i64 (IntKind.wrap .i64 (0 + (x25 : Int)))))], fun | ⟨(), _⟩ => [], fun _ => 0⟩, 0, ?_, ?_⟩
 ·rintro ⟨⟨⟩, hp⟩
  subst hp
  replace h := hr1_26
  obtain ⟨r28, hc28, h⟩ := bnd h
  obtain ⟨x27, x28⟩ := r28
  refine ⟨[], _, _, _, ⟨⟨_, slices_Grow_byte_byte_2_c er 2 (by decide) (IntKind.wrap .i64 (0 + (x25 : Int))) (x27, x28) hc28, ⟨.inl rfl, .inl rfl, trivial⟩⟩, trivial, rfl⟩, ?_⟩
  refine Or.inl ?_
  obtain ⟨r2_0_28, hl2_28, hr2_28⟩ := bnd h
  refine Or.inr ⟨[24, 26], {p : Unit // p = r2_0_28}, ⟨fun | ⟨(), _⟩ => [(6, (.sl 3 [] ly5 0 (List.length ((List.take x27 x28) ++ (List.take x25 x26)))))], fun | ⟨(), _⟩ => [(2, .dead), (3, (.rowI .u8 ((List.take x27 x28) ++ (List.take x25 x26))))], fun _ => 0⟩, 1, ?_, ?_⟩
  ·rintro ⟨⟨⟩, hp⟩
   subst hp
   replace h := hr2_28
   obtain rfl := some_in h
   exact ⟨0, [], [], rfl, rfl, rfl, rfl, trivial⟩
  ·replace h := hl2_28
   refine Or.inr ⟨30, ?_⟩
   refine And.intro (fun _ => ?_) (fun h0 => Bool.noConfusion h0)
   refine Or.inl ?_
   refine And.intro (by decide) ?_
   obtain ⟨hg, h⟩ := gd h
   refine And.intro (le_of_ln2 (ln_0 _ _) hg) ?_
   obtain ⟨hg2, h⟩ := gd h
   refine ⟨((List.take x27 x28) ++ (List.take x25 x26)), app_cut (cut_0 _ _) (cut_0 _ _), 0, (List.length ((List.take x27 x28) ++ (List.take x25 x26))), ⟨rfl, cut_ln hg2 (ln_0 _ _)⟩, ?_⟩
   refine Or.inl ?_
   refine And.intro (fun h0 => Bool.noConfusion h0) (fun _ => ?_)
   exact ⟨[], [], ⟨(), some_in h⟩, [], rfl, ⟨rfl, trivial⟩, ⟨rfl, rfl, trivial, rfl, trivial⟩, rfl⟩
 ·replace h := hl1_26
  refine Or.inr ⟨30, ?_⟩
  refine And.intro (fun _ => ?_) (fun h0 => Bool.noConfusion h0)
  refine Or.inl ?_
  refine And.intro (by decide) ?_
  refine Or.inl ?_
  refine And.intro (fun hb => ?_) (fun hb => ?_)
  ·replace h := cond_t h hb
   exact no_none h
  ·replace h := cond_f h hb
   refine And.intro (fun h0 => Bool.noConfusion h0) (fun _ => ?_)
   exact ⟨[], [], ⟨(), some_in h⟩, [], rfl, ⟨rfl, trivial⟩, ⟨rfl, rfl, trivial⟩, rfl⟩
theorem kem_extract_2_c (b0 b1 : Nat) (hn : [b0, b1].Nodup) (x21 : List UInt8) (x22 : Nat) (x23 : List Int) (res : (List Int)) (h : kem_extract_2 x21 x22 x23 = some res) :
  Fn Tryd.prog (GE er) 15 [(.dv (.str x21)), (.vs b0 0 1)] [(b0, (.var (.cons (.sl b1 [] ly5 0 x22) (.dv .nil)))), (b1, (.var (.dv (.ints .u8 32 x23))))] (.dv (.ints .u8 32 res)) [(b0, (.var (.cons (.sl b1 [] ly5 0 x22) (.dv .nil)))), (b1, (.var (.dv (.ints .u8 32 x23))))] := by
 refine bE er Tryd.func15 rfl rfl [(0, b0), (1, b1)] [(.dv (.str x21)), (.vs 0 0 1)] [(.var (.cons (.sl 1 [] ly5 0 x22) (.dv .nil))), (.var (.dv (.ints .u8 32 x23)))] [] (.dv (.ints .u8 32 res)) [(.var (.cons (.sl 1 [] ly5 0 x22) (.dv .nil))), (.var (.dv (.ints .u8 32 x23)))] rfl rfl rfl rfl rfl rfl hn 3 ?_
 replace h := (show kem_extract_2 x21 x22 x23 = _ from h)
 unfold kem_extract_2 at h
 obtain ⟨hg, h⟩ := gd h
 refine And.intro hg ?_
 refine ⟨(List.map (fun q : UInt8 => (q.toNat : Int)) ([72, 80, 75, 69, 45, 118, 49, 75, 69, 77, 0, 32] ++ x21)), rfl, 0, (List.length (List.map (fun q : UInt8 => (q.toNat : Int)) ([72, 80, 75, 69, 45, 118, 49, 75, 69, 77, 0, 32] ++ x21))), ⟨rfl, List.length_map ..⟩, ?_⟩
 refine Or.inl ?_
 let x24 : List Int := (List.map (fun q : UInt8 => (q.toNat : Int)) ([72, 80, 75, 69, 45, 118, 49, 75, 69, 77, 0, 32] ++ x21))
 replace h := nm_at x24 rfl h
 obtain ⟨x25, hc26, h⟩ := bnd h
 refine ⟨[], _, _, _, ⟨⟨_, slices_Concat_byte_byte_3_c er 0 1 4 (by decide) x22 x23 x25 hc26, ⟨.inl rfl, trivial⟩⟩, ⟨⟨rfl, rfl⟩, ⟨rfl, rfl⟩, trivial⟩, rfl⟩, ?_⟩
 refine Or.inl ?_
 obtain ⟨hg, h⟩ := gd h
 refine And.intro (le_of_ln2 (ln_full x25) hg) ?_
 refine ⟨(x24 ++ x25), app_cut (cut_full _) (cut_full x25), 0, (List.length (x24 ++ x25)), ⟨rfl, app_ln (ln_full x25)⟩, ?_⟩
 refine Or.inl ?_
 obtain ⟨x26, hc26, h⟩ := bnd h
 refine ⟨[false, true], _, _, _, ⟨⟨_, derive_Extract_c er ([] : List Int) (x24 ++ x25) x26 hc26, ⟨(.inr (.inr ⟨rfl, .inl ⟨_, rfl⟩⟩)), ve_full _ _, trivial⟩⟩, trivial, rfl⟩, ?_⟩
 obtain rfl := some_in h
 exact ⟨0, [], [], rfl, rfl, rfl, trivial⟩
theorem slices_Concat_byte_byte_4_c (b0 b1 b2 k0 : Nat) (hn : [b0, b1, b2, k0].Nodup) (x35 : Nat) (x36 : Nat) (x37 : List Int) (x38 : List Int) (res : (List Int)) (h : slices_Concat_byte_byte_4 x35 x36 x37 x38 = some res) :
  Fn Tryd.prog (GE er) 27 [(.vs b0 0 2)] [(b0, (.var (.cons (.sl b1 [] ly5 0 x35) (.cons (.sl b2 [] ly5 0 x36) (.dv .nil))))), (b1, (.var (.dv (.ints .u8 32 x37)))), (b2, (.var (.dv (.ints .u8 32 x38))))] (.sl k0 [] ly5 0 (List.length res)) [(b0, (.var (.cons (.sl b1 [] ly5 0 x35) (.cons (.sl b2 [] ly5 0 x36) (.dv .nil))))), (b1, (.var (.dv (.ints .u8 32 x37)))), (b2, (.var (.dv (.ints .u8 32 x38)))), (k0, (.rowI .u8 res))] := by
 refine bE er Tryd.func27 rfl rfl [(0, b0), (1, b1), (2, b2), (4, k0)] [(.vs 0 0 2)] [(.var (.cons (.sl 1 [] ly5 0 x35) (.cons (.sl 2 [] ly5 0 x36) (.dv .nil)))), (.var (.dv (.ints .u8 32 x37))), (.var (.dv (.ints .u8 32 x38)))] [4] (.sl 4 [] ly5 0 (List.length res)) [(.var (.cons (.sl 1 [] ly5 0 x35) (.cons (.sl 2 [] ly5 0 x36) (.dv .nil)))), (.var (.dv (.ints .u8 32 x37))), (.var (.dv (.ints .u8 32 x38))), (.rowI .u8 res)] rfl rfl rfl rfl rfl rfl hn 3 ?_
 replace h := (show slices_Concat_byte_byte_4 x35 x36 x37 x38 = _ from h)
 unfold slices_Concat_byte_byte_4 at h
 obtain ⟨r1_0_39, hl1_39, hr1_39⟩ := bnd h
 refine Or.inr ⟨[10], {p : Int // p = r1_0_39}, ⟨fun | ⟨x39, _⟩ => [(3, (.int .i64 x39))], fun | ⟨x39, _⟩ => [], fun _ => 0⟩, 0, ?_, ?_⟩
 ·rintro ⟨x39, hp⟩
  subst hp
  replace h := hr1_39
  obtain ⟨r44, hc44, h⟩ := bnd h
  obtain ⟨x41, x42⟩ := r44
  refine ⟨[], _, _, _, ⟨⟨_, slices_Grow_byte_byte_2_c er 3 (by decide) x39 (x41, x42) hc44, ⟨.inl rfl, .inl rfl, trivial⟩⟩, trivial, rfl⟩, ?_⟩
  refine Or.inl ?_
  obtain ⟨r2_0_43, hl2_43, hr2_43⟩ := bnd h
  refine Or.inr ⟨[24, 26], {p : (List Int) // p = r2_0_43}, ⟨fun | ⟨x43, _⟩ => [(6, (.sl 4 [] ly5 0 (List.length x43)))], fun | ⟨x43, _⟩ => [(3, .dead), (4, (.rowI .u8 x43))], fun _ => 0⟩, 1, ?_, ?_⟩
  ·rintro ⟨x43, hp⟩
   subst hp
   replace h := hr2_43
   obtain rfl := some_in h
   exact ⟨0, [], [], rfl, rfl, rfl, rfl, rfl, trivial⟩
  ·replace h := hl2_43
   refine Or.inr ⟨30, ?_⟩
   refine And.intro (fun _ => ?_) (fun h0 => Bool.noConfusion h0)
   refine Or.inl ?_
   refine And.intro (by decide) ?_
   obtain ⟨hg, h⟩ := gd h
   refine And.intro (le_of_ln2 (ln_0 _ _) hg) ?_
   obtain ⟨hg2, h⟩ := gd h
   refine ⟨((List.take x41 x42) ++ (List.take x35 x37)), app_cut (cut_0 _ _) (cut_0 _ _), 0, (List.length ((List.take x41 x42) ++ (List.take x35 x37))), ⟨rfl, cut_ln hg2 (ln_0 _ _)⟩, ?_⟩
   refine Or.inl ?_
   refine And.intro (fun _ => ?_) (fun h0 => Bool.noConfusion h0)
   refine Or.inl ?_
   refine And.intro (by decide) ?_
   obtain ⟨hg, h⟩ := gd h
   refine And.intro (le_of_ln2 (ln_0 _ _) hg) ?_
   refine ⟨(((List.take x41 x42) ++ (List.take x35 x37)) ++ (List.take x36 x38)), app_cut (cut_full _) (cut_0 _ _), 0, (List.length (((List.take x41 x42) ++ (List.take x35 x37)) ++ (List.take x36 x38))), ⟨rfl, app_ln (ln_0 _ _)⟩, ?_⟩
   refine Or.inl ?_
   let x44 : List Int := (((List.take x41 x42) ++ (List.take x35 x37)) ++ (List.take x36 x38))
   replace h := nm_at x44 rfl h
   refine And.intro (fun h0 => Bool.noConfusion h0) (fun _ => ?_)
   exact ⟨[], [], ⟨x44, some_in h⟩, [(4, 5)], rfl, ⟨rfl, trivial⟩, ⟨rfl, rfl, rfl, trivial, rfl, trivial⟩, rfl⟩
 ·replace h := hl1_39
  refine Or.inr ⟨30, ?_⟩
  refine And.intro (fun _ => ?_) (fun h0 => Bool.noConfusion h0)
  refine Or.inl ?_
  refine And.intro (by decide) ?_
  refine Or.inl ?_
  refine And.intro (fun hb => ?_) (fun hb => ?_)
  ·replace h := cond_t h hb
   exact no_none h
  ·replace h := cond_f h hb
   refine And.intro (fun _ => ?_) (fun h0 => Bool.noConfusion h0)
   refine Or.inl ?_
   refine And.intro (by decide) ?_
   let x40 : Int := (IntKind.wrap .i64 ((IntKind.wrap .i64 (0 + (x35 : Int))) + (x36 : Int)))
   replace h := nm_at x40 rfl h
   refine Or.inl ?_
   refine And.intro (fun hb => ?_) (fun hb => ?_)
   ·replace h := cond_t h hb
    exact no_none h
   ·replace h := cond_f h hb
    refine And.intro (fun h0 => Bool.noConfusion h0) (fun _ => ?_)
    exact ⟨[], [], ⟨x40, some_in h⟩, [], rfl, ⟨rfl, trivial⟩, ⟨rfl, rfl, rfl, trivial⟩, rfl⟩
theorem kem_expand_2_c (b0 b1 b2 : Nat) (hn : [b0, b1, b2].Nodup) (x28 : List Int) (x29 : List UInt8) (x30 : Nat) (x31 : Nat) (x32 : List Int) (x33 : List Int) (res : (List Int)) (h : kem_expand_2 x28 x29 x30 x31 x32 x33 = some res) :
  Fn Tryd.prog (GE er) 14 [(.dv (.ints .u8 32 x28)), (.dv (.str x29)), (.vs b0 0 2)] [(b0, (.var (.cons (.sl b1 [] ly5 0 x30) (.cons (.sl b2 [] ly5 0 x31) (.dv .nil))))), (b1, (.var (.dv (.ints .u8 32 x32)))), (b2, (.var (.dv (.ints .u8 32 x33))))] (.dv (.ints .u8 32 res)) [(b0, (.var (.cons (.sl b1 [] ly5 0 x30) (.cons (.sl b2 [] ly5 0 x31) (.dv .nil))))), (b1, (.var (.dv (.ints .u8 32 x32)))), (b2, (.var (.dv (.ints .u8 32 x33))))] := by
 refine bE er Tryd.func14 rfl rfl [(0, b0), (1, b1), (2, b2)] [(.dv (.ints .u8 32 x28)), (.dv (.str x29)), (.vs 0 0 2)] [(.var (.cons (.sl 1 [] ly5 0 x30) (.cons (.sl 2 [] ly5 0 x31) (.dv .nil)))), (.var (.dv (.ints .u8 32 x32))), (.var (.dv (.ints .u8 32 x33)))] [] (.dv (.ints .u8 32 res)) [(.var (.cons (.sl 1 [] ly5 0 x30) (.cons (.sl 2 [] ly5 0 x31) (.dv .nil)))), (.var (.dv (.ints .u8 32 x32))), (.var (.dv (.ints .u8 32 x33)))] rfl rfl rfl rfl rfl rfl hn 3 ?_
 replace h := (show kem_expand_2 x28 x29 x30 x31 x32 x33 = _ from h)
 unfold kem_expand_2 at h
 obtain ⟨hg, h⟩ := gd h
 refine And.intro hg ?_
 let x34 : List UInt8 := ([0, 32, 72, 80, 75, 69, 45, 118, 49, 75, 69, 77, 0, 32] ++ x29)
 replace h := nm_at x34 rfl h
 refine ⟨(List.map (fun q : UInt8 => (q.toNat : Int)) x34), rfl, 0, (List.length (List.map (fun q : UInt8 => (q.toNat : Int)) x34)), ⟨rfl, List.length_map ..⟩, ?_⟩
 refine Or.inl ?_
 refine Or.inl ?_
 refine And.intro (by omega) ?_
 refine ⟨0, 32, ⟨rfl, rfl⟩, ?_⟩
 obtain ⟨x35, hc39, h⟩ := bnd h
 refine ⟨[], _, _, _, ⟨⟨_, slices_Concat_byte_byte_4_c er 0 1 2 7 (by decide) x30 x31 x32 x33 x35 hc39, ⟨.inl rfl, trivial⟩⟩, ⟨⟨rfl, rfl⟩, ⟨rfl, rfl⟩, ⟨rfl, rfl⟩, trivial⟩, rfl⟩, ?_⟩
 refine Or.inl ?_
 obtain ⟨hg, h⟩ := gd h
 refine And.intro (le_of_ln2 (ln_full x35) hg) ?_
 refine ⟨((List.map (fun q : UInt8 => (q.toNat : Int)) x34) ++ x35), app_cut (cut_full _) (cut_full x35), 0, (List.length ((List.map (fun q : UInt8 => (q.toNat : Int)) x34) ++ x35)), ⟨rfl, app_ln (ln_full x35)⟩, ?_⟩
 refine Or.inl ?_
 obtain ⟨r39, hc39, h⟩ := bnd h
 rcases r39 with ⟨x36, x37⟩ | x39
 ·refine ⟨[true, true, false], _, _, _, ⟨⟨_, derive_Expand_c er 9 (by decide) (List.take 32 x28) ((List.map (fun q : UInt8 => (q.toNat : Int)) x34) ++ x35) 32 (Sum.inl (x36, x37)) hc39, ⟨.inl rfl, ve_full _ _, .inl rfl, trivial⟩⟩, trivial, rfl⟩, ?_⟩
  refine Or.inl ?_
  refine Or.inl ?_
  refine And.intro (fun _ => ?_) (fun h0 => Bool.noConfusion h0)
  refine Or.inl ?_
  refine And.intro (by omega) ?_
  refine ⟨0, 32, ⟨rfl, rfl⟩, ?_⟩
  let x38 : List Int := (over (List.replicate 32 (0 : Int)) 0 (List.take 32 (List.take x36 x37)))
  replace h := nm_at x38 rfl h
  obtain rfl := some_in h
  exact ⟨0, [], [], rfl, rfl, rfl, rfl, trivial⟩
 ·refine ⟨[true, true, false], _, _, _, ⟨⟨_, derive_Expand_c er 9 (by decide) (List.take 32 x28) ((List.map (fun q : UInt8 => (q.toNat : Int)) x34) ++ x35) 32 (Sum.inr x39) hc39, ⟨.inl rfl, ve_full _ _, .inl rfl, trivial⟩⟩, trivial, rfl⟩, ?_⟩
  refine Or.inl ?_
  refine And.intro (fun h0 => Bool.noConfusion h0) (fun _ => ?_)
  obtain rfl := some_in h
  exact ⟨0, [], [], rfl, rfl, rfl, rfl, trivial⟩
theorem kem_common_c (x18 : List Int) (x19 : List Int) (x20 : List Int) (res : (List Int)) (h : kem_common x18 x19 x20 = some res) :
  Fn Tryd.prog (GE er) 22 [(.dv (.ints .u8 32 x18)), (.dv (.ints .u8 32 x19)), (.dv (.ints .u8 32 x20))] [] (.dv (.ints .u8 32 res)) [] := by
 refine bE er Tryd.func22 rfl rfl [] [(.dv (.ints .u8 32 x18)), (.dv (.ints .u8 32 x19)), (.dv (.ints .u8 32 x20))] [] [] (.dv (.ints .u8 32 res)) [] rfl rfl rfl rfl rfl rfl .nil 3 ?_
 replace h := (show kem_common x18 x19 x20 = _ from h)
 unfold kem_common at h
 refine Or.inl ?_
 refine And.intro (by omega) ?_
 refine ⟨0, 32, ⟨rfl, rfl⟩, ?_⟩
 refine Or.inr ?_
 obtain ⟨x21, hc22, h⟩ := bnd h
 refine ⟨[], _, _, _, ⟨⟨_, kem_extract_2_c er 4 0 (by decide) [101, 97, 101, 95, 112, 114, 107] 32 x18 x21 hc22, ⟨.inl rfl, .inl rfl, trivial⟩⟩, ⟨⟨rfl, rfl⟩, ⟨rfl, rfl⟩, trivial⟩, rfl⟩, ?_⟩
 refine Or.inl ?_
 refine And.intro (by omega) ?_
 refine ⟨0, 32, ⟨rfl, rfl⟩, ?_⟩
 refine Or.inl ?_
 refine And.intro (by omega) ?_
 refine ⟨0, 32, ⟨rfl, rfl⟩, ?_⟩
 refine Or.inr ?_
 obtain ⟨x22, hc22, h⟩ := bnd h
 refine ⟨[], _, _, _, ⟨⟨_, kem_expand_2_c er 5 1 2 (by decide) x21 [115, 104, 97, 114, 101, 100, 95, 115, 101, 99, 114, 101, 116] 32 32 x19 x20 x22 hc22, ⟨.inl rfl, .inl rfl, .inl rfl, trivial⟩⟩, ⟨⟨rfl, rfl⟩, ⟨rfl, rfl⟩, ⟨rfl, rfl⟩, trivial⟩, rfl⟩, ?_⟩
 obtain rfl := some_in h
 exact ⟨0, [], [], rfl, trivial⟩
theorem kem_Encap_c (b0 b1 : Nat) (hn : [b0, b1].Nodup) (x3 : List Int) (x4 : Nat) (x5 : List Int) (res : (((List Int) × (List Int)) ⊕ Unit)) (h : kem_Encap x3 x4 x5 = some res) :
  Fn Tryd.prog (GE er) 9 [(.dv (.ints .u8 32 x3)), (.vs b0 0 1)] [(b0, (.var (.cons (.sl b1 [] ly5 0 x4) (.dv .nil)))), (b1, (.frzI .u8 x5))] (match res with | (Sum.inl (p0, p1)) => (.tup [(.dv (.ints .u8 32 p0)), (.dv (.ints .u8 32 p1)), (.dv (.sc .nilIface))]) | (Sum.inr _) => (.tup [(.dv (.ints .u8 32 (List.replicate 32 (0 : Int)))), (.dv (.ints .u8 32 (List.replicate 32 (0 : Int)))), (errA er 5)])) (match res with | (Sum.inl (p0, p1)) => [(b0, (.var (.cons (.sl b1 [] ly5 0 x4) (.dv .nil)))), (b1, (.frzI .u8 x5))] | (Sum.inr _) => [(b0, (.var (.cons (.sl b1 [] ly5 0 x4) (.dv .nil)))), (b1, (.frzI .u8 x5))]) := by
 refine bE er Tryd.func9 rfl rfl [(0, b0), (1, b1)] [(.dv (.ints .u8 32 x3)), (.vs 0 0 1)] [(.var (.cons (.sl 1 [] ly5 0 x4) (.dv .nil))), (.frzI .u8 x5)] [] (match res with | (Sum.inl (p0, p1)) => (.tup [(.dv (.ints .u8 32 p0)), (.dv (.ints .u8 32 p1)), (.dv (.sc .nilIface))]) | (Sum.inr _) => (.tup [(.dv (.ints .u8 32 (List.replicate 32 (0 : Int)))), (.dv (.ints .u8 32 (List.replicate 32 (0 : Int)))), (errA er 5)])) (match res with | (Sum.inl (p0, p1)) => [(.var (.cons (.sl 1 [] ly5 0 x4) (.dv .nil))), (.frzI .u8 x5)] | (Sum.inr _) => [(.var (.cons (.sl 1 [] ly5 0 x4) (.dv .nil))), (.frzI .u8 x5)]) rfl rfl (by rcases res with _ | _ <;> rfl) (by rcases res with _ | _ <;> rfl) (by rcases res with _ | _ <;> rfl) (by rcases res with _ | _ <;> rfl) (by rcases res with _ | _ <;> exact hn) 3 ?_
 replace h := (show kem_Encap x3 x4 x5 = _ from h)
 unfold kem_Encap at h
 obtain ⟨r9, hc9, h⟩ := bnd h
 obtain ⟨x6, x7⟩ := r9
 refine ⟨[], _, _, _, ⟨⟨_, kem_Pair_c er 0 1 (by decide) x4 x5 (x6, x7) hc9, ⟨.inl rfl, trivial⟩⟩, ⟨⟨rfl, rfl⟩, ⟨rfl, rfl⟩, trivial⟩, rfl⟩, ?_⟩
 obtain ⟨r9, hc9, h⟩ := bnd h
 rcases r9 with x8 | ⟨⟩
 ·refine ⟨[], _, _, _, ⟨⟨_, ladder_Shared_c er x6 x3 (Sum.inl x8) hc9, ⟨.inl rfl, .inl rfl, trivial⟩⟩, trivial, rfl⟩, ?_⟩
  refine And.intro (fun h0 => Bool.noConfusion h0) (fun _ => ?_)
  obtain ⟨x9, hc9, h⟩ := bnd h
  refine ⟨[], _, _, _, ⟨⟨_, kem_common_c er x8 x7 x3 x9 hc9, ⟨.inl rfl, .inl rfl, .inl rfl, trivial⟩⟩, trivial, rfl⟩, ?_⟩
  obtain rfl := some_in h
  exact ⟨0, [], [], rfl, rfl, rfl, trivial⟩
 ·refine ⟨[], _, _, _, ⟨⟨_, ladder_Shared_c er x6 x3 (Sum.inr ()) hc9, ⟨.inl rfl, .inl rfl, trivial⟩⟩, trivial, rfl⟩, ?_⟩
  refine And.intro (fun _ => ?_) (fun h0 => Bool.noConfusion h0)
  obtain rfl := some_in h
  exact ⟨0, [], [], rfl, rfl, rfl, trivial⟩
theorem fnum_Num_c (res : Unit) (h : fnum_Num = some res) :
  Fn Tryd.prog (GE er) 11 [(.dv (.sc .nilIface))] [] (.int .i64 0) [] := by
 refine bE er Tryd.func11 rfl rfl [] [(.dv (.sc .nilIface))] [] [] (.int .i64 0) [] rfl rfl rfl rfl rfl rfl .nil 3 ?_
 replace h := (show fnum_Num = _ from h)
 unfold fnum_Num at h
 refine And.intro (fun _ => ?_) (fun h0 => Bool.noConfusion h0)
 obtain rfl := some_in h
 exact ⟨0, [], [], rfl, trivial⟩
theorem fnum_Num_2_c (x16 : Nat) (res : Int) (h : fnum_Num_2 x16 = some res) :
  Fn Tryd.prog (GE er) 11 [(errA er x16)] [] (.int .i64 res) [] := by
 refine bE er Tryd.func11 rfl rfl [] [(errA er x16)] [] [] (.int .i64 res) [] rfl rfl rfl rfl rfl rfl .nil 3 ?_
 replace h := (show fnum_Num_2 x16 = _ from h)
 unfold fnum_Num_2 at h
 refine And.intro (fun h0 => Bool.noConfusion h0) (fun _ => ?_)
 refine Or.inl ?_
 refine ⟨(List.length [1, 2, 3, 4, 5, 6, 7, 8, 9, 10, 11, 12, 13, 14, 15, 16, 17, 18, 19]), (rw_ (fun q => errD er q) 0 [1, 2, 3, 4, 5, 6, 7, 8, 9, 10, 11, 12, 13, 14, 15, 16, 17, 18, 19]), ⟨rfl, fun j hj => match j, hj with | 0, _ => rfl | 1, _ => rfl | 2, _ => rfl | 3, _ => rfl | 4, _ => rfl | 5, _ => rfl | 6, _ => rfl | 7, _ => rfl | 8, _ => rfl | 9, _ => rfl | 10, _ => rfl | 11, _ => rfl | 12, _ => rfl | 13, _ => rfl | 14, _ => rfl | 15, _ => rfl | 16, _ => rfl | 17, _ => rfl | 18, _ => rfl | _ + 19, hj => absurd hj (by omega)⟩, ?_⟩
 refine Or.inl ?_
 let x17 : List Nat := [1, 2, 3, 4, 5, 6, 7, 8, 9, 10, 11, 12, 13, 14, 15, 16, 17, 18, 19]
 replace h := nm_at x17 rfl h
 obtain ⟨r1_0_18, hl1_18, hr1_18⟩ := bnd h
 refine Or.inr ⟨[29], {p : Unit // (Sum.inl p) = r1_0_18}, ⟨fun | ⟨(), _⟩ => [(2, (.int .i64 0))], fun | ⟨(), _⟩ => [], fun _ => 0⟩, 0, ?_, ?_⟩
 ·rintro ⟨⟨⟩, hp⟩
  subst hp
  replace h := hr1_18
  obtain rfl := some_in h
  exact ⟨0, [], [], rfl, trivial⟩
 ·replace h := hl1_18
  refine Or.inl ?_
  refine ⟨[], {x : Nat × Int // fnum_Num_2_l1 x16 x17 x.1 x.2 = some r1_0_18}, ⟨fun | ⟨(n1, x19), _⟩ => [(2, (.int .i64 0)), (30, (.int .i64 x19))], fun | ⟨(n1, x19), _⟩ => [], fun | ⟨(n1, x19), _⟩ => n1⟩, [], [], ⟨(FUEL, 0), h⟩, ⟨rfl, ⟨rfl, rfl, trivial⟩, ⟨rfl, trivial⟩, rfl⟩, ?_⟩
  rintro ⟨⟨n1, x19⟩, h⟩
  cases n1 with
  | zero => exact no_none h
  | succ n1 =>
   replace h := (show fnum_Num_2_l1 x16 x17 (n1 + 1) x19 = _ from h)
   replace h := (fnum_Num_2_l1.eq_2 .. ).symm.trans h
   refine And.intro (fun hb => ?_) (fun hb => ?_)
   ·replace h := cond_t h hb
    refine Or.inl ?_
    obtain ⟨hg, h⟩ := gd h
    refine And.intro hg ?_
    obtain ⟨x20, hc20, h⟩ := bnd h
    refine ⟨[], _, _, _, ⟨⟨_, is_fn (fun _ h => h) x16 (List.getD x17 (Int.toNat x19) 0) x20 hc20, ⟨.inl rfl, .inl rfl, trivial⟩⟩, trivial, rfl⟩, ?_⟩
    refine And.intro (fun hb => ?_) (fun hb => ?_)
    ·replace h := cond_t h hb
     obtain rfl := some_in h
     replace h := hr1_18
     obtain rfl := some_in h
     exact ⟨0, [], [], rfl, trivial⟩
    ·replace h := cond_f h hb
     exact ⟨⟨(n1, (IntKind.wrap .i64 (x19 + 1))), h⟩, [], ⟨rfl, ⟨rfl, rfl, trivial⟩, ⟨rfl, trivial⟩, rfl⟩, Nat.lt_succ_self _⟩
   ·replace h := cond_f h hb
    exact ⟨[], [], ⟨(), some_in h⟩, [], rfl, ⟨rfl, trivial⟩, ⟨rfl, trivial⟩, rfl⟩
theorem fl14_alive_c (res : Bool) (h : fl14_alive = some res) :
  Fn Tryd.prog (GE er) 6 [] [] (.bl res) [] := by
 refine bE er Tryd.func6 rfl rfl [] [] [] [] (.bl res) [] rfl rfl rfl rfl rfl rfl .nil 3 ?_
 replace h := (show fl14_alive = _ from h)
 unfold fl14_alive at h
 refine Or.inl ?_
 refine ⟨0, (List.length [120]), ⟨rfl, rfl⟩, ?_⟩
 refine Or.inl ?_
 refine Or.inr ?_
 obtain ⟨r9, hc9, h⟩ := bnd h
 rcases r9 with ⟨x3, x4⟩ | ⟨⟩
 ·refine ⟨[], _, _, _, ⟨⟨_, kem_Encap_c er 1 0 (by decide) (List.replicate 32 (0 : Int)) (List.length [120]) [120] (Sum.inl (x3, x4)) hc9, ⟨.inl rfl, .inl rfl, trivial⟩⟩, ⟨⟨rfl, rfl⟩, ⟨rfl, rfl⟩, trivial⟩, rfl⟩, ?_⟩
  refine Or.inl ?_
  refine ⟨0, (List.length [120]), ⟨rfl, rfl⟩, ?_⟩
  refine Or.inl ?_
  refine Or.inr ?_
  obtain ⟨r6, hc6, h⟩ := bnd h
  obtain ⟨x5, x6⟩ := r6
  refine ⟨[], _, _, _, ⟨⟨_, kem_Pair_c er 5 4 (by decide) (List.length [120]) [120] (x5, x6) hc6, ⟨.inl rfl, trivial⟩⟩, ⟨⟨rfl, rfl⟩, ⟨rfl, rfl⟩, trivial⟩, rfl⟩, ?_⟩
  obtain ⟨r6, hc6, h⟩ := bnd h
  refine ⟨[], _, _, _, ⟨⟨_, fnum_Num_c er r6 hc6, ⟨.inl rfl, trivial⟩⟩, trivial, rfl⟩, ?_⟩
  refine And.intro (fun h0 => Bool.noConfusion h0) (fun _ => ?_)
  obtain rfl := some_in h
  exact ⟨0, [], [], rfl, trivial⟩
 ·refine ⟨[], _, _, _, ⟨⟨_, kem_Encap_c er 1 0 (by decide) (List.replicate 32 (0 : Int)) (List.length [120]) [120] (Sum.inr ()) hc9, ⟨.inl rfl, .inl rfl, trivial⟩⟩, ⟨⟨rfl, rfl⟩, ⟨rfl, rfl⟩, trivial⟩, rfl⟩, ?_⟩
  refine Or.inl ?_
  refine ⟨0, (List.length [120]), ⟨rfl, rfl⟩, ?_⟩
  refine Or.inl ?_
  refine Or.inr ?_
  obtain ⟨r9, hc9, h⟩ := bnd h
  obtain ⟨x7, x8⟩ := r9
  refine ⟨[], _, _, _, ⟨⟨_, kem_Pair_c er 5 4 (by decide) (List.length [120]) [120] (x7, x8) hc9, ⟨.inl rfl, trivial⟩⟩, ⟨⟨rfl, rfl⟩, ⟨rfl, rfl⟩, trivial⟩, rfl⟩, ?_⟩
  obtain ⟨x9, hc9, h⟩ := bnd h
  refine ⟨[], _, _, _, ⟨⟨_, fnum_Num_2_c er 5 x9 hc9, ⟨.inl rfl, trivial⟩⟩, trivial, rfl⟩, ?_⟩
  refine And.intro (fun hb => ?_) (fun hb => ?_)
  ·replace h := cond_t h hb
   obtain rfl := some_in h
   exact ⟨0, [], [], rfl, trivial⟩
  ·replace h := cond_f h hb
   obtain rfl := some_in h
   exact ⟨0, [], [], rfl, trivial⟩
theorem kem_extract_3_c (x12 : List UInt8) (x13 : List (List Int)) (res : (List Int)) (h : kem_extract_3 x12 x13 = some res) :
  Fn Tryd.prog (GE er) 15 [(.dv (.str x12)), (.dv (.ro ly22 (List.length x13) (rw_ (fun q => .roI .u8 q) [] x13)))] [] (.dv (.ints .u8 32 res)) [] := by
 refine bE er Tryd.func15 rfl rfl [] [(.dv (.str x12)), (.dv (.ro ly22 (List.length x13) (rw_ (fun q => .roI .u8 q) [] x13)))] [] [] (.dv (.ints .u8 32 res)) [] rfl rfl rfl rfl rfl rfl .nil 3 ?_
 replace h := (show kem_extract_3 x12 x13 = _ from h)
 unfold kem_extract_3 at h
 obtain ⟨hg, h⟩ := gd h
 refine And.intro hg ?_
 refine ⟨(List.map (fun q : UInt8 => (q.toNat : Int)) ([72, 80, 75, 69, 45, 118, 49, 75, 69, 77, 0, 32] ++ x12)), rfl, 0, (List.length (List.map (fun q : UInt8 => (q.toNat : Int)) ([72, 80, 75, 69, 45, 118, 49, 75, 69, 77, 0, 32] ++ x12))), ⟨rfl, List.length_map ..⟩, ?_⟩
 refine Or.inl ?_
 let x14 : List Int := (List.map (fun q : UInt8 => (q.toNat : Int)) ([72, 80, 75, 69, 45, 118, 49, 75, 69, 77, 0, 32] ++ x12))
 replace h := nm_at x14 rfl h
 obtain ⟨r17, hc17, h⟩ := bnd h
 obtain ⟨x15, x16⟩ := r17
 refine ⟨[], _, _, _, ⟨⟨_, slices_Concat_byte_byte_2_c er 2 (by decide) x13 (x15, x16) hc17, ⟨.inl rfl, trivial⟩⟩, trivial, rfl⟩, ?_⟩
 refine Or.inl ?_
 obtain ⟨hg, h⟩ := gd h
 refine And.intro (le_of_ln2 (ln_0 _ _) hg) ?_
 refine ⟨(x14 ++ (List.take x15 x16)), app_cut (cut_full _) (cut_0 _ _), 0, (List.length (x14 ++ (List.take x15 x16))), ⟨rfl, app_ln (ln_0 _ _)⟩, ?_⟩
 refine Or.inl ?_
 obtain ⟨x17, hc17, h⟩ := bnd h
 refine ⟨[false, true], _, _, _, ⟨⟨_, derive_Extract_c er ([] : List Int) (x14 ++ (List.take x15 x16)) x17 hc17, ⟨(.inr (.inr ⟨rfl, .inl ⟨_, rfl⟩⟩)), ve_full _ _, trivial⟩⟩, trivial, rfl⟩, ?_⟩
 obtain rfl := some_in h
 exact ⟨0, [], [], rfl, trivial⟩
theorem kem_Pair_2_c (x11 : List (List Int)) (res : (List Int) × (List Int)) (h : kem_Pair_2 x11 = some res) :
  Fn Tryd.prog (GE er) 7 [(.dv (.ro ly22 (List.length x11) (rw_ (fun q => .roI .u8 q) [] x11)))] [] (.tup [(.dv (.ints .u8 32 res.1)), (.dv (.ints .u8 32 res.2))]) [] := by
 refine bE er Tryd.func7 rfl rfl [] [(.dv (.ro ly22 (List.length x11) (rw_ (fun q => .roI .u8 q) [] x11)))] [] [] (.tup [(.dv (.ints .u8 32 res.1)), (.dv (.ints .u8 32 res.2))]) [] rfl rfl rfl rfl rfl rfl .nil 3 ?_
 replace h := (show kem_Pair_2 x11 = _ from h)
 unfold kem_Pair_2 at h
 obtain ⟨x12, hc14, h⟩ := bnd h
 refine ⟨[], _, _, _, ⟨⟨_, kem_extract_3_c er [100, 107, 112, 95, 112, 114, 107] x11 x12 hc14, ⟨.inl rfl, .inl rfl, trivial⟩⟩, trivial, rfl⟩, ?_⟩
 obtain ⟨x13, hc14, h⟩ := bnd h
 refine ⟨[], _, _, _, ⟨⟨_, kem_expand_c er x12 [115, 107] ([] : List (List Int)) x13 hc14, ⟨.inl rfl, .inl rfl, (.inr (.inr ⟨rfl, .inr ⟨_, _, rfl⟩⟩)), trivial⟩⟩, trivial, rfl⟩, ?_⟩
 obtain ⟨x14, hc14, h⟩ := bnd h
 refine ⟨[], _, _, _, ⟨⟨_, ladder_Base_c er x13 x14 hc14, ⟨.inl rfl, trivial⟩⟩, trivial, rfl⟩, ?_⟩
 obtain rfl := some_in h
 exact ⟨0, [], [], rfl, trivial⟩
end
end Go.Eng
