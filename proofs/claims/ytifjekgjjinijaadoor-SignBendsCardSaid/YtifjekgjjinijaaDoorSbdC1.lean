/-
  Part of a proof: SbdC1.
-/
import Derived.Test.YtifjekgjjinijaaDoorSbdM
set_option linter.unusedVariables false
set_option linter.unusedSimpArgs false
set_option linter.unusedVariables false
set_option linter.unusedSimpArgs false
namespace Go.Eng
open Go.Proofs
set_option maxRecDepth 100000
set_option maxHeartbeats 4000000
section
variable (er : Nat -> ErrV)
def GEv (er : Nat -> ErrV) : Nat -> AV
 | 0 => .rp (.sc (.iface (er 4).1 (er 4).2))
 | 1 => .rp (.ints .u64 10 tb_field_many)
 | 2 => .rp (.ints .u64 10 tb_field_minus)
 | 3 => .rp (.ints .u64 80 tb_shawide_constants)
 | _ => .any
def GE (er : Nat -> ErrV) : Glob := ⟨GEv er, ErrsOK 99 er errI⟩
theorem GE_plain (er : Nat -> ErrV) : GPlain (GE er) := fun g => by show (GEv er g).inB _ = true; unfold GEv; split <;> rfl
theorem bE (er : Nat -> ErrV) {f : FuncId} {fn : Func} {c : Code} (hf : Tryd.prog.funcs[f]? = some fn) (hname : (fn.name == "runtime.NumGoroutine") = false) (hb : fn.body = some c) (τ : List (Nat × Nat)) (as0 : List AV) (bs0 : List Blk) (news : List Nat) (r0 : AV) (ws : List Blk) {args : List AV} {S wr : List (Nat × Blk)} {r : AV} (ha : as0.map (AV.ren τ) = args) (hS : renAll τ (List.range bs0.length) bs0 = S) (hr : r0.ren τ = r) (hw : renAll τ (List.range bs0.length ++ news) ws = wr) (hchk : bodyB as0 bs0 news r0 ws = true) (hk : τ.map Prod.fst = List.range bs0.length ++ news) (hn : (τ.map Prod.snd).Nodup) (dp : Nat) (h : startT as0 fn.ntmps fun ts => vcR Tryd.prog (GE er) tab (itR Tryd.prog (GE er) tab dp) bs0.length noY c false [] none (retK tab fn fun r bs => r = r0 /\ leaves bs (List.range bs0.length ++ news) ws) ts bs0) : Fn Tryd.prog (GE er) f args S r wr :=
 Fn.bodyE tabOK mixed (GE_plain er) hf hname hb τ as0 bs0 news r0 ws ha hS hr hw hchk hk hn dp h
theorem shawide_begin_c (res : (List Int)) (h : shawide_begin = some res) :
  Fn Tryd.prog (GE er) 48 [] [] (.dv (.ints .u64 8 res)) [] := by
 refine bE er Tryd.func48 rfl rfl [] [] [] [] (.dv (.ints .u64 8 res)) [] rfl rfl rfl rfl rfl rfl .nil 3 ?_
 replace h := (show shawide_begin = _ from h)
 unfold shawide_begin at h
 let x10 : List Int := [7640891576956012808, 13503953896175478587, 4354685564936845355, 11912009170470909681, 5840696475078001361, 11170449401992604703, 2270897969802886507, 6620516959819538809]
 replace h := nm_at x10 rfl h
 obtain rfl := some_in h
 exact ⟨0, [], [], rfl, trivial⟩
theorem shawide_padded_c (b0 b1 k0 : Nat) (hn : [b0, b1, k0].Nodup) (x12 : Nat) (x13 : List Int) (res : Unit) (h : shawide_padded x12 x13 = some res) :
  Fn Tryd.prog (GE er) 49 [(.vs b0 0 1)] [(b0, (.var (.cons (.sl b1 [] ly5 0 x12) (.dv .nil)))), (b1, (.var (.dv (.ints .u8 32 x13))))] (.fn 61 [(.ptr k0 [] ly32)]) [(b0, (.var (.cons (.sl b1 [] ly5 0 x12) (.dv .nil)))), (b1, (.var (.dv (.ints .u8 32 x13)))), (k0, (.var (.vs b0 0 1)))] := by
 refine bE er Tryd.func49 rfl rfl [(0, b0), (1, b1), (2, k0)] [(.vs 0 0 1)] [(.var (.cons (.sl 1 [] ly5 0 x12) (.dv .nil))), (.var (.dv (.ints .u8 32 x13)))] [2] (.fn 61 [(.ptr 2 [] ly32)]) [(.var (.cons (.sl 1 [] ly5 0 x12) (.dv .nil))), (.var (.dv (.ints .u8 32 x13))), (.var (.vs 0 0 1))] rfl rfl rfl rfl rfl rfl hn 3 ?_
 replace h := (show shawide_padded x12 x13 = _ from h)
 unfold shawide_padded at h
 obtain rfl := some_in h
 exact ⟨0, [], [], rfl, rfl, rfl, rfl, trivial⟩
theorem slices_Grow_byte_byte_2_c (k0 : Nat) (hn : [k0].Nodup) (x18 : Int) (res : Nat × (List Int)) (h : slices_Grow_byte_byte_2 x18 = some res) :
  Fn Tryd.prog (GE er) 35 [(.dv (.sc (.slice none 0 0))), (.int .i64 x18)] [] (.sl k0 [] ly5 0 res.1) [(k0, (.rowI .u8 res.2))] := by
 refine bE er Tryd.func35 rfl rfl [(0, k0)] [(.dv (.sc (.slice none 0 0))), (.int .i64 x18)] [] [0] (.sl 0 [] ly5 0 res.1) [(.rowI .u8 res.2)] rfl rfl rfl rfl rfl rfl hn 3 ?_
 replace h := (show slices_Grow_byte_byte_2 x18 = _ from h)
 unfold slices_Grow_byte_byte_2 at h
 refine Or.inl ?_
 refine And.intro (fun hb => ?_) (fun hb => ?_)
 ·replace h := cond_t h hb
  exact no_none h
 ·replace h := cond_f h hb
  obtain ⟨r1_0_20, hl1_20, hr1_20⟩ := bnd h
  refine Or.inr ⟨[], {p : Nat × (List Int) // p = r1_0_20}, ⟨fun | ⟨(x19, x20), _⟩ => [(0, (.sl 0 [] ly5 0 x19))], fun | ⟨(x19, x20), _⟩ => [(0, (.rowI .u8 x20))], fun _ => 0⟩, 1, ?_, ?_⟩
  ·rintro ⟨⟨x19, x20⟩, hp⟩
   subst hp
   replace h := hr1_20
   obtain rfl := some_in h
   exact ⟨0, [], [], rfl, rfl, trivial⟩
  ·replace h := hl1_20
   refine And.intro (fun hb => ?_) (fun hb => ?_)
   ·replace h := cond_t h hb
    refine And.intro (by decide) ?_
    refine And.intro (by decide) ?_
    obtain ⟨hg, h⟩ := gd h
    refine And.intro hg ?_
    refine ⟨(List.replicate (Int.toNat (IntKind.wrap .i64 (x18 - 0))) (0 : Int)), rfl, 0, (List.length (List.replicate (Int.toNat (IntKind.wrap .i64 (x18 - 0))) (0 : Int))), ⟨rfl, List.length_replicate ..⟩, ?_⟩
    refine Or.inl ?_
    let x21 : List Int := (List.replicate (Int.toNat (IntKind.wrap .i64 (x18 - 0))) (0 : Int))
    replace h := nm_at x21 rfl h
    obtain ⟨hg, h⟩ := gd h
    refine And.intro hg ?_
    refine And.intro (by decide) ?_
    refine ⟨0, 0, ⟨by simp, rfl⟩, ?_⟩
    exact ⟨[], [], ⟨(0, x21), some_in h⟩, [], rfl, ⟨rfl, trivial⟩, ⟨rfl, trivial⟩, rfl⟩
   ·replace h := cond_f h hb
    exact ⟨[(0, .rowI .u8 [])], [], ⟨((List.length ([] : List Int)), ([] : List Int)), some_in h⟩, [], rfl, ⟨rfl, trivial⟩, ⟨rfl, trivial⟩, rfl⟩
theorem slices_Concat_byte_byte_c (b0 b1 k0 : Nat) (hn : [b0, b1, k0].Nodup) (x14 : Nat) (x15 : List Int) (res : (List Int)) (h : slices_Concat_byte_byte x14 x15 = some res) :
  Fn Tryd.prog (GE er) 12 [(.vs b0 0 1)] [(b0, (.var (.cons (.sl b1 [] ly5 0 x14) (.dv .nil)))), (b1, (.var (.dv (.ints .u8 32 x15))))] (.sl k0 [] ly5 0 (List.length res)) [(b0, (.var (.cons (.sl b1 [] ly5 0 x14) (.dv .nil)))), (b1, (.var (.dv (.ints .u8 32 x15)))), (k0, (.rowI .u8 res))] := by
 refine bE er Tryd.func12 rfl rfl [(0, b0), (1, b1), (3, k0)] [(.vs 0 0 1)] [(.var (.cons (.sl 1 [] ly5 0 x14) (.dv .nil))), (.var (.dv (.ints .u8 32 x15)))] [3] (.sl 3 [] ly5 0 (List.length res)) [(.var (.cons (.sl 1 [] ly5 0 x14) (.dv .nil))), (.var (.dv (.ints .u8 32 x15))), (.rowI .u8 res)] rfl rfl rfl rfl rfl rfl hn 3 ?_
 replace h := (show slices_Concat_byte_byte x14 x15 = _ from h)
 unfold slices_Concat_byte_byte at h
 obtain ⟨r1_0_15, hl1_15, hr1_15⟩ := bnd h
 refine Or.inr ⟨[10], {p : Unit // p = r1_0_15}, ⟨fun | ⟨(), _⟩ => [(3, (.int .i64 (IntKind.wrap .i64 (0 + (x14 : Int)))))], fun | ⟨(), _⟩ => [], fun _ => 0⟩, 0, ?_, ?_⟩
 ·rintro ⟨⟨⟩, hp⟩
  subst hp
  replace h := hr1_15
  obtain ⟨r17, hc17, h⟩ := bnd h
  obtain ⟨x16, x17⟩ := r17
  refine ⟨[], _, _, _, ⟨⟨_, slices_Grow_byte_byte_2_c er 2 (by decide) (IntKind.wrap .i64 (0 + (x14 : Int))) (x16, x17) hc17, ⟨.inl rfl, .inl rfl, trivial⟩⟩, trivial, rfl⟩, ?_⟩
  refine Or.inl ?_
  obtain ⟨r2_0_17, hl2_17, hr2_17⟩ := bnd h
  refine Or.inr ⟨[24, 26], {p : Unit // p = r2_0_17}, ⟨fun | ⟨(), _⟩ => [(6, (.sl 3 [] ly5 0 (List.length ((List.take x16 x17) ++ (List.take x14 x15)))))], fun | ⟨(), _⟩ => [(2, .dead), (3, (.rowI .u8 ((List.take x16 x17) ++ (List.take x14 x15))))], fun _ => 0⟩, 1, ?_, ?_⟩
  ·rintro ⟨⟨⟩, hp⟩
   subst hp
   replace h := hr2_17
   obtain rfl := some_in h
   exact ⟨0, [], [], rfl, rfl, rfl, rfl, trivial⟩
  ·replace h := hl2_17
   refine Or.inr ⟨30, ?_⟩
   refine And.intro (fun _ => ?_) (fun h0 => Bool.noConfusion h0)
   refine Or.inl ?_
   refine And.intro (by decide) ?_
   obtain ⟨hg, h⟩ := gd h
   refine And.intro (le_of_ln2 (ln_0 _ _) hg) ?_
   obtain ⟨hg2, h⟩ := gd h
   refine ⟨((List.take x16 x17) ++ (List.take x14 x15)), app_cut (cut_0 _ _) (cut_0 _ _), 0, (List.length ((List.take x16 x17) ++ (List.take x14 x15))), ⟨rfl, cut_ln hg2 (ln_0 _ _)⟩, ?_⟩
   refine Or.inl ?_
   refine And.intro (fun h0 => Bool.noConfusion h0) (fun _ => ?_)
   exact ⟨[], [], ⟨(), some_in h⟩, [], rfl, ⟨rfl, trivial⟩, ⟨rfl, rfl, trivial, rfl, trivial⟩, rfl⟩
 ·replace h := hl1_15
  refine Or.inr ⟨30, ?_⟩
  refine And.intro (fun _ => ?_) (fun h0 => Bool.noConfusion h0)
  refine Or.inl ?_
  refine And.intro (by decide) ?_
  refine Or.inl ?_
  refine And.intro (fun hb => ?_) (fun hb => ?_)
  ·replace h := cond_t h hb
   exact no_none h
  ·replace h := cond_f h hb
   refine And.intro (fun h0 => Bool.noConfusion h0) (fun _ => ?_)
   exact ⟨[], [], ⟨(), some_in h⟩, [], rfl, ⟨rfl, trivial⟩, ⟨rfl, rfl, trivial⟩, rfl⟩
theorem shawide_blocks_c (x19 : Int) (res : Int) (h : shawide_blocks x19 = some res) :
  Fn Tryd.prog (GE er) 62 [(.int .i64 x19)] [] (.int .i64 res) [] := by
 refine bE er Tryd.func62 rfl rfl [] [(.int .i64 x19)] [] [] (.int .i64 res) [] rfl rfl rfl rfl rfl rfl .nil 3 ?_
 replace h := (show shawide_blocks x19 = _ from h)
 unfold shawide_blocks at h
 refine And.intro (by decide) ?_
 let x20 : Int := (IntKind.wrap .i64 (Int.tdiv (IntKind.wrap .i64 ((IntKind.wrap .i64 (x19 + 16)) + 128)) 128))
 replace h := nm_at x20 rfl h
 obtain rfl := some_in h
 exact ⟨0, [], [], rfl, trivial⟩
theorem slices_Chunk_byte_byte_2_c (b0 k0 k1 : Nat) (hn : [b0, k0, k1].Nodup) (x28 : Nat) (x29 : Int) (x30 : List Int) (res : Unit) (h : slices_Chunk_byte_byte_2 x28 x29 x30 = some res) :
  Fn Tryd.prog (GE er) 63 [(.sl b0 [] ly5 0 x28), (.int .i64 x29)] [(b0, (.rowI .u8 x30))] (.fn 69 [(.ptr k0 [] ly24), (.ptr k1 [] ly3)]) [(b0, (.rowI .u8 x30)), (k0, (.var (.sl b0 [] ly5 0 x28))), (k1, (.var (.int .i64 x29)))] := by
 refine bE er Tryd.func63 rfl rfl [(0, b0), (1, k0), (2, k1)] [(.sl 0 [] ly5 0 x28), (.int .i64 x29)] [(.rowI .u8 x30)] [1, 2] (.fn 69 [(.ptr 1 [] ly24), (.ptr 2 [] ly3)]) [(.rowI .u8 x30), (.var (.sl 0 [] ly5 0 x28)), (.var (.int .i64 x29))] rfl rfl rfl rfl rfl rfl hn 3 ?_
 replace h := (show slices_Chunk_byte_byte_2 x28 x29 x30 = _ from h)
 unfold slices_Chunk_byte_byte_2 at h
 refine Or.inl ?_
 refine And.intro (fun hb => ?_) (fun hb => ?_)
 ·replace h := cond_t h hb
  exact no_none h
 ·replace h := cond_f h hb
  obtain rfl := some_in h
  exact ⟨0, [], [], rfl, rfl, rfl, rfl, trivial⟩
theorem shawide_word_c (x35 : List Int) (res : Int) (h : shawide_word x35 = some res) :
  Fn Tryd.prog (GE er) 70 [(.dv (.roI .u8 x35))] [] (.int .u64 res) [] := by
 refine bE er Tryd.func70 rfl rfl [] [(.dv (.roI .u8 x35))] [] [] (.int .u64 res) [] rfl rfl rfl rfl rfl rfl .nil 3 ?_
 replace h := (show shawide_word x35 = _ from h)
 unfold shawide_word at h
 obtain ⟨hg, h⟩ := gd h
 refine And.intro hg ?_
 refine And.intro (by decide) ?_
 refine ⟨(List.take 8 x35), by first | rfl | simp, ?_⟩
 obtain ⟨r1_0_36, hl1_36, hr1_36⟩ := bnd h
 refine Or.inr ⟨[8], {p : Int // p = r1_0_36}, ⟨fun | ⟨x36, _⟩ => [(3, (.int .u64 x36))], fun | ⟨x36, _⟩ => [], fun _ => 0⟩, 0, ?_, ?_⟩
 ·rintro ⟨x36, hp⟩
  subst hp
  replace h := hr1_36
  obtain rfl := some_in h
  exact ⟨0, [], [], rfl, trivial⟩
 ·replace h := hl1_36
  refine Or.inl ?_
  refine ⟨[], {x : Nat × Int × Int // shawide_word_l1 x35 x.1 x.2.1 x.2.2 = some r1_0_36}, ⟨fun | ⟨(n1, x37, x38), _⟩ => [(3, (.int .u64 x37)), (9, (.int .i64 x38))], fun | ⟨(n1, x37, x38), _⟩ => [], fun | ⟨(n1, x37, x38), _⟩ => n1⟩, [], [], ⟨(FUEL, 0, 0), h⟩, ⟨rfl, ⟨rfl, rfl, trivial⟩, trivial, rfl⟩, ?_⟩
  rintro ⟨⟨n1, x37, x38⟩, h⟩
  cases n1 with
  | zero => exact no_none h
  | succ n1 =>
   replace h := (show shawide_word_l1 x35 (n1 + 1) x37 x38 = _ from h)
   replace h := (shawide_word_l1.eq_2 .. ).symm.trans h
   refine And.intro (fun hb => ?_) (fun hb => ?_)
   ·replace h := cond_t h hb
    refine Or.inl ?_
    obtain ⟨hg, h⟩ := gd h
    refine And.intro hg ?_
    refine And.intro (by decide) ?_
    let x39 : Int := (IntKind.wrap .u64 (List.getD (List.take 8 x35) (Int.toNat x38) 0))
    replace h := nm_at x39 rfl h
    exact ⟨⟨(n1, (bits .u64 .or (IntKind.wrap .u64 (x37 * 2 ^ 8)) x39), (IntKind.wrap .i64 (x38 + 1))), h⟩, [], ⟨rfl, ⟨rfl, rfl, trivial⟩, trivial, rfl⟩, Nat.lt_succ_self _⟩
   ·replace h := cond_f h hb
    exact ⟨[], [], ⟨x37, some_in h⟩, [], rfl, ⟨rfl, trivial⟩, trivial, rfl⟩
theorem words_Right64_c (x39 : Int) (x40 : Int) (res : Int) (h : words_Right64 x39 x40 = some res) :
  Fn Tryd.prog (GE er) 65 [(.int .u64 x39), (.int .i64 x40)] [] (.int .u64 res) [] := by
 refine bE er Tryd.func65 rfl rfl [] [(.int .u64 x39), (.int .i64 x40)] [] [] (.int .u64 res) [] rfl rfl rfl rfl rfl rfl .nil 3 ?_
 replace h := (show words_Right64 x39 x40 = _ from h)
 unfold words_Right64 at h
 refine And.intro (by decide) ?_
 obtain ⟨hg, h⟩ := gd h
 refine And.intro hg ?_
 let x41 : Int := (Int.fdiv x39 (2 ^ (min (Int.toNat (Int.tmod (IntKind.wrap .u64 x40) 64)) (IntKind.bits .u64))))
 replace h := nm_at x41 rfl h
 let x42 : Int := (IntKind.wrap .u64 (64 - (Int.tmod (IntKind.wrap .u64 x40) 64)))
 replace h := nm_at x42 rfl h
 obtain ⟨hg, h⟩ := gd h
 refine And.intro hg ?_
 let x43 : Int := (IntKind.wrap .u64 (x39 * 2 ^ (min (Int.toNat x42) (IntKind.bits .u64))))
 replace h := nm_at x43 rfl h
 obtain rfl := some_in h
 exact ⟨0, [], [], rfl, trivial⟩
theorem shawide_schedule_c (x34 : List Int) (res : (List Int)) (h : shawide_schedule x34 = some res) :
  Fn Tryd.prog (GE er) 64 [(.dv (.roI .u8 x34))] [] (.dv (.ints .u64 80 res)) [] := by
 refine bE er Tryd.func64 rfl rfl [] [(.dv (.roI .u8 x34))] [] [] (.dv (.ints .u64 80 res)) [] rfl rfl rfl rfl rfl rfl .nil 3 ?_
 replace h := (show shawide_schedule x34 = _ from h)
 unfold shawide_schedule at h
 obtain ⟨r1_0_35, hl1_35, hr1_35⟩ := bnd h
 refine Or.inr ⟨[0], {p : (List Int) // p = r1_0_35}, ⟨fun | ⟨x35, _⟩ => [], fun | ⟨x35, _⟩ => [(1, (.var (.dv (.ints .u64 80 x35))))], fun _ => 0⟩, 0, ?_, ?_⟩
 ·rintro ⟨x35, hp⟩
  subst hp
  replace h := hr1_35
  obtain rfl := some_in h
  exact ⟨0, [], [], rfl, trivial⟩
 ·replace h := hl1_35
  refine Or.inl ?_
  refine ⟨[], {x : Nat × Int × (List Int) // shawide_schedule_l1 x34 x.1 x.2.1 x.2.2 = some r1_0_35}, ⟨fun | ⟨(n1, x36, x37), _⟩ => [(9, (.int .i64 x36))], fun | ⟨(n1, x36, x37), _⟩ => [(1, (.var (.dv (.ints .u64 80 x37))))], fun | ⟨(n1, x36, x37), _⟩ => n1⟩, [], [], ⟨(FUEL, 0, (List.replicate 80 (0 : Int))), h⟩, ⟨rfl, ⟨rfl, trivial⟩, ⟨rfl, rfl, trivial⟩, rfl⟩, ?_⟩
  rintro ⟨⟨n1, x36, x37⟩, h⟩
  cases n1 with
  | zero => exact no_none h
  | succ n1 =>
   replace h := (show shawide_schedule_l1 x34 (n1 + 1) x36 x37 = _ from h)
   replace h := (shawide_schedule_l1.eq_2 .. ).symm.trans h
   refine And.intro (fun hb => ?_) (fun hb => ?_)
   ·replace h := cond_t h hb
    obtain ⟨r2_0_38, hl2_38, hr2_38⟩ := bnd h
    refine Or.inr ⟨[], {p : (List Int) // p = r2_0_38}, ⟨fun | ⟨x38, _⟩ => [], fun | ⟨x38, _⟩ => [(1, (.var (.dv (.ints .u64 80 x38))))], fun _ => 0⟩, 0, ?_, ?_⟩
    ·rintro ⟨x38, hp⟩
     subst hp
     replace h := hr2_38
     exact ⟨⟨(n1, (IntKind.wrap .i64 (x36 + 1)), x38), h⟩, [], ⟨rfl, ⟨rfl, trivial⟩, ⟨rfl, rfl, trivial⟩, rfl⟩, Nat.lt_succ_self _⟩
    ·replace h := hl2_38
     refine And.intro (fun hb => ?_) (fun hb => ?_)
     ·replace h := cond_t h hb
      obtain ⟨hg, h⟩ := gd h
      refine And.intro hg ?_
      refine ⟨(List.take (Int.toNat ((List.length x34 : Int) - (IntKind.wrap .i64 (8 * x36)))) (List.drop (Int.toNat (IntKind.wrap .i64 (8 * x36))) x34)), by first | rfl | simp, ?_⟩
      let x39 : List Int := (List.take (Int.toNat ((List.length x34 : Int) - (IntKind.wrap .i64 (8 * x36)))) (List.drop (Int.toNat (IntKind.wrap .i64 (8 * x36))) x34))
      replace h := nm_at x39 rfl h
      obtain ⟨x40, hc40, h⟩ := bnd h
      refine ⟨[], _, _, _, ⟨⟨_, shawide_word_c er x39 x40 hc40, ⟨.inl rfl, trivial⟩⟩, trivial, rfl⟩, ?_⟩
      obtain ⟨hg, h⟩ := gd h
      refine And.intro hg ?_
      exact ⟨[], [], ⟨(List.set x37 (Int.toNat x36) x40), some_in h⟩, [], rfl, trivial, ⟨rfl, rfl, trivial⟩, rfl⟩
     ·replace h := cond_f h hb
      obtain ⟨hg, h⟩ := gd h
      refine And.intro hg ?_
      obtain ⟨hg, h⟩ := gd h
      refine And.intro hg ?_
      obtain ⟨x41, hc49, h⟩ := bnd h
      refine ⟨[], _, _, _, ⟨⟨_, words_Right64_c er (List.getD x37 (Int.toNat (IntKind.wrap .i64 (x36 - 15))) 0) 1 x41 hc49, ⟨.inl rfl, .inl rfl, trivial⟩⟩, trivial, rfl⟩, ?_⟩
      obtain ⟨x42, hc49, h⟩ := bnd h
      refine ⟨[], _, _, _, ⟨⟨_, words_Right64_c er (List.getD x37 (Int.toNat (IntKind.wrap .i64 (x36 - 15))) 0) 8 x42 hc49, ⟨.inl rfl, .inl rfl, trivial⟩⟩, trivial, rfl⟩, ?_⟩
      refine And.intro (by decide) ?_
      let x43 : Int := (Int.fdiv (List.getD x37 (Int.toNat (IntKind.wrap .i64 (x36 - 15))) 0) (2 ^ 7))
      replace h := nm_at x43 rfl h
      obtain ⟨x44, hc49, h⟩ := bnd h
      refine ⟨[], _, _, _, ⟨⟨_, words_Right64_c er (List.getD x37 (Int.toNat (IntKind.wrap .i64 (x36 - 2))) 0) 19 x44 hc49, ⟨.inl rfl, .inl rfl, trivial⟩⟩, trivial, rfl⟩, ?_⟩
      obtain ⟨x45, hc49, h⟩ := bnd h
      refine ⟨[], _, _, _, ⟨⟨_, words_Right64_c er (List.getD x37 (Int.toNat (IntKind.wrap .i64 (x36 - 2))) 0) 61 x45 hc49, ⟨.inl rfl, .inl rfl, trivial⟩⟩, trivial, rfl⟩, ?_⟩
      refine And.intro (by decide) ?_
      let x46 : Int := (Int.fdiv (List.getD x37 (Int.toNat (IntKind.wrap .i64 (x36 - 2))) 0) (2 ^ 6))
      replace h := nm_at x46 rfl h
      obtain ⟨hg, h⟩ := gd h
      refine And.intro hg ?_
      let x47 : Int := (IntKind.wrap .u64 ((List.getD x37 (Int.toNat (IntKind.wrap .i64 (x36 - 16))) 0) + (bits .u64 .xor (bits .u64 .xor x41 x42) x43)))
      replace h := nm_at x47 rfl h
      obtain ⟨hg, h⟩ := gd h
      refine And.intro hg ?_
      let x48 : Int := (IntKind.wrap .u64 (x47 + (List.getD x37 (Int.toNat (IntKind.wrap .i64 (x36 - 7))) 0)))
      replace h := nm_at x48 rfl h
      let x49 : Int := (IntKind.wrap .u64 (x48 + (bits .u64 .xor (bits .u64 .xor x44 x45) x46)))
      replace h := nm_at x49 rfl h
      obtain ⟨hg, h⟩ := gd h
      refine And.intro hg ?_
      exact ⟨[], [], ⟨(List.set x37 (Int.toNat x36) x49), some_in h⟩, [], rfl, trivial, ⟨rfl, rfl, trivial⟩, rfl⟩
   ·replace h := cond_f h hb
    exact ⟨[], [], ⟨x37, some_in h⟩, [], rfl, trivial, ⟨rfl, rfl, trivial⟩, rfl⟩
theorem shawide_state_take_2_c (b0 b1 : Nat) (hn : [b0, b1].Nodup) (x34 : Nat) (x35 : Nat) (x36 : List Int) (x37 : List Int) (res : (List Int)) (h : shawide_state_take_2 x34 x35 x36 x37 = some res) :
  Fn Tryd.prog (GE er) 50 [(.ptr b0 [] ly73), (.sl b1 [] ly5 x34 x35)] [(b0, (.var (.dv (.ints .u64 8 x36)))), (b1, (.rowI .u8 x37))] (.tup []) [(b0, (.var (.dv (.ints .u64 8 res)))), (b1, (.rowI .u8 x37))] := by
 refine bE er Tryd.func50 rfl rfl [(0, b0), (1, b1)] [(.ptr 0 [] ly73), (.sl 1 [] ly5 x34 x35)] [(.var (.dv (.ints .u64 8 x36))), (.rowI .u8 x37)] [] (.tup []) [(.var (.dv (.ints .u64 8 res))), (.rowI .u8 x37)] rfl rfl rfl rfl rfl rfl hn 3 ?_
 replace h := (show shawide_state_take_2 x34 x35 x36 x37 = _ from h)
 unfold shawide_state_take_2 at h
 obtain ⟨x38, hc61, h⟩ := bnd h
 refine ⟨[true], _, _, _, ⟨⟨_, shawide_schedule_c er (List.take x35 (List.drop x34 x37)) x38 hc61, ⟨.inl rfl, trivial⟩⟩, trivial, rfl⟩, ?_⟩
 obtain ⟨r1_0_39, hl1_39, hr1_39⟩ := bnd h
 refine Or.inr ⟨[20], {p : (List Int) // p = r1_0_39}, ⟨fun | ⟨x39, _⟩ => [], fun | ⟨x39, _⟩ => [(3, (.var (.dv (.ints .u64 8 x39))))], fun _ => 0⟩, 0, ?_, ?_⟩
 ·rintro ⟨x39, hp⟩
  subst hp
  replace h := hr1_39
  obtain ⟨r2_1_58, hl2_58, hr2_58⟩ := bnd h
  refine Or.inr ⟨[], {p : (List Int) // p = r2_1_58}, ⟨fun | ⟨x58, _⟩ => [], fun | ⟨x58, _⟩ => [(0, (.var (.dv (.ints .u64 8 x58))))], fun _ => 0⟩, 0, ?_, ?_⟩
  ·rintro ⟨x58, hp⟩
   subst hp
   replace h := hr2_58
   obtain rfl := some_in h
   exact ⟨0, [], [], rfl, rfl, rfl, trivial⟩
  ·replace h := hl2_58
   refine Or.inl ?_
   refine ⟨[], {x : Nat × Int × (List Int) // shawide_state_take_2_l2 x39 x.1 x.2.1 x.2.2 = some r2_1_58}, ⟨fun | ⟨(n2, x59, x60), _⟩ => [(96, (.int .i64 x59))], fun | ⟨(n2, x59, x60), _⟩ => [(0, (.var (.dv (.ints .u64 8 x60))))], fun | ⟨(n2, x59, x60), _⟩ => n2⟩, [], [], ⟨(FUEL, 0, x36), h⟩, ⟨rfl, ⟨rfl, trivial⟩, ⟨rfl, rfl, rfl, rfl, trivial⟩, rfl⟩, ?_⟩
   rintro ⟨⟨n2, x59, x60⟩, h⟩
   cases n2 with
   | zero => exact no_none h
   | succ n2 =>
    replace h := (show shawide_state_take_2_l2 x39 (n2 + 1) x59 x60 = _ from h)
    replace h := (shawide_state_take_2_l2.eq_2 .. ).symm.trans h
    refine And.intro (fun hb => ?_) (fun hb => ?_)
    ·replace h := cond_t h hb
     refine Or.inl ?_
     obtain ⟨hg, h⟩ := gd h
     refine And.intro hg ?_
     obtain ⟨hg, h⟩ := gd h
     refine And.intro hg ?_
     let x61 : Int := (IntKind.wrap .u64 ((List.getD x60 (Int.toNat x59) 0) + (List.getD x39 (Int.toNat x59) 0)))
     replace h := nm_at x61 rfl h
     obtain ⟨hg, h⟩ := gd h
     refine And.intro hg ?_
     exact ⟨⟨(n2, (IntKind.wrap .i64 (x59 + 1)), (List.set x60 (Int.toNat x59) x61)), h⟩, [], ⟨rfl, ⟨rfl, trivial⟩, ⟨rfl, rfl, rfl, rfl, trivial⟩, rfl⟩, Nat.lt_succ_self _⟩
    ·replace h := cond_f h hb
     exact ⟨[], [], ⟨x60, some_in h⟩, [], rfl, trivial, ⟨rfl, rfl, rfl, rfl, trivial⟩, rfl⟩
 ·replace h := hl1_39
  refine Or.inl ?_
  refine ⟨[], {x : Nat × Int × (List Int) // shawide_state_take_2_l1 x38 x.1 x.2.1 x.2.2 = some r1_0_39}, ⟨fun | ⟨(n1, x40, x41), _⟩ => [(21, (.int .i64 x40))], fun | ⟨(n1, x40, x41), _⟩ => [(3, (.var (.dv (.ints .u64 8 x41))))], fun | ⟨(n1, x40, x41), _⟩ => n1⟩, [], [], ⟨(FUEL, 0, x36), h⟩, ⟨rfl, ⟨rfl, trivial⟩, ⟨rfl, rfl, rfl, rfl, trivial⟩, rfl⟩, ?_⟩
  rintro ⟨⟨n1, x40, x41⟩, h⟩
  cases n1 with
  | zero => exact no_none h
  | succ n1 =>
   replace h := (show shawide_state_take_2_l1 x38 (n1 + 1) x40 x41 = _ from h)
   replace h := (shawide_state_take_2_l1.eq_2 .. ).symm.trans h
   refine And.intro (fun hb => ?_) (fun hb => ?_)
   ·replace h := cond_t h hb
    refine Or.inl ?_
    obtain ⟨hg, h⟩ := gd h
    refine And.intro hg ?_
    refine And.intro (by decide) ?_
    refine And.intro (by decide) ?_
    obtain ⟨x42, hc57, h⟩ := bnd h
    refine ⟨[], _, _, _, ⟨⟨_, words_Right64_c er (List.getD x41 4 0) 14 x42 hc57, ⟨.inl rfl, .inl rfl, trivial⟩⟩, trivial, rfl⟩, ?_⟩
    obtain ⟨x43, hc57, h⟩ := bnd h
    refine ⟨[], _, _, _, ⟨⟨_, words_Right64_c er (List.getD x41 4 0) 18 x43 hc57, ⟨.inl rfl, .inl rfl, trivial⟩⟩, trivial, rfl⟩, ?_⟩
    obtain ⟨x44, hc57, h⟩ := bnd h
    refine ⟨[], _, _, _, ⟨⟨_, words_Right64_c er (List.getD x41 4 0) 41 x44 hc57, ⟨.inl rfl, .inl rfl, trivial⟩⟩, trivial, rfl⟩, ?_⟩
    refine And.intro (by decide) ?_
    let x45 : Int := (IntKind.wrap .u64 ((List.getD x41 7 0) + (bits .u64 .xor (bits .u64 .xor x42 x43) x44)))
    replace h := nm_at x45 rfl h
    refine And.intro (by decide) ?_
    refine And.intro (by decide) ?_
    let x46 : Int := (bits .u64 .and (bits .u64 .xor (IntKind.max .u64) (List.getD x41 4 0)) (List.getD x41 6 0))
    replace h := nm_at x46 rfl h
    let x47 : Int := (bits .u64 .xor (bits .u64 .and (List.getD x41 4 0) (List.getD x41 5 0)) x46)
    replace h := nm_at x47 rfl h
    let x48 : Int := (IntKind.wrap .u64 ((IntKind.wrap .u64 (x45 + x47)) + (List.getD tb_shawide_constants (Int.toNat x40) 0)))
    replace h := nm_at x48 rfl h
    obtain ⟨hg, h⟩ := gd h
    refine And.intro hg ?_
    let x49 : Int := (IntKind.wrap .u64 (x48 + (List.getD x38 (Int.toNat x40) 0)))
    replace h := nm_at x49 rfl h
    obtain ⟨x50, hc57, h⟩ := bnd h
    refine ⟨[], _, _, _, ⟨⟨_, words_Right64_c er (List.getD x41 0 0) 28 x50 hc57, ⟨.inl rfl, .inl rfl, trivial⟩⟩, trivial, rfl⟩, ?_⟩
    obtain ⟨x51, hc57, h⟩ := bnd h
    refine ⟨[], _, _, _, ⟨⟨_, words_Right64_c er (List.getD x41 0 0) 34 x51 hc57, ⟨.inl rfl, .inl rfl, trivial⟩⟩, trivial, rfl⟩, ?_⟩
    obtain ⟨x52, hc57, h⟩ := bnd h
    refine ⟨[], _, _, _, ⟨⟨_, words_Right64_c er (List.getD x41 0 0) 39 x52 hc57, ⟨.inl rfl, .inl rfl, trivial⟩⟩, trivial, rfl⟩, ?_⟩
    refine And.intro (by decide) ?_
    refine And.intro (by decide) ?_
    let x53 : Int := (bits .u64 .xor (bits .u64 .and (List.getD x41 0 0) (List.getD x41 1 0)) (bits .u64 .and (List.getD x41 0 0) (List.getD x41 2 0)))
    replace h := nm_at x53 rfl h
    refine And.intro (by decide) ?_
    refine And.intro (by decide) ?_
    let x54 : Int := (bits .u64 .xor x53 (bits .u64 .and (List.getD x41 1 0) (List.getD x41 2 0)))
    replace h := nm_at x54 rfl h
    let x55 : Int := (IntKind.wrap .u64 ((bits .u64 .xor (bits .u64 .xor x50 x51) x52) + x54))
    replace h := nm_at x55 rfl h
    refine Or.inl ?_
    refine And.intro (by decide) ?_
    refine ⟨1, 7, ⟨rfl, rfl⟩, ?_⟩
    refine Or.inl ?_
    refine And.intro (by decide) ?_
    refine And.intro (by decide) ?_
    refine ⟨0, 7, ⟨rfl, rfl⟩, ?_⟩
    refine And.intro (by decide) ?_
    let x56 : Int := (IntKind.wrap .u64 ((List.getD (over x41 1 (List.take 7 (List.take 7 x41))) 4 0) + x49))
    replace h := nm_at x56 rfl h
    refine And.intro (by decide) ?_
    let x57 : List Int := (List.set (over x41 1 (List.take 7 (List.take 7 x41))) 4 x56)
    replace h := nm_at x57 rfl h
    refine And.intro (by decide) ?_
    exact ⟨⟨(n1, (IntKind.wrap .i64 (x40 + 1)), (List.set x57 0 (IntKind.wrap .u64 (x49 + x55)))), h⟩, [], ⟨rfl, ⟨rfl, trivial⟩, ⟨rfl, rfl, rfl, rfl, trivial⟩, rfl⟩, Nat.lt_succ_self _⟩
   ·replace h := cond_f h hb
    exact ⟨[], [], ⟨x41, some_in h⟩, [], rfl, trivial, ⟨rfl, rfl, rfl, rfl, trivial⟩, rfl⟩
theorem shawide_Sum_c (b0 b1 : Nat) (hn : [b0, b1].Nodup) (x8 : Nat) (x9 : List Int) (res : (List Int)) (h : shawide_Sum x8 x9 = some res) :
  Fn Tryd.prog (GE er) 21 [(.vs b0 0 1)] [(b0, (.var (.cons (.sl b1 [] ly5 0 x8) (.dv .nil)))), (b1, (.var (.dv (.ints .u8 32 x9))))] (.dv (.ints .u8 64 res)) [(b0, (.var (.cons (.sl b1 [] ly5 0 x8) (.dv .nil)))), (b1, (.var (.dv (.ints .u8 32 x9))))] := by
 refine bE er Tryd.func21 rfl rfl [(0, b0), (1, b1)] [(.vs 0 0 1)] [(.var (.cons (.sl 1 [] ly5 0 x8) (.dv .nil))), (.var (.dv (.ints .u8 32 x9)))] [] (.dv (.ints .u8 64 res)) [(.var (.cons (.sl 1 [] ly5 0 x8) (.dv .nil))), (.var (.dv (.ints .u8 32 x9)))] rfl rfl rfl rfl rfl rfl hn 3 ?_
 replace h := (show shawide_Sum x8 x9 = _ from h)
 unfold shawide_Sum at h
 obtain ⟨x10, hc35, h⟩ := bnd h
 refine ⟨[], _, _, _, ⟨⟨_, shawide_begin_c er x10 hc35, trivial⟩, trivial, rfl⟩, ?_⟩
 obtain ⟨r35, hc35, h⟩ := bnd h
 refine ⟨[], _, _, _, ⟨⟨_, shawide_padded_c er 0 1 4 (by decide) x8 x9 r35 hc35, ⟨.inl rfl, trivial⟩⟩, ⟨⟨rfl, rfl⟩, ⟨rfl, rfl⟩, trivial⟩, rfl⟩, ?_⟩
 obtain ⟨r1_0_11, hl1_11, hr1_11⟩ := bnd h
 refine Or.inr ⟨[11], {p : (List Int) // p = r1_0_11}, ⟨fun | ⟨x11, _⟩ => [], fun | ⟨x11, _⟩ => [(3, (.var (.dv (.ints .u64 8 x11))))], fun _ => 0⟩, 0, ?_, ?_⟩
 ·rintro ⟨x11, hp⟩
  subst hp
  replace h := hr1_11
  obtain ⟨r5_2_28, hl5_28, hr5_28⟩ := bnd h
  refine Or.inr ⟨[15], {p : (List Int) // p = r5_2_28}, ⟨fun | ⟨x28, _⟩ => [], fun | ⟨x28, _⟩ => [(5, (.var (.dv (.ints .u8 64 x28))))], fun _ => 0⟩, 0, ?_, ?_⟩
  ·rintro ⟨x28, hp⟩
   subst hp
   replace h := hr5_28
   obtain rfl := some_in h
   exact ⟨0, [], [], rfl, rfl, rfl, trivial⟩
  ·replace h := hl5_28
   refine Or.inl ?_
   refine ⟨[], {x : Nat × Int × (List Int) // shawide_Sum_l3 x11 x.1 x.2.1 x.2.2 = some r5_2_28}, ⟨fun | ⟨(n3, x29, x30), _⟩ => [(16, (.int .i64 x29))], fun | ⟨(n3, x29, x30), _⟩ => [(5, (.var (.dv (.ints .u8 64 x30))))], fun | ⟨(n3, x29, x30), _⟩ => n3⟩, [], [], ⟨(FUEL, 0, (List.replicate 64 (0 : Int))), h⟩, ⟨rfl, ⟨rfl, trivial⟩, ⟨rfl, rfl, rfl, rfl, rfl, rfl, trivial⟩, rfl⟩, ?_⟩
   rintro ⟨⟨n3, x29, x30⟩, h⟩
   cases n3 with
   | zero => exact no_none h
   | succ n3 =>
    replace h := (show shawide_Sum_l3 x11 (n3 + 1) x29 x30 = _ from h)
    replace h := (shawide_Sum_l3.eq_2 .. ).symm.trans h
    refine And.intro (fun hb => ?_) (fun hb => ?_)
    ·replace h := cond_t h hb
     refine Or.inl ?_
     obtain ⟨hg, h⟩ := gd h
     refine And.intro hg ?_
     obtain ⟨r6_2_31, hl6_31, hr6_31⟩ := bnd h
     refine Or.inr ⟨[6, 7], {p : (List Int) // p = r6_2_31}, ⟨fun | ⟨x31, _⟩ => [], fun | ⟨x31, _⟩ => [(5, (.var (.dv (.ints .u8 64 x31))))], fun _ => 0⟩, 0, ?_, ?_⟩
     ·rintro ⟨x31, hp⟩
      subst hp
      replace h := hr6_31
      exact ⟨⟨(n3, (IntKind.wrap .i64 (x29 + 1)), x31), h⟩, [], ⟨rfl, ⟨rfl, trivial⟩, ⟨rfl, rfl, rfl, rfl, rfl, rfl, trivial⟩, rfl⟩, Nat.lt_succ_self _⟩
     ·replace h := hl6_31
      refine Or.inl ?_
      refine ⟨[], {x : Nat × Int × (List Int) // shawide_Sum_l4 x11 x29 x.1 x.2.1 x.2.2 = some r6_2_31}, ⟨fun | ⟨(n4, x32, x33), _⟩ => [(20, (.int .i64 x32))], fun | ⟨(n4, x32, x33), _⟩ => [(5, (.var (.dv (.ints .u8 64 x33))))], fun | ⟨(n4, x32, x33), _⟩ => n4⟩, [], [], ⟨(FUEL, 0, x30), h⟩, ⟨rfl, ⟨rfl, trivial⟩, ⟨rfl, rfl, rfl, rfl, rfl, rfl, trivial⟩, rfl⟩, ?_⟩
      rintro ⟨⟨n4, x32, x33⟩, h⟩
      cases n4 with
      | zero => exact no_none h
      | succ n4 =>
       replace h := (show shawide_Sum_l4 x11 x29 (n4 + 1) x32 x33 = _ from h)
       replace h := (shawide_Sum_l4.eq_2 .. ).symm.trans h
       refine And.intro (fun hb => ?_) (fun hb => ?_)
       ·replace h := cond_t h hb
        refine Or.inl ?_
        obtain ⟨hg, h⟩ := gd h
        refine And.intro hg ?_
        let x34 : Int := (Int.fdiv (List.getD x11 (Int.toNat x29) 0) (2 ^ (min (Int.toNat (IntKind.wrap .i64 (56 - (IntKind.wrap .i64 (8 * x32))))) (IntKind.bits .u64))))
        replace h := nm_at x34 rfl h
        obtain ⟨hg, h⟩ := gd h
        refine And.intro hg ?_
        let x35 : Nat := (Int.toNat (IntKind.wrap .i64 ((IntKind.wrap .i64 (8 * x29)) + x32)))
        replace h := nm_at x35 rfl h
        exact ⟨⟨(n4, (IntKind.wrap .i64 (x32 + 1)), (List.set x33 x35 (IntKind.wrap .u8 x34))), h⟩, [], ⟨rfl, ⟨rfl, trivial⟩, ⟨rfl, rfl, rfl, rfl, rfl, rfl, trivial⟩, rfl⟩, Nat.lt_succ_self _⟩
       ·replace h := cond_f h hb
        exact ⟨[], [], ⟨x33, some_in h⟩, [], rfl, trivial, ⟨rfl, rfl, rfl, rfl, rfl, rfl, trivial⟩, rfl⟩
    ·replace h := cond_f h hb
     exact ⟨[], [], ⟨x30, some_in h⟩, [], rfl, trivial, ⟨rfl, rfl, rfl, rfl, rfl, rfl, trivial⟩, rfl⟩
 ·replace h := hl1_11
  intro L5
  refine ⟨Tryd.f61, _, ⟨Tryd.func61, rfl, rfl, rfl⟩, ?_⟩
  obtain ⟨x12, hc27, h⟩ := bnd h
  refine ⟨[], _, _, _, ⟨⟨_, slices_Concat_byte_byte_c er 0 1 8 (by decide) x8 x9 x12 hc27, ⟨.inl rfl, trivial⟩⟩, ⟨⟨rfl, rfl⟩, ⟨rfl, rfl⟩, trivial⟩, rfl⟩, ?_⟩
  refine Or.inl ?_
  refine Or.inl ?_
  obtain ⟨hg, h⟩ := gd h
  refine And.intro (le_of_ln2 (ln_full [128]) hg) ?_
  refine ⟨(x12 ++ [128]), app_cut (cut_full _) (cut_full [128]), 0, (List.length (x12 ++ [128])), ⟨rfl, app_ln (ln_full [128])⟩, ?_⟩
  refine Or.inl ?_
  obtain ⟨x13, hc27, h⟩ := bnd h
  refine ⟨[], _, _, _, ⟨⟨_, shawide_blocks_c er ((List.length x12) : Int) x13 hc27, ⟨.inl rfl, trivial⟩⟩, trivial, rfl⟩, ?_⟩
  let x14 : Int := (IntKind.wrap .i64 ((IntKind.wrap .i64 (x13 * 128)) - ((List.length x12) : Int)))
  replace h := nm_at x14 rfl h
  obtain ⟨hg, h⟩ := gd h
  refine And.intro hg ?_
  refine ⟨((x12 ++ [128]) ++ (List.replicate (Int.toNat (IntKind.wrap .i64 (x14 - 1))) (0 : Int))), app_cut (cut_full _) rfl, 0, (List.length ((x12 ++ [128]) ++ (List.replicate (Int.toNat (IntKind.wrap .i64 (x14 - 1))) (0 : Int)))), ⟨rfl, by first | (simp; done) | exact (List.length_append ..).trans (congrArg (_ + ·) (List.length_replicate ..))⟩, ?_⟩
  refine Or.inl ?_
  let x15 : List Int := ((x12 ++ [128]) ++ (List.replicate (Int.toNat (IntKind.wrap .i64 (x14 - 1))) (0 : Int)))
  replace h := nm_at x15 rfl h
  let x16 : Int := (IntKind.wrap .u64 (8 * (IntKind.wrap .u64 ((List.length x12) : Int))))
  replace h := nm_at x16 rfl h
  obtain ⟨r2_0_17, hl2_17, hr2_17⟩ := bnd h
  refine Or.inr ⟨[5], {p : (List Int) // p = r2_0_17}, ⟨fun | ⟨x17, _⟩ => [], fun | ⟨x17, _⟩ => [(11, (.rowI .u8 x17))], fun _ => 0⟩, 0, ?_, ?_⟩
  ·rintro ⟨x17, hp⟩
   subst hp
   replace h := hr2_17
   obtain ⟨r27, hc27, h⟩ := bnd h
   refine ⟨[], _, _, _, ⟨⟨_, slices_Chunk_byte_byte_2_c er 11 12 13 (by decide) (List.length x15) 128 x17 r27 hc27, ⟨.inl rfl, .inl rfl, trivial⟩⟩, ⟨⟨rfl, rfl⟩, trivial⟩, rfl⟩, ?_⟩
   obtain ⟨r3_1_22, hl3_22, hr3_22⟩ := bnd h
   refine Or.inr ⟨[2, 43], {p : (List Int) // p = r3_1_22}, ⟨fun | ⟨x22, _⟩ => [], fun | ⟨x22, _⟩ => [(3, (.var (.dv (.ints .u64 8 x22))))], fun _ => 0⟩, 0, ?_, ?_⟩
   ·rintro ⟨x22, hp⟩
    subst hp
    replace h := hr3_22
    exact ⟨[], [], ⟨x22, some_in h⟩, [], rfl, trivial, ⟨rfl, rfl, rfl, rfl, rfl, trivial⟩, rfl⟩
   ·replace h := hl3_22
    intro L7
    refine ⟨Tryd.f69, _, ⟨Tryd.func69, rfl, rfl, rfl⟩, ?_⟩
    obtain ⟨r4_1_23, hl4_23, hr4_23⟩ := bnd h
    refine Or.inr ⟨[0, 1, 2], {p : (List Int) // p = r4_1_23}, ⟨fun | ⟨x23, _⟩ => [], fun | ⟨x23, _⟩ => [(3, (.var (.dv (.ints .u64 8 x23))))], fun _ => 0⟩, 0, ?_, ?_⟩
    ·rintro ⟨x23, hp⟩
     subst hp
     replace h := hr4_23
     exact ⟨[], [], ⟨x23, some_in h⟩, [], rfl, trivial, ⟨rfl, rfl, rfl, rfl, rfl, trivial, rfl, rfl, trivial, rfl, trivial, rfl, rfl, rfl, trivial⟩, rfl⟩
    ·replace h := hl4_23
     refine Or.inl ?_
     refine ⟨[], {x : Nat × Int × (List Int) // shawide_Sum_l2 x15 x17 x.1 x.2.1 x.2.2 = some r4_1_23}, ⟨fun | ⟨(n2, x24, x25), _⟩ => [(4, (.int .i64 x24))], fun | ⟨(n2, x24, x25), _⟩ => [(3, (.var (.dv (.ints .u64 8 x25))))], fun | ⟨(n2, x24, x25), _⟩ => n2⟩, [], [], ⟨(FUEL, 0, x10), h⟩, ⟨rfl, ⟨rfl, trivial⟩, ⟨rfl, rfl, rfl, rfl, rfl, trivial, rfl, rfl, trivial, rfl, trivial, rfl, rfl, rfl, trivial, rfl, trivial⟩, rfl⟩, ?_⟩
     rintro ⟨⟨n2, x24, x25⟩, h⟩
     cases n2 with
     | zero => exact no_none h
     | succ n2 =>
      replace h := (show shawide_Sum_l2 x15 x17 (n2 + 1) x24 x25 = _ from h)
      replace h := (shawide_Sum_l2.eq_2 .. ).symm.trans h
      refine And.intro (fun hb => ?_) (fun hb => ?_)
      ·replace h := cond_t h hb
       refine Or.inl ?_
       obtain ⟨hg, h⟩ := gd h
       refine And.intro hg ?_
       refine ⟨(Int.toNat x24), (Int.toNat (((List.length x15) : Int) - x24)), ⟨by simp, rfl⟩, ?_⟩
       let x26 : Int := (if ((Int.toNat (((List.length x15) : Int) - x24)) : Int) < 128 then ((Int.toNat (((List.length x15) : Int) - x24)) : Int) else 128)
       replace h := nm_at x26 rfl h
       obtain ⟨hg, h⟩ := gd h
       refine And.intro hg ?_
       obtain ⟨hg, h⟩ := gd h
       refine And.intro hg ?_
       refine ⟨(Int.toNat x24), (Int.toNat ((IntKind.wrap .i64 (x24 + x26)) - x24)), ⟨by simp, rfl⟩, ?_⟩
       refine ⟨rfl, ?_⟩
       refine Or.inl ?_
       refine ⟨rfl, ?_⟩
       refine Or.inl ?_
       obtain ⟨x27, hc27, h⟩ := bnd h
       refine ⟨[], _, _, _, ⟨⟨_, shawide_state_take_2_c er 3 11 (by decide) (Int.toNat x24) (Int.toNat ((IntKind.wrap .i64 (x24 + x26)) - x24)) x25 x17 x27 hc27, ⟨.inl rfl, .inl rfl, trivial⟩⟩, ⟨⟨rfl, rfl⟩, ⟨rfl, rfl⟩, trivial⟩, rfl⟩, ?_⟩
       exact ⟨⟨(n2, (IntKind.wrap .i64 (x24 + 128)), x27), h⟩, [], ⟨rfl, ⟨rfl, trivial⟩, ⟨rfl, rfl, rfl, rfl, rfl, trivial, rfl, rfl, trivial, rfl, trivial, rfl, rfl, rfl, trivial, rfl, trivial⟩, rfl⟩, Nat.lt_succ_self _⟩
      ·replace h := cond_f h hb
       exact ⟨[], [], ⟨x25, some_in h⟩, [], rfl, trivial, ⟨rfl, rfl, rfl, rfl, rfl, trivial, rfl, rfl, trivial, rfl, trivial, rfl, rfl, rfl, trivial, rfl, trivial⟩, rfl⟩
  ·replace h := hl2_17
   refine Or.inl ?_
   refine ⟨[], {x : Nat × Int × (List Int) // shawide_Sum_l1 x15 x16 x.1 x.2.1 x.2.2 = some r2_0_17}, ⟨fun | ⟨(n1, x18, x19), _⟩ => [(26, (.int .i64 x18))], fun | ⟨(n1, x18, x19), _⟩ => [(11, (.rowI .u8 x19))], fun | ⟨(n1, x18, x19), _⟩ => n1⟩, [], [], ⟨(FUEL, 0, x15), h⟩, ⟨rfl, ⟨rfl, trivial⟩, ⟨rfl, rfl, rfl, rfl, rfl, trivial, rfl, rfl, trivial, rfl, trivial, rfl, trivial⟩, rfl⟩, ?_⟩
   rintro ⟨⟨n1, x18, x19⟩, h⟩
   cases n1 with
   | zero => exact no_none h
   | succ n1 =>
    replace h := (show shawide_Sum_l1 x15 x16 (n1 + 1) x18 x19 = _ from h)
    replace h := (shawide_Sum_l1.eq_2 .. ).symm.trans h
    refine And.intro (fun hb => ?_) (fun hb => ?_)
    ·replace h := cond_t h hb
     refine Or.inl ?_
     let x20 : Int := (IntKind.wrap .i64 ((IntKind.wrap .i64 (((List.length x15) : Int) - 1)) - x18))
     replace h := nm_at x20 rfl h
     obtain ⟨hg, h⟩ := gd h
     refine And.intro hg ?_
     let x21 : Int := (Int.fdiv x16 (2 ^ (min (Int.toNat (IntKind.wrap .i64 (8 * x18))) (IntKind.bits .u64))))
     replace h := nm_at x21 rfl h
     obtain ⟨hg, h⟩ := gd h
     refine And.intro hg ?_
     exact ⟨⟨(n1, (IntKind.wrap .i64 (x18 + 1)), (List.set x19 (Int.toNat x20) (IntKind.wrap .u8 x21))), h⟩, [], ⟨rfl, ⟨rfl, trivial⟩, ⟨rfl, rfl, rfl, rfl, rfl, trivial, rfl, rfl, trivial, rfl, trivial, rfl, trivial⟩, rfl⟩, Nat.lt_succ_self _⟩
    ·replace h := cond_f h hb
     exact ⟨[], [], ⟨x19, some_in h⟩, [], rfl, trivial, ⟨rfl, rfl, rfl, rfl, rfl, trivial, rfl, rfl, trivial, rfl, trivial, rfl, trivial⟩, rfl⟩
theorem ladder_Clamp_c (x10 : List Int) (res : (List Int)) (h : ladder_Clamp x10 = some res) :
  Fn Tryd.prog (GE er) 22 [(.dv (.ints .u8 32 x10))] [] (.dv (.ints .u8 32 res)) [] := by
 refine bE er Tryd.func22 rfl rfl [] [(.dv (.ints .u8 32 x10))] [] [] (.dv (.ints .u8 32 res)) [] rfl rfl rfl rfl rfl rfl .nil 3 ?_
 replace h := (show ladder_Clamp x10 = _ from h)
 unfold ladder_Clamp at h
 refine And.intro (by decide) ?_
 refine And.intro (by decide) ?_
 refine And.intro (by decide) ?_
 let x11 : Int := (List.getD (List.set x10 0 (bits .u8 .and (List.getD x10 0 0) 248)) 31 0)
 replace h := nm_at x11 rfl h
 refine And.intro (by decide) ?_
 let x12 : List Int := (List.set (List.set x10 0 (bits .u8 .and (List.getD x10 0 0) 248)) 31 (bits .u8 .and x11 127))
 replace h := nm_at x12 rfl h
 refine And.intro (by decide) ?_
 refine And.intro (by decide) ?_
 obtain rfl := some_in h
 exact ⟨0, [], [], rfl, trivial⟩
theorem sign_secret_c (k0 : Nat) (hn : [k0].Nodup) (x8 : List Int) (res : (List Int) × (List Int)) (h : sign_secret x8 = some res) :
  Fn Tryd.prog (GE er) 8 [(.dv (.ints .u8 32 x8))] [] (.tup [(.dv (.ints .u8 32 res.1)), (.sl k0 [] ly5 32 32)]) [(k0, (.frzI .u8 res.2))] := by
 refine bE er Tryd.func8 rfl rfl [(3, k0)] [(.dv (.ints .u8 32 x8))] [] [3] (.tup [(.dv (.ints .u8 32 res.1)), (.sl 3 [] ly5 32 32)]) [(.frzI .u8 res.2)] rfl rfl rfl rfl rfl rfl hn 3 ?_
 replace h := (show sign_secret x8 = _ from h)
 unfold sign_secret at h
 refine Or.inl ?_
 refine And.intro (by omega) ?_
 refine ⟨0, 32, ⟨rfl, rfl⟩, ?_⟩
 refine Or.inr ?_
 obtain ⟨x9, hc10, h⟩ := bnd h
 refine ⟨[], _, _, _, ⟨⟨_, shawide_Sum_c er 2 0 (by decide) 32 x8 x9 hc10, ⟨.inl rfl, trivial⟩⟩, ⟨⟨rfl, rfl⟩, ⟨rfl, rfl⟩, trivial⟩, rfl⟩, ?_⟩
 refine Or.inr ?_
 refine And.intro (by decide) ?_
 refine And.intro (by decide) ?_
 refine ⟨x9, rfl, 0, 32, ⟨rfl, rfl⟩, ?_⟩
 obtain ⟨hg, h⟩ := gd h
 refine And.intro (by first | exact hg | simpa using hg) ?_
 refine ⟨(List.take 32 (List.take 32 x9)), by first | rfl | simp, ?_⟩
 obtain ⟨x10, hc10, h⟩ := bnd h
 refine ⟨[], _, _, _, ⟨⟨_, ladder_Clamp_c er (List.take 32 (List.take 32 x9)) x10 hc10, ⟨.inl rfl, trivial⟩⟩, trivial, rfl⟩, ?_⟩
 refine Or.inl ?_
 refine And.intro (by decide) ?_
 refine ⟨32, 32, ⟨rfl, rfl⟩, ?_⟩
 obtain rfl := some_in h
 exact ⟨0, [], [], rfl, rfl, trivial⟩
theorem field_BaseX_c (res : T_field_Elem) (h : field_BaseX = some res) :
  Fn Tryd.prog (GE er) 24 [] [] (.dv (T_field_Elem.dv res)) [] := by
 refine bE er Tryd.func24 rfl rfl [] [] [] [] (.dv (T_field_Elem.dv res)) [] rfl rfl rfl rfl rfl rfl .nil 3 ?_
 replace h := (show field_BaseX = _ from h)
 unfold field_BaseX at h
 let x13 : List Int := [52811034, 25909283, 41626773, 25318550, 6892743, 58046231, 38675231, 22018818, 47435118, 547405]
 replace h := nm_at x13 rfl h
 obtain rfl := some_in h
 exact ⟨0, [], [], rfl, trivial⟩
theorem field_BaseY_c (res : T_field_Elem) (h : field_BaseY = some res) :
  Fn Tryd.prog (GE er) 25 [] [] (.dv (T_field_Elem.dv res)) [] := by
 refine bE er Tryd.func25 rfl rfl [] [] [] [] (.dv (T_field_Elem.dv res)) [] rfl rfl rfl rfl rfl rfl .nil 3 ?_
 replace h := (show field_BaseY = _ from h)
 unfold field_BaseY at h
 let x15 : List Int := [40265304, 26843545, 40265318, 26843545, 40265318, 26843545, 40265318, 26843545, 40265318, 1677721]
 replace h := nm_at x15 rfl h
 obtain rfl := some_in h
 exact ⟨0, [], [], rfl, trivial⟩
theorem field_Elem_carry_2_c (b0 : Nat) (hn : [b0].Nodup) (x26 : T_field_Elem) (res : T_field_Elem) (h : field_Elem_carry_2 x26 = some res) :
  Fn Tryd.prog (GE er) 53 [(.ptr b0 [] ly38)] [(b0, (.var (.dv (T_field_Elem.dv x26))))] (.tup []) [(b0, (.var (.dv (T_field_Elem.dv res))))] := by
 refine bE er Tryd.func53 rfl rfl [(0, b0)] [(.ptr 0 [] ly38)] [(.var (.dv (T_field_Elem.dv x26)))] [] (.tup []) [(.var (.dv (T_field_Elem.dv res)))] rfl rfl rfl rfl rfl rfl hn 3 ?_
 replace h := (show field_Elem_carry_2 x26 = _ from h)
 unfold field_Elem_carry_2 at h
 obtain ⟨r1_0_27, hl1_27, hr1_27⟩ := bnd h
 refine Or.inr ⟨[0], {p : (List Int) // p = r1_0_27}, ⟨fun | ⟨x27, _⟩ => [], fun | ⟨x27, _⟩ => [(0, (.var (.dv (.cons (.ints .u64 10 x27) .nil))))], fun _ => 0⟩, 0, ?_, ?_⟩
 ·rintro ⟨x27, hp⟩
  subst hp
  replace h := hr1_27
  obtain rfl := some_in h
  exact ⟨0, [], [], rfl, rfl, trivial⟩
 ·replace h := hl1_27
  refine Or.inl ?_
  refine ⟨[], {x : Nat × Int × (List Int) // field_Elem_carry_2_l1 x.1 x.2.1 x.2.2 = some r1_0_27}, ⟨fun | ⟨(n1, x28, x29), _⟩ => [(4, (.int .i64 x28))], fun | ⟨(n1, x28, x29), _⟩ => [(0, (.var (.dv (.cons (.ints .u64 10 x29) .nil))))], fun | ⟨(n1, x28, x29), _⟩ => n1⟩, [], [], ⟨(FUEL, 0, x26.fn), h⟩, ⟨rfl, ⟨rfl, trivial⟩, ⟨rfl, trivial⟩, rfl⟩, ?_⟩
  rintro ⟨⟨n1, x28, x29⟩, h⟩
  cases n1 with
  | zero => exact no_none h
  | succ n1 =>
   replace h := (show field_Elem_carry_2_l1 (n1 + 1) x28 x29 = _ from h)
   replace h := (field_Elem_carry_2_l1.eq_2 .. ).symm.trans h
   refine And.intro (fun hb => ?_) (fun hb => ?_)
   ·replace h := cond_t h hb
    refine Or.inl ?_
    obtain ⟨r2_0_31, hl2_31, hr2_31⟩ := bnd h
    refine Or.inr ⟨[], {p : Int × (List Int) // p = r2_0_31}, ⟨fun | ⟨(x30, x31), _⟩ => [(2, (.int .u64 x30))], fun | ⟨(x30, x31), _⟩ => [(0, (.var (.dv (.cons (.ints .u64 10 x31) .nil))))], fun _ => 0⟩, 0, ?_, ?_⟩
    ·rintro ⟨⟨x30, x31⟩, hp⟩
     subst hp
     replace h := hr2_31
     refine And.intro (by decide) ?_
     let x39 : Int := (IntKind.wrap .u64 ((List.getD x31 0 0) + (IntKind.wrap .u64 (608 * x30))))
     replace h := nm_at x39 rfl h
     refine And.intro (by decide) ?_
     exact ⟨⟨(n1, (IntKind.wrap .i64 (x28 + 1)), (List.set x31 0 x39)), h⟩, [], ⟨rfl, ⟨rfl, trivial⟩, ⟨rfl, trivial⟩, rfl⟩, Nat.lt_succ_self _⟩
    ·replace h := hl2_31
     refine Or.inl ?_
     refine ⟨[], {x : Nat × Int × Int × (List Int) // field_Elem_carry_2_l2 x.1 x.2.1 x.2.2.1 x.2.2.2 = some r2_0_31}, ⟨fun | ⟨(n2, x32, x33, x34), _⟩ => [(2, (.int .u64 x32)), (6, (.int .i64 x33))], fun | ⟨(n2, x32, x33, x34), _⟩ => [(0, (.var (.dv (.cons (.ints .u64 10 x34) .nil))))], fun | ⟨(n2, x32, x33, x34), _⟩ => n2⟩, [], [], ⟨(FUEL, 0, 0, x29), h⟩, ⟨rfl, ⟨rfl, rfl, trivial⟩, ⟨rfl, trivial⟩, rfl⟩, ?_⟩
     rintro ⟨⟨n2, x32, x33, x34⟩, h⟩
     cases n2 with
     | zero => exact no_none h
     | succ n2 =>
      replace h := (show field_Elem_carry_2_l2 (n2 + 1) x32 x33 x34 = _ from h)
      replace h := (field_Elem_carry_2_l2.eq_2 .. ).symm.trans h
      refine And.intro (fun hb => ?_) (fun hb => ?_)
      ·replace h := cond_t h hb
       refine Or.inl ?_
       obtain ⟨hg, h⟩ := gd h
       refine And.intro hg ?_
       let x35 : Int := (IntKind.wrap .u64 ((List.getD x34 (Int.toNat x33) 0) + x32))
       replace h := nm_at x35 rfl h
       obtain ⟨hg, h⟩ := gd h
       refine And.intro hg ?_
       obtain ⟨hg, h⟩ := gd h
       refine And.intro hg ?_
       let x36 : Int := (List.getD (List.set x34 (Int.toNat x33) x35) (Int.toNat x33) 0)
       replace h := nm_at x36 rfl h
       refine And.intro (by decide) ?_
       obtain ⟨hg, h⟩ := gd h
       refine And.intro hg ?_
       let x37 : Int := (List.getD (List.set x34 (Int.toNat x33) x35) (Int.toNat x33) 0)
       replace h := nm_at x37 rfl h
       obtain ⟨hg, h⟩ := gd h
       refine And.intro hg ?_
       let x38 : List Int := (List.set (List.set x34 (Int.toNat x33) x35) (Int.toNat x33) (bits .u64 .and x37 67108863))
       replace h := nm_at x38 rfl h
       exact ⟨⟨(n2, (Int.fdiv x36 (2 ^ 26)), (IntKind.wrap .i64 (x33 + 1)), x38), h⟩, [], ⟨rfl, ⟨rfl, rfl, trivial⟩, ⟨rfl, trivial⟩, rfl⟩, Nat.lt_succ_self _⟩
      ·replace h := cond_f h hb
       exact ⟨[], [], ⟨(x32, x34), some_in h⟩, [], rfl, ⟨rfl, trivial⟩, ⟨rfl, trivial⟩, rfl⟩
   ·replace h := cond_f h hb
    exact ⟨[], [], ⟨x29, some_in h⟩, [], rfl, trivial, ⟨rfl, trivial⟩, rfl⟩
theorem field_Elem_Sub_c (x22 : T_field_Elem) (x23 : T_field_Elem) (res : T_field_Elem) (h : field_Elem_Sub x22 x23 = some res) :
  Fn Tryd.prog (GE er) 43 [(.dv (T_field_Elem.dv x22)), (.dv (T_field_Elem.dv x23))] [] (.dv (T_field_Elem.dv res)) [] := by
 refine bE er Tryd.func43 rfl rfl [] [(.dv (T_field_Elem.dv x22)), (.dv (T_field_Elem.dv x23))] [] [] (.dv (T_field_Elem.dv res)) [] rfl rfl rfl rfl rfl rfl .nil 3 ?_
 replace h := (show field_Elem_Sub x22 x23 = _ from h)
 unfold field_Elem_Sub at h
 obtain ⟨r1_0_24, hl1_24, hr1_24⟩ := bnd h
 refine Or.inr ⟨[3], {p : (List Int) // p = r1_0_24}, ⟨fun | ⟨x24, _⟩ => [], fun | ⟨x24, _⟩ => [(0, (.var (.dv (.cons (.ints .u64 10 x24) .nil))))], fun _ => 0⟩, 0, ?_, ?_⟩
 ·rintro ⟨x24, hp⟩
  subst hp
  replace h := hr1_24
  obtain ⟨x29, hc29, h⟩ := bnd h
  refine ⟨[], _, _, _, ⟨⟨_, field_Elem_carry_2_c er 0 (by decide) ({ fn := x24 } : T_field_Elem) x29 hc29, ⟨.inl rfl, trivial⟩⟩, ⟨⟨rfl, rfl⟩, trivial⟩, rfl⟩, ?_⟩
  obtain rfl := some_in h
  exact ⟨0, [], [], rfl, trivial⟩
 ·replace h := hl1_24
  refine Or.inl ?_
  refine ⟨[], {x : Nat × Int × (List Int) // field_Elem_Sub_l1 x23 x.1 x.2.1 x.2.2 = some r1_0_24}, ⟨fun | ⟨(n1, x25, x26), _⟩ => [(6, (.int .i64 x25))], fun | ⟨(n1, x25, x26), _⟩ => [(0, (.var (.dv (.cons (.ints .u64 10 x26) .nil))))], fun | ⟨(n1, x25, x26), _⟩ => n1⟩, [], [], ⟨(FUEL, 0, x22.fn), h⟩, ⟨rfl, ⟨rfl, trivial⟩, ⟨rfl, rfl, rfl, trivial⟩, rfl⟩, ?_⟩
  rintro ⟨⟨n1, x25, x26⟩, h⟩
  cases n1 with
  | zero => exact no_none h
  | succ n1 =>
   replace h := (show field_Elem_Sub_l1 x23 (n1 + 1) x25 x26 = _ from h)
   replace h := (field_Elem_Sub_l1.eq_2 .. ).symm.trans h
   refine And.intro (fun hb => ?_) (fun hb => ?_)
   ·replace h := cond_t h hb
    refine Or.inl ?_
    obtain ⟨hg, h⟩ := gd h
    refine And.intro hg ?_
    obtain ⟨hg, h⟩ := gd h
    refine And.intro hg ?_
    obtain ⟨hg, h⟩ := gd h
    refine And.intro hg ?_
    let x27 : Int := (IntKind.wrap .u64 ((List.getD tb_field_many (Int.toNat x25) 0) - (List.getD x23.fn (Int.toNat x25) 0)))
    replace h := nm_at x27 rfl h
    let x28 : Int := (IntKind.wrap .u64 ((List.getD x26 (Int.toNat x25) 0) + x27))
    replace h := nm_at x28 rfl h
    obtain ⟨hg, h⟩ := gd h
    refine And.intro hg ?_
    exact ⟨⟨(n1, (IntKind.wrap .i64 (x25 + 1)), (List.set x26 (Int.toNat x25) x28)), h⟩, [], ⟨rfl, ⟨rfl, trivial⟩, ⟨rfl, rfl, rfl, trivial⟩, rfl⟩, Nat.lt_succ_self _⟩
   ·replace h := cond_f h hb
    exact ⟨[], [], ⟨x26, some_in h⟩, [], rfl, trivial, ⟨rfl, rfl, rfl, trivial⟩, rfl⟩
theorem field_Small_c (x19 : Int) (res : T_field_Elem) (h : field_Small x19 = some res) :
  Fn Tryd.prog (GE er) 42 [(.int .i64 x19)] [] (.dv (T_field_Elem.dv res)) [] := by
 refine bE er Tryd.func42 rfl rfl [] [(.int .i64 x19)] [] [] (.dv (T_field_Elem.dv res)) [] rfl rfl rfl rfl rfl rfl .nil 3 ?_
 replace h := (show field_Small x19 = _ from h)
 unfold field_Small at h
 obtain ⟨r1_0_20, hl1_20, hr1_20⟩ := bnd h
 refine Or.inr ⟨[], {p : Int // p = r1_0_20}, ⟨fun | ⟨x20, _⟩ => [(4, (.int .u64 x20))], fun | ⟨x20, _⟩ => [], fun _ => 0⟩, 0, ?_, ?_⟩
 ·rintro ⟨x20, hp⟩
  subst hp
  replace h := hr1_20
  obtain ⟨r2_0_21, hl2_21, hr2_21⟩ := bnd h
  refine Or.inr ⟨[], {p : (List Int) // p = r2_0_21}, ⟨fun | ⟨x21, _⟩ => [], fun | ⟨x21, _⟩ => [(1, (.var (.dv (.cons (.ints .u64 10 x21) .nil))))], fun _ => 0⟩, 0, ?_, ?_⟩
  ·rintro ⟨x21, hp⟩
   subst hp
   replace h := hr2_21
   refine And.intro (fun hb => ?_) (fun hb => ?_)
   ·replace h := cond_t h hb
    obtain ⟨x25, hc25, h⟩ := bnd h
    refine ⟨[], _, _, _, ⟨⟨_, field_Elem_Sub_c er ({ fn := (List.replicate 10 (0 : Int)) } : T_field_Elem) ({ fn := x21 } : T_field_Elem) x25 hc25, ⟨.inl rfl, .inl rfl, trivial⟩⟩, trivial, rfl⟩, ?_⟩
    obtain rfl := some_in h
    exact ⟨0, [], [], rfl, trivial⟩
   ·replace h := cond_f h hb
    obtain rfl := some_in h
    exact ⟨0, [], [], rfl, trivial⟩
  ·replace h := hl2_21
   refine Or.inl ?_
   refine ⟨[], {x : Nat × Int × (List Int) // field_Small_l1 x20 x.1 x.2.1 x.2.2 = some r2_0_21}, ⟨fun | ⟨(n1, x22, x23), _⟩ => [(12, (.int .i64 x22))], fun | ⟨(n1, x22, x23), _⟩ => [(1, (.var (.dv (.cons (.ints .u64 10 x23) .nil))))], fun | ⟨(n1, x22, x23), _⟩ => n1⟩, [], [], ⟨(FUEL, 0, (List.replicate 10 (0 : Int))), h⟩, ⟨rfl, ⟨rfl, trivial⟩, ⟨rfl, rfl, trivial⟩, rfl⟩, ?_⟩
   rintro ⟨⟨n1, x22, x23⟩, h⟩
   cases n1 with
   | zero => exact no_none h
   | succ n1 =>
    replace h := (show field_Small_l1 x20 (n1 + 1) x22 x23 = _ from h)
    replace h := (field_Small_l1.eq_2 .. ).symm.trans h
    refine And.intro (fun hb => ?_) (fun hb => ?_)
    ·replace h := cond_t h hb
     refine Or.inl ?_
     obtain ⟨hg, h⟩ := gd h
     refine And.intro hg ?_
     let x24 : Int := (Int.fdiv x20 (2 ^ (min (Int.toNat (IntKind.wrap .i64 (26 * x22))) (IntKind.bits .u64))))
     replace h := nm_at x24 rfl h
     obtain ⟨hg, h⟩ := gd h
     refine And.intro hg ?_
     exact ⟨⟨(n1, (IntKind.wrap .i64 (x22 + 1)), (List.set x23 (Int.toNat x22) (bits .u64 .and x24 67108863))), h⟩, [], ⟨rfl, ⟨rfl, trivial⟩, ⟨rfl, rfl, trivial⟩, rfl⟩, Nat.lt_succ_self _⟩
    ·replace h := cond_f h hb
     exact ⟨[], [], ⟨x23, some_in h⟩, [], rfl, trivial, ⟨rfl, rfl, trivial⟩, rfl⟩
 ·replace h := hl1_20
  refine And.intro (fun hb => ?_) (fun hb => ?_)
  ·replace h := cond_t h hb
   exact ⟨[], [], ⟨(IntKind.wrap .u64 (0 - (IntKind.wrap .u64 x19))), some_in h⟩, [], rfl, ⟨rfl, trivial⟩, ⟨rfl, rfl, trivial⟩, rfl⟩
  ·replace h := cond_f h hb
   exact ⟨[], [], ⟨(IntKind.wrap .u64 x19), some_in h⟩, [], rfl, ⟨rfl, trivial⟩, ⟨rfl, rfl, trivial⟩, rfl⟩
theorem field_Elem_Times_c (x27 : T_field_Elem) (x28 : T_field_Elem) (res : T_field_Elem) (h : field_Elem_Times x27 x28 = some res) :
  Fn Tryd.prog (GE er) 32 [(.dv (T_field_Elem.dv x27)), (.dv (T_field_Elem.dv x28))] [] (.dv (T_field_Elem.dv res)) [] := by
 refine bE er Tryd.func32 rfl rfl [] [(.dv (T_field_Elem.dv x27)), (.dv (T_field_Elem.dv x28))] [] [] (.dv (T_field_Elem.dv res)) [] rfl rfl rfl rfl rfl rfl .nil 3 ?_
 replace h := (show field_Elem_Times x27 x28 = _ from h)
 unfold field_Elem_Times at h
 obtain ⟨r1_0_29, hl1_29, hr1_29⟩ := bnd h
 refine Or.inr ⟨[3, 14], {p : (List Int) // p = r1_0_29}, ⟨fun | ⟨x29, _⟩ => [], fun | ⟨x29, _⟩ => [(3, (.var (.dv (.ints .u64 20 x29))))], fun _ => 0⟩, 0, ?_, ?_⟩
 ·rintro ⟨x29, hp⟩
  subst hp
  replace h := hr1_29
  obtain ⟨r3_2_38, hl3_38, hr3_38⟩ := bnd h
  refine Or.inr ⟨[], {p : (List Int) // p = r3_2_38}, ⟨fun | ⟨x38, _⟩ => [], fun | ⟨x38, _⟩ => [(3, (.var (.dv (.ints .u64 20 x38))))], fun _ => 0⟩, 0, ?_, ?_⟩
  ·rintro ⟨x38, hp⟩
   subst hp
   replace h := hr3_38
   obtain ⟨r4_3_44, hl4_44, hr4_44⟩ := bnd h
   refine Or.inr ⟨[], {p : (List Int) // p = r4_3_44}, ⟨fun | ⟨x44, _⟩ => [], fun | ⟨x44, _⟩ => [(4, (.var (.dv (.cons (.ints .u64 10 x44) .nil))))], fun _ => 0⟩, 0, ?_, ?_⟩
   ·rintro ⟨x44, hp⟩
    subst hp
    replace h := hr4_44
    obtain ⟨x49, hc49, h⟩ := bnd h
    refine ⟨[], _, _, _, ⟨⟨_, field_Elem_carry_2_c er 4 (by decide) ({ fn := x44 } : T_field_Elem) x49 hc49, ⟨.inl rfl, trivial⟩⟩, ⟨⟨rfl, rfl⟩, trivial⟩, rfl⟩, ?_⟩
    obtain rfl := some_in h
    exact ⟨0, [], [], rfl, trivial⟩
   ·replace h := hl4_44
    refine Or.inl ?_
    refine ⟨[], {x : Nat × Int × (List Int) // field_Elem_Times_l4 x38 x.1 x.2.1 x.2.2 = some r4_3_44}, ⟨fun | ⟨(n4, x45, x46), _⟩ => [(56, (.int .i64 x45))], fun | ⟨(n4, x45, x46), _⟩ => [(4, (.var (.dv (.cons (.ints .u64 10 x46) .nil))))], fun | ⟨(n4, x45, x46), _⟩ => n4⟩, [], [], ⟨(FUEL, 0, (List.replicate 10 (0 : Int))), h⟩, ⟨rfl, ⟨rfl, trivial⟩, ⟨rfl, rfl, rfl, rfl, rfl, trivial⟩, rfl⟩, ?_⟩
    rintro ⟨⟨n4, x45, x46⟩, h⟩
    cases n4 with
    | zero => exact no_none h
    | succ n4 =>
     replace h := (show field_Elem_Times_l4 x38 (n4 + 1) x45 x46 = _ from h)
     replace h := (field_Elem_Times_l4.eq_2 .. ).symm.trans h
     refine And.intro (fun hb => ?_) (fun hb => ?_)
     ·replace h := cond_t h hb
      refine Or.inl ?_
      obtain ⟨hg, h⟩ := gd h
      refine And.intro hg ?_
      obtain ⟨hg, h⟩ := gd h
      refine And.intro hg ?_
      let x47 : Int := (IntKind.wrap .u64 (608 * (List.getD x38 (Int.toNat (IntKind.wrap .i64 (10 + x45))) 0)))
      replace h := nm_at x47 rfl h
      let x48 : Int := (IntKind.wrap .u64 ((List.getD x38 (Int.toNat x45) 0) + x47))
      replace h := nm_at x48 rfl h
      obtain ⟨hg, h⟩ := gd h
      refine And.intro hg ?_
      exact ⟨⟨(n4, (IntKind.wrap .i64 (x45 + 1)), (List.set x46 (Int.toNat x45) x48)), h⟩, [], ⟨rfl, ⟨rfl, trivial⟩, ⟨rfl, rfl, rfl, rfl, rfl, trivial⟩, rfl⟩, Nat.lt_succ_self _⟩
     ·replace h := cond_f h hb
      exact ⟨[], [], ⟨x46, some_in h⟩, [], rfl, trivial, ⟨rfl, rfl, rfl, rfl, rfl, trivial⟩, rfl⟩
  ·replace h := hl3_38
   refine Or.inl ?_
   refine ⟨[], {x : Nat × Int × (List Int) // field_Elem_Times_l3 x.1 x.2.1 x.2.2 = some r3_2_38}, ⟨fun | ⟨(n3, x39, x40), _⟩ => [(37, (.int .i64 x39))], fun | ⟨(n3, x39, x40), _⟩ => [(3, (.var (.dv (.ints .u64 20 x40))))], fun | ⟨(n3, x39, x40), _⟩ => n3⟩, [], [], ⟨(FUEL, 0, x29), h⟩, ⟨rfl, ⟨rfl, trivial⟩, ⟨rfl, rfl, rfl, rfl, trivial⟩, rfl⟩, ?_⟩
   rintro ⟨⟨n3, x39, x40⟩, h⟩
   cases n3 with
   | zero => exact no_none h
   | succ n3 =>
    replace h := (show field_Elem_Times_l3 (n3 + 1) x39 x40 = _ from h)
    replace h := (field_Elem_Times_l3.eq_2 .. ).symm.trans h
    refine And.intro (fun hb => ?_) (fun hb => ?_)
    ·replace h := cond_t h hb
     refine Or.inl ?_
     obtain ⟨hg, h⟩ := gd h
     refine And.intro hg ?_
     obtain ⟨hg, h⟩ := gd h
     refine And.intro hg ?_
     refine And.intro (by decide) ?_
     let x41 : Int := (IntKind.wrap .u64 ((List.getD x40 (Int.toNat (IntKind.wrap .i64 (x39 + 1))) 0) + (Int.fdiv (List.getD x40 (Int.toNat x39) 0) (2 ^ 26))))
     replace h := nm_at x41 rfl h
     obtain ⟨hg, h⟩ := gd h
     refine And.intro hg ?_
     obtain ⟨hg, h⟩ := gd h
     refine And.intro hg ?_
     let x42 : Int := (List.getD (List.set x40 (Int.toNat (IntKind.wrap .i64 (x39 + 1))) x41) (Int.toNat x39) 0)
     replace h := nm_at x42 rfl h
     obtain ⟨hg, h⟩ := gd h
     refine And.intro hg ?_
     let x43 : List Int := (List.set (List.set x40 (Int.toNat (IntKind.wrap .i64 (x39 + 1))) x41) (Int.toNat x39) (bits .u64 .and x42 67108863))
     replace h := nm_at x43 rfl h
     exact ⟨⟨(n3, (IntKind.wrap .i64 (x39 + 1)), x43), h⟩, [], ⟨rfl, ⟨rfl, trivial⟩, ⟨rfl, rfl, rfl, rfl, trivial⟩, rfl⟩, Nat.lt_succ_self _⟩
    ·replace h := cond_f h hb
     exact ⟨[], [], ⟨x40, some_in h⟩, [], rfl, trivial, ⟨rfl, rfl, rfl, rfl, trivial⟩, rfl⟩
 ·replace h := hl1_29
  refine Or.inl ?_
  refine ⟨[], {x : Nat × Int × (List Int) // field_Elem_Times_l1 x27 x28 x.1 x.2.1 x.2.2 = some r1_0_29}, ⟨fun | ⟨(n1, x30, x31), _⟩ => [(15, (.int .i64 x30))], fun | ⟨(n1, x30, x31), _⟩ => [(3, (.var (.dv (.ints .u64 20 x31))))], fun | ⟨(n1, x30, x31), _⟩ => n1⟩, [], [], ⟨(FUEL, 0, (List.replicate 20 (0 : Int))), h⟩, ⟨rfl, ⟨rfl, trivial⟩, ⟨rfl, rfl, rfl, rfl, trivial⟩, rfl⟩, ?_⟩
  rintro ⟨⟨n1, x30, x31⟩, h⟩
  cases n1 with
  | zero => exact no_none h
  | succ n1 =>
   replace h := (show field_Elem_Times_l1 x27 x28 (n1 + 1) x30 x31 = _ from h)
   replace h := (field_Elem_Times_l1.eq_2 .. ).symm.trans h
   refine And.intro (fun hb => ?_) (fun hb => ?_)
   ·replace h := cond_t h hb
    refine Or.inl ?_
    obtain ⟨hg, h⟩ := gd h
    refine And.intro hg ?_
    obtain ⟨r2_0_32, hl2_32, hr2_32⟩ := bnd h
    refine Or.inr ⟨[6, 7, 20], {p : (List Int) // p = r2_0_32}, ⟨fun | ⟨x32, _⟩ => [], fun | ⟨x32, _⟩ => [(3, (.var (.dv (.ints .u64 20 x32))))], fun _ => 0⟩, 0, ?_, ?_⟩
    ·rintro ⟨x32, hp⟩
     subst hp
     replace h := hr2_32
     exact ⟨⟨(n1, (IntKind.wrap .i64 (x30 + 1)), x32), h⟩, [], ⟨rfl, ⟨rfl, trivial⟩, ⟨rfl, rfl, rfl, rfl, trivial⟩, rfl⟩, Nat.lt_succ_self _⟩
    ·replace h := hl2_32
     refine Or.inl ?_
     refine ⟨[], {x : Nat × Int × (List Int) // field_Elem_Times_l2 x27 x28 x30 x.1 x.2.1 x.2.2 = some r2_0_32}, ⟨fun | ⟨(n2, x33, x34), _⟩ => [(21, (.int .i64 x33))], fun | ⟨(n2, x33, x34), _⟩ => [(3, (.var (.dv (.ints .u64 20 x34))))], fun | ⟨(n2, x33, x34), _⟩ => n2⟩, [], [], ⟨(FUEL, 0, x31), h⟩, ⟨rfl, ⟨rfl, trivial⟩, ⟨rfl, rfl, rfl, rfl, trivial⟩, rfl⟩, ?_⟩
     rintro ⟨⟨n2, x33, x34⟩, h⟩
     cases n2 with
     | zero => exact no_none h
     | succ n2 =>
      replace h := (show field_Elem_Times_l2 x27 x28 x30 (n2 + 1) x33 x34 = _ from h)
      replace h := (field_Elem_Times_l2.eq_2 .. ).symm.trans h
      refine And.intro (fun hb => ?_) (fun hb => ?_)
      ·replace h := cond_t h hb
       refine Or.inl ?_
       obtain ⟨hg, h⟩ := gd h
       refine And.intro hg ?_
       obtain ⟨hg, h⟩ := gd h
       refine And.intro hg ?_
       let x35 : Int := (List.getD x34 (Int.toNat (IntKind.wrap .i64 (x30 + x33))) 0)
       replace h := nm_at x35 rfl h
       let x36 : Int := (IntKind.wrap .u64 ((List.getD x27.fn (Int.toNat x30) 0) * (List.getD x28.fn (Int.toNat x33) 0)))
       replace h := nm_at x36 rfl h
       obtain ⟨hg, h⟩ := gd h
       refine And.intro hg ?_
       let x37 : List Int := (List.set x34 (Int.toNat (IntKind.wrap .i64 (x30 + x33))) (IntKind.wrap .u64 (x35 + x36)))
       replace h := nm_at x37 rfl h
       exact ⟨⟨(n2, (IntKind.wrap .i64 (x33 + 1)), x37), h⟩, [], ⟨rfl, ⟨rfl, trivial⟩, ⟨rfl, rfl, rfl, rfl, trivial⟩, rfl⟩, Nat.lt_succ_self _⟩
      ·replace h := cond_f h hb
       exact ⟨[], [], ⟨x34, some_in h⟩, [], rfl, trivial, ⟨rfl, rfl, rfl, rfl, trivial⟩, rfl⟩
   ·replace h := cond_f h hb
    exact ⟨[], [], ⟨x31, some_in h⟩, [], rfl, trivial, ⟨rfl, rfl, rfl, rfl, trivial⟩, rfl⟩
theorem points_at_c (x17 : T_field_Elem) (x18 : T_field_Elem) (res : T_points_Point) (h : points_at x17 x18 = some res) :
  Fn Tryd.prog (GE er) 23 [(.dv (T_field_Elem.dv x17)), (.dv (T_field_Elem.dv x18))] [] (.dv (T_points_Point.dv res)) [] := by
 refine bE er Tryd.func23 rfl rfl [] [(.dv (T_field_Elem.dv x17)), (.dv (T_field_Elem.dv x18))] [] [] (.dv (T_points_Point.dv res)) [] rfl rfl rfl rfl rfl rfl .nil 3 ?_
 replace h := (show points_at x17 x18 = _ from h)
 unfold points_at at h
 obtain ⟨x19, hc20, h⟩ := bnd h
 refine ⟨[], _, _, _, ⟨⟨_, field_Small_c er 1 x19 hc20, ⟨.inl rfl, trivial⟩⟩, trivial, rfl⟩, ?_⟩
 obtain ⟨x20, hc20, h⟩ := bnd h
 refine ⟨[], _, _, _, ⟨⟨_, field_Elem_Times_c er x17 x18 x20 hc20, ⟨.inl rfl, .inl rfl, trivial⟩⟩, trivial, rfl⟩, ?_⟩
 obtain rfl := some_in h
 exact ⟨0, [], [], rfl, trivial⟩
theorem points_Base_c (res : T_points_Point) (h : points_Base = some res) :
  Fn Tryd.prog (GE er) 9 [] [] (.dv (T_points_Point.dv res)) [] := by
 refine bE er Tryd.func9 rfl rfl [] [] [] [] (.dv (T_points_Point.dv res)) [] rfl rfl rfl rfl rfl rfl .nil 3 ?_
 replace h := (show points_Base = _ from h)
 unfold points_Base at h
 obtain ⟨x13, hc15, h⟩ := bnd h
 refine ⟨[], _, _, _, ⟨⟨_, field_BaseX_c er x13 hc15, trivial⟩, trivial, rfl⟩, ?_⟩
 obtain ⟨x14, hc15, h⟩ := bnd h
 refine ⟨[], _, _, _, ⟨⟨_, field_BaseY_c er x14 hc15, trivial⟩, trivial, rfl⟩, ?_⟩
 obtain ⟨x15, hc15, h⟩ := bnd h
 refine ⟨[], _, _, _, ⟨⟨_, points_at_c er x13 x14 x15 hc15, ⟨.inl rfl, .inl rfl, trivial⟩⟩, trivial, rfl⟩, ?_⟩
 obtain rfl := some_in h
 exact ⟨0, [], [], rfl, trivial⟩
theorem field_Curve_c (res : T_field_Elem) (h : field_Curve = some res) :
  Fn Tryd.prog (GE er) 44 [] [] (.dv (T_field_Elem.dv res)) [] := by
 refine bE er Tryd.func44 rfl rfl [] [] [] [] (.dv (T_field_Elem.dv res)) [] rfl rfl rfl rfl rfl rfl .nil 3 ?_
 replace h := (show field_Curve = _ from h)
 unfold field_Curve at h
 let x19 : List Int := [56195235, 47411844, 25868126, 20251911, 28682, 31357478, 7604119, 66702899, 15608687, 1343707]
 replace h := nm_at x19 rfl h
 obtain rfl := some_in h
 exact ⟨0, [], [], rfl, trivial⟩
theorem field_Elem_Add_c (x21 : T_field_Elem) (x22 : T_field_Elem) (res : T_field_Elem) (h : field_Elem_Add x21 x22 = some res) :
  Fn Tryd.prog (GE er) 45 [(.dv (T_field_Elem.dv x21)), (.dv (T_field_Elem.dv x22))] [] (.dv (T_field_Elem.dv res)) [] := by
 refine bE er Tryd.func45 rfl rfl [] [(.dv (T_field_Elem.dv x21)), (.dv (T_field_Elem.dv x22))] [] [] (.dv (T_field_Elem.dv res)) [] rfl rfl rfl rfl rfl rfl .nil 3 ?_
 replace h := (show field_Elem_Add x21 x22 = _ from h)
 unfold field_Elem_Add at h
 obtain ⟨r1_0_23, hl1_23, hr1_23⟩ := bnd h
 refine Or.inr ⟨[3], {p : (List Int) // p = r1_0_23}, ⟨fun | ⟨x23, _⟩ => [], fun | ⟨x23, _⟩ => [(0, (.var (.dv (.cons (.ints .u64 10 x23) .nil))))], fun _ => 0⟩, 0, ?_, ?_⟩
 ·rintro ⟨x23, hp⟩
  subst hp
  replace h := hr1_23
  obtain ⟨x27, hc27, h⟩ := bnd h
  refine ⟨[], _, _, _, ⟨⟨_, field_Elem_carry_2_c er 0 (by decide) ({ fn := x23 } : T_field_Elem) x27 hc27, ⟨.inl rfl, trivial⟩⟩, ⟨⟨rfl, rfl⟩, trivial⟩, rfl⟩, ?_⟩
  obtain rfl := some_in h
  exact ⟨0, [], [], rfl, trivial⟩
 ·replace h := hl1_23
  refine Or.inl ?_
  refine ⟨[], {x : Nat × Int × (List Int) // field_Elem_Add_l1 x22 x.1 x.2.1 x.2.2 = some r1_0_23}, ⟨fun | ⟨(n1, x24, x25), _⟩ => [(6, (.int .i64 x24))], fun | ⟨(n1, x24, x25), _⟩ => [(0, (.var (.dv (.cons (.ints .u64 10 x25) .nil))))], fun | ⟨(n1, x24, x25), _⟩ => n1⟩, [], [], ⟨(FUEL, 0, x21.fn), h⟩, ⟨rfl, ⟨rfl, trivial⟩, ⟨rfl, rfl, rfl, trivial⟩, rfl⟩, ?_⟩
  rintro ⟨⟨n1, x24, x25⟩, h⟩
  cases n1 with
  | zero => exact no_none h
  | succ n1 =>
   replace h := (show field_Elem_Add_l1 x22 (n1 + 1) x24 x25 = _ from h)
   replace h := (field_Elem_Add_l1.eq_2 .. ).symm.trans h
   refine And.intro (fun hb => ?_) (fun hb => ?_)
   ·replace h := cond_t h hb
    refine Or.inl ?_
    obtain ⟨hg, h⟩ := gd h
    refine And.intro hg ?_
    obtain ⟨hg, h⟩ := gd h
    refine And.intro hg ?_
    let x26 : Int := (IntKind.wrap .u64 ((List.getD x25 (Int.toNat x24) 0) + (List.getD x22.fn (Int.toNat x24) 0)))
    replace h := nm_at x26 rfl h
    obtain ⟨hg, h⟩ := gd h
    refine And.intro hg ?_
    exact ⟨⟨(n1, (IntKind.wrap .i64 (x24 + 1)), (List.set x25 (Int.toNat x24) x26)), h⟩, [], ⟨rfl, ⟨rfl, trivial⟩, ⟨rfl, rfl, rfl, trivial⟩, rfl⟩, Nat.lt_succ_self _⟩
   ·replace h := cond_f h hb
    exact ⟨[], [], ⟨x25, some_in h⟩, [], rfl, trivial, ⟨rfl, rfl, rfl, trivial⟩, rfl⟩
theorem points_twice_c (res : T_field_Elem) (h : points_twice = some res) :
  Fn Tryd.prog (GE er) 26 [] [] (.dv (T_field_Elem.dv res)) [] := by
 refine bE er Tryd.func26 rfl rfl [] [] [] [] (.dv (T_field_Elem.dv res)) [] rfl rfl rfl rfl rfl rfl .nil 3 ?_
 replace h := (show points_twice = _ from h)
 unfold points_twice at h
 obtain ⟨x19, hc20, h⟩ := bnd h
 refine ⟨[], _, _, _, ⟨⟨_, field_Curve_c er x19 hc20, trivial⟩, trivial, rfl⟩, ?_⟩
 obtain ⟨x20, hc20, h⟩ := bnd h
 refine ⟨[], _, _, _, ⟨⟨_, field_Elem_Add_c er x19 x19 x20 hc20, ⟨.inl rfl, .inl rfl, trivial⟩⟩, trivial, rfl⟩, ?_⟩
 obtain rfl := some_in h
 exact ⟨0, [], [], rfl, trivial⟩
theorem points_Zero_c (res : T_points_Point) (h : points_Zero = some res) :
  Fn Tryd.prog (GE er) 27 [] [] (.dv (T_points_Point.dv res)) [] := by
 refine bE er Tryd.func27 rfl rfl [] [] [] [] (.dv (T_points_Point.dv res)) [] rfl rfl rfl rfl rfl rfl .nil 3 ?_
 replace h := (show points_Zero = _ from h)
 unfold points_Zero at h
 obtain ⟨x22, hc24, h⟩ := bnd h
 refine ⟨[], _, _, _, ⟨⟨_, field_Small_c er 0 x22 hc24, ⟨.inl rfl, trivial⟩⟩, trivial, rfl⟩, ?_⟩
 obtain ⟨x23, hc24, h⟩ := bnd h
 refine ⟨[], _, _, _, ⟨⟨_, field_Small_c er 1 x23 hc24, ⟨.inl rfl, trivial⟩⟩, trivial, rfl⟩, ?_⟩
 obtain ⟨x24, hc24, h⟩ := bnd h
 refine ⟨[], _, _, _, ⟨⟨_, points_at_c er x22 x23 x24 hc24, ⟨.inl rfl, .inl rfl, trivial⟩⟩, trivial, rfl⟩, ?_⟩
 obtain rfl := some_in h
 exact ⟨0, [], [], rfl, trivial⟩
theorem field_Elem_Square_c (x27 : T_field_Elem) (res : T_field_Elem) (h : field_Elem_Square x27 = some res) :
  Fn Tryd.prog (GE er) 41 [(.dv (T_field_Elem.dv x27))] [] (.dv (T_field_Elem.dv res)) [] := by
 refine bE er Tryd.func41 rfl rfl [] [(.dv (T_field_Elem.dv x27))] [] [] (.dv (T_field_Elem.dv res)) [] rfl rfl rfl rfl rfl rfl .nil 3 ?_
 replace h := (show field_Elem_Square x27 = _ from h)
 unfold field_Elem_Square at h
 obtain ⟨x28, hc28, h⟩ := bnd h
 refine ⟨[], _, _, _, ⟨⟨_, field_Elem_Times_c er x27 x27 x28 hc28, ⟨.inl rfl, .inl rfl, trivial⟩⟩, trivial, rfl⟩, ?_⟩
 obtain rfl := some_in h
 exact ⟨0, [], [], rfl, trivial⟩
theorem points_Point_double_c (x26 : T_points_Point) (res : T_points_Point) (h : points_Point_double x26 = some res) :
  Fn Tryd.prog (GE er) 28 [(.dv (T_points_Point.dv x26))] [] (.dv (T_points_Point.dv res)) [] := by
 refine bE er Tryd.func28 rfl rfl [] [(.dv (T_points_Point.dv x26))] [] [] (.dv (T_points_Point.dv res)) [] rfl rfl rfl rfl rfl rfl .nil 3 ?_
 replace h := (show points_Point_double x26 = _ from h)
 unfold points_Point_double at h
 obtain ⟨x27, hc40, h⟩ := bnd h
 refine ⟨[], _, _, _, ⟨⟨_, field_Elem_Square_c er x26.fx x27 hc40, ⟨.inl rfl, trivial⟩⟩, trivial, rfl⟩, ?_⟩
 obtain ⟨x28, hc40, h⟩ := bnd h
 refine ⟨[], _, _, _, ⟨⟨_, field_Elem_Square_c er x26.fy x28 hc40, ⟨.inl rfl, trivial⟩⟩, trivial, rfl⟩, ?_⟩
 obtain ⟨x29, hc40, h⟩ := bnd h
 refine ⟨[], _, _, _, ⟨⟨_, field_Elem_Square_c er x26.fz x29 hc40, ⟨.inl rfl, trivial⟩⟩, trivial, rfl⟩, ?_⟩
 obtain ⟨x30, hc40, h⟩ := bnd h
 refine ⟨[], _, _, _, ⟨⟨_, field_Elem_Add_c er x29 x29 x30 hc40, ⟨.inl rfl, .inl rfl, trivial⟩⟩, trivial, rfl⟩, ?_⟩
 obtain ⟨x31, hc40, h⟩ := bnd h
 refine ⟨[], _, _, _, ⟨⟨_, field_Elem_Add_c er x27 x28 x31 hc40, ⟨.inl rfl, .inl rfl, trivial⟩⟩, trivial, rfl⟩, ?_⟩
 obtain ⟨x32, hc40, h⟩ := bnd h
 refine ⟨[], _, _, _, ⟨⟨_, field_Elem_Add_c er x26.fx x26.fy x32 hc40, ⟨.inl rfl, .inl rfl, trivial⟩⟩, trivial, rfl⟩, ?_⟩
 obtain ⟨x33, hc40, h⟩ := bnd h
 refine ⟨[], _, _, _, ⟨⟨_, field_Elem_Square_c er x32 x33 hc40, ⟨.inl rfl, trivial⟩⟩, trivial, rfl⟩, ?_⟩
 obtain ⟨x34, hc40, h⟩ := bnd h
 refine ⟨[], _, _, _, ⟨⟨_, field_Elem_Sub_c er x31 x33 x34 hc40, ⟨.inl rfl, .inl rfl, trivial⟩⟩, trivial, rfl⟩, ?_⟩
 obtain ⟨x35, hc40, h⟩ := bnd h
 refine ⟨[], _, _, _, ⟨⟨_, field_Elem_Sub_c er x27 x28 x35 hc40, ⟨.inl rfl, .inl rfl, trivial⟩⟩, trivial, rfl⟩, ?_⟩
 obtain ⟨x36, hc40, h⟩ := bnd h
 refine ⟨[], _, _, _, ⟨⟨_, field_Elem_Add_c er x30 x35 x36 hc40, ⟨.inl rfl, .inl rfl, trivial⟩⟩, trivial, rfl⟩, ?_⟩
 obtain ⟨x37, hc40, h⟩ := bnd h
 refine ⟨[], _, _, _, ⟨⟨_, field_Elem_Times_c er x34 x36 x37 hc40, ⟨.inl rfl, .inl rfl, trivial⟩⟩, trivial, rfl⟩, ?_⟩
 obtain ⟨x38, hc40, h⟩ := bnd h
 refine ⟨[], _, _, _, ⟨⟨_, field_Elem_Times_c er x35 x31 x38 hc40, ⟨.inl rfl, .inl rfl, trivial⟩⟩, trivial, rfl⟩, ?_⟩
 obtain ⟨x39, hc40, h⟩ := bnd h
 refine ⟨[], _, _, _, ⟨⟨_, field_Elem_Times_c er x36 x35 x39 hc40, ⟨.inl rfl, .inl rfl, trivial⟩⟩, trivial, rfl⟩, ?_⟩
 obtain ⟨x40, hc40, h⟩ := bnd h
 refine ⟨[], _, _, _, ⟨⟨_, field_Elem_Times_c er x34 x31 x40 hc40, ⟨.inl rfl, .inl rfl, trivial⟩⟩, trivial, rfl⟩, ?_⟩
 obtain rfl := some_in h
 exact ⟨0, [], [], rfl, trivial⟩
theorem scalar_Bit_c (x42 : List Int) (x43 : Int) (res : Bool) (h : scalar_Bit x42 x43 = some res) :
  Fn Tryd.prog (GE er) 29 [(.dv (.ints .u8 32 x42)), (.int .i64 x43)] [] (.bl res) [] := by
 refine bE er Tryd.func29 rfl rfl [] [(.dv (.ints .u8 32 x42)), (.int .i64 x43)] [] [] (.bl res) [] rfl rfl rfl rfl rfl rfl .nil 3 ?_
 replace h := (show scalar_Bit x42 x43 = _ from h)
 unfold scalar_Bit at h
 refine And.intro (fun hb => ?_) (fun hb => ?_)
 ·replace h := cond_t h hb
  refine And.intro (fun hb => ?_) (fun hb => ?_)
  ·replace h := cond_t h hb
   refine And.intro (by decide) ?_
   obtain ⟨hg, h⟩ := gd h
   refine And.intro hg ?_
   let x44 : Int := (List.getD x42 (Int.toNat (IntKind.wrap .i64 (Int.tdiv x43 8))) 0)
   replace h := nm_at x44 rfl h
   refine And.intro (by decide) ?_
   obtain ⟨hg, h⟩ := gd h
   refine And.intro hg ?_
   let x45 : Int := (Int.fdiv x44 (2 ^ (min (Int.toNat (Int.tmod x43 8)) (IntKind.bits .u8))))
   replace h := nm_at x45 rfl h
   obtain rfl := some_in h
   exact ⟨0, [], [], rfl, trivial⟩
  ·replace h := cond_f h hb
   obtain rfl := some_in h
   exact ⟨0, [], [], rfl, trivial⟩
 ·replace h := cond_f h hb
  obtain rfl := some_in h
  exact ⟨0, [], [], rfl, trivial⟩
theorem points_Point_plus_c (x47 : T_points_Point) (x48 : T_points_Point) (x49 : T_field_Elem) (res : T_points_Point) (h : points_Point_plus x47 x48 x49 = some res) :
  Fn Tryd.prog (GE er) 30 [(.dv (T_points_Point.dv x47)), (.dv (T_points_Point.dv x48)), (.dv (T_field_Elem.dv x49))] [] (.dv (T_points_Point.dv res)) [] := by
 refine bE er Tryd.func30 rfl rfl [] [(.dv (T_points_Point.dv x47)), (.dv (T_points_Point.dv x48)), (.dv (T_field_Elem.dv x49))] [] [] (.dv (T_points_Point.dv res)) [] rfl rfl rfl rfl rfl rfl .nil 3 ?_
 replace h := (show points_Point_plus x47 x48 x49 = _ from h)
 unfold points_Point_plus at h
 obtain ⟨x50, hc67, h⟩ := bnd h
 refine ⟨[], _, _, _, ⟨⟨_, field_Elem_Sub_c er x47.fy x47.fx x50 hc67, ⟨.inl rfl, .inl rfl, trivial⟩⟩, trivial, rfl⟩, ?_⟩
 obtain ⟨x51, hc67, h⟩ := bnd h
 refine ⟨[], _, _, _, ⟨⟨_, field_Elem_Sub_c er x48.fy x48.fx x51 hc67, ⟨.inl rfl, .inl rfl, trivial⟩⟩, trivial, rfl⟩, ?_⟩
 obtain ⟨x52, hc67, h⟩ := bnd h
 refine ⟨[], _, _, _, ⟨⟨_, field_Elem_Times_c er x50 x51 x52 hc67, ⟨.inl rfl, .inl rfl, trivial⟩⟩, trivial, rfl⟩, ?_⟩
 obtain ⟨x53, hc67, h⟩ := bnd h
 refine ⟨[], _, _, _, ⟨⟨_, field_Elem_Add_c er x47.fy x47.fx x53 hc67, ⟨.inl rfl, .inl rfl, trivial⟩⟩, trivial, rfl⟩, ?_⟩
 obtain ⟨x54, hc67, h⟩ := bnd h
 refine ⟨[], _, _, _, ⟨⟨_, field_Elem_Add_c er x48.fy x48.fx x54 hc67, ⟨.inl rfl, .inl rfl, trivial⟩⟩, trivial, rfl⟩, ?_⟩
 obtain ⟨x55, hc67, h⟩ := bnd h
 refine ⟨[], _, _, _, ⟨⟨_, field_Elem_Times_c er x53 x54 x55 hc67, ⟨.inl rfl, .inl rfl, trivial⟩⟩, trivial, rfl⟩, ?_⟩
 obtain ⟨x56, hc67, h⟩ := bnd h
 refine ⟨[], _, _, _, ⟨⟨_, field_Elem_Times_c er x47.ft x48.ft x56 hc67, ⟨.inl rfl, .inl rfl, trivial⟩⟩, trivial, rfl⟩, ?_⟩
 obtain ⟨x57, hc67, h⟩ := bnd h
 refine ⟨[], _, _, _, ⟨⟨_, field_Elem_Times_c er x56 x49 x57 hc67, ⟨.inl rfl, .inl rfl, trivial⟩⟩, trivial, rfl⟩, ?_⟩
 obtain ⟨x58, hc67, h⟩ := bnd h
 refine ⟨[], _, _, _, ⟨⟨_, field_Elem_Times_c er x47.fz x48.fz x58 hc67, ⟨.inl rfl, .inl rfl, trivial⟩⟩, trivial, rfl⟩, ?_⟩
 obtain ⟨x59, hc67, h⟩ := bnd h
 refine ⟨[], _, _, _, ⟨⟨_, field_Elem_Add_c er x58 x58 x59 hc67, ⟨.inl rfl, .inl rfl, trivial⟩⟩, trivial, rfl⟩, ?_⟩
 obtain ⟨x60, hc67, h⟩ := bnd h
 refine ⟨[], _, _, _, ⟨⟨_, field_Elem_Sub_c er x55 x52 x60 hc67, ⟨.inl rfl, .inl rfl, trivial⟩⟩, trivial, rfl⟩, ?_⟩
 obtain ⟨x61, hc67, h⟩ := bnd h
 refine ⟨[], _, _, _, ⟨⟨_, field_Elem_Sub_c er x59 x57 x61 hc67, ⟨.inl rfl, .inl rfl, trivial⟩⟩, trivial, rfl⟩, ?_⟩
 obtain ⟨x62, hc67, h⟩ := bnd h
 refine ⟨[], _, _, _, ⟨⟨_, field_Elem_Add_c er x59 x57 x62 hc67, ⟨.inl rfl, .inl rfl, trivial⟩⟩, trivial, rfl⟩, ?_⟩
 obtain ⟨x63, hc67, h⟩ := bnd h
 refine ⟨[], _, _, _, ⟨⟨_, field_Elem_Add_c er x55 x52 x63 hc67, ⟨.inl rfl, .inl rfl, trivial⟩⟩, trivial, rfl⟩, ?_⟩
 obtain ⟨x64, hc67, h⟩ := bnd h
 refine ⟨[], _, _, _, ⟨⟨_, field_Elem_Times_c er x60 x61 x64 hc67, ⟨.inl rfl, .inl rfl, trivial⟩⟩, trivial, rfl⟩, ?_⟩
 obtain ⟨x65, hc67, h⟩ := bnd h
 refine ⟨[], _, _, _, ⟨⟨_, field_Elem_Times_c er x62 x63 x65 hc67, ⟨.inl rfl, .inl rfl, trivial⟩⟩, trivial, rfl⟩, ?_⟩
 obtain ⟨x66, hc67, h⟩ := bnd h
 refine ⟨[], _, _, _, ⟨⟨_, field_Elem_Times_c er x61 x62 x66 hc67, ⟨.inl rfl, .inl rfl, trivial⟩⟩, trivial, rfl⟩, ?_⟩
 obtain ⟨x67, hc67, h⟩ := bnd h
 refine ⟨[], _, _, _, ⟨⟨_, field_Elem_Times_c er x60 x63 x67 hc67, ⟨.inl rfl, .inl rfl, trivial⟩⟩, trivial, rfl⟩, ?_⟩
 obtain rfl := some_in h
 exact ⟨0, [], [], rfl, trivial⟩
theorem points_Point_Times_c (x17 : T_points_Point) (x18 : List Int) (res : T_points_Point) (h : points_Point_Times x17 x18 = some res) :
  Fn Tryd.prog (GE er) 10 [(.dv (T_points_Point.dv x17)), (.dv (.ints .u8 32 x18))] [] (.dv (T_points_Point.dv res)) [] := by
 refine bE er Tryd.func10 rfl rfl [] [(.dv (T_points_Point.dv x17)), (.dv (.ints .u8 32 x18))] [] [] (.dv (T_points_Point.dv res)) [] rfl rfl rfl rfl rfl rfl .nil 3 ?_
 replace h := (show points_Point_Times x17 x18 = _ from h)
 unfold points_Point_Times at h
 obtain ⟨x19, hc30, h⟩ := bnd h
 refine ⟨[], _, _, _, ⟨⟨_, points_twice_c er x19 hc30, trivial⟩, trivial, rfl⟩, ?_⟩
 obtain ⟨x20, hc30, h⟩ := bnd h
 refine ⟨[], _, _, _, ⟨⟨_, points_Zero_c er x20 hc30, trivial⟩, trivial, rfl⟩, ?_⟩
 refine And.intro (fun _ => ?_) (fun h0 => Bool.noConfusion h0)
 obtain ⟨x21, hc30, h⟩ := bnd h
 refine ⟨[], _, _, _, ⟨⟨_, points_Point_double_c er x20 x21 hc30, ⟨.inl rfl, trivial⟩⟩, trivial, rfl⟩, ?_⟩
 obtain ⟨x22, hc30, h⟩ := bnd h
 refine ⟨[], _, _, _, ⟨⟨_, scalar_Bit_c er x18 255 x22 hc30, ⟨.inl rfl, .inl rfl, trivial⟩⟩, trivial, rfl⟩, ?_⟩
 obtain ⟨r1_0_23, hl1_23, hr1_23⟩ := bnd h
 refine Or.inr ⟨[], {p : T_points_Point // p = r1_0_23}, ⟨fun | ⟨x23, _⟩ => [], fun | ⟨x23, _⟩ => [(4, (.var (.dv (T_points_Point.dv x23))))], fun _ => 0⟩, 0, ?_, ?_⟩
 ·rintro ⟨x23, hp⟩
  subst hp
  replace h := hr1_23
  refine Or.inr ⟨[], {x : Nat × Int × T_points_Point // points_Point_Times_l1 x17 x18 x19 x.1 x.2.1 x.2.2 = some res}, ⟨fun | ⟨(n1, x25, x26), _⟩ => [(5, (.ptr 3 [] ly38)), (6, (.ptr 4 [] ly40)), (7, (.int .i64 x25))], fun | ⟨(n1, x25, x26), _⟩ => [(4, (.var (.dv (T_points_Point.dv x26))))], fun | ⟨(n1, x25, x26), _⟩ => n1⟩, [], [], ⟨(FUEL, 254, x23), h⟩, ⟨rfl, ⟨rfl, rfl, rfl, trivial⟩, ⟨rfl, rfl, rfl, rfl, rfl, trivial⟩, rfl⟩, ?_⟩
  rintro ⟨⟨n1, x25, x26⟩, h⟩
  cases n1 with
  | zero => exact no_none h
  | succ n1 =>
   replace h := (show points_Point_Times_l1 x17 x18 x19 (n1 + 1) x25 x26 = _ from h)
   replace h := (points_Point_Times_l1.eq_2 .. ).symm.trans h
   refine And.intro (fun hb => ?_) (fun hb => ?_)
   ·replace h := cond_t h hb
    obtain ⟨x27, hc30, h⟩ := bnd h
    refine ⟨[], _, _, _, ⟨⟨_, points_Point_double_c er x26 x27 hc30, ⟨.inl rfl, trivial⟩⟩, trivial, rfl⟩, ?_⟩
    obtain ⟨x28, hc30, h⟩ := bnd h
    refine ⟨[], _, _, _, ⟨⟨_, scalar_Bit_c er x18 x25 x28 hc30, ⟨.inl rfl, .inl rfl, trivial⟩⟩, trivial, rfl⟩, ?_⟩
    obtain ⟨r2_0_29, hl2_29, hr2_29⟩ := bnd h
    refine Or.inr ⟨[], {p : T_points_Point // p = r2_0_29}, ⟨fun | ⟨x29, _⟩ => [], fun | ⟨x29, _⟩ => [(4, (.var (.dv (T_points_Point.dv x29))))], fun _ => 0⟩, 0, ?_, ?_⟩
    ·rintro ⟨x29, hp⟩
     subst hp
     replace h := hr2_29
     exact ⟨⟨(n1, (IntKind.wrap .i64 (x25 - 1)), x29), h⟩, [], ⟨rfl, ⟨rfl, rfl, rfl, trivial⟩, ⟨rfl, rfl, rfl, rfl, rfl, trivial⟩, rfl⟩, Nat.lt_succ_self _⟩
    ·replace h := hl2_29
     refine And.intro (fun hb => ?_) (fun hb => ?_)
     ·replace h := cond_t h hb
      obtain ⟨x30, hc30, h⟩ := bnd h
      refine ⟨[], _, _, _, ⟨⟨_, points_Point_plus_c er x27 x17 x19 x30 hc30, ⟨.inl rfl, .inl rfl, .inl rfl, trivial⟩⟩, trivial, rfl⟩, ?_⟩
      exact ⟨[], [], ⟨x30, some_in h⟩, [], rfl, trivial, ⟨rfl, rfl, rfl, rfl, rfl, trivial⟩, rfl⟩
     ·replace h := cond_f h hb
      exact ⟨[], [], ⟨x27, some_in h⟩, [], rfl, trivial, ⟨rfl, rfl, rfl, rfl, rfl, trivial⟩, rfl⟩
   ·replace h := cond_f h hb
    obtain rfl := some_in h
    exact ⟨0, [], [], rfl, trivial⟩
 ·replace h := hl1_23
  refine And.intro (fun hb => ?_) (fun hb => ?_)
  ·replace h := cond_t h hb
   obtain ⟨x24, hc24, h⟩ := bnd h
   refine ⟨[], _, _, _, ⟨⟨_, points_Point_plus_c er x21 x17 x19 x24 hc24, ⟨.inl rfl, .inl rfl, .inl rfl, trivial⟩⟩, trivial, rfl⟩, ?_⟩
   exact ⟨[], [], ⟨x24, some_in h⟩, [], rfl, trivial, ⟨rfl, rfl, rfl, rfl, rfl, trivial⟩, rfl⟩
  ·replace h := cond_f h hb
   exact ⟨[], [], ⟨x21, some_in h⟩, [], rfl, trivial, ⟨rfl, rfl, rfl, rfl, rfl, trivial⟩, rfl⟩
theorem field_Elem_squares_c (x36 : T_field_Elem) (x37 : Int) (res : T_field_Elem) (h : field_Elem_squares x36 x37 = some res) :
  Fn Tryd.prog (GE er) 52 [(.dv (T_field_Elem.dv x36)), (.int .i64 x37)] [] (.dv (T_field_Elem.dv res)) [] := by
 refine bE er Tryd.func52 rfl rfl [] [(.dv (T_field_Elem.dv x36)), (.int .i64 x37)] [] [] (.dv (T_field_Elem.dv res)) [] rfl rfl rfl rfl rfl rfl .nil 3 ?_
 replace h := (show field_Elem_squares x36 x37 = _ from h)
 unfold field_Elem_squares at h
 refine And.intro (fun hb => ?_) (fun hb => ?_)
 ·replace h := cond_t h hb
  obtain ⟨x38, hc41, h⟩ := bnd h
  refine ⟨[], _, _, _, ⟨⟨_, field_Elem_Square_c er x36 x38 hc41, ⟨.inl rfl, trivial⟩⟩, trivial, rfl⟩, ?_⟩
  refine Or.inr ⟨[], {x : Nat × Int × T_field_Elem // field_Elem_squares_l1 x.1 x.2.1 x.2.2 = some res}, ⟨fun | ⟨(n1, x39, x40), _⟩ => [(1, (.int .i64 x39))], fun | ⟨(n1, x39, x40), _⟩ => [(0, (.var (.dv (T_field_Elem.dv x40))))], fun | ⟨(n1, x39, x40), _⟩ => n1⟩, [], [], ⟨(FUEL, (IntKind.wrap .i64 (x37 - 1)), x38), h⟩, ⟨rfl, ⟨rfl, trivial⟩, ⟨rfl, rfl, trivial⟩, rfl⟩, ?_⟩
  rintro ⟨⟨n1, x39, x40⟩, h⟩
  cases n1 with
  | zero => exact no_none h
  | succ n1 =>
   replace h := (show field_Elem_squares_l1 (n1 + 1) x39 x40 = _ from h)
   replace h := (field_Elem_squares_l1.eq_2 .. ).symm.trans h
   refine And.intro (fun hb => ?_) (fun hb => ?_)
   ·replace h := cond_t h hb
    obtain ⟨x41, hc41, h⟩ := bnd h
    refine ⟨[], _, _, _, ⟨⟨_, field_Elem_Square_c er x40 x41 hc41, ⟨.inl rfl, trivial⟩⟩, trivial, rfl⟩, ?_⟩
    exact ⟨⟨(n1, (IntKind.wrap .i64 (x39 - 1)), x41), h⟩, [], ⟨rfl, ⟨rfl, trivial⟩, ⟨rfl, rfl, trivial⟩, rfl⟩, Nat.lt_succ_self _⟩
   ·replace h := cond_f h hb
    obtain rfl := some_in h
    exact ⟨0, [], [], rfl, trivial⟩
 ·replace h := cond_f h hb
  obtain rfl := some_in h
  exact ⟨0, [], [], rfl, trivial⟩
theorem field_Elem_power_c (x34 : T_field_Elem) (res : T_field_Elem × T_field_Elem) (h : field_Elem_power x34 = some res) :
  Fn Tryd.prog (GE er) 51 [(.dv (T_field_Elem.dv x34))] [] (.tup [(.dv (T_field_Elem.dv res.1)), (.dv (T_field_Elem.dv res.2))]) [] := by
 refine bE er Tryd.func51 rfl rfl [] [(.dv (T_field_Elem.dv x34))] [] [] (.tup [(.dv (T_field_Elem.dv res.1)), (.dv (T_field_Elem.dv res.2))]) [] rfl rfl rfl rfl rfl rfl .nil 3 ?_
 replace h := (show field_Elem_power x34 = _ from h)
 unfold field_Elem_power at h
 obtain ⟨x35, hc54, h⟩ := bnd h
 refine ⟨[], _, _, _, ⟨⟨_, field_Elem_Square_c er x34 x35 hc54, ⟨.inl rfl, trivial⟩⟩, trivial, rfl⟩, ?_⟩
 obtain ⟨x36, hc54, h⟩ := bnd h
 refine ⟨[], _, _, _, ⟨⟨_, field_Elem_squares_c er x35 2 x36 hc54, ⟨.inl rfl, .inl rfl, trivial⟩⟩, trivial, rfl⟩, ?_⟩
 obtain ⟨x37, hc54, h⟩ := bnd h
 refine ⟨[], _, _, _, ⟨⟨_, field_Elem_Times_c er x36 x34 x37 hc54, ⟨.inl rfl, .inl rfl, trivial⟩⟩, trivial, rfl⟩, ?_⟩
 obtain ⟨x38, hc54, h⟩ := bnd h
 refine ⟨[], _, _, _, ⟨⟨_, field_Elem_Times_c er x37 x35 x38 hc54, ⟨.inl rfl, .inl rfl, trivial⟩⟩, trivial, rfl⟩, ?_⟩
 obtain ⟨x39, hc54, h⟩ := bnd h
 refine ⟨[], _, _, _, ⟨⟨_, field_Elem_Square_c er x38 x39 hc54, ⟨.inl rfl, trivial⟩⟩, trivial, rfl⟩, ?_⟩
 obtain ⟨x40, hc54, h⟩ := bnd h
 refine ⟨[], _, _, _, ⟨⟨_, field_Elem_Times_c er x39 x37 x40 hc54, ⟨.inl rfl, .inl rfl, trivial⟩⟩, trivial, rfl⟩, ?_⟩
 obtain ⟨x41, hc54, h⟩ := bnd h
 refine ⟨[], _, _, _, ⟨⟨_, field_Elem_squares_c er x40 5 x41 hc54, ⟨.inl rfl, .inl rfl, trivial⟩⟩, trivial, rfl⟩, ?_⟩
 obtain ⟨x42, hc54, h⟩ := bnd h
 refine ⟨[], _, _, _, ⟨⟨_, field_Elem_Times_c er x41 x40 x42 hc54, ⟨.inl rfl, .inl rfl, trivial⟩⟩, trivial, rfl⟩, ?_⟩
 obtain ⟨x43, hc54, h⟩ := bnd h
 refine ⟨[], _, _, _, ⟨⟨_, field_Elem_squares_c er x42 10 x43 hc54, ⟨.inl rfl, .inl rfl, trivial⟩⟩, trivial, rfl⟩, ?_⟩
 obtain ⟨x44, hc54, h⟩ := bnd h
 refine ⟨[], _, _, _, ⟨⟨_, field_Elem_Times_c er x43 x42 x44 hc54, ⟨.inl rfl, .inl rfl, trivial⟩⟩, trivial, rfl⟩, ?_⟩
 obtain ⟨x45, hc54, h⟩ := bnd h
 refine ⟨[], _, _, _, ⟨⟨_, field_Elem_squares_c er x44 20 x45 hc54, ⟨.inl rfl, .inl rfl, trivial⟩⟩, trivial, rfl⟩, ?_⟩
 obtain ⟨x46, hc54, h⟩ := bnd h
 refine ⟨[], _, _, _, ⟨⟨_, field_Elem_Times_c er x45 x44 x46 hc54, ⟨.inl rfl, .inl rfl, trivial⟩⟩, trivial, rfl⟩, ?_⟩
 obtain ⟨x47, hc54, h⟩ := bnd h
 refine ⟨[], _, _, _, ⟨⟨_, field_Elem_squares_c er x46 10 x47 hc54, ⟨.inl rfl, .inl rfl, trivial⟩⟩, trivial, rfl⟩, ?_⟩
 obtain ⟨x48, hc54, h⟩ := bnd h
 refine ⟨[], _, _, _, ⟨⟨_, field_Elem_Times_c er x47 x42 x48 hc54, ⟨.inl rfl, .inl rfl, trivial⟩⟩, trivial, rfl⟩, ?_⟩
 obtain ⟨x49, hc54, h⟩ := bnd h
 refine ⟨[], _, _, _, ⟨⟨_, field_Elem_squares_c er x48 50 x49 hc54, ⟨.inl rfl, .inl rfl, trivial⟩⟩, trivial, rfl⟩, ?_⟩
 obtain ⟨x50, hc54, h⟩ := bnd h
 refine ⟨[], _, _, _, ⟨⟨_, field_Elem_Times_c er x49 x48 x50 hc54, ⟨.inl rfl, .inl rfl, trivial⟩⟩, trivial, rfl⟩, ?_⟩
 obtain ⟨x51, hc54, h⟩ := bnd h
 refine ⟨[], _, _, _, ⟨⟨_, field_Elem_squares_c er x50 100 x51 hc54, ⟨.inl rfl, .inl rfl, trivial⟩⟩, trivial, rfl⟩, ?_⟩
 obtain ⟨x52, hc54, h⟩ := bnd h
 refine ⟨[], _, _, _, ⟨⟨_, field_Elem_Times_c er x51 x50 x52 hc54, ⟨.inl rfl, .inl rfl, trivial⟩⟩, trivial, rfl⟩, ?_⟩
 obtain ⟨x53, hc54, h⟩ := bnd h
 refine ⟨[], _, _, _, ⟨⟨_, field_Elem_squares_c er x52 50 x53 hc54, ⟨.inl rfl, .inl rfl, trivial⟩⟩, trivial, rfl⟩, ?_⟩
 obtain ⟨x54, hc54, h⟩ := bnd h
 refine ⟨[], _, _, _, ⟨⟨_, field_Elem_Times_c er x53 x48 x54 hc54, ⟨.inl rfl, .inl rfl, trivial⟩⟩, trivial, rfl⟩, ?_⟩
 obtain rfl := some_in h
 exact ⟨0, [], [], rfl, trivial⟩
theorem field_Elem_Invert_c (x33 : T_field_Elem) (res : T_field_Elem) (h : field_Elem_Invert x33 = some res) :
  Fn Tryd.prog (GE er) 31 [(.dv (T_field_Elem.dv x33))] [] (.dv (T_field_Elem.dv res)) [] := by
 refine bE er Tryd.func31 rfl rfl [] [(.dv (T_field_Elem.dv x33))] [] [] (.dv (T_field_Elem.dv res)) [] rfl rfl rfl rfl rfl rfl .nil 3 ?_
 replace h := (show field_Elem_Invert x33 = _ from h)
 unfold field_Elem_Invert at h
 obtain ⟨r37, hc37, h⟩ := bnd h
 obtain ⟨x34, x35⟩ := r37
 refine ⟨[], _, _, _, ⟨⟨_, field_Elem_power_c er x33 (x34, x35) hc37, ⟨.inl rfl, trivial⟩⟩, trivial, rfl⟩, ?_⟩
 obtain ⟨x36, hc37, h⟩ := bnd h
 refine ⟨[], _, _, _, ⟨⟨_, field_Elem_squares_c er x34 5 x36 hc37, ⟨.inl rfl, .inl rfl, trivial⟩⟩, trivial, rfl⟩, ?_⟩
 obtain ⟨x37, hc37, h⟩ := bnd h
 refine ⟨[], _, _, _, ⟨⟨_, field_Elem_Times_c er x36 x35 x37 hc37, ⟨.inl rfl, .inl rfl, trivial⟩⟩, trivial, rfl⟩, ?_⟩
 obtain rfl := some_in h
 exact ⟨0, [], [], rfl, trivial⟩
theorem field_Elem_fold_2_c (b0 : Nat) (hn : [b0].Nodup) (x45 : T_field_Elem) (res : T_field_Elem) (h : field_Elem_fold_2 x45 = some res) :
  Fn Tryd.prog (GE er) 66 [(.ptr b0 [] ly38)] [(b0, (.var (.dv (T_field_Elem.dv x45))))] (.tup []) [(b0, (.var (.dv (T_field_Elem.dv res))))] := by
 refine bE er Tryd.func66 rfl rfl [(0, b0)] [(.ptr 0 [] ly38)] [(.var (.dv (T_field_Elem.dv x45)))] [] (.tup []) [(.var (.dv (T_field_Elem.dv res)))] rfl rfl rfl rfl rfl rfl hn 3 ?_
 replace h := (show field_Elem_fold_2 x45 = _ from h)
 unfold field_Elem_fold_2 at h
 refine And.intro (by decide) ?_
 refine And.intro (by decide) ?_
 refine And.intro (by decide) ?_
 refine And.intro (by decide) ?_
 let x46 : List Int := (List.set x45.fn 9 (bits .u64 .and (List.getD x45.fn 9 0) 2097151))
 replace h := nm_at x46 rfl h
 refine And.intro (by decide) ?_
 let x47 : Int := (IntKind.wrap .u64 (19 * (Int.fdiv (List.getD x45.fn 9 0) (2 ^ 21))))
 replace h := nm_at x47 rfl h
 refine And.intro (by decide) ?_
 let x48 : List Int := (List.set x46 0 (IntKind.wrap .u64 ((List.getD x46 0 0) + x47)))
 replace h := nm_at x48 rfl h
 obtain ⟨r1_0_49, hl1_49, hr1_49⟩ := bnd h
 refine Or.inr ⟨[], {p : (List Int) // p = r1_0_49}, ⟨fun | ⟨x49, _⟩ => [], fun | ⟨x49, _⟩ => [(0, (.var (.dv (.cons (.ints .u64 10 x49) .nil))))], fun _ => 0⟩, 0, ?_, ?_⟩
 ·rintro ⟨x49, hp⟩
  subst hp
  replace h := hr1_49
  obtain rfl := some_in h
  exact ⟨0, [], [], rfl, rfl, trivial⟩
 ·replace h := hl1_49
  refine Or.inl ?_
  refine ⟨[], {x : Nat × Int × (List Int) // field_Elem_fold_2_l1 x.1 x.2.1 x.2.2 = some r1_0_49}, ⟨fun | ⟨(n1, x50, x51), _⟩ => [(30, (.int .i64 x50))], fun | ⟨(n1, x50, x51), _⟩ => [(0, (.var (.dv (.cons (.ints .u64 10 x51) .nil))))], fun | ⟨(n1, x50, x51), _⟩ => n1⟩, [], [], ⟨(FUEL, 0, x48), h⟩, ⟨rfl, ⟨rfl, trivial⟩, ⟨rfl, trivial⟩, rfl⟩, ?_⟩
  rintro ⟨⟨n1, x50, x51⟩, h⟩
  cases n1 with
  | zero => exact no_none h
  | succ n1 =>
   replace h := (show field_Elem_fold_2_l1 (n1 + 1) x50 x51 = _ from h)
   replace h := (field_Elem_fold_2_l1.eq_2 .. ).symm.trans h
   refine And.intro (fun hb => ?_) (fun hb => ?_)
   ·replace h := cond_t h hb
    refine Or.inl ?_
    obtain ⟨hg, h⟩ := gd h
    refine And.intro hg ?_
    obtain ⟨hg, h⟩ := gd h
    refine And.intro hg ?_
    refine And.intro (by decide) ?_
    let x52 : Int := (IntKind.wrap .u64 ((List.getD x51 (Int.toNat (IntKind.wrap .i64 (x50 + 1))) 0) + (Int.fdiv (List.getD x51 (Int.toNat x50) 0) (2 ^ 26))))
    replace h := nm_at x52 rfl h
    obtain ⟨hg, h⟩ := gd h
    refine And.intro hg ?_
    obtain ⟨hg, h⟩ := gd h
    refine And.intro hg ?_
    let x53 : Int := (List.getD (List.set x51 (Int.toNat (IntKind.wrap .i64 (x50 + 1))) x52) (Int.toNat x50) 0)
    replace h := nm_at x53 rfl h
    obtain ⟨hg, h⟩ := gd h
    refine And.intro hg ?_
    let x54 : List Int := (List.set (List.set x51 (Int.toNat (IntKind.wrap .i64 (x50 + 1))) x52) (Int.toNat x50) (bits .u64 .and x53 67108863))
    replace h := nm_at x54 rfl h
    exact ⟨⟨(n1, (IntKind.wrap .i64 (x50 + 1)), x54), h⟩, [], ⟨rfl, ⟨rfl, trivial⟩, ⟨rfl, trivial⟩, rfl⟩, Nat.lt_succ_self _⟩
   ·replace h := cond_f h hb
    exact ⟨[], [], ⟨x51, some_in h⟩, [], rfl, trivial, ⟨rfl, trivial⟩, rfl⟩
theorem words_Pick_c (x63 : Bool) (x64 : Int) (x65 : Int) (res : Int) (h : words_Pick x63 x64 x65 = some res) :
  Fn Tryd.prog (GE er) 57 [(.bl x63), (.int .u64 x64), (.int .u64 x65)] [] (.int .u64 res) [] := by
 refine bE er Tryd.func57 rfl rfl [] [(.bl x63), (.int .u64 x64), (.int .u64 x65)] [] [] (.int .u64 res) [] rfl rfl rfl rfl rfl rfl .nil 3 ?_
 replace h := (show words_Pick x63 x64 x65 = _ from h)
 unfold words_Pick at h
 obtain ⟨r1_0_66, hl1_66, hr1_66⟩ := bnd h
 refine Or.inr ⟨[], {p : Int // p = r1_0_66}, ⟨fun | ⟨x66, _⟩ => [(7, (.int .u64 x66))], fun | ⟨x66, _⟩ => [], fun _ => 0⟩, 0, ?_, ?_⟩
 ·rintro ⟨x66, hp⟩
  subst hp
  replace h := hr1_66
  let x67 : Int := (bits .u64 .or (bits .u64 .and x64 x66) (bits .u64 .andNot x65 x66))
  replace h := nm_at x67 rfl h
  obtain rfl := some_in h
  exact ⟨0, [], [], rfl, trivial⟩
 ·replace h := hl1_66
  refine And.intro (fun hb => ?_) (fun hb => ?_)
  ·replace h := cond_t h hb
   exact ⟨[], [], ⟨18446744073709551615, some_in h⟩, [], rfl, ⟨rfl, trivial⟩, trivial, rfl⟩
  ·replace h := cond_f h hb
   exact ⟨[], [], ⟨0, some_in h⟩, [], rfl, ⟨rfl, trivial⟩, trivial, rfl⟩
theorem field_Pick_c (x60 : Bool) (x61 : T_field_Elem) (x62 : T_field_Elem) (res : T_field_Elem) (h : field_Pick x60 x61 x62 = some res) :
  Fn Tryd.prog (GE er) 67 [(.bl x60), (.dv (T_field_Elem.dv x61)), (.dv (T_field_Elem.dv x62))] [] (.dv (T_field_Elem.dv res)) [] := by
 refine bE er Tryd.func67 rfl rfl [] [(.bl x60), (.dv (T_field_Elem.dv x61)), (.dv (T_field_Elem.dv x62))] [] [] (.dv (T_field_Elem.dv res)) [] rfl rfl rfl rfl rfl rfl .nil 3 ?_
 replace h := (show field_Pick x60 x61 x62 = _ from h)
 unfold field_Pick at h
 obtain ⟨r1_0_63, hl1_63, hr1_63⟩ := bnd h
 refine Or.inr ⟨[0, 5], {p : (List Int) // p = r1_0_63}, ⟨fun | ⟨x63, _⟩ => [], fun | ⟨x63, _⟩ => [(0, (.var (.dv (.cons (.ints .u64 10 x63) .nil))))], fun _ => 0⟩, 0, ?_, ?_⟩
 ·rintro ⟨x63, hp⟩
  subst hp
  replace h := hr1_63
  obtain rfl := some_in h
  exact ⟨0, [], [], rfl, trivial⟩
 ·replace h := hl1_63
  refine Or.inl ?_
  refine ⟨[], {x : Nat × Int × (List Int) // field_Pick_l1 x60 x62 x.1 x.2.1 x.2.2 = some r1_0_63}, ⟨fun | ⟨(n1, x64, x65), _⟩ => [(8, (.int .i64 x64))], fun | ⟨(n1, x64, x65), _⟩ => [(0, (.var (.dv (.cons (.ints .u64 10 x65) .nil))))], fun | ⟨(n1, x64, x65), _⟩ => n1⟩, [], [], ⟨(FUEL, 0, x61.fn), h⟩, ⟨rfl, ⟨rfl, trivial⟩, ⟨rfl, rfl, rfl, trivial⟩, rfl⟩, ?_⟩
  rintro ⟨⟨n1, x64, x65⟩, h⟩
  cases n1 with
  | zero => exact no_none h
  | succ n1 =>
   replace h := (show field_Pick_l1 x60 x62 (n1 + 1) x64 x65 = _ from h)
   replace h := (field_Pick_l1.eq_2 .. ).symm.trans h
   refine And.intro (fun hb => ?_) (fun hb => ?_)
   ·replace h := cond_t h hb
    refine Or.inl ?_
    obtain ⟨hg, h⟩ := gd h
    refine And.intro hg ?_
    obtain ⟨hg, h⟩ := gd h
    refine And.intro hg ?_
    obtain ⟨x66, hc66, h⟩ := bnd h
    refine ⟨[], _, _, _, ⟨⟨_, words_Pick_c er x60 (List.getD x65 (Int.toNat x64) 0) (List.getD x62.fn (Int.toNat x64) 0) x66 hc66, ⟨.inl rfl, .inl rfl, .inl rfl, trivial⟩⟩, trivial, rfl⟩, ?_⟩
    obtain ⟨hg, h⟩ := gd h
    refine And.intro hg ?_
    exact ⟨⟨(n1, (IntKind.wrap .i64 (x64 + 1)), (List.set x65 (Int.toNat x64) x66)), h⟩, [], ⟨rfl, ⟨rfl, trivial⟩, ⟨rfl, rfl, rfl, trivial⟩, rfl⟩, Nat.lt_succ_self _⟩
   ·replace h := cond_f h hb
    exact ⟨[], [], ⟨x65, some_in h⟩, [], rfl, trivial, ⟨rfl, rfl, rfl, trivial⟩, rfl⟩
theorem field_Elem_least_c (x42 : T_field_Elem) (res : T_field_Elem) (h : field_Elem_least x42 = some res) :
  Fn Tryd.prog (GE er) 54 [(.dv (T_field_Elem.dv x42))] [] (.dv (T_field_Elem.dv res)) [] := by
 refine bE er Tryd.func54 rfl rfl [] [(.dv (T_field_Elem.dv x42))] [] [] (.dv (T_field_Elem.dv res)) [] rfl rfl rfl rfl rfl rfl .nil 3 ?_
 replace h := (show field_Elem_least x42 = _ from h)
 unfold field_Elem_least at h
 obtain ⟨x43, hc54, h⟩ := bnd h
 refine ⟨[], _, _, _, ⟨⟨_, field_Elem_carry_2_c er 0 (by decide) x42 x43 hc54, ⟨.inl rfl, trivial⟩⟩, ⟨⟨rfl, rfl⟩, trivial⟩, rfl⟩, ?_⟩
 obtain ⟨x44, hc54, h⟩ := bnd h
 refine ⟨[], _, _, _, ⟨⟨_, field_Elem_fold_2_c er 0 (by decide) x43 x44 hc54, ⟨.inl rfl, trivial⟩⟩, ⟨⟨rfl, rfl⟩, trivial⟩, rfl⟩, ?_⟩
 obtain ⟨x45, hc54, h⟩ := bnd h
 refine ⟨[], _, _, _, ⟨⟨_, field_Elem_fold_2_c er 0 (by decide) x44 x45 hc54, ⟨.inl rfl, trivial⟩⟩, ⟨⟨rfl, rfl⟩, trivial⟩, rfl⟩, ?_⟩
 refine And.intro (by decide) ?_
 refine And.intro (by decide) ?_
 let x46 : List Int := (List.set x45.fn 0 (IntKind.wrap .u64 ((List.getD x45.fn 0 0) + 19)))
 replace h := nm_at x46 rfl h
 obtain ⟨r1_0_47, hl1_47, hr1_47⟩ := bnd h
 refine Or.inr ⟨[6, 7, 8], {p : (List Int) // p = r1_0_47}, ⟨fun | ⟨x47, _⟩ => [], fun | ⟨x47, _⟩ => [(2, (.var (.dv (.cons (.ints .u64 10 x47) .nil))))], fun _ => 0⟩, 0, ?_, ?_⟩
 ·rintro ⟨x47, hp⟩
  subst hp
  replace h := hr1_47
  refine And.intro (by decide) ?_
  refine And.intro (by decide) ?_
  refine And.intro (by decide) ?_
  refine And.intro (by decide) ?_
  let x53 : List Int := (List.set x47 9 (bits .u64 .and (List.getD x47 9 0) 2097151))
  replace h := nm_at x53 rfl h
  obtain ⟨x54, hc54, h⟩ := bnd h
  refine ⟨[], _, _, _, ⟨⟨_, field_Pick_c er (!((Int.fdiv (List.getD x47 9 0) (2 ^ 21)) == 0)) ({ fn := x53 } : T_field_Elem) x45 x54 hc54, ⟨.inl rfl, .inl rfl, .inl rfl, trivial⟩⟩, trivial, rfl⟩, ?_⟩
  obtain rfl := some_in h
  exact ⟨0, [], [], rfl, trivial⟩
 ·replace h := hl1_47
  refine Or.inl ?_
  refine ⟨[6, 7, 8], {x : Nat × Int × (List Int) // field_Elem_least_l1 x.1 x.2.1 x.2.2 = some r1_0_47}, ⟨fun | ⟨(n1, x48, x49), _⟩ => [(16, (.int .i64 x48))], fun | ⟨(n1, x48, x49), _⟩ => [(2, (.var (.dv (.cons (.ints .u64 10 x49) .nil))))], fun | ⟨(n1, x48, x49), _⟩ => n1⟩, [], [], ⟨(FUEL, 0, x46), h⟩, ⟨rfl, ⟨rfl, trivial⟩, ⟨rfl, rfl, rfl, trivial⟩, rfl⟩, ?_⟩
  rintro ⟨⟨n1, x48, x49⟩, h⟩
  cases n1 with
  | zero => exact no_none h
  | succ n1 =>
   replace h := (show field_Elem_least_l1 (n1 + 1) x48 x49 = _ from h)
   replace h := (field_Elem_least_l1.eq_2 .. ).symm.trans h
   refine And.intro (fun hb => ?_) (fun hb => ?_)
   ·replace h := cond_t h hb
    refine Or.inl ?_
    obtain ⟨hg, h⟩ := gd h
    refine And.intro hg ?_
    obtain ⟨hg, h⟩ := gd h
    refine And.intro hg ?_
    refine And.intro (by decide) ?_
    let x50 : Int := (IntKind.wrap .u64 ((List.getD x49 (Int.toNat (IntKind.wrap .i64 (x48 + 1))) 0) + (Int.fdiv (List.getD x49 (Int.toNat x48) 0) (2 ^ 26))))
    replace h := nm_at x50 rfl h
    obtain ⟨hg, h⟩ := gd h
    refine And.intro hg ?_
    obtain ⟨hg, h⟩ := gd h
    refine And.intro hg ?_
    let x51 : Int := (List.getD (List.set x49 (Int.toNat (IntKind.wrap .i64 (x48 + 1))) x50) (Int.toNat x48) 0)
    replace h := nm_at x51 rfl h
    obtain ⟨hg, h⟩ := gd h
    refine And.intro hg ?_
    let x52 : List Int := (List.set (List.set x49 (Int.toNat (IntKind.wrap .i64 (x48 + 1))) x50) (Int.toNat x48) (bits .u64 .and x51 67108863))
    replace h := nm_at x52 rfl h
    exact ⟨⟨(n1, (IntKind.wrap .i64 (x48 + 1)), x52), h⟩, [], ⟨rfl, ⟨rfl, trivial⟩, ⟨rfl, rfl, rfl, trivial⟩, rfl⟩, Nat.lt_succ_self _⟩
   ·replace h := cond_f h hb
    exact ⟨[], [], ⟨x49, some_in h⟩, [], rfl, trivial, ⟨rfl, rfl, rfl, trivial⟩, rfl⟩
theorem field_Elem_Bytes_c (x41 : T_field_Elem) (res : (List Int)) (h : field_Elem_Bytes x41 = some res) :
  Fn Tryd.prog (GE er) 33 [(.dv (T_field_Elem.dv x41))] [] (.dv (.ints .u8 32 res)) [] := by
 refine bE er Tryd.func33 rfl rfl [] [(.dv (T_field_Elem.dv x41))] [] [] (.dv (.ints .u8 32 res)) [] rfl rfl rfl rfl rfl rfl .nil 3 ?_
 replace h := (show field_Elem_Bytes x41 = _ from h)
 unfold field_Elem_Bytes at h
 obtain ⟨x42, hc50, h⟩ := bnd h
 refine ⟨[], _, _, _, ⟨⟨_, field_Elem_least_c er x41 x42 hc50, ⟨.inl rfl, trivial⟩⟩, trivial, rfl⟩, ?_⟩
 obtain ⟨r1_0_43, hl1_43, hr1_43⟩ := bnd h
 refine Or.inr ⟨[], {p : (List Int) // p = r1_0_43}, ⟨fun | ⟨x43, _⟩ => [], fun | ⟨x43, _⟩ => [(3, (.var (.dv (.ints .u8 32 x43))))], fun _ => 0⟩, 0, ?_, ?_⟩
 ·rintro ⟨x43, hp⟩
  subst hp
  replace h := hr1_43
  obtain rfl := some_in h
  exact ⟨0, [], [], rfl, trivial⟩
 ·replace h := hl1_43
  refine Or.inl ?_
  refine ⟨[], {x : Nat × Int × (List Int) // field_Elem_Bytes_l1 x42 x.1 x.2.1 x.2.2 = some r1_0_43}, ⟨fun | ⟨(n1, x44, x45), _⟩ => [(8, (.int .i64 x44))], fun | ⟨(n1, x44, x45), _⟩ => [(3, (.var (.dv (.ints .u8 32 x45))))], fun | ⟨(n1, x44, x45), _⟩ => n1⟩, [], [], ⟨(FUEL, 0, (List.replicate 32 (0 : Int))), h⟩, ⟨rfl, ⟨rfl, trivial⟩, ⟨rfl, rfl, rfl, rfl, trivial⟩, rfl⟩, ?_⟩
  rintro ⟨⟨n1, x44, x45⟩, h⟩
  cases n1 with
  | zero => exact no_none h
  | succ n1 =>
   replace h := (show field_Elem_Bytes_l1 x42 (n1 + 1) x44 x45 = _ from h)
   replace h := (field_Elem_Bytes_l1.eq_2 .. ).symm.trans h
   refine And.intro (fun hb => ?_) (fun hb => ?_)
   ·replace h := cond_t h hb
    refine Or.inl ?_
    refine And.intro (by decide) ?_
    obtain ⟨hg, h⟩ := gd h
    refine And.intro hg ?_
    let x46 : Int := (List.getD x45 (Int.toNat (IntKind.wrap .i64 (Int.tdiv x44 8))) 0)
    replace h := nm_at x46 rfl h
    refine And.intro (by decide) ?_
    obtain ⟨hg, h⟩ := gd h
    refine And.intro hg ?_
    let x47 : Int := (List.getD x42.fn (Int.toNat (IntKind.wrap .i64 (Int.tdiv x44 26))) 0)
    replace h := nm_at x47 rfl h
    refine And.intro (by decide) ?_
    obtain ⟨hg, h⟩ := gd h
    refine And.intro hg ?_
    let x48 : Int := (Int.fdiv x47 (2 ^ (min (Int.toNat (Int.tmod x44 26)) (IntKind.bits .u64))))
    replace h := nm_at x48 rfl h
    refine And.intro (by decide) ?_
    obtain ⟨hg, h⟩ := gd h
    refine And.intro hg ?_
    let x49 : Int := (IntKind.wrap .u8 ((IntKind.wrap .u8 (bits .u64 .and x48 1)) * 2 ^ (min (Int.toNat (Int.tmod x44 8)) (IntKind.bits .u8))))
    replace h := nm_at x49 rfl h
    obtain ⟨hg, h⟩ := gd h
    refine And.intro hg ?_
    let x50 : List Int := (List.set x45 (Int.toNat (IntKind.wrap .i64 (Int.tdiv x44 8))) (bits .u8 .or x46 x49))
    replace h := nm_at x50 rfl h
    exact ⟨⟨(n1, (IntKind.wrap .i64 (x44 + 1)), x50), h⟩, [], ⟨rfl, ⟨rfl, trivial⟩, ⟨rfl, rfl, rfl, rfl, trivial⟩, rfl⟩, Nat.lt_succ_self _⟩
   ·replace h := cond_f h hb
    exact ⟨[], [], ⟨x45, some_in h⟩, [], rfl, trivial, ⟨rfl, rfl, rfl, rfl, trivial⟩, rfl⟩
theorem field_Elem_Odd_c (x52 : T_field_Elem) (res : Bool) (h : field_Elem_Odd x52 = some res) :
  Fn Tryd.prog (GE er) 34 [(.dv (T_field_Elem.dv x52))] [] (.bl res) [] := by
 refine bE er Tryd.func34 rfl rfl [] [(.dv (T_field_Elem.dv x52))] [] [] (.bl res) [] rfl rfl rfl rfl rfl rfl .nil 3 ?_
 replace h := (show field_Elem_Odd x52 = _ from h)
 unfold field_Elem_Odd at h
 obtain ⟨x53, hc53, h⟩ := bnd h
 refine ⟨[], _, _, _, ⟨⟨_, field_Elem_least_c er x52 x53 hc53, ⟨.inl rfl, trivial⟩⟩, trivial, rfl⟩, ?_⟩
 refine And.intro (by decide) ?_
 obtain rfl := some_in h
 exact ⟨0, [], [], rfl, trivial⟩
theorem points_Point_Bytes_c (x32 : T_points_Point) (res : (List Int)) (h : points_Point_Bytes x32 = some res) :
  Fn Tryd.prog (GE er) 11 [(.dv (T_points_Point.dv x32))] [] (.dv (.ints .u8 32 res)) [] := by
 refine bE er Tryd.func11 rfl rfl [] [(.dv (T_points_Point.dv x32))] [] [] (.dv (.ints .u8 32 res)) [] rfl rfl rfl rfl rfl rfl .nil 3 ?_
 replace h := (show points_Point_Bytes x32 = _ from h)
 unfold points_Point_Bytes at h
 obtain ⟨x33, hc38, h⟩ := bnd h
 refine ⟨[], _, _, _, ⟨⟨_, field_Elem_Invert_c er x32.fz x33 hc38, ⟨.inl rfl, trivial⟩⟩, trivial, rfl⟩, ?_⟩
 obtain ⟨x34, hc38, h⟩ := bnd h
 refine ⟨[], _, _, _, ⟨⟨_, field_Elem_Times_c er x32.fx x33 x34 hc38, ⟨.inl rfl, .inl rfl, trivial⟩⟩, trivial, rfl⟩, ?_⟩
 obtain ⟨x35, hc38, h⟩ := bnd h
 refine ⟨[], _, _, _, ⟨⟨_, field_Elem_Times_c er x32.fy x33 x35 hc38, ⟨.inl rfl, .inl rfl, trivial⟩⟩, trivial, rfl⟩, ?_⟩
 obtain ⟨x36, hc38, h⟩ := bnd h
 refine ⟨[], _, _, _, ⟨⟨_, field_Elem_Bytes_c er x35 x36 hc38, ⟨.inl rfl, trivial⟩⟩, trivial, rfl⟩, ?_⟩
 obtain ⟨x37, hc38, h⟩ := bnd h
 refine ⟨[], _, _, _, ⟨⟨_, field_Elem_Odd_c er x34 x37 hc38, ⟨.inl rfl, trivial⟩⟩, trivial, rfl⟩, ?_⟩
 obtain ⟨r1_0_38, hl1_38, hr1_38⟩ := bnd h
 refine Or.inr ⟨[], {p : (List Int) // p = r1_0_38}, ⟨fun | ⟨x38, _⟩ => [], fun | ⟨x38, _⟩ => [(5, (.var (.dv (.ints .u8 32 x38))))], fun _ => 0⟩, 0, ?_, ?_⟩
 ·rintro ⟨x38, hp⟩
  subst hp
  replace h := hr1_38
  obtain rfl := some_in h
  exact ⟨0, [], [], rfl, trivial⟩
 ·replace h := hl1_38
  refine And.intro (fun hb => ?_) (fun hb => ?_)
  ·replace h := cond_t h hb
   refine And.intro (by decide) ?_
   refine And.intro (by decide) ?_
   exact ⟨[], [], ⟨(List.set x36 31 (bits .u8 .or (List.getD x36 31 0) 128)), some_in h⟩, [], rfl, trivial, ⟨rfl, rfl, rfl, rfl, rfl, rfl, trivial⟩, rfl⟩
  ·replace h := cond_f h hb
   exact ⟨[], [], ⟨x36, some_in h⟩, [], rfl, trivial, ⟨rfl, rfl, rfl, rfl, rfl, rfl, trivial⟩, rfl⟩
theorem slices_Concat_byte_byte_2_c (b0 b1 k0 : Nat) (hn : [b0, b1, k0].Nodup) (x40 : Nat) (x41 : List Int) (res : (List Int)) (h : slices_Concat_byte_byte_2 x40 x41 = some res) :
  Fn Tryd.prog (GE er) 12 [(.vs b0 0 1)] [(b0, (.var (.cons (.sl b1 [] ly5 0 x40) (.dv .nil)))), (b1, (.frzI .u8 x41))] (.sl k0 [] ly5 0 (List.length res)) [(b0, (.var (.cons (.sl b1 [] ly5 0 x40) (.dv .nil)))), (b1, (.frzI .u8 x41)), (k0, (.rowI .u8 res))] := by
 refine bE er Tryd.func12 rfl rfl [(0, b0), (1, b1), (3, k0)] [(.vs 0 0 1)] [(.var (.cons (.sl 1 [] ly5 0 x40) (.dv .nil))), (.frzI .u8 x41)] [3] (.sl 3 [] ly5 0 (List.length res)) [(.var (.cons (.sl 1 [] ly5 0 x40) (.dv .nil))), (.frzI .u8 x41), (.rowI .u8 res)] rfl rfl rfl rfl rfl rfl hn 3 ?_
 replace h := (show slices_Concat_byte_byte_2 x40 x41 = _ from h)
 unfold slices_Concat_byte_byte_2 at h
 obtain ⟨r1_0_41, hl1_41, hr1_41⟩ := bnd h
 refine Or.inr ⟨[10], {p : Unit // p = r1_0_41}, ⟨fun | ⟨(), _⟩ => [(3, (.int .i64 (IntKind.wrap .i64 (0 + (x40 : Int)))))], fun | ⟨(), _⟩ => [], fun _ => 0⟩, 0, ?_, ?_⟩
 ·rintro ⟨⟨⟩, hp⟩
  subst hp
  replace h := hr1_41
  obtain ⟨r43, hc43, h⟩ := bnd h
  obtain ⟨x42, x43⟩ := r43
  refine ⟨[], _, _, _, ⟨⟨_, slices_Grow_byte_byte_2_c er 2 (by decide) (IntKind.wrap .i64 (0 + (x40 : Int))) (x42, x43) hc43, ⟨.inl rfl, .inl rfl, trivial⟩⟩, trivial, rfl⟩, ?_⟩
  refine Or.inl ?_
  obtain ⟨r2_0_43, hl2_43, hr2_43⟩ := bnd h
  refine Or.inr ⟨[24, 26], {p : Unit // p = r2_0_43}, ⟨fun | ⟨(), _⟩ => [(6, (.sl 3 [] ly5 0 (List.length ((List.take x42 x43) ++ (List.take x40 x41)))))], fun | ⟨(), _⟩ => [(2, .dead), (3, (.rowI .u8 ((List.take x42 x43) ++ (List.take x40 x41))))], fun _ => 0⟩, 1, ?_, ?_⟩
  ·rintro ⟨⟨⟩, hp⟩
   subst hp
   replace h := hr2_43
   obtain rfl := some_in h
   exact ⟨0, [], [], rfl, rfl, rfl, rfl, trivial⟩
  ·replace h := hl2_43
   refine Or.inr ⟨30, ?_⟩
   refine And.intro (fun _ => ?_) (fun h0 => Bool.noConfusion h0)
   refine Or.inl ?_
   refine And.intro (by decide) ?_
   obtain ⟨hg, h⟩ := gd h
   refine And.intro (le_of_ln2 (ln_0 _ _) hg) ?_
   obtain ⟨hg2, h⟩ := gd h
   refine ⟨((List.take x42 x43) ++ (List.take x40 x41)), app_cut (cut_0 _ _) (cut_0 _ _), 0, (List.length ((List.take x42 x43) ++ (List.take x40 x41))), ⟨rfl, cut_ln hg2 (ln_0 _ _)⟩, ?_⟩
   refine Or.inl ?_
   refine And.intro (fun h0 => Bool.noConfusion h0) (fun _ => ?_)
   exact ⟨[], [], ⟨(), some_in h⟩, [], rfl, ⟨rfl, trivial⟩, ⟨rfl, rfl, trivial, rfl, trivial⟩, rfl⟩
 ·replace h := hl1_41
  refine Or.inr ⟨30, ?_⟩
  refine And.intro (fun _ => ?_) (fun h0 => Bool.noConfusion h0)
  refine Or.inl ?_
  refine And.intro (by decide) ?_
  refine Or.inl ?_
  refine And.intro (fun hb => ?_) (fun hb => ?_)
  ·replace h := cond_t h hb
   exact no_none h
  ·replace h := cond_f h hb
   refine And.intro (fun h0 => Bool.noConfusion h0) (fun _ => ?_)
   exact ⟨[], [], ⟨(), some_in h⟩, [], rfl, ⟨rfl, trivial⟩, ⟨rfl, rfl, trivial⟩, rfl⟩
theorem shawide_padded_2_c (b0 b1 b2 k0 : Nat) (hn : [b0, b1, b2, k0].Nodup) (x56 : Nat) (x57 : Nat) (x58 : Nat) (x59 : List Int) (x60 : List Int) (res : Unit) (h : shawide_padded_2 x56 x57 x58 x59 x60 = some res) :
  Fn Tryd.prog (GE er) 49 [(.vs b0 0 2)] [(b0, (.var (.cons (.sl b1 [] ly5 x56 x57) (.cons (.sl b2 [] ly5 0 x58) (.dv .nil))))), (b1, (.frzI .u8 x59)), (b2, (.rowI .u8 x60))] (.fn 61 [(.ptr k0 [] ly32)]) [(b0, (.var (.cons (.sl b1 [] ly5 x56 x57) (.cons (.sl b2 [] ly5 0 x58) (.dv .nil))))), (b1, (.frzI .u8 x59)), (b2, (.rowI .u8 x60)), (k0, (.var (.vs b0 0 2)))] := by
 refine bE er Tryd.func49 rfl rfl [(0, b0), (1, b1), (2, b2), (3, k0)] [(.vs 0 0 2)] [(.var (.cons (.sl 1 [] ly5 x56 x57) (.cons (.sl 2 [] ly5 0 x58) (.dv .nil)))), (.frzI .u8 x59), (.rowI .u8 x60)] [3] (.fn 61 [(.ptr 3 [] ly32)]) [(.var (.cons (.sl 1 [] ly5 x56 x57) (.cons (.sl 2 [] ly5 0 x58) (.dv .nil)))), (.frzI .u8 x59), (.rowI .u8 x60), (.var (.vs 0 0 2))] rfl rfl rfl rfl rfl rfl hn 3 ?_
 replace h := (show shawide_padded_2 x56 x57 x58 x59 x60 = _ from h)
 unfold shawide_padded_2 at h
 obtain rfl := some_in h
 exact ⟨0, [], [], rfl, rfl, rfl, rfl, rfl, trivial⟩
theorem slices_Concat_byte_byte_3_c (b0 b1 b2 k0 : Nat) (hn : [b0, b1, b2, k0].Nodup) (x61 : Nat) (x62 : Nat) (x63 : Nat) (x64 : List Int) (x65 : List Int) (res : (List Int)) (h : slices_Concat_byte_byte_3 x61 x62 x63 x64 x65 = some res) :
  Fn Tryd.prog (GE er) 12 [(.vs b0 0 2)] [(b0, (.var (.cons (.sl b1 [] ly5 x61 x62) (.cons (.sl b2 [] ly5 0 x63) (.dv .nil))))), (b1, (.frzI .u8 x64)), (b2, (.rowI .u8 x65))] (.sl k0 [] ly5 0 (List.length res)) [(b0, (.var (.cons (.sl b1 [] ly5 x61 x62) (.cons (.sl b2 [] ly5 0 x63) (.dv .nil))))), (b1, (.frzI .u8 x64)), (b2, (.rowI .u8 x65)), (k0, (.rowI .u8 res))] := by
 refine bE er Tryd.func12 rfl rfl [(0, b0), (1, b1), (2, b2), (4, k0)] [(.vs 0 0 2)] [(.var (.cons (.sl 1 [] ly5 x61 x62) (.cons (.sl 2 [] ly5 0 x63) (.dv .nil)))), (.frzI .u8 x64), (.rowI .u8 x65)] [4] (.sl 4 [] ly5 0 (List.length res)) [(.var (.cons (.sl 1 [] ly5 x61 x62) (.cons (.sl 2 [] ly5 0 x63) (.dv .nil)))), (.frzI .u8 x64), (.rowI .u8 x65), (.rowI .u8 res)] rfl rfl rfl rfl rfl rfl hn 3 ?_
 replace h := (show slices_Concat_byte_byte_3 x61 x62 x63 x64 x65 = _ from h)
 unfold slices_Concat_byte_byte_3 at h
 obtain ⟨r1_0_66, hl1_66, hr1_66⟩ := bnd h
 refine Or.inr ⟨[10], {p : Int // p = r1_0_66}, ⟨fun | ⟨x66, _⟩ => [(3, (.int .i64 x66))], fun | ⟨x66, _⟩ => [], fun _ => 0⟩, 0, ?_, ?_⟩
 ·rintro ⟨x66, hp⟩
  subst hp
  replace h := hr1_66
  obtain ⟨r71, hc71, h⟩ := bnd h
  obtain ⟨x68, x69⟩ := r71
  refine ⟨[], _, _, _, ⟨⟨_, slices_Grow_byte_byte_2_c er 3 (by decide) x66 (x68, x69) hc71, ⟨.inl rfl, .inl rfl, trivial⟩⟩, trivial, rfl⟩, ?_⟩
  refine Or.inl ?_
  obtain ⟨r2_0_70, hl2_70, hr2_70⟩ := bnd h
  refine Or.inr ⟨[24, 26], {p : (List Int) // p = r2_0_70}, ⟨fun | ⟨x70, _⟩ => [(6, (.sl 4 [] ly5 0 (List.length x70)))], fun | ⟨x70, _⟩ => [(3, .dead), (4, (.rowI .u8 x70))], fun _ => 0⟩, 1, ?_, ?_⟩
  ·rintro ⟨x70, hp⟩
   subst hp
   replace h := hr2_70
   obtain rfl := some_in h
   exact ⟨0, [], [], rfl, rfl, rfl, rfl, rfl, trivial⟩
  ·replace h := hl2_70
   refine Or.inr ⟨30, ?_⟩
   refine And.intro (fun _ => ?_) (fun h0 => Bool.noConfusion h0)
   refine Or.inl ?_
   refine And.intro (by decide) ?_
   obtain ⟨hg, h⟩ := gd h
   refine And.intro (hg) ?_
   obtain ⟨hg2, h⟩ := gd h
   refine ⟨((List.take x68 x69) ++ (List.take x62 (List.drop x61 x64))), app_cut (cut_0 _ _) (rfl), 0, (List.length ((List.take x68 x69) ++ (List.take x62 (List.drop x61 x64)))), ⟨rfl, cut_ln hg2 (rfl)⟩, ?_⟩
   refine Or.inl ?_
   refine And.intro (fun _ => ?_) (fun h0 => Bool.noConfusion h0)
   refine Or.inl ?_
   refine And.intro (by decide) ?_
   obtain ⟨hg, h⟩ := gd h
   refine And.intro (le_of_ln2 (ln_0 _ _) hg) ?_
   refine ⟨(((List.take x68 x69) ++ (List.take x62 (List.drop x61 x64))) ++ (List.take x63 x65)), app_cut (cut_full _) (cut_0 _ _), 0, (List.length (((List.take x68 x69) ++ (List.take x62 (List.drop x61 x64))) ++ (List.take x63 x65))), ⟨rfl, app_ln (ln_0 _ _)⟩, ?_⟩
   refine Or.inl ?_
   let x71 : List Int := (((List.take x68 x69) ++ (List.take x62 (List.drop x61 x64))) ++ (List.take x63 x65))
   replace h := nm_at x71 rfl h
   refine And.intro (fun h0 => Bool.noConfusion h0) (fun _ => ?_)
   exact ⟨[], [], ⟨x71, some_in h⟩, [(4, 5)], rfl, ⟨rfl, trivial⟩, ⟨rfl, rfl, rfl, trivial, rfl, trivial⟩, rfl⟩
 ·replace h := hl1_66
  refine Or.inr ⟨30, ?_⟩
  refine And.intro (fun _ => ?_) (fun h0 => Bool.noConfusion h0)
  refine Or.inl ?_
  refine And.intro (by decide) ?_
  refine Or.inl ?_
  refine And.intro (fun hb => ?_) (fun hb => ?_)
  ·replace h := cond_t h hb
   exact no_none h
  ·replace h := cond_f h hb
   refine And.intro (fun _ => ?_) (fun h0 => Bool.noConfusion h0)
   refine Or.inl ?_
   refine And.intro (by decide) ?_
   let x67 : Int := (IntKind.wrap .i64 ((IntKind.wrap .i64 (0 + (x62 : Int))) + (x63 : Int)))
   replace h := nm_at x67 rfl h
   refine Or.inl ?_
   refine And.intro (fun hb => ?_) (fun hb => ?_)
   ·replace h := cond_t h hb
    exact no_none h
   ·replace h := cond_f h hb
    refine And.intro (fun h0 => Bool.noConfusion h0) (fun _ => ?_)
    exact ⟨[], [], ⟨x67, some_in h⟩, [], rfl, ⟨rfl, trivial⟩, ⟨rfl, rfl, rfl, trivial⟩, rfl⟩
theorem shawide_Sum_2_c (b0 b1 b2 : Nat) (hn : [b0, b1, b2].Nodup) (x50 : Nat) (x51 : Nat) (x52 : Nat) (x53 : List Int) (x54 : List Int) (res : (List Int)) (h : shawide_Sum_2 x50 x51 x52 x53 x54 = some res) :
  Fn Tryd.prog (GE er) 21 [(.vs b0 0 2)] [(b0, (.var (.cons (.sl b1 [] ly5 x50 x51) (.cons (.sl b2 [] ly5 0 x52) (.dv .nil))))), (b1, (.frzI .u8 x53)), (b2, (.rowI .u8 x54))] (.dv (.ints .u8 64 res)) [(b0, (.var (.cons (.sl b1 [] ly5 x50 x51) (.cons (.sl b2 [] ly5 0 x52) (.dv .nil))))), (b1, (.frzI .u8 x53)), (b2, (.rowI .u8 x54))] := by
 refine bE er Tryd.func21 rfl rfl [(0, b0), (1, b1), (2, b2)] [(.vs 0 0 2)] [(.var (.cons (.sl 1 [] ly5 x50 x51) (.cons (.sl 2 [] ly5 0 x52) (.dv .nil)))), (.frzI .u8 x53), (.rowI .u8 x54)] [] (.dv (.ints .u8 64 res)) [(.var (.cons (.sl 1 [] ly5 x50 x51) (.cons (.sl 2 [] ly5 0 x52) (.dv .nil)))), (.frzI .u8 x53), (.rowI .u8 x54)] rfl rfl rfl rfl rfl rfl hn 3 ?_
 replace h := (show shawide_Sum_2 x50 x51 x52 x53 x54 = _ from h)
 unfold shawide_Sum_2 at h
 obtain ⟨x55, hc80, h⟩ := bnd h
 refine ⟨[], _, _, _, ⟨⟨_, shawide_begin_c er x55 hc80, trivial⟩, trivial, rfl⟩, ?_⟩
 obtain ⟨r80, hc80, h⟩ := bnd h
 refine ⟨[], _, _, _, ⟨⟨_, shawide_padded_2_c er 0 1 2 5 (by decide) x50 x51 x52 x53 x54 r80 hc80, ⟨.inl rfl, trivial⟩⟩, ⟨⟨rfl, rfl⟩, ⟨rfl, rfl⟩, ⟨rfl, rfl⟩, trivial⟩, rfl⟩, ?_⟩
 obtain ⟨r1_0_56, hl1_56, hr1_56⟩ := bnd h
 refine Or.inr ⟨[11], {p : (List Int) // p = r1_0_56}, ⟨fun | ⟨x56, _⟩ => [], fun | ⟨x56, _⟩ => [(4, (.var (.dv (.ints .u64 8 x56))))], fun _ => 0⟩, 0, ?_, ?_⟩
 ·rintro ⟨x56, hp⟩
  subst hp
  replace h := hr1_56
  obtain ⟨r5_2_73, hl5_73, hr5_73⟩ := bnd h
  refine Or.inr ⟨[15], {p : (List Int) // p = r5_2_73}, ⟨fun | ⟨x73, _⟩ => [], fun | ⟨x73, _⟩ => [(6, (.var (.dv (.ints .u8 64 x73))))], fun _ => 0⟩, 0, ?_, ?_⟩
  ·rintro ⟨x73, hp⟩
   subst hp
   replace h := hr5_73
   obtain rfl := some_in h
   exact ⟨0, [], [], rfl, rfl, rfl, rfl, trivial⟩
  ·replace h := hl5_73
   refine Or.inl ?_
   refine ⟨[], {x : Nat × Int × (List Int) // shawide_Sum_2_l3 x56 x.1 x.2.1 x.2.2 = some r5_2_73}, ⟨fun | ⟨(n3, x74, x75), _⟩ => [(16, (.int .i64 x74))], fun | ⟨(n3, x74, x75), _⟩ => [(6, (.var (.dv (.ints .u8 64 x75))))], fun | ⟨(n3, x74, x75), _⟩ => n3⟩, [], [], ⟨(FUEL, 0, (List.replicate 64 (0 : Int))), h⟩, ⟨rfl, ⟨rfl, trivial⟩, ⟨rfl, rfl, rfl, rfl, rfl, rfl, rfl, trivial⟩, rfl⟩, ?_⟩
   rintro ⟨⟨n3, x74, x75⟩, h⟩
   cases n3 with
   | zero => exact no_none h
   | succ n3 =>
    replace h := (show shawide_Sum_2_l3 x56 (n3 + 1) x74 x75 = _ from h)
    replace h := (shawide_Sum_2_l3.eq_2 .. ).symm.trans h
    refine And.intro (fun hb => ?_) (fun hb => ?_)
    ·replace h := cond_t h hb
     refine Or.inl ?_
     obtain ⟨hg, h⟩ := gd h
     refine And.intro hg ?_
     obtain ⟨r6_2_76, hl6_76, hr6_76⟩ := bnd h
     refine Or.inr ⟨[6, 7], {p : (List Int) // p = r6_2_76}, ⟨fun | ⟨x76, _⟩ => [], fun | ⟨x76, _⟩ => [(6, (.var (.dv (.ints .u8 64 x76))))], fun _ => 0⟩, 0, ?_, ?_⟩
     ·rintro ⟨x76, hp⟩
      subst hp
      replace h := hr6_76
      exact ⟨⟨(n3, (IntKind.wrap .i64 (x74 + 1)), x76), h⟩, [], ⟨rfl, ⟨rfl, trivial⟩, ⟨rfl, rfl, rfl, rfl, rfl, rfl, rfl, trivial⟩, rfl⟩, Nat.lt_succ_self _⟩
     ·replace h := hl6_76
      refine Or.inl ?_
      refine ⟨[], {x : Nat × Int × (List Int) // shawide_Sum_2_l4 x56 x74 x.1 x.2.1 x.2.2 = some r6_2_76}, ⟨fun | ⟨(n4, x77, x78), _⟩ => [(20, (.int .i64 x77))], fun | ⟨(n4, x77, x78), _⟩ => [(6, (.var (.dv (.ints .u8 64 x78))))], fun | ⟨(n4, x77, x78), _⟩ => n4⟩, [], [], ⟨(FUEL, 0, x75), h⟩, ⟨rfl, ⟨rfl, trivial⟩, ⟨rfl, rfl, rfl, rfl, rfl, rfl, rfl, trivial⟩, rfl⟩, ?_⟩
      rintro ⟨⟨n4, x77, x78⟩, h⟩
      cases n4 with
      | zero => exact no_none h
      | succ n4 =>
       replace h := (show shawide_Sum_2_l4 x56 x74 (n4 + 1) x77 x78 = _ from h)
       replace h := (shawide_Sum_2_l4.eq_2 .. ).symm.trans h
       refine And.intro (fun hb => ?_) (fun hb => ?_)
       ·replace h := cond_t h hb
        refine Or.inl ?_
        obtain ⟨hg, h⟩ := gd h
        refine And.intro hg ?_
        let x79 : Int := (Int.fdiv (List.getD x56 (Int.toNat x74) 0) (2 ^ (min (Int.toNat (IntKind.wrap .i64 (56 - (IntKind.wrap .i64 (8 * x77))))) (IntKind.bits .u64))))
        replace h := nm_at x79 rfl h
        obtain ⟨hg, h⟩ := gd h
        refine And.intro hg ?_
        let x80 : Nat := (Int.toNat (IntKind.wrap .i64 ((IntKind.wrap .i64 (8 * x74)) + x77)))
        replace h := nm_at x80 rfl h
        exact ⟨⟨(n4, (IntKind.wrap .i64 (x77 + 1)), (List.set x78 x80 (IntKind.wrap .u8 x79))), h⟩, [], ⟨rfl, ⟨rfl, trivial⟩, ⟨rfl, rfl, rfl, rfl, rfl, rfl, rfl, trivial⟩, rfl⟩, Nat.lt_succ_self _⟩
       ·replace h := cond_f h hb
        exact ⟨[], [], ⟨x78, some_in h⟩, [], rfl, trivial, ⟨rfl, rfl, rfl, rfl, rfl, rfl, rfl, trivial⟩, rfl⟩
    ·replace h := cond_f h hb
     exact ⟨[], [], ⟨x75, some_in h⟩, [], rfl, trivial, ⟨rfl, rfl, rfl, rfl, rfl, rfl, rfl, trivial⟩, rfl⟩
 ·replace h := hl1_56
  intro L5
  refine ⟨Tryd.f61, _, ⟨Tryd.func61, rfl, rfl, rfl⟩, ?_⟩
  obtain ⟨x57, hc72, h⟩ := bnd h
  refine ⟨[], _, _, _, ⟨⟨_, slices_Concat_byte_byte_3_c er 0 1 2 9 (by decide) x50 x51 x52 x53 x54 x57 hc72, ⟨.inl rfl, trivial⟩⟩, ⟨⟨rfl, rfl⟩, ⟨rfl, rfl⟩, ⟨rfl, rfl⟩, trivial⟩, rfl⟩, ?_⟩
  refine Or.inl ?_
  refine Or.inl ?_
  obtain ⟨hg, h⟩ := gd h
  refine And.intro (le_of_ln2 (ln_full [128]) hg) ?_
  refine ⟨(x57 ++ [128]), app_cut (cut_full _) (cut_full [128]), 0, (List.length (x57 ++ [128])), ⟨rfl, app_ln (ln_full [128])⟩, ?_⟩
  refine Or.inl ?_
  obtain ⟨x58, hc72, h⟩ := bnd h
  refine ⟨[], _, _, _, ⟨⟨_, shawide_blocks_c er ((List.length x57) : Int) x58 hc72, ⟨.inl rfl, trivial⟩⟩, trivial, rfl⟩, ?_⟩
  let x59 : Int := (IntKind.wrap .i64 ((IntKind.wrap .i64 (x58 * 128)) - ((List.length x57) : Int)))
  replace h := nm_at x59 rfl h
  obtain ⟨hg, h⟩ := gd h
  refine And.intro hg ?_
  refine ⟨((x57 ++ [128]) ++ (List.replicate (Int.toNat (IntKind.wrap .i64 (x59 - 1))) (0 : Int))), app_cut (cut_full _) rfl, 0, (List.length ((x57 ++ [128]) ++ (List.replicate (Int.toNat (IntKind.wrap .i64 (x59 - 1))) (0 : Int)))), ⟨rfl, by first | (simp; done) | exact (List.length_append ..).trans (congrArg (_ + ·) (List.length_replicate ..))⟩, ?_⟩
  refine Or.inl ?_
  let x60 : List Int := ((x57 ++ [128]) ++ (List.replicate (Int.toNat (IntKind.wrap .i64 (x59 - 1))) (0 : Int)))
  replace h := nm_at x60 rfl h
  let x61 : Int := (IntKind.wrap .u64 (8 * (IntKind.wrap .u64 ((List.length x57) : Int))))
  replace h := nm_at x61 rfl h
  obtain ⟨r2_0_62, hl2_62, hr2_62⟩ := bnd h
  refine Or.inr ⟨[5], {p : (List Int) // p = r2_0_62}, ⟨fun | ⟨x62, _⟩ => [], fun | ⟨x62, _⟩ => [(12, (.rowI .u8 x62))], fun _ => 0⟩, 0, ?_, ?_⟩
  ·rintro ⟨x62, hp⟩
   subst hp
   replace h := hr2_62
   obtain ⟨r72, hc72, h⟩ := bnd h
   refine ⟨[], _, _, _, ⟨⟨_, slices_Chunk_byte_byte_2_c er 12 13 14 (by decide) (List.length x60) 128 x62 r72 hc72, ⟨.inl rfl, .inl rfl, trivial⟩⟩, ⟨⟨rfl, rfl⟩, trivial⟩, rfl⟩, ?_⟩
   obtain ⟨r3_1_67, hl3_67, hr3_67⟩ := bnd h
   refine Or.inr ⟨[2, 43], {p : (List Int) // p = r3_1_67}, ⟨fun | ⟨x67, _⟩ => [], fun | ⟨x67, _⟩ => [(4, (.var (.dv (.ints .u64 8 x67))))], fun _ => 0⟩, 0, ?_, ?_⟩
   ·rintro ⟨x67, hp⟩
    subst hp
    replace h := hr3_67
    exact ⟨[], [], ⟨x67, some_in h⟩, [], rfl, trivial, ⟨rfl, rfl, rfl, rfl, rfl, rfl, trivial⟩, rfl⟩
   ·replace h := hl3_67
    intro L7
    refine ⟨Tryd.f69, _, ⟨Tryd.func69, rfl, rfl, rfl⟩, ?_⟩
    obtain ⟨r4_1_68, hl4_68, hr4_68⟩ := bnd h
    refine Or.inr ⟨[0, 1, 2], {p : (List Int) // p = r4_1_68}, ⟨fun | ⟨x68, _⟩ => [], fun | ⟨x68, _⟩ => [(4, (.var (.dv (.ints .u64 8 x68))))], fun _ => 0⟩, 0, ?_, ?_⟩
    ·rintro ⟨x68, hp⟩
     subst hp
     replace h := hr4_68
     exact ⟨[], [], ⟨x68, some_in h⟩, [], rfl, trivial, ⟨rfl, rfl, rfl, rfl, rfl, rfl, trivial, rfl, rfl, trivial, rfl, trivial, rfl, rfl, rfl, trivial⟩, rfl⟩
    ·replace h := hl4_68
     refine Or.inl ?_
     refine ⟨[], {x : Nat × Int × (List Int) // shawide_Sum_2_l2 x60 x62 x.1 x.2.1 x.2.2 = some r4_1_68}, ⟨fun | ⟨(n2, x69, x70), _⟩ => [(4, (.int .i64 x69))], fun | ⟨(n2, x69, x70), _⟩ => [(4, (.var (.dv (.ints .u64 8 x70))))], fun | ⟨(n2, x69, x70), _⟩ => n2⟩, [], [], ⟨(FUEL, 0, x55), h⟩, ⟨rfl, ⟨rfl, trivial⟩, ⟨rfl, rfl, rfl, rfl, rfl, rfl, trivial, rfl, rfl, trivial, rfl, trivial, rfl, rfl, rfl, trivial, rfl, trivial⟩, rfl⟩, ?_⟩
     rintro ⟨⟨n2, x69, x70⟩, h⟩
     cases n2 with
     | zero => exact no_none h
     | succ n2 =>
      replace h := (show shawide_Sum_2_l2 x60 x62 (n2 + 1) x69 x70 = _ from h)
      replace h := (shawide_Sum_2_l2.eq_2 .. ).symm.trans h
      refine And.intro (fun hb => ?_) (fun hb => ?_)
      ·replace h := cond_t h hb
       refine Or.inl ?_
       obtain ⟨hg, h⟩ := gd h
       refine And.intro hg ?_
       refine ⟨(Int.toNat x69), (Int.toNat (((List.length x60) : Int) - x69)), ⟨by simp, rfl⟩, ?_⟩
       let x71 : Int := (if ((Int.toNat (((List.length x60) : Int) - x69)) : Int) < 128 then ((Int.toNat (((List.length x60) : Int) - x69)) : Int) else 128)
       replace h := nm_at x71 rfl h
       obtain ⟨hg, h⟩ := gd h
       refine And.intro hg ?_
       obtain ⟨hg, h⟩ := gd h
       refine And.intro hg ?_
       refine ⟨(Int.toNat x69), (Int.toNat ((IntKind.wrap .i64 (x69 + x71)) - x69)), ⟨by simp, rfl⟩, ?_⟩
       refine ⟨rfl, ?_⟩
       refine Or.inl ?_
       refine ⟨rfl, ?_⟩
       refine Or.inl ?_
       obtain ⟨x72, hc72, h⟩ := bnd h
       refine ⟨[], _, _, _, ⟨⟨_, shawide_state_take_2_c er 4 12 (by decide) (Int.toNat x69) (Int.toNat ((IntKind.wrap .i64 (x69 + x71)) - x69)) x70 x62 x72 hc72, ⟨.inl rfl, .inl rfl, trivial⟩⟩, ⟨⟨rfl, rfl⟩, ⟨rfl, rfl⟩, trivial⟩, rfl⟩, ?_⟩
       exact ⟨⟨(n2, (IntKind.wrap .i64 (x69 + 128)), x72), h⟩, [], ⟨rfl, ⟨rfl, trivial⟩, ⟨rfl, rfl, rfl, rfl, rfl, rfl, trivial, rfl, rfl, trivial, rfl, trivial, rfl, rfl, rfl, trivial, rfl, trivial⟩, rfl⟩, Nat.lt_succ_self _⟩
      ·replace h := cond_f h hb
       exact ⟨[], [], ⟨x70, some_in h⟩, [], rfl, trivial, ⟨rfl, rfl, rfl, rfl, rfl, rfl, trivial, rfl, rfl, trivial, rfl, trivial, rfl, rfl, rfl, trivial, rfl, trivial⟩, rfl⟩
  ·replace h := hl2_62
   refine Or.inl ?_
   refine ⟨[], {x : Nat × Int × (List Int) // shawide_Sum_2_l1 x60 x61 x.1 x.2.1 x.2.2 = some r2_0_62}, ⟨fun | ⟨(n1, x63, x64), _⟩ => [(26, (.int .i64 x63))], fun | ⟨(n1, x63, x64), _⟩ => [(12, (.rowI .u8 x64))], fun | ⟨(n1, x63, x64), _⟩ => n1⟩, [], [], ⟨(FUEL, 0, x60), h⟩, ⟨rfl, ⟨rfl, trivial⟩, ⟨rfl, rfl, rfl, rfl, rfl, rfl, trivial, rfl, rfl, trivial, rfl, trivial, rfl, trivial⟩, rfl⟩, ?_⟩
   rintro ⟨⟨n1, x63, x64⟩, h⟩
   cases n1 with
   | zero => exact no_none h
   | succ n1 =>
    replace h := (show shawide_Sum_2_l1 x60 x61 (n1 + 1) x63 x64 = _ from h)
    replace h := (shawide_Sum_2_l1.eq_2 .. ).symm.trans h
    refine And.intro (fun hb => ?_) (fun hb => ?_)
    ·replace h := cond_t h hb
     refine Or.inl ?_
     let x65 : Int := (IntKind.wrap .i64 ((IntKind.wrap .i64 (((List.length x60) : Int) - 1)) - x63))
     replace h := nm_at x65 rfl h
     obtain ⟨hg, h⟩ := gd h
     refine And.intro hg ?_
     let x66 : Int := (Int.fdiv x61 (2 ^ (min (Int.toNat (IntKind.wrap .i64 (8 * x63))) (IntKind.bits .u64))))
     replace h := nm_at x66 rfl h
     obtain ⟨hg, h⟩ := gd h
     refine And.intro hg ?_
     exact ⟨⟨(n1, (IntKind.wrap .i64 (x63 + 1)), (List.set x64 (Int.toNat x65) (IntKind.wrap .u8 x66))), h⟩, [], ⟨rfl, ⟨rfl, trivial⟩, ⟨rfl, rfl, rfl, rfl, rfl, rfl, trivial, rfl, rfl, trivial, rfl, trivial, rfl, trivial⟩, rfl⟩, Nat.lt_succ_self _⟩
    ·replace h := cond_f h hb
     exact ⟨[], [], ⟨x64, some_in h⟩, [], rfl, trivial, ⟨rfl, rfl, rfl, rfl, rfl, rfl, trivial, rfl, rfl, trivial, rfl, trivial, rfl, trivial⟩, rfl⟩
theorem scalar_modulus_c (res : (List Int)) (h : scalar_modulus = some res) :
  Fn Tryd.prog (GE er) 68 [] [] (.dv (.ints .u64 8 res)) [] := by
 refine bE er Tryd.func68 rfl rfl [] [] [] [] (.dv (.ints .u64 8 res)) [] rfl rfl rfl rfl rfl rfl .nil 3 ?_
 replace h := (show scalar_modulus = _ from h)
 unfold scalar_modulus at h
 let x92 : List Int := [1559614445, 1477600026, 2734136534, 350157278, 0, 0, 0, 268435456]
 replace h := nm_at x92 rfl h
 obtain rfl := some_in h
 exact ⟨0, [], [], rfl, trivial⟩
theorem scalar_number_less_c (x91 : List Int) (res : (List Int) × Bool) (h : scalar_number_less x91 = some res) :
  Fn Tryd.prog (GE er) 56 [(.dv (.ints .u64 8 x91))] [] (.tup [(.dv (.ints .u64 8 res.1)), (.bl res.2)]) [] := by
 refine bE er Tryd.func56 rfl rfl [] [(.dv (.ints .u64 8 x91))] [] [] (.tup [(.dv (.ints .u64 8 res.1)), (.bl res.2)]) [] rfl rfl rfl rfl rfl rfl .nil 3 ?_
 replace h := (show scalar_number_less x91 = _ from h)
 unfold scalar_number_less at h
 obtain ⟨x92, hc101, h⟩ := bnd h
 refine ⟨[], _, _, _, ⟨⟨_, scalar_modulus_c er x92 hc101, trivial⟩, trivial, rfl⟩, ?_⟩
 obtain ⟨r1_0_94, hl1_94, hr1_94⟩ := bnd h
 refine Or.inr ⟨[1], {p : Int × (List Int) // p = r1_0_94}, ⟨fun | ⟨(x93, x94), _⟩ => [(6, (.int .u64 x93))], fun | ⟨(x93, x94), _⟩ => [(3, (.var (.dv (.ints .u64 8 x94))))], fun _ => 0⟩, 0, ?_, ?_⟩
 ·rintro ⟨⟨x93, x94⟩, hp⟩
  subst hp
  replace h := hr1_94
  obtain rfl := some_in h
  exact ⟨0, [], [], rfl, trivial⟩
 ·replace h := hl1_94
  refine Or.inl ?_
  refine ⟨[], {x : Nat × Int × Int × (List Int) // scalar_number_less_l1 x91 x92 x.1 x.2.1 x.2.2.1 x.2.2.2 = some r1_0_94}, ⟨fun | ⟨(n1, x95, x96, x97), _⟩ => [(6, (.int .u64 x95)), (10, (.int .i64 x96))], fun | ⟨(n1, x95, x96, x97), _⟩ => [(3, (.var (.dv (.ints .u64 8 x97))))], fun | ⟨(n1, x95, x96, x97), _⟩ => n1⟩, [], [], ⟨(FUEL, 0, 0, (List.replicate 8 (0 : Int))), h⟩, ⟨rfl, ⟨rfl, rfl, trivial⟩, ⟨rfl, rfl, rfl, rfl, trivial⟩, rfl⟩, ?_⟩
  rintro ⟨⟨n1, x95, x96, x97⟩, h⟩
  cases n1 with
  | zero => exact no_none h
  | succ n1 =>
   replace h := (show scalar_number_less_l1 x91 x92 (n1 + 1) x95 x96 x97 = _ from h)
   replace h := (scalar_number_less_l1.eq_2 .. ).symm.trans h
   refine And.intro (fun hb => ?_) (fun hb => ?_)
   ·replace h := cond_t h hb
    refine Or.inl ?_
    obtain ⟨hg, h⟩ := gd h
    refine And.intro hg ?_
    let x98 : Int := (IntKind.wrap .u64 ((List.getD x91 (Int.toNat x96) 0) + 4294967296))
    replace h := nm_at x98 rfl h
    obtain ⟨hg, h⟩ := gd h
    refine And.intro hg ?_
    let x99 : Int := (IntKind.wrap .u64 (x98 - (List.getD x92 (Int.toNat x96) 0)))
    replace h := nm_at x99 rfl h
    obtain ⟨hg, h⟩ := gd h
    refine And.intro hg ?_
    let x100 : List Int := (List.set x97 (Int.toNat x96) (bits .u64 .and (IntKind.wrap .u64 (x99 - x95)) 4294967295))
    replace h := nm_at x100 rfl h
    refine And.intro (by decide) ?_
    let x101 : Int := (IntKind.wrap .u64 (1 - (Int.fdiv (IntKind.wrap .u64 (x99 - x95)) (2 ^ 32))))
    replace h := nm_at x101 rfl h
    exact ⟨⟨(n1, x101, (IntKind.wrap .i64 (x96 + 1)), x100), h⟩, [], ⟨rfl, ⟨rfl, rfl, trivial⟩, ⟨rfl, rfl, rfl, rfl, trivial⟩, rfl⟩, Nat.lt_succ_self _⟩
   ·replace h := cond_f h hb
    exact ⟨[], [], ⟨(x95, x97), some_in h⟩, [], rfl, ⟨rfl, trivial⟩, ⟨rfl, rfl, rfl, rfl, trivial⟩, rfl⟩
theorem scalar_number_least_c (x90 : List Int) (res : (List Int)) (h : scalar_number_least x90 = some res) :
  Fn Tryd.prog (GE er) 38 [(.dv (.ints .u64 8 x90))] [] (.dv (.ints .u64 8 res)) [] := by
 refine bE er Tryd.func38 rfl rfl [] [(.dv (.ints .u64 8 x90))] [] [] (.dv (.ints .u64 8 res)) [] rfl rfl rfl rfl rfl rfl .nil 3 ?_
 replace h := (show scalar_number_least x90 = _ from h)
 unfold scalar_number_least at h
 obtain ⟨r96, hc96, h⟩ := bnd h
 obtain ⟨x91, x92⟩ := r96
 refine ⟨[], _, _, _, ⟨⟨_, scalar_number_less_c er x90 (x91, x92) hc96, ⟨.inl rfl, trivial⟩⟩, trivial, rfl⟩, ?_⟩
 obtain ⟨r1_0_93, hl1_93, hr1_93⟩ := bnd h
 refine Or.inr ⟨[4], {p : (List Int) // p = r1_0_93}, ⟨fun | ⟨x93, _⟩ => [], fun | ⟨x93, _⟩ => [(0, (.var (.dv (.ints .u64 8 x93))))], fun _ => 0⟩, 0, ?_, ?_⟩
 ·rintro ⟨x93, hp⟩
  subst hp
  replace h := hr1_93
  obtain rfl := some_in h
  exact ⟨0, [], [], rfl, trivial⟩
 ·replace h := hl1_93
  refine Or.inl ?_
  refine ⟨[], {x : Nat × Int × (List Int) // scalar_number_least_l1 x91 x92 x.1 x.2.1 x.2.2 = some r1_0_93}, ⟨fun | ⟨(n1, x94, x95), _⟩ => [(11, (.int .i64 x94))], fun | ⟨(n1, x94, x95), _⟩ => [(0, (.var (.dv (.ints .u64 8 x95))))], fun | ⟨(n1, x94, x95), _⟩ => n1⟩, [], [], ⟨(FUEL, 0, x90), h⟩, ⟨rfl, ⟨rfl, trivial⟩, ⟨rfl, rfl, rfl, trivial⟩, rfl⟩, ?_⟩
  rintro ⟨⟨n1, x94, x95⟩, h⟩
  cases n1 with
  | zero => exact no_none h
  | succ n1 =>
   replace h := (show scalar_number_least_l1 x91 x92 (n1 + 1) x94 x95 = _ from h)
   replace h := (scalar_number_least_l1.eq_2 .. ).symm.trans h
   refine And.intro (fun hb => ?_) (fun hb => ?_)
   ·replace h := cond_t h hb
    refine Or.inl ?_
    obtain ⟨hg, h⟩ := gd h
    refine And.intro hg ?_
    obtain ⟨hg, h⟩ := gd h
    refine And.intro hg ?_
    obtain ⟨x96, hc96, h⟩ := bnd h
    refine ⟨[], _, _, _, ⟨⟨_, words_Pick_c er x92 (List.getD x95 (Int.toNat x94) 0) (List.getD x91 (Int.toNat x94) 0) x96 hc96, ⟨.inl rfl, .inl rfl, .inl rfl, trivial⟩⟩, trivial, rfl⟩, ?_⟩
    obtain ⟨hg, h⟩ := gd h
    refine And.intro hg ?_
    exact ⟨⟨(n1, (IntKind.wrap .i64 (x94 + 1)), (List.set x95 (Int.toNat x94) x96)), h⟩, [], ⟨rfl, ⟨rfl, trivial⟩, ⟨rfl, rfl, rfl, trivial⟩, rfl⟩, Nat.lt_succ_self _⟩
   ·replace h := cond_f h hb
    exact ⟨[], [], ⟨x95, some_in h⟩, [], rfl, trivial, ⟨rfl, rfl, rfl, trivial⟩, rfl⟩
theorem scalar_number_grown_c (x87 : List Int) (x88 : Int) (res : (List Int)) (h : scalar_number_grown x87 x88 = some res) :
  Fn Tryd.prog (GE er) 55 [(.dv (.ints .u64 8 x87)), (.int .u64 x88)] [] (.dv (.ints .u64 8 res)) [] := by
 refine bE er Tryd.func55 rfl rfl [] [(.dv (.ints .u64 8 x87)), (.int .u64 x88)] [] [] (.dv (.ints .u64 8 res)) [] rfl rfl rfl rfl rfl rfl .nil 3 ?_
 replace h := (show scalar_number_grown x87 x88 = _ from h)
 unfold scalar_number_grown at h
 obtain ⟨r1_0_89, hl1_89, hr1_89⟩ := bnd h
 refine Or.inr ⟨[], {p : (List Int) // p = r1_0_89}, ⟨fun | ⟨x89, _⟩ => [], fun | ⟨x89, _⟩ => [(0, (.var (.dv (.ints .u64 8 x89))))], fun _ => 0⟩, 0, ?_, ?_⟩
 ·rintro ⟨x89, hp⟩
  subst hp
  replace h := hr1_89
  obtain ⟨x95, hc95, h⟩ := bnd h
  refine ⟨[], _, _, _, ⟨⟨_, scalar_number_least_c er x89 x95 hc95, ⟨.inl rfl, trivial⟩⟩, trivial, rfl⟩, ?_⟩
  obtain rfl := some_in h
  exact ⟨0, [], [], rfl, trivial⟩
 ·replace h := hl1_89
  refine Or.inl ?_
  refine ⟨[], {x : Nat × Int × Int × (List Int) // scalar_number_grown_l1 x.1 x.2.1 x.2.2.1 x.2.2.2 = some r1_0_89}, ⟨fun | ⟨(n1, x90, x91, x92), _⟩ => [(5, (.int .u64 x90)), (9, (.int .i64 x91))], fun | ⟨(n1, x90, x91, x92), _⟩ => [(0, (.var (.dv (.ints .u64 8 x92))))], fun | ⟨(n1, x90, x91, x92), _⟩ => n1⟩, [], [], ⟨(FUEL, x88, 0, x87), h⟩, ⟨rfl, ⟨rfl, rfl, trivial⟩, ⟨rfl, rfl, trivial⟩, rfl⟩, ?_⟩
  rintro ⟨⟨n1, x90, x91, x92⟩, h⟩
  cases n1 with
  | zero => exact no_none h
  | succ n1 =>
   replace h := (show scalar_number_grown_l1 (n1 + 1) x90 x91 x92 = _ from h)
   replace h := (scalar_number_grown_l1.eq_2 .. ).symm.trans h
   refine And.intro (fun hb => ?_) (fun hb => ?_)
   ·replace h := cond_t h hb
    refine Or.inl ?_
    obtain ⟨hg, h⟩ := gd h
    refine And.intro hg ?_
    refine And.intro (by decide) ?_
    let x93 : Int := (IntKind.wrap .u64 ((List.getD x92 (Int.toNat x91) 0) * 2 ^ 1))
    replace h := nm_at x93 rfl h
    obtain ⟨hg, h⟩ := gd h
    refine And.intro hg ?_
    let x94 : List Int := (List.set x92 (Int.toNat x91) (bits .u64 .and (bits .u64 .or x93 x90) 4294967295))
    replace h := nm_at x94 rfl h
    refine And.intro (by decide) ?_
    exact ⟨⟨(n1, (Int.fdiv (bits .u64 .or x93 x90) (2 ^ 32)), (IntKind.wrap .i64 (x91 + 1)), x94), h⟩, [], ⟨rfl, ⟨rfl, rfl, trivial⟩, ⟨rfl, rfl, trivial⟩, rfl⟩, Nat.lt_succ_self _⟩
   ·replace h := cond_f h hb
    exact ⟨[], [], ⟨x92, some_in h⟩, [], rfl, trivial, ⟨rfl, rfl, trivial⟩, rfl⟩
theorem scalar_mod_c (x83 : List Int) (res : (List Int)) (h : scalar_mod x83 = some res) :
  Fn Tryd.prog (GE er) 37 [(.dv (.roI .u8 x83))] [] (.dv (.ints .u64 8 res)) [] := by
 refine bE er Tryd.func37 rfl rfl [] [(.dv (.roI .u8 x83))] [] [] (.dv (.ints .u64 8 res)) [] rfl rfl rfl rfl rfl rfl .nil 3 ?_
 replace h := (show scalar_mod x83 = _ from h)
 unfold scalar_mod at h
 let x84 : Int := (IntKind.wrap .i64 ((IntKind.wrap .i64 (8 * (List.length x83 : Int))) - 1))
 replace h := nm_at x84 rfl h
 refine And.intro (fun hb => ?_) (fun hb => ?_)
 ·replace h := cond_t h hb
  refine And.intro (by decide) ?_
  obtain ⟨hg, h⟩ := gd h
  refine And.intro hg ?_
  let x85 : Int := (List.getD x83 (Int.toNat (IntKind.wrap .i64 (Int.tdiv x84 8))) 0)
  replace h := nm_at x85 rfl h
  refine And.intro (by decide) ?_
  obtain ⟨hg, h⟩ := gd h
  refine And.intro hg ?_
  let x86 : Int := (Int.fdiv x85 (2 ^ (min (Int.toNat (Int.tmod x84 8)) (IntKind.bits .u8))))
  replace h := nm_at x86 rfl h
  obtain ⟨x87, hc92, h⟩ := bnd h
  refine ⟨[], _, _, _, ⟨⟨_, scalar_number_grown_c er (List.replicate 8 (0 : Int)) (IntKind.wrap .u64 (bits .u8 .and x86 1)) x87 hc92, ⟨.inl rfl, .inl rfl, trivial⟩⟩, trivial, rfl⟩, ?_⟩
  refine Or.inr ⟨[], {x : Nat × Int × (List Int) // scalar_mod_l1 x83 x.1 x.2.1 x.2.2 = some res}, ⟨fun | ⟨(n1, x88, x89), _⟩ => [(3, (.ptr 1 [] ly64)), (4, (.int .i64 x88))], fun | ⟨(n1, x88, x89), _⟩ => [(1, (.var (.dv (.ints .u64 8 x89))))], fun | ⟨(n1, x88, x89), _⟩ => n1⟩, [], [], ⟨(FUEL, (IntKind.wrap .i64 (x84 - 1)), x87), h⟩, ⟨rfl, ⟨rfl, rfl, trivial⟩, ⟨rfl, rfl, trivial⟩, rfl⟩, ?_⟩
  rintro ⟨⟨n1, x88, x89⟩, h⟩
  cases n1 with
  | zero => exact no_none h
  | succ n1 =>
   replace h := (show scalar_mod_l1 x83 (n1 + 1) x88 x89 = _ from h)
   replace h := (scalar_mod_l1.eq_2 .. ).symm.trans h
   refine And.intro (fun hb => ?_) (fun hb => ?_)
   ·replace h := cond_t h hb
    refine And.intro (by decide) ?_
    obtain ⟨hg, h⟩ := gd h
    refine And.intro hg ?_
    let x90 : Int := (List.getD x83 (Int.toNat (IntKind.wrap .i64 (Int.tdiv x88 8))) 0)
    replace h := nm_at x90 rfl h
    refine And.intro (by decide) ?_
    obtain ⟨hg, h⟩ := gd h
    refine And.intro hg ?_
    let x91 : Int := (Int.fdiv x90 (2 ^ (min (Int.toNat (Int.tmod x88 8)) (IntKind.bits .u8))))
    replace h := nm_at x91 rfl h
    obtain ⟨x92, hc92, h⟩ := bnd h
    refine ⟨[], _, _, _, ⟨⟨_, scalar_number_grown_c er x89 (IntKind.wrap .u64 (bits .u8 .and x91 1)) x92 hc92, ⟨.inl rfl, .inl rfl, trivial⟩⟩, trivial, rfl⟩, ?_⟩
    exact ⟨⟨(n1, (IntKind.wrap .i64 (x88 - 1)), x92), h⟩, [], ⟨rfl, ⟨rfl, rfl, trivial⟩, ⟨rfl, rfl, trivial⟩, rfl⟩, Nat.lt_succ_self _⟩
   ·replace h := cond_f h hb
    obtain rfl := some_in h
    exact ⟨0, [], [], rfl, trivial⟩
 ·replace h := cond_f h hb
  obtain rfl := some_in h
  exact ⟨0, [], [], rfl, trivial⟩
theorem scalar_number_bytes_c (x94 : List Int) (res : (List Int)) (h : scalar_number_bytes x94 = some res) :
  Fn Tryd.prog (GE er) 39 [(.dv (.ints .u64 8 x94))] [] (.dv (.ints .u8 32 res)) [] := by
 refine bE er Tryd.func39 rfl rfl [] [(.dv (.ints .u64 8 x94))] [] [] (.dv (.ints .u8 32 res)) [] rfl rfl rfl rfl rfl rfl .nil 3 ?_
 replace h := (show scalar_number_bytes x94 = _ from h)
 unfold scalar_number_bytes at h
 obtain ⟨r1_0_95, hl1_95, hr1_95⟩ := bnd h
 refine Or.inr ⟨[1], {p : (List Int) // p = r1_0_95}, ⟨fun | ⟨x95, _⟩ => [], fun | ⟨x95, _⟩ => [(2, (.var (.dv (.ints .u8 32 x95))))], fun _ => 0⟩, 0, ?_, ?_⟩
 ·rintro ⟨x95, hp⟩
  subst hp
  replace h := hr1_95
  obtain rfl := some_in h
  exact ⟨0, [], [], rfl, trivial⟩
 ·replace h := hl1_95
  refine Or.inl ?_
  refine ⟨[], {x : Nat × Int × (List Int) // scalar_number_bytes_l1 x94 x.1 x.2.1 x.2.2 = some r1_0_95}, ⟨fun | ⟨(n1, x96, x97), _⟩ => [(5, (.int .i64 x96))], fun | ⟨(n1, x96, x97), _⟩ => [(2, (.var (.dv (.ints .u8 32 x97))))], fun | ⟨(n1, x96, x97), _⟩ => n1⟩, [], [], ⟨(FUEL, 0, (List.replicate 32 (0 : Int))), h⟩, ⟨rfl, ⟨rfl, trivial⟩, ⟨rfl, rfl, rfl, trivial⟩, rfl⟩, ?_⟩
  rintro ⟨⟨n1, x96, x97⟩, h⟩
  cases n1 with
  | zero => exact no_none h
  | succ n1 =>
   replace h := (show scalar_number_bytes_l1 x94 (n1 + 1) x96 x97 = _ from h)
   replace h := (scalar_number_bytes_l1.eq_2 .. ).symm.trans h
   refine And.intro (fun hb => ?_) (fun hb => ?_)
   ·replace h := cond_t h hb
    refine Or.inl ?_
    refine And.intro (by decide) ?_
    obtain ⟨hg, h⟩ := gd h
    refine And.intro hg ?_
    let x98 : Int := (List.getD x94 (Int.toNat (IntKind.wrap .i64 (Int.tdiv x96 4))) 0)
    replace h := nm_at x98 rfl h
    refine And.intro (by decide) ?_
    obtain ⟨hg, h⟩ := gd h
    refine And.intro hg ?_
    let x99 : Int := (Int.fdiv x98 (2 ^ (min (Int.toNat (IntKind.wrap .i64 (8 * (Int.tmod x96 4)))) (IntKind.bits .u64))))
    replace h := nm_at x99 rfl h
    obtain ⟨hg, h⟩ := gd h
    refine And.intro hg ?_
    exact ⟨⟨(n1, (IntKind.wrap .i64 (x96 + 1)), (List.set x97 (Int.toNat x96) (IntKind.wrap .u8 x99))), h⟩, [], ⟨rfl, ⟨rfl, trivial⟩, ⟨rfl, rfl, rfl, trivial⟩, rfl⟩, Nat.lt_succ_self _⟩
   ·replace h := cond_f h hb
    exact ⟨[], [], ⟨x97, some_in h⟩, [], rfl, trivial, ⟨rfl, rfl, rfl, trivial⟩, rfl⟩
theorem scalar_Reduce_c (x82 : List Int) (res : (List Int)) (h : scalar_Reduce x82 = some res) :
  Fn Tryd.prog (GE er) 36 [(.dv (.ints .u8 64 x82))] [] (.dv (.ints .u8 32 res)) [] := by
 refine bE er Tryd.func36 rfl rfl [] [(.dv (.ints .u8 64 x82))] [] [] (.dv (.ints .u8 32 res)) [] rfl rfl rfl rfl rfl rfl .nil 3 ?_
 replace h := (show scalar_Reduce x82 = _ from h)
 unfold scalar_Reduce at h
 refine Or.inl ?_
 refine And.intro (by omega) ?_
 refine ⟨0, 64, ⟨rfl, rfl⟩, ?_⟩
 obtain ⟨x83, hc84, h⟩ := bnd h
 refine ⟨[true], _, _, _, ⟨⟨_, scalar_mod_c er (List.take 64 x82) x83 hc84, ⟨.inl rfl, trivial⟩⟩, trivial, rfl⟩, ?_⟩
 obtain ⟨x84, hc84, h⟩ := bnd h
 refine ⟨[], _, _, _, ⟨⟨_, scalar_number_bytes_c er x83 x84 hc84, ⟨.inl rfl, trivial⟩⟩, trivial, rfl⟩, ?_⟩
 obtain rfl := some_in h
 exact ⟨0, [], [], rfl, trivial⟩
theorem sign_hash_c (b0 b1 b2 : Nat) (hn : [b0, b1, b2].Nodup) (x45 : Nat) (x46 : Nat) (x47 : Nat) (x48 : List Int) (x49 : List Int) (res : (List Int)) (h : sign_hash x45 x46 x47 x48 x49 = some res) :
  Fn Tryd.prog (GE er) 13 [(.vs b0 0 2)] [(b0, (.var (.cons (.sl b1 [] ly5 x45 x46) (.cons (.sl b2 [] ly5 0 x47) (.dv .nil))))), (b1, (.frzI .u8 x48)), (b2, (.rowI .u8 x49))] (.dv (.ints .u8 32 res)) [(b0, (.var (.cons (.sl b1 [] ly5 x45 x46) (.cons (.sl b2 [] ly5 0 x47) (.dv .nil))))), (b1, (.frzI .u8 x48)), (b2, (.rowI .u8 x49))] := by
 refine bE er Tryd.func13 rfl rfl [(0, b0), (1, b1), (2, b2)] [(.vs 0 0 2)] [(.var (.cons (.sl 1 [] ly5 x45 x46) (.cons (.sl 2 [] ly5 0 x47) (.dv .nil)))), (.frzI .u8 x48), (.rowI .u8 x49)] [] (.dv (.ints .u8 32 res)) [(.var (.cons (.sl 1 [] ly5 x45 x46) (.cons (.sl 2 [] ly5 0 x47) (.dv .nil)))), (.frzI .u8 x48), (.rowI .u8 x49)] rfl rfl rfl rfl rfl rfl hn 3 ?_
 replace h := (show sign_hash x45 x46 x47 x48 x49 = _ from h)
 unfold sign_hash at h
 obtain ⟨x50, hc51, h⟩ := bnd h
 refine ⟨[], _, _, _, ⟨⟨_, shawide_Sum_2_c er 0 1 2 (by decide) x45 x46 x47 x48 x49 x50 hc51, ⟨.inl rfl, trivial⟩⟩, ⟨⟨rfl, rfl⟩, ⟨rfl, rfl⟩, ⟨rfl, rfl⟩, trivial⟩, rfl⟩, ?_⟩
 obtain ⟨x51, hc51, h⟩ := bnd h
 refine ⟨[], _, _, _, ⟨⟨_, scalar_Reduce_c er x50 x51 hc51, ⟨.inl rfl, trivial⟩⟩, trivial, rfl⟩, ?_⟩
 obtain rfl := some_in h
 exact ⟨0, [], [], rfl, rfl, rfl, rfl, trivial⟩
theorem shawide_padded_3_c (b0 b1 b2 b3 k0 : Nat) (hn : [b0, b1, b2, b3, k0].Nodup) (x69 : Nat) (x70 : Nat) (x71 : Nat) (x72 : List Int) (x73 : List Int) (x74 : List Int) (res : Unit) (h : shawide_padded_3 x69 x70 x71 x72 x73 x74 = some res) :
  Fn Tryd.prog (GE er) 49 [(.vs b0 0 3)] [(b0, (.var (.cons (.sl b1 [] ly5 0 x69) (.cons (.sl b2 [] ly5 0 x70) (.cons (.sl b3 [] ly5 0 x71) (.dv .nil)))))), (b1, (.var (.dv (.ints .u8 32 x72)))), (b2, (.var (.dv (.ints .u8 32 x73)))), (b3, (.rowI .u8 x74))] (.fn 61 [(.ptr k0 [] ly32)]) [(b0, (.var (.cons (.sl b1 [] ly5 0 x69) (.cons (.sl b2 [] ly5 0 x70) (.cons (.sl b3 [] ly5 0 x71) (.dv .nil)))))), (b1, (.var (.dv (.ints .u8 32 x72)))), (b2, (.var (.dv (.ints .u8 32 x73)))), (b3, (.rowI .u8 x74)), (k0, (.var (.vs b0 0 3)))] := by
 refine bE er Tryd.func49 rfl rfl [(0, b0), (1, b1), (2, b2), (3, b3), (4, k0)] [(.vs 0 0 3)] [(.var (.cons (.sl 1 [] ly5 0 x69) (.cons (.sl 2 [] ly5 0 x70) (.cons (.sl 3 [] ly5 0 x71) (.dv .nil))))), (.var (.dv (.ints .u8 32 x72))), (.var (.dv (.ints .u8 32 x73))), (.rowI .u8 x74)] [4] (.fn 61 [(.ptr 4 [] ly32)]) [(.var (.cons (.sl 1 [] ly5 0 x69) (.cons (.sl 2 [] ly5 0 x70) (.cons (.sl 3 [] ly5 0 x71) (.dv .nil))))), (.var (.dv (.ints .u8 32 x72))), (.var (.dv (.ints .u8 32 x73))), (.rowI .u8 x74), (.var (.vs 0 0 3))] rfl rfl rfl rfl rfl rfl hn 3 ?_
 replace h := (show shawide_padded_3 x69 x70 x71 x72 x73 x74 = _ from h)
 unfold shawide_padded_3 at h
 obtain rfl := some_in h
 exact ⟨0, [], [], rfl, rfl, rfl, rfl, rfl, rfl, trivial⟩
theorem slices_Concat_byte_byte_4_c (b0 b1 b2 b3 k0 : Nat) (hn : [b0, b1, b2, b3, k0].Nodup) (x75 : Nat) (x76 : Nat) (x77 : Nat) (x78 : List Int) (x79 : List Int) (x80 : List Int) (res : (List Int)) (h : slices_Concat_byte_byte_4 x75 x76 x77 x78 x79 x80 = some res) :
  Fn Tryd.prog (GE er) 12 [(.vs b0 0 3)] [(b0, (.var (.cons (.sl b1 [] ly5 0 x75) (.cons (.sl b2 [] ly5 0 x76) (.cons (.sl b3 [] ly5 0 x77) (.dv .nil)))))), (b1, (.var (.dv (.ints .u8 32 x78)))), (b2, (.var (.dv (.ints .u8 32 x79)))), (b3, (.rowI .u8 x80))] (.sl k0 [] ly5 0 (List.length res)) [(b0, (.var (.cons (.sl b1 [] ly5 0 x75) (.cons (.sl b2 [] ly5 0 x76) (.cons (.sl b3 [] ly5 0 x77) (.dv .nil)))))), (b1, (.var (.dv (.ints .u8 32 x78)))), (b2, (.var (.dv (.ints .u8 32 x79)))), (b3, (.rowI .u8 x80)), (k0, (.rowI .u8 res))] := by
 refine bE er Tryd.func12 rfl rfl [(0, b0), (1, b1), (2, b2), (3, b3), (5, k0)] [(.vs 0 0 3)] [(.var (.cons (.sl 1 [] ly5 0 x75) (.cons (.sl 2 [] ly5 0 x76) (.cons (.sl 3 [] ly5 0 x77) (.dv .nil))))), (.var (.dv (.ints .u8 32 x78))), (.var (.dv (.ints .u8 32 x79))), (.rowI .u8 x80)] [5] (.sl 5 [] ly5 0 (List.length res)) [(.var (.cons (.sl 1 [] ly5 0 x75) (.cons (.sl 2 [] ly5 0 x76) (.cons (.sl 3 [] ly5 0 x77) (.dv .nil))))), (.var (.dv (.ints .u8 32 x78))), (.var (.dv (.ints .u8 32 x79))), (.rowI .u8 x80), (.rowI .u8 res)] rfl rfl rfl rfl rfl rfl hn 3 ?_
 replace h := (show slices_Concat_byte_byte_4 x75 x76 x77 x78 x79 x80 = _ from h)
 unfold slices_Concat_byte_byte_4 at h
 obtain ⟨r1_0_81, hl1_81, hr1_81⟩ := bnd h
 refine Or.inr ⟨[10], {p : Int // p = r1_0_81}, ⟨fun | ⟨x81, _⟩ => [(3, (.int .i64 x81))], fun | ⟨x81, _⟩ => [], fun _ => 0⟩, 0, ?_, ?_⟩
 ·rintro ⟨x81, hp⟩
  subst hp
  replace h := hr1_81
  obtain ⟨r86, hc86, h⟩ := bnd h
  obtain ⟨x83, x84⟩ := r86
  refine ⟨[], _, _, _, ⟨⟨_, slices_Grow_byte_byte_2_c er 4 (by decide) x81 (x83, x84) hc86, ⟨.inl rfl, .inl rfl, trivial⟩⟩, trivial, rfl⟩, ?_⟩
  refine Or.inl ?_
  obtain ⟨r2_0_85, hl2_85, hr2_85⟩ := bnd h
  refine Or.inr ⟨[24, 26], {p : (List Int) // p = r2_0_85}, ⟨fun | ⟨x85, _⟩ => [(6, (.sl 5 [] ly5 0 (List.length x85)))], fun | ⟨x85, _⟩ => [(4, .dead), (5, (.rowI .u8 x85))], fun _ => 0⟩, 1, ?_, ?_⟩
  ·rintro ⟨x85, hp⟩
   subst hp
   replace h := hr2_85
   obtain rfl := some_in h
   exact ⟨0, [], [], rfl, rfl, rfl, rfl, rfl, rfl, trivial⟩
  ·replace h := hl2_85
   refine Or.inr ⟨30, ?_⟩
   refine And.intro (fun _ => ?_) (fun h0 => Bool.noConfusion h0)
   refine Or.inl ?_
   refine And.intro (by decide) ?_
   obtain ⟨hg, h⟩ := gd h
   refine And.intro (le_of_ln2 (ln_0 _ _) hg) ?_
   obtain ⟨hg2, h⟩ := gd h
   refine ⟨((List.take x83 x84) ++ (List.take x75 x78)), app_cut (cut_0 _ _) (cut_0 _ _), 0, (List.length ((List.take x83 x84) ++ (List.take x75 x78))), ⟨rfl, cut_ln hg2 (ln_0 _ _)⟩, ?_⟩
   refine Or.inl ?_
   refine And.intro (fun _ => ?_) (fun h0 => Bool.noConfusion h0)
   refine Or.inl ?_
   refine And.intro (by decide) ?_
   obtain ⟨hg, h⟩ := gd h
   refine And.intro (le_of_ln2 (ln_0 _ _) hg) ?_
   refine ⟨(((List.take x83 x84) ++ (List.take x75 x78)) ++ (List.take x76 x79)), app_cut (cut_full _) (cut_0 _ _), 0, (List.length (((List.take x83 x84) ++ (List.take x75 x78)) ++ (List.take x76 x79))), ⟨rfl, app_ln (ln_0 _ _)⟩, ?_⟩
   refine Or.inl ?_
   let x86 : List Int := (((List.take x83 x84) ++ (List.take x75 x78)) ++ (List.take x76 x79))
   replace h := nm_at x86 rfl h
   refine And.intro (fun _ => ?_) (fun h0 => Bool.noConfusion h0)
   refine Or.inl ?_
   refine And.intro (by decide) ?_
   obtain ⟨hg, h⟩ := gd h
   refine And.intro (le_of_ln2 (ln_0 _ _) hg) ?_
   refine ⟨(x86 ++ (List.take x77 x80)), app_cut (cut_full _) (cut_0 _ _), 0, (List.length (x86 ++ (List.take x77 x80))), ⟨rfl, app_ln (ln_0 _ _)⟩, ?_⟩
   refine Or.inl ?_
   refine And.intro (fun h0 => Bool.noConfusion h0) (fun _ => ?_)
   exact ⟨[], [], ⟨(x86 ++ (List.take x77 x80)), some_in h⟩, [(5, 7)], rfl, ⟨rfl, trivial⟩, ⟨rfl, rfl, rfl, rfl, trivial, rfl, trivial⟩, rfl⟩
 ·replace h := hl1_81
  refine Or.inr ⟨30, ?_⟩
  refine And.intro (fun _ => ?_) (fun h0 => Bool.noConfusion h0)
  refine Or.inl ?_
  refine And.intro (by decide) ?_
  refine Or.inl ?_
  refine And.intro (fun hb => ?_) (fun hb => ?_)
  ·replace h := cond_t h hb
   exact no_none h
  ·replace h := cond_f h hb
   refine And.intro (fun _ => ?_) (fun h0 => Bool.noConfusion h0)
   refine Or.inl ?_
   refine And.intro (by decide) ?_
   let x82 : Int := (IntKind.wrap .i64 ((IntKind.wrap .i64 (0 + (x75 : Int))) + (x76 : Int)))
   replace h := nm_at x82 rfl h
   refine Or.inl ?_
   refine And.intro (fun hb => ?_) (fun hb => ?_)
   ·replace h := cond_t h hb
    exact no_none h
   ·replace h := cond_f h hb
    refine And.intro (fun _ => ?_) (fun h0 => Bool.noConfusion h0)
    refine Or.inl ?_
    refine And.intro (by decide) ?_
    refine Or.inl ?_
    refine And.intro (fun hb => ?_) (fun hb => ?_)
    ·replace h := cond_t h hb
     exact no_none h
    ·replace h := cond_f h hb
     refine And.intro (fun h0 => Bool.noConfusion h0) (fun _ => ?_)
     exact ⟨[], [], ⟨(IntKind.wrap .i64 (x82 + (x77 : Int))), some_in h⟩, [], rfl, ⟨rfl, trivial⟩, ⟨rfl, rfl, rfl, rfl, trivial⟩, rfl⟩
theorem shawide_Sum_3_c (b0 b1 b2 b3 : Nat) (hn : [b0, b1, b2, b3].Nodup) (x62 : Nat) (x63 : Nat) (x64 : Nat) (x65 : List Int) (x66 : List Int) (x67 : List Int) (res : (List Int)) (h : shawide_Sum_3 x62 x63 x64 x65 x66 x67 = some res) :
  Fn Tryd.prog (GE er) 21 [(.vs b0 0 3)] [(b0, (.var (.cons (.sl b1 [] ly5 0 x62) (.cons (.sl b2 [] ly5 0 x63) (.cons (.sl b3 [] ly5 0 x64) (.dv .nil)))))), (b1, (.var (.dv (.ints .u8 32 x65)))), (b2, (.var (.dv (.ints .u8 32 x66)))), (b3, (.rowI .u8 x67))] (.dv (.ints .u8 64 res)) [(b0, (.var (.cons (.sl b1 [] ly5 0 x62) (.cons (.sl b2 [] ly5 0 x63) (.cons (.sl b3 [] ly5 0 x64) (.dv .nil)))))), (b1, (.var (.dv (.ints .u8 32 x65)))), (b2, (.var (.dv (.ints .u8 32 x66)))), (b3, (.rowI .u8 x67))] := by
 refine bE er Tryd.func21 rfl rfl [(0, b0), (1, b1), (2, b2), (3, b3)] [(.vs 0 0 3)] [(.var (.cons (.sl 1 [] ly5 0 x62) (.cons (.sl 2 [] ly5 0 x63) (.cons (.sl 3 [] ly5 0 x64) (.dv .nil))))), (.var (.dv (.ints .u8 32 x65))), (.var (.dv (.ints .u8 32 x66))), (.rowI .u8 x67)] [] (.dv (.ints .u8 64 res)) [(.var (.cons (.sl 1 [] ly5 0 x62) (.cons (.sl 2 [] ly5 0 x63) (.cons (.sl 3 [] ly5 0 x64) (.dv .nil))))), (.var (.dv (.ints .u8 32 x65))), (.var (.dv (.ints .u8 32 x66))), (.rowI .u8 x67)] rfl rfl rfl rfl rfl rfl hn 3 ?_
 replace h := (show shawide_Sum_3 x62 x63 x64 x65 x66 x67 = _ from h)
 unfold shawide_Sum_3 at h
 obtain ⟨x68, hc93, h⟩ := bnd h
 refine ⟨[], _, _, _, ⟨⟨_, shawide_begin_c er x68 hc93, trivial⟩, trivial, rfl⟩, ?_⟩
 obtain ⟨r93, hc93, h⟩ := bnd h
 refine ⟨[], _, _, _, ⟨⟨_, shawide_padded_3_c er 0 1 2 3 6 (by decide) x62 x63 x64 x65 x66 x67 r93 hc93, ⟨.inl rfl, trivial⟩⟩, ⟨⟨rfl, rfl⟩, ⟨rfl, rfl⟩, ⟨rfl, rfl⟩, ⟨rfl, rfl⟩, trivial⟩, rfl⟩, ?_⟩
 obtain ⟨r1_0_69, hl1_69, hr1_69⟩ := bnd h
 refine Or.inr ⟨[11], {p : (List Int) // p = r1_0_69}, ⟨fun | ⟨x69, _⟩ => [], fun | ⟨x69, _⟩ => [(5, (.var (.dv (.ints .u64 8 x69))))], fun _ => 0⟩, 0, ?_, ?_⟩
 ·rintro ⟨x69, hp⟩
  subst hp
  replace h := hr1_69
  obtain ⟨r5_2_86, hl5_86, hr5_86⟩ := bnd h
  refine Or.inr ⟨[15], {p : (List Int) // p = r5_2_86}, ⟨fun | ⟨x86, _⟩ => [], fun | ⟨x86, _⟩ => [(7, (.var (.dv (.ints .u8 64 x86))))], fun _ => 0⟩, 0, ?_, ?_⟩
  ·rintro ⟨x86, hp⟩
   subst hp
   replace h := hr5_86
   obtain rfl := some_in h
   exact ⟨0, [], [], rfl, rfl, rfl, rfl, rfl, trivial⟩
  ·replace h := hl5_86
   refine Or.inl ?_
   refine ⟨[], {x : Nat × Int × (List Int) // shawide_Sum_3_l3 x69 x.1 x.2.1 x.2.2 = some r5_2_86}, ⟨fun | ⟨(n3, x87, x88), _⟩ => [(16, (.int .i64 x87))], fun | ⟨(n3, x87, x88), _⟩ => [(7, (.var (.dv (.ints .u8 64 x88))))], fun | ⟨(n3, x87, x88), _⟩ => n3⟩, [], [], ⟨(FUEL, 0, (List.replicate 64 (0 : Int))), h⟩, ⟨rfl, ⟨rfl, trivial⟩, ⟨rfl, rfl, rfl, rfl, rfl, rfl, rfl, rfl, trivial⟩, rfl⟩, ?_⟩
   rintro ⟨⟨n3, x87, x88⟩, h⟩
   cases n3 with
   | zero => exact no_none h
   | succ n3 =>
    replace h := (show shawide_Sum_3_l3 x69 (n3 + 1) x87 x88 = _ from h)
    replace h := (shawide_Sum_3_l3.eq_2 .. ).symm.trans h
    refine And.intro (fun hb => ?_) (fun hb => ?_)
    ·replace h := cond_t h hb
     refine Or.inl ?_
     obtain ⟨hg, h⟩ := gd h
     refine And.intro hg ?_
     obtain ⟨r6_2_89, hl6_89, hr6_89⟩ := bnd h
     refine Or.inr ⟨[6, 7], {p : (List Int) // p = r6_2_89}, ⟨fun | ⟨x89, _⟩ => [], fun | ⟨x89, _⟩ => [(7, (.var (.dv (.ints .u8 64 x89))))], fun _ => 0⟩, 0, ?_, ?_⟩
     ·rintro ⟨x89, hp⟩
      subst hp
      replace h := hr6_89
      exact ⟨⟨(n3, (IntKind.wrap .i64 (x87 + 1)), x89), h⟩, [], ⟨rfl, ⟨rfl, trivial⟩, ⟨rfl, rfl, rfl, rfl, rfl, rfl, rfl, rfl, trivial⟩, rfl⟩, Nat.lt_succ_self _⟩
     ·replace h := hl6_89
      refine Or.inl ?_
      refine ⟨[], {x : Nat × Int × (List Int) // shawide_Sum_3_l4 x69 x87 x.1 x.2.1 x.2.2 = some r6_2_89}, ⟨fun | ⟨(n4, x90, x91), _⟩ => [(20, (.int .i64 x90))], fun | ⟨(n4, x90, x91), _⟩ => [(7, (.var (.dv (.ints .u8 64 x91))))], fun | ⟨(n4, x90, x91), _⟩ => n4⟩, [], [], ⟨(FUEL, 0, x88), h⟩, ⟨rfl, ⟨rfl, trivial⟩, ⟨rfl, rfl, rfl, rfl, rfl, rfl, rfl, rfl, trivial⟩, rfl⟩, ?_⟩
      rintro ⟨⟨n4, x90, x91⟩, h⟩
      cases n4 with
      | zero => exact no_none h
      | succ n4 =>
       replace h := (show shawide_Sum_3_l4 x69 x87 (n4 + 1) x90 x91 = _ from h)
       replace h := (shawide_Sum_3_l4.eq_2 .. ).symm.trans h
       refine And.intro (fun hb => ?_) (fun hb => ?_)
       ·replace h := cond_t h hb
        refine Or.inl ?_
        obtain ⟨hg, h⟩ := gd h
        refine And.intro hg ?_
        let x92 : Int := (Int.fdiv (List.getD x69 (Int.toNat x87) 0) (2 ^ (min (Int.toNat (IntKind.wrap .i64 (56 - (IntKind.wrap .i64 (8 * x90))))) (IntKind.bits .u64))))
        replace h := nm_at x92 rfl h
        obtain ⟨hg, h⟩ := gd h
        refine And.intro hg ?_
        let x93 : Nat := (Int.toNat (IntKind.wrap .i64 ((IntKind.wrap .i64 (8 * x87)) + x90)))
        replace h := nm_at x93 rfl h
        exact ⟨⟨(n4, (IntKind.wrap .i64 (x90 + 1)), (List.set x91 x93 (IntKind.wrap .u8 x92))), h⟩, [], ⟨rfl, ⟨rfl, trivial⟩, ⟨rfl, rfl, rfl, rfl, rfl, rfl, rfl, rfl, trivial⟩, rfl⟩, Nat.lt_succ_self _⟩
       ·replace h := cond_f h hb
        exact ⟨[], [], ⟨x91, some_in h⟩, [], rfl, trivial, ⟨rfl, rfl, rfl, rfl, rfl, rfl, rfl, rfl, trivial⟩, rfl⟩
    ·replace h := cond_f h hb
     exact ⟨[], [], ⟨x88, some_in h⟩, [], rfl, trivial, ⟨rfl, rfl, rfl, rfl, rfl, rfl, rfl, rfl, trivial⟩, rfl⟩
 ·replace h := hl1_69
  intro L5
  refine ⟨Tryd.f61, _, ⟨Tryd.func61, rfl, rfl, rfl⟩, ?_⟩
  obtain ⟨x70, hc85, h⟩ := bnd h
  refine ⟨[], _, _, _, ⟨⟨_, slices_Concat_byte_byte_4_c er 0 1 2 3 10 (by decide) x62 x63 x64 x65 x66 x67 x70 hc85, ⟨.inl rfl, trivial⟩⟩, ⟨⟨rfl, rfl⟩, ⟨rfl, rfl⟩, ⟨rfl, rfl⟩, ⟨rfl, rfl⟩, trivial⟩, rfl⟩, ?_⟩
  refine Or.inl ?_
  refine Or.inl ?_
  obtain ⟨hg, h⟩ := gd h
  refine And.intro (le_of_ln2 (ln_full [128]) hg) ?_
  refine ⟨(x70 ++ [128]), app_cut (cut_full _) (cut_full [128]), 0, (List.length (x70 ++ [128])), ⟨rfl, app_ln (ln_full [128])⟩, ?_⟩
  refine Or.inl ?_
  obtain ⟨x71, hc85, h⟩ := bnd h
  refine ⟨[], _, _, _, ⟨⟨_, shawide_blocks_c er ((List.length x70) : Int) x71 hc85, ⟨.inl rfl, trivial⟩⟩, trivial, rfl⟩, ?_⟩
  let x72 : Int := (IntKind.wrap .i64 ((IntKind.wrap .i64 (x71 * 128)) - ((List.length x70) : Int)))
  replace h := nm_at x72 rfl h
  obtain ⟨hg, h⟩ := gd h
  refine And.intro hg ?_
  refine ⟨((x70 ++ [128]) ++ (List.replicate (Int.toNat (IntKind.wrap .i64 (x72 - 1))) (0 : Int))), app_cut (cut_full _) rfl, 0, (List.length ((x70 ++ [128]) ++ (List.replicate (Int.toNat (IntKind.wrap .i64 (x72 - 1))) (0 : Int)))), ⟨rfl, by first | (simp; done) | exact (List.length_append ..).trans (congrArg (_ + ·) (List.length_replicate ..))⟩, ?_⟩
  refine Or.inl ?_
  let x73 : List Int := ((x70 ++ [128]) ++ (List.replicate (Int.toNat (IntKind.wrap .i64 (x72 - 1))) (0 : Int)))
  replace h := nm_at x73 rfl h
  let x74 : Int := (IntKind.wrap .u64 (8 * (IntKind.wrap .u64 ((List.length x70) : Int))))
  replace h := nm_at x74 rfl h
  obtain ⟨r2_0_75, hl2_75, hr2_75⟩ := bnd h
  refine Or.inr ⟨[5], {p : (List Int) // p = r2_0_75}, ⟨fun | ⟨x75, _⟩ => [], fun | ⟨x75, _⟩ => [(13, (.rowI .u8 x75))], fun _ => 0⟩, 0, ?_, ?_⟩
  ·rintro ⟨x75, hp⟩
   subst hp
   replace h := hr2_75
   obtain ⟨r85, hc85, h⟩ := bnd h
   refine ⟨[], _, _, _, ⟨⟨_, slices_Chunk_byte_byte_2_c er 13 14 15 (by decide) (List.length x73) 128 x75 r85 hc85, ⟨.inl rfl, .inl rfl, trivial⟩⟩, ⟨⟨rfl, rfl⟩, trivial⟩, rfl⟩, ?_⟩
   obtain ⟨r3_1_80, hl3_80, hr3_80⟩ := bnd h
   refine Or.inr ⟨[2, 43], {p : (List Int) // p = r3_1_80}, ⟨fun | ⟨x80, _⟩ => [], fun | ⟨x80, _⟩ => [(5, (.var (.dv (.ints .u64 8 x80))))], fun _ => 0⟩, 0, ?_, ?_⟩
   ·rintro ⟨x80, hp⟩
    subst hp
    replace h := hr3_80
    exact ⟨[], [], ⟨x80, some_in h⟩, [], rfl, trivial, ⟨rfl, rfl, rfl, rfl, rfl, rfl, rfl, trivial⟩, rfl⟩
   ·replace h := hl3_80
    intro L7
    refine ⟨Tryd.f69, _, ⟨Tryd.func69, rfl, rfl, rfl⟩, ?_⟩
    obtain ⟨r4_1_81, hl4_81, hr4_81⟩ := bnd h
    refine Or.inr ⟨[0, 1, 2], {p : (List Int) // p = r4_1_81}, ⟨fun | ⟨x81, _⟩ => [], fun | ⟨x81, _⟩ => [(5, (.var (.dv (.ints .u64 8 x81))))], fun _ => 0⟩, 0, ?_, ?_⟩
    ·rintro ⟨x81, hp⟩
     subst hp
     replace h := hr4_81
     exact ⟨[], [], ⟨x81, some_in h⟩, [], rfl, trivial, ⟨rfl, rfl, rfl, rfl, rfl, rfl, rfl, trivial, rfl, rfl, trivial, rfl, trivial, rfl, rfl, rfl, trivial⟩, rfl⟩
    ·replace h := hl4_81
     refine Or.inl ?_
     refine ⟨[], {x : Nat × Int × (List Int) // shawide_Sum_3_l2 x73 x75 x.1 x.2.1 x.2.2 = some r4_1_81}, ⟨fun | ⟨(n2, x82, x83), _⟩ => [(4, (.int .i64 x82))], fun | ⟨(n2, x82, x83), _⟩ => [(5, (.var (.dv (.ints .u64 8 x83))))], fun | ⟨(n2, x82, x83), _⟩ => n2⟩, [], [], ⟨(FUEL, 0, x68), h⟩, ⟨rfl, ⟨rfl, trivial⟩, ⟨rfl, rfl, rfl, rfl, rfl, rfl, rfl, trivial, rfl, rfl, trivial, rfl, trivial, rfl, rfl, rfl, trivial, rfl, trivial⟩, rfl⟩, ?_⟩
     rintro ⟨⟨n2, x82, x83⟩, h⟩
     cases n2 with
     | zero => exact no_none h
     | succ n2 =>
      replace h := (show shawide_Sum_3_l2 x73 x75 (n2 + 1) x82 x83 = _ from h)
      replace h := (shawide_Sum_3_l2.eq_2 .. ).symm.trans h
      refine And.intro (fun hb => ?_) (fun hb => ?_)
      ·replace h := cond_t h hb
       refine Or.inl ?_
       obtain ⟨hg, h⟩ := gd h
       refine And.intro hg ?_
       refine ⟨(Int.toNat x82), (Int.toNat (((List.length x73) : Int) - x82)), ⟨by simp, rfl⟩, ?_⟩
       let x84 : Int := (if ((Int.toNat (((List.length x73) : Int) - x82)) : Int) < 128 then ((Int.toNat (((List.length x73) : Int) - x82)) : Int) else 128)
       replace h := nm_at x84 rfl h
       obtain ⟨hg, h⟩ := gd h
       refine And.intro hg ?_
       obtain ⟨hg, h⟩ := gd h
       refine And.intro hg ?_
       refine ⟨(Int.toNat x82), (Int.toNat ((IntKind.wrap .i64 (x82 + x84)) - x82)), ⟨by simp, rfl⟩, ?_⟩
       refine ⟨rfl, ?_⟩
       refine Or.inl ?_
       refine ⟨rfl, ?_⟩
       refine Or.inl ?_
       obtain ⟨x85, hc85, h⟩ := bnd h
       refine ⟨[], _, _, _, ⟨⟨_, shawide_state_take_2_c er 5 13 (by decide) (Int.toNat x82) (Int.toNat ((IntKind.wrap .i64 (x82 + x84)) - x82)) x83 x75 x85 hc85, ⟨.inl rfl, .inl rfl, trivial⟩⟩, ⟨⟨rfl, rfl⟩, ⟨rfl, rfl⟩, trivial⟩, rfl⟩, ?_⟩
       exact ⟨⟨(n2, (IntKind.wrap .i64 (x82 + 128)), x85), h⟩, [], ⟨rfl, ⟨rfl, trivial⟩, ⟨rfl, rfl, rfl, rfl, rfl, rfl, rfl, trivial, rfl, rfl, trivial, rfl, trivial, rfl, rfl, rfl, trivial, rfl, trivial⟩, rfl⟩, Nat.lt_succ_self _⟩
      ·replace h := cond_f h hb
       exact ⟨[], [], ⟨x83, some_in h⟩, [], rfl, trivial, ⟨rfl, rfl, rfl, rfl, rfl, rfl, rfl, trivial, rfl, rfl, trivial, rfl, trivial, rfl, rfl, rfl, trivial, rfl, trivial⟩, rfl⟩
  ·replace h := hl2_75
   refine Or.inl ?_
   refine ⟨[], {x : Nat × Int × (List Int) // shawide_Sum_3_l1 x73 x74 x.1 x.2.1 x.2.2 = some r2_0_75}, ⟨fun | ⟨(n1, x76, x77), _⟩ => [(26, (.int .i64 x76))], fun | ⟨(n1, x76, x77), _⟩ => [(13, (.rowI .u8 x77))], fun | ⟨(n1, x76, x77), _⟩ => n1⟩, [], [], ⟨(FUEL, 0, x73), h⟩, ⟨rfl, ⟨rfl, trivial⟩, ⟨rfl, rfl, rfl, rfl, rfl, rfl, rfl, trivial, rfl, rfl, trivial, rfl, trivial, rfl, trivial⟩, rfl⟩, ?_⟩
   rintro ⟨⟨n1, x76, x77⟩, h⟩
   cases n1 with
   | zero => exact no_none h
   | succ n1 =>
    replace h := (show shawide_Sum_3_l1 x73 x74 (n1 + 1) x76 x77 = _ from h)
    replace h := (shawide_Sum_3_l1.eq_2 .. ).symm.trans h
    refine And.intro (fun hb => ?_) (fun hb => ?_)
    ·replace h := cond_t h hb
     refine Or.inl ?_
     let x78 : Int := (IntKind.wrap .i64 ((IntKind.wrap .i64 (((List.length x73) : Int) - 1)) - x76))
     replace h := nm_at x78 rfl h
     obtain ⟨hg, h⟩ := gd h
     refine And.intro hg ?_
     let x79 : Int := (Int.fdiv x74 (2 ^ (min (Int.toNat (IntKind.wrap .i64 (8 * x76))) (IntKind.bits .u64))))
     replace h := nm_at x79 rfl h
     obtain ⟨hg, h⟩ := gd h
     refine And.intro hg ?_
     exact ⟨⟨(n1, (IntKind.wrap .i64 (x76 + 1)), (List.set x77 (Int.toNat x78) (IntKind.wrap .u8 x79))), h⟩, [], ⟨rfl, ⟨rfl, trivial⟩, ⟨rfl, rfl, rfl, rfl, rfl, rfl, rfl, trivial, rfl, rfl, trivial, rfl, trivial, rfl, trivial⟩, rfl⟩, Nat.lt_succ_self _⟩
    ·replace h := cond_f h hb
     exact ⟨[], [], ⟨x77, some_in h⟩, [], rfl, trivial, ⟨rfl, rfl, rfl, rfl, rfl, rfl, rfl, trivial, rfl, rfl, trivial, rfl, trivial, rfl, trivial⟩, rfl⟩
theorem sign_hash_2_c (b0 b1 b2 b3 : Nat) (hn : [b0, b1, b2, b3].Nodup) (x56 : Nat) (x57 : Nat) (x58 : Nat) (x59 : List Int) (x60 : List Int) (x61 : List Int) (res : (List Int)) (h : sign_hash_2 x56 x57 x58 x59 x60 x61 = some res) :
  Fn Tryd.prog (GE er) 13 [(.vs b0 0 3)] [(b0, (.var (.cons (.sl b1 [] ly5 0 x56) (.cons (.sl b2 [] ly5 0 x57) (.cons (.sl b3 [] ly5 0 x58) (.dv .nil)))))), (b1, (.var (.dv (.ints .u8 32 x59)))), (b2, (.var (.dv (.ints .u8 32 x60)))), (b3, (.rowI .u8 x61))] (.dv (.ints .u8 32 res)) [(b0, (.var (.cons (.sl b1 [] ly5 0 x56) (.cons (.sl b2 [] ly5 0 x57) (.cons (.sl b3 [] ly5 0 x58) (.dv .nil)))))), (b1, (.var (.dv (.ints .u8 32 x59)))), (b2, (.var (.dv (.ints .u8 32 x60)))), (b3, (.rowI .u8 x61))] := by
 refine bE er Tryd.func13 rfl rfl [(0, b0), (1, b1), (2, b2), (3, b3)] [(.vs 0 0 3)] [(.var (.cons (.sl 1 [] ly5 0 x56) (.cons (.sl 2 [] ly5 0 x57) (.cons (.sl 3 [] ly5 0 x58) (.dv .nil))))), (.var (.dv (.ints .u8 32 x59))), (.var (.dv (.ints .u8 32 x60))), (.rowI .u8 x61)] [] (.dv (.ints .u8 32 res)) [(.var (.cons (.sl 1 [] ly5 0 x56) (.cons (.sl 2 [] ly5 0 x57) (.cons (.sl 3 [] ly5 0 x58) (.dv .nil))))), (.var (.dv (.ints .u8 32 x59))), (.var (.dv (.ints .u8 32 x60))), (.rowI .u8 x61)] rfl rfl rfl rfl rfl rfl hn 3 ?_
 replace h := (show sign_hash_2 x56 x57 x58 x59 x60 x61 = _ from h)
 unfold sign_hash_2 at h
 obtain ⟨x62, hc63, h⟩ := bnd h
 refine ⟨[], _, _, _, ⟨⟨_, shawide_Sum_3_c er 0 1 2 3 (by decide) x56 x57 x58 x59 x60 x61 x62 hc63, ⟨.inl rfl, trivial⟩⟩, ⟨⟨rfl, rfl⟩, ⟨rfl, rfl⟩, ⟨rfl, rfl⟩, ⟨rfl, rfl⟩, trivial⟩, rfl⟩, ?_⟩
 obtain ⟨x63, hc63, h⟩ := bnd h
 refine ⟨[], _, _, _, ⟨⟨_, scalar_Reduce_c er x62 x63 hc63, ⟨.inl rfl, trivial⟩⟩, trivial, rfl⟩, ?_⟩
 obtain rfl := some_in h
 exact ⟨0, [], [], rfl, rfl, rfl, rfl, rfl, trivial⟩
theorem scalar_Times_c (x65 : List Int) (x66 : List Int) (res : (List Int)) (h : scalar_Times x65 x66 = some res) :
  Fn Tryd.prog (GE er) 15 [(.dv (.ints .u8 32 x65)), (.dv (.ints .u8 32 x66))] [] (.dv (.ints .u8 32 res)) [] := by
 refine bE er Tryd.func15 rfl rfl [] [(.dv (.ints .u8 32 x65)), (.dv (.ints .u8 32 x66))] [] [] (.dv (.ints .u8 32 res)) [] rfl rfl rfl rfl rfl rfl .nil 3 ?_
 replace h := (show scalar_Times x65 x66 = _ from h)
 unfold scalar_Times at h
 obtain ⟨r1_0_67, hl1_67, hr1_67⟩ := bnd h
 refine Or.inr ⟨[3, 11], {p : (List Int) // p = r1_0_67}, ⟨fun | ⟨x67, _⟩ => [], fun | ⟨x67, _⟩ => [(3, (.var (.dv (.ints .u8 64 x67))))], fun _ => 0⟩, 0, ?_, ?_⟩
 ·rintro ⟨x67, hp⟩
  subst hp
  replace h := hr1_67
  obtain ⟨x80, hc80, h⟩ := bnd h
  refine ⟨[], _, _, _, ⟨⟨_, scalar_Reduce_c er x67 x80 hc80, ⟨.inl rfl, trivial⟩⟩, trivial, rfl⟩, ?_⟩
  obtain rfl := some_in h
  exact ⟨0, [], [], rfl, trivial⟩
 ·replace h := hl1_67
  refine Or.inl ?_
  refine ⟨[], {x : Nat × Int × (List Int) // scalar_Times_l1 x65 x66 x.1 x.2.1 x.2.2 = some r1_0_67}, ⟨fun | ⟨(n1, x68, x69), _⟩ => [(12, (.int .i64 x68))], fun | ⟨(n1, x68, x69), _⟩ => [(3, (.var (.dv (.ints .u8 64 x69))))], fun | ⟨(n1, x68, x69), _⟩ => n1⟩, [], [], ⟨(FUEL, 0, (List.replicate 64 (0 : Int))), h⟩, ⟨rfl, ⟨rfl, trivial⟩, ⟨rfl, rfl, rfl, rfl, trivial⟩, rfl⟩, ?_⟩
  rintro ⟨⟨n1, x68, x69⟩, h⟩
  cases n1 with
  | zero => exact no_none h
  | succ n1 =>
   replace h := (show scalar_Times_l1 x65 x66 (n1 + 1) x68 x69 = _ from h)
   replace h := (scalar_Times_l1.eq_2 .. ).symm.trans h
   refine And.intro (fun hb => ?_) (fun hb => ?_)
   ·replace h := cond_t h hb
    refine Or.inl ?_
    obtain ⟨hg, h⟩ := gd h
    refine And.intro hg ?_
    obtain ⟨r2_0_71, hl2_71, hr2_71⟩ := bnd h
    refine Or.inr ⟨[7, 16], {p : Int × (List Int) // p = r2_0_71}, ⟨fun | ⟨(x70, x71), _⟩ => [(8, (.int .u64 x70))], fun | ⟨(x70, x71), _⟩ => [(3, (.var (.dv (.ints .u8 64 x71))))], fun _ => 0⟩, 0, ?_, ?_⟩
    ·rintro ⟨⟨x70, x71⟩, hp⟩
     subst hp
     replace h := hr2_71
     obtain ⟨hg, h⟩ := gd h
     refine And.intro hg ?_
     let x79 : List Int := (List.set x71 (Int.toNat (IntKind.wrap .i64 (x68 + 32))) (IntKind.wrap .u8 x70))
     replace h := nm_at x79 rfl h
     exact ⟨⟨(n1, (IntKind.wrap .i64 (x68 + 1)), x79), h⟩, [], ⟨rfl, ⟨rfl, trivial⟩, ⟨rfl, rfl, rfl, rfl, trivial⟩, rfl⟩, Nat.lt_succ_self _⟩
    ·replace h := hl2_71
     refine Or.inl ?_
     refine ⟨[], {x : Nat × Int × Int × (List Int) // scalar_Times_l2 x65 x66 x68 x.1 x.2.1 x.2.2.1 x.2.2.2 = some r2_0_71}, ⟨fun | ⟨(n2, x72, x73, x74), _⟩ => [(8, (.int .u64 x72)), (17, (.int .i64 x73))], fun | ⟨(n2, x72, x73, x74), _⟩ => [(3, (.var (.dv (.ints .u8 64 x74))))], fun | ⟨(n2, x72, x73, x74), _⟩ => n2⟩, [], [], ⟨(FUEL, 0, 0, x69), h⟩, ⟨rfl, ⟨rfl, rfl, trivial⟩, ⟨rfl, rfl, rfl, rfl, trivial⟩, rfl⟩, ?_⟩
     rintro ⟨⟨n2, x72, x73, x74⟩, h⟩
     cases n2 with
     | zero => exact no_none h
     | succ n2 =>
      replace h := (show scalar_Times_l2 x65 x66 x68 (n2 + 1) x72 x73 x74 = _ from h)
      replace h := (scalar_Times_l2.eq_2 .. ).symm.trans h
      refine And.intro (fun hb => ?_) (fun hb => ?_)
      ·replace h := cond_t h hb
       refine Or.inl ?_
       obtain ⟨hg, h⟩ := gd h
       refine And.intro hg ?_
       obtain ⟨hg, h⟩ := gd h
       refine And.intro hg ?_
       let x75 : Int := (List.getD x74 (Int.toNat (IntKind.wrap .i64 (x68 + x73))) 0)
       replace h := nm_at x75 rfl h
       let x76 : Int := (IntKind.wrap .u64 ((IntKind.wrap .u64 (List.getD x65 (Int.toNat x68) 0)) * (IntKind.wrap .u64 (List.getD x66 (Int.toNat x73) 0))))
       replace h := nm_at x76 rfl h
       let x77 : Int := (IntKind.wrap .u64 (x72 + (IntKind.wrap .u64 ((IntKind.wrap .u64 x75) + x76))))
       replace h := nm_at x77 rfl h
       obtain ⟨hg, h⟩ := gd h
       refine And.intro hg ?_
       let x78 : List Int := (List.set x74 (Int.toNat (IntKind.wrap .i64 (x68 + x73))) (IntKind.wrap .u8 x77))
       replace h := nm_at x78 rfl h
       refine And.intro (by decide) ?_
       exact ⟨⟨(n2, (Int.fdiv x77 (2 ^ 8)), (IntKind.wrap .i64 (x73 + 1)), x78), h⟩, [], ⟨rfl, ⟨rfl, rfl, trivial⟩, ⟨rfl, rfl, rfl, rfl, trivial⟩, rfl⟩, Nat.lt_succ_self _⟩
      ·replace h := cond_f h hb
       exact ⟨[], [], ⟨(x72, x74), some_in h⟩, [], rfl, ⟨rfl, trivial⟩, ⟨rfl, rfl, rfl, rfl, trivial⟩, rfl⟩
   ·replace h := cond_f h hb
    exact ⟨[], [], ⟨x69, some_in h⟩, [], rfl, trivial, ⟨rfl, rfl, rfl, rfl, trivial⟩, rfl⟩
theorem scalar_Add_c (x82 : List Int) (x83 : List Int) (res : (List Int)) (h : scalar_Add x82 x83 = some res) :
  Fn Tryd.prog (GE er) 14 [(.dv (.ints .u8 32 x82)), (.dv (.ints .u8 32 x83))] [] (.dv (.ints .u8 32 res)) [] := by
 refine bE er Tryd.func14 rfl rfl [] [(.dv (.ints .u8 32 x82)), (.dv (.ints .u8 32 x83))] [] [] (.dv (.ints .u8 32 res)) [] rfl rfl rfl rfl rfl rfl .nil 3 ?_
 replace h := (show scalar_Add x82 x83 = _ from h)
 unfold scalar_Add at h
 refine Or.inl ?_
 refine And.intro (by omega) ?_
 refine ⟨0, 32, ⟨rfl, rfl⟩, ?_⟩
 obtain ⟨x84, hc93, h⟩ := bnd h
 refine ⟨[true], _, _, _, ⟨⟨_, scalar_mod_c er (List.take 32 x82) x84 hc93, ⟨.inl rfl, trivial⟩⟩, trivial, rfl⟩, ?_⟩
 refine Or.inl ?_
 refine And.intro (by omega) ?_
 refine ⟨0, 32, ⟨rfl, rfl⟩, ?_⟩
 obtain ⟨x85, hc93, h⟩ := bnd h
 refine ⟨[true], _, _, _, ⟨⟨_, scalar_mod_c er (List.take 32 x83) x85 hc93, ⟨.inl rfl, trivial⟩⟩, trivial, rfl⟩, ?_⟩
 obtain ⟨r1_0_86, hl1_86, hr1_86⟩ := bnd h
 refine Or.inr ⟨[], {p : (List Int) // p = r1_0_86}, ⟨fun | ⟨x86, _⟩ => [], fun | ⟨x86, _⟩ => [(3, (.var (.dv (.ints .u64 8 x86))))], fun _ => 0⟩, 0, ?_, ?_⟩
 ·rintro ⟨x86, hp⟩
  subst hp
  replace h := hr1_86
  obtain ⟨x92, hc93, h⟩ := bnd h
  refine ⟨[], _, _, _, ⟨⟨_, scalar_number_least_c er x86 x92 hc93, ⟨.inl rfl, trivial⟩⟩, trivial, rfl⟩, ?_⟩
  obtain ⟨x93, hc93, h⟩ := bnd h
  refine ⟨[], _, _, _, ⟨⟨_, scalar_number_bytes_c er x92 x93 hc93, ⟨.inl rfl, trivial⟩⟩, trivial, rfl⟩, ?_⟩
  obtain rfl := some_in h
  exact ⟨0, [], [], rfl, trivial⟩
 ·replace h := hl1_86
  refine Or.inl ?_
  refine ⟨[], {x : Nat × Int × Int × (List Int) // scalar_Add_l1 x85 x.1 x.2.1 x.2.2.1 x.2.2.2 = some r1_0_86}, ⟨fun | ⟨(n1, x87, x88, x89), _⟩ => [(7, (.int .u64 x87)), (13, (.int .i64 x88))], fun | ⟨(n1, x87, x88, x89), _⟩ => [(3, (.var (.dv (.ints .u64 8 x89))))], fun | ⟨(n1, x87, x88, x89), _⟩ => n1⟩, [], [], ⟨(FUEL, 0, 0, x84), h⟩, ⟨rfl, ⟨rfl, rfl, trivial⟩, ⟨rfl, rfl, rfl, rfl, rfl, trivial⟩, rfl⟩, ?_⟩
  rintro ⟨⟨n1, x87, x88, x89⟩, h⟩
  cases n1 with
  | zero => exact no_none h
  | succ n1 =>
   replace h := (show scalar_Add_l1 x85 (n1 + 1) x87 x88 x89 = _ from h)
   replace h := (scalar_Add_l1.eq_2 .. ).symm.trans h
   refine And.intro (fun hb => ?_) (fun hb => ?_)
   ·replace h := cond_t h hb
    refine Or.inl ?_
    obtain ⟨hg, h⟩ := gd h
    refine And.intro hg ?_
    obtain ⟨hg, h⟩ := gd h
    refine And.intro hg ?_
    let x90 : Int := (IntKind.wrap .u64 ((List.getD x89 (Int.toNat x88) 0) + (List.getD x85 (Int.toNat x88) 0)))
    replace h := nm_at x90 rfl h
    obtain ⟨hg, h⟩ := gd h
    refine And.intro hg ?_
    let x91 : List Int := (List.set x89 (Int.toNat x88) (bits .u64 .and (IntKind.wrap .u64 (x87 + x90)) 4294967295))
    replace h := nm_at x91 rfl h
    refine And.intro (by decide) ?_
    exact ⟨⟨(n1, (Int.fdiv (IntKind.wrap .u64 (x87 + x90)) (2 ^ 32)), (IntKind.wrap .i64 (x88 + 1)), x91), h⟩, [], ⟨rfl, ⟨rfl, rfl, trivial⟩, ⟨rfl, rfl, rfl, rfl, rfl, trivial⟩, rfl⟩, Nat.lt_succ_self _⟩
   ·replace h := cond_f h hb
    exact ⟨[], [], ⟨x89, some_in h⟩, [], rfl, trivial, ⟨rfl, rfl, rfl, rfl, rfl, trivial⟩, rfl⟩
theorem sign_Sign_c (b0 b1 : Nat) (hn : [b0, b1].Nodup) (x4 : List Int) (x5 : Nat) (x6 : List Int) (res : (List Int)) (h : sign_Sign x4 x5 x6 = some res) :
  Fn Tryd.prog (GE er) 5 [(.dv (.ints .u8 32 x4)), (.vs b0 0 1)] [(b0, (.var (.cons (.sl b1 [] ly5 0 x5) (.dv .nil)))), (b1, (.frzI .u8 x6))] (.dv (.ints .u8 64 res)) [(b0, (.var (.cons (.sl b1 [] ly5 0 x5) (.dv .nil)))), (b1, (.frzI .u8 x6))] := by
 refine bE er Tryd.func5 rfl rfl [(0, b0), (1, b1)] [(.dv (.ints .u8 32 x4)), (.vs 0 0 1)] [(.var (.cons (.sl 1 [] ly5 0 x5) (.dv .nil))), (.frzI .u8 x6)] [] (.dv (.ints .u8 64 res)) [(.var (.cons (.sl 1 [] ly5 0 x5) (.dv .nil))), (.frzI .u8 x6)] rfl rfl rfl rfl rfl rfl hn 3 ?_
 replace h := (show sign_Sign x4 x5 x6 = _ from h)
 unfold sign_Sign at h
 obtain ⟨r20, hc20, h⟩ := bnd h
 obtain ⟨x7, x8⟩ := r20
 refine ⟨[], _, _, _, ⟨⟨_, sign_secret_c er 4 (by decide) x4 (x7, x8) hc20, ⟨.inl rfl, trivial⟩⟩, trivial, rfl⟩, ?_⟩
 refine Or.inl ?_
 obtain ⟨x9, hc20, h⟩ := bnd h
 refine ⟨[], _, _, _, ⟨⟨_, points_Base_c er x9 hc20, trivial⟩, trivial, rfl⟩, ?_⟩
 obtain ⟨x10, hc20, h⟩ := bnd h
 refine ⟨[], _, _, _, ⟨⟨_, points_Point_Times_c er x9 x7 x10 hc20, ⟨.inl rfl, .inl rfl, trivial⟩⟩, trivial, rfl⟩, ?_⟩
 obtain ⟨x11, hc20, h⟩ := bnd h
 refine ⟨[], _, _, _, ⟨⟨_, points_Point_Bytes_c er x10 x11 hc20, ⟨.inl rfl, trivial⟩⟩, trivial, rfl⟩, ?_⟩
 obtain ⟨x12, hc20, h⟩ := bnd h
 refine ⟨[], _, _, _, ⟨⟨_, slices_Concat_byte_byte_2_c er 0 1 7 (by decide) x5 x6 x12 hc20, ⟨.inl rfl, trivial⟩⟩, ⟨⟨rfl, rfl⟩, ⟨rfl, rfl⟩, trivial⟩, rfl⟩, ?_⟩
 refine Or.inl ?_
 refine Or.inr ?_
 obtain ⟨x13, hc20, h⟩ := bnd h
 refine ⟨[], _, _, _, ⟨⟨_, sign_hash_c er 8 4 7 (by decide) 32 32 (List.length x12) x8 x12 x13 hc20, ⟨.inl rfl, trivial⟩⟩, ⟨⟨rfl, rfl⟩, ⟨rfl, rfl⟩, ⟨rfl, rfl⟩, trivial⟩, rfl⟩, ?_⟩
 obtain ⟨x14, hc20, h⟩ := bnd h
 refine ⟨[], _, _, _, ⟨⟨_, points_Base_c er x14 hc20, trivial⟩, trivial, rfl⟩, ?_⟩
 obtain ⟨x15, hc20, h⟩ := bnd h
 refine ⟨[], _, _, _, ⟨⟨_, points_Point_Times_c er x14 x13 x15 hc20, ⟨.inl rfl, .inl rfl, trivial⟩⟩, trivial, rfl⟩, ?_⟩
 obtain ⟨x16, hc20, h⟩ := bnd h
 refine ⟨[], _, _, _, ⟨⟨_, points_Point_Bytes_c er x15 x16 hc20, ⟨.inl rfl, trivial⟩⟩, trivial, rfl⟩, ?_⟩
 refine Or.inl ?_
 refine And.intro (by omega) ?_
 refine ⟨0, 32, ⟨rfl, rfl⟩, ?_⟩
 refine Or.inl ?_
 refine And.intro (by omega) ?_
 refine ⟨0, 32, ⟨rfl, rfl⟩, ?_⟩
 refine Or.inr ?_
 obtain ⟨x17, hc20, h⟩ := bnd h
 refine ⟨[], _, _, _, ⟨⟨_, sign_hash_2_c er 11 10 6 7 (by decide) 32 32 (List.length x12) x16 x11 x12 x17 hc20, ⟨.inl rfl, trivial⟩⟩, ⟨⟨rfl, rfl⟩, ⟨rfl, rfl⟩, ⟨rfl, rfl⟩, ⟨rfl, rfl⟩, trivial⟩, rfl⟩, ?_⟩
 obtain ⟨x18, hc20, h⟩ := bnd h
 refine ⟨[], _, _, _, ⟨⟨_, scalar_Times_c er x17 x7 x18 hc20, ⟨.inl rfl, .inl rfl, trivial⟩⟩, trivial, rfl⟩, ?_⟩
 obtain ⟨x19, hc20, h⟩ := bnd h
 refine ⟨[], _, _, _, ⟨⟨_, scalar_Add_c er x13 x18 x19 hc20, ⟨.inl rfl, .inl rfl, trivial⟩⟩, trivial, rfl⟩, ?_⟩
 refine Or.inl ?_
 refine And.intro (by omega) ?_
 refine ⟨0, 64, ⟨rfl, rfl⟩, ?_⟩
 refine Or.inl ?_
 refine And.intro (by omega) ?_
 refine ⟨0, 32, ⟨rfl, rfl⟩, ?_⟩
 let x20 : List Int := (over (List.replicate 64 (0 : Int)) 0 (List.take 64 (List.take 32 x16)))
 replace h := nm_at x20 rfl h
 refine Or.inl ?_
 refine And.intro (by decide) ?_
 refine ⟨32, 32, ⟨rfl, rfl⟩, ?_⟩
 refine Or.inl ?_
 refine And.intro (by omega) ?_
 refine ⟨0, 32, ⟨rfl, rfl⟩, ?_⟩
 obtain rfl := some_in h
 exact ⟨0, [], [], rfl, rfl, rfl, trivial⟩
theorem sign_Public_c (x22 : List Int) (res : (List Int)) (h : sign_Public x22 = some res) :
  Fn Tryd.prog (GE er) 7 [(.dv (.ints .u8 32 x22))] [] (.dv (.ints .u8 32 res)) [] := by
 refine bE er Tryd.func7 rfl rfl [] [(.dv (.ints .u8 32 x22))] [] [] (.dv (.ints .u8 32 res)) [] rfl rfl rfl rfl rfl rfl .nil 3 ?_
 replace h := (show sign_Public x22 = _ from h)
 unfold sign_Public at h
 obtain ⟨r27, hc27, h⟩ := bnd h
 obtain ⟨x23, x24⟩ := r27
 refine ⟨[], _, _, _, ⟨⟨_, sign_secret_c er 2 (by decide) x22 (x23, x24) hc27, ⟨.inl rfl, trivial⟩⟩, trivial, rfl⟩, ?_⟩
 refine Or.inl ?_
 obtain ⟨x25, hc27, h⟩ := bnd h
 refine ⟨[], _, _, _, ⟨⟨_, points_Base_c er x25 hc27, trivial⟩, trivial, rfl⟩, ?_⟩
 obtain ⟨x26, hc27, h⟩ := bnd h
 refine ⟨[], _, _, _, ⟨⟨_, points_Point_Times_c er x25 x23 x26 hc27, ⟨.inl rfl, .inl rfl, trivial⟩⟩, trivial, rfl⟩, ?_⟩
 obtain ⟨x27, hc27, h⟩ := bnd h
 refine ⟨[], _, _, _, ⟨⟨_, points_Point_Bytes_c er x26 x27 hc27, ⟨.inl rfl, trivial⟩⟩, trivial, rfl⟩, ?_⟩
 obtain rfl := some_in h
 exact ⟨0, [], [], rfl, trivial⟩
theorem field_Read_c (x40 : List Int) (res : T_field_Elem) (h : field_Read x40 = some res) :
  Fn Tryd.prog (GE er) 58 [(.dv (.ints .u8 32 x40))] [] (.dv (T_field_Elem.dv res)) [] := by
 refine bE er Tryd.func58 rfl rfl [] [(.dv (.ints .u8 32 x40))] [] [] (.dv (T_field_Elem.dv res)) [] rfl rfl rfl rfl rfl rfl .nil 3 ?_
 replace h := (show field_Read x40 = _ from h)
 unfold field_Read at h
 obtain ⟨r1_0_41, hl1_41, hr1_41⟩ := bnd h
 refine Or.inr ⟨[1], {p : (List Int) // p = r1_0_41}, ⟨fun | ⟨x41, _⟩ => [], fun | ⟨x41, _⟩ => [(2, (.var (.dv (.cons (.ints .u64 10 x41) .nil))))], fun _ => 0⟩, 0, ?_, ?_⟩
 ·rintro ⟨x41, hp⟩
  subst hp
  replace h := hr1_41
  obtain rfl := some_in h
  exact ⟨0, [], [], rfl, trivial⟩
 ·replace h := hl1_41
  refine Or.inl ?_
  refine ⟨[], {x : Nat × Int × (List Int) // field_Read_l1 x40 x.1 x.2.1 x.2.2 = some r1_0_41}, ⟨fun | ⟨(n1, x42, x43), _⟩ => [(5, (.int .i64 x42))], fun | ⟨(n1, x42, x43), _⟩ => [(2, (.var (.dv (.cons (.ints .u64 10 x43) .nil))))], fun | ⟨(n1, x42, x43), _⟩ => n1⟩, [], [], ⟨(FUEL, 0, (List.replicate 10 (0 : Int))), h⟩, ⟨rfl, ⟨rfl, trivial⟩, ⟨rfl, rfl, rfl, trivial⟩, rfl⟩, ?_⟩
  rintro ⟨⟨n1, x42, x43⟩, h⟩
  cases n1 with
  | zero => exact no_none h
  | succ n1 =>
   replace h := (show field_Read_l1 x40 (n1 + 1) x42 x43 = _ from h)
   replace h := (field_Read_l1.eq_2 .. ).symm.trans h
   refine And.intro (fun hb => ?_) (fun hb => ?_)
   ·replace h := cond_t h hb
    refine Or.inl ?_
    refine And.intro (by decide) ?_
    obtain ⟨hg, h⟩ := gd h
    refine And.intro hg ?_
    let x44 : Int := (List.getD x43 (Int.toNat (IntKind.wrap .i64 (Int.tdiv x42 26))) 0)
    replace h := nm_at x44 rfl h
    refine And.intro (by decide) ?_
    obtain ⟨hg, h⟩ := gd h
    refine And.intro hg ?_
    let x45 : Int := (List.getD x40 (Int.toNat (IntKind.wrap .i64 (Int.tdiv x42 8))) 0)
    replace h := nm_at x45 rfl h
    refine And.intro (by decide) ?_
    obtain ⟨hg, h⟩ := gd h
    refine And.intro hg ?_
    let x46 : Int := (Int.fdiv x45 (2 ^ (min (Int.toNat (Int.tmod x42 8)) (IntKind.bits .u8))))
    replace h := nm_at x46 rfl h
    refine And.intro (by decide) ?_
    obtain ⟨hg, h⟩ := gd h
    refine And.intro hg ?_
    let x47 : Int := (IntKind.wrap .u64 ((IntKind.wrap .u64 (bits .u8 .and x46 1)) * 2 ^ (min (Int.toNat (Int.tmod x42 26)) (IntKind.bits .u64))))
    replace h := nm_at x47 rfl h
    obtain ⟨hg, h⟩ := gd h
    refine And.intro hg ?_
    let x48 : List Int := (List.set x43 (Int.toNat (IntKind.wrap .i64 (Int.tdiv x42 26))) (bits .u64 .or x44 x47))
    replace h := nm_at x48 rfl h
    exact ⟨⟨(n1, (IntKind.wrap .i64 (x42 + 1)), x48), h⟩, [], ⟨rfl, ⟨rfl, trivial⟩, ⟨rfl, rfl, rfl, trivial⟩, rfl⟩, Nat.lt_succ_self _⟩
   ·replace h := cond_f h hb
    exact ⟨[], [], ⟨x43, some_in h⟩, [], rfl, trivial, ⟨rfl, rfl, rfl, trivial⟩, rfl⟩
theorem field_Strict_c (x39 : List Int) (res : (T_field_Elem ⊕ Unit)) (h : field_Strict x39 = some res) :
  Fn Tryd.prog (GE er) 40 [(.dv (.ints .u8 32 x39))] [] (match res with | (Sum.inl p0) => (.tup [(.dv (T_field_Elem.dv p0)), (.dv (.sc .nilIface))]) | (Sum.inr _) => (.tup [(.dv (T_field_Elem.dv ({ fn := (List.replicate 10 (0 : Int)) } : T_field_Elem))), (errA er 4)])) (match res with | (Sum.inl p0) => [] | (Sum.inr _) => []) := by
 refine bE er Tryd.func40 rfl rfl [] [(.dv (.ints .u8 32 x39))] [] [] (match res with | (Sum.inl p0) => (.tup [(.dv (T_field_Elem.dv p0)), (.dv (.sc .nilIface))]) | (Sum.inr _) => (.tup [(.dv (T_field_Elem.dv ({ fn := (List.replicate 10 (0 : Int)) } : T_field_Elem))), (errA er 4)])) (match res with | (Sum.inl p0) => [] | (Sum.inr _) => []) rfl rfl (by rcases res with _ | _ <;> rfl) (by rcases res with _ | _ <;> rfl) (by rcases res with _ | _ <;> rfl) (by rcases res with _ | _ <;> rfl) (by rcases res with _ | _ <;> exact .nil) 3 ?_
 replace h := (show field_Strict x39 = _ from h)
 unfold field_Strict at h
 obtain ⟨x40, hc41, h⟩ := bnd h
 refine ⟨[], _, _, _, ⟨⟨_, field_Read_c er x39 x40 hc41, ⟨.inl rfl, trivial⟩⟩, trivial, rfl⟩, ?_⟩
 obtain ⟨x41, hc41, h⟩ := bnd h
 refine ⟨[], _, _, _, ⟨⟨_, field_Elem_Bytes_c er x40 x41 hc41, ⟨.inl rfl, trivial⟩⟩, trivial, rfl⟩, ?_⟩
 refine And.intro (fun hb => ?_) (fun hb => ?_)
 ·replace h := cond_t h hb
  obtain rfl := some_in h
  exact ⟨0, [], [], rfl, trivial⟩
 ·replace h := cond_f h hb
  obtain rfl := some_in h
  exact ⟨0, [], [], rfl, trivial⟩
theorem words_Equal_c (x62 : List Int) (x63 : List Int) (res : Bool) (h : words_Equal x62 x63 = some res) :
  Fn Tryd.prog (GE er) 20 [(.dv (.roI .u8 x62)), (.dv (.roI .u8 x63))] [] (.bl res) [] := by
 refine bE er Tryd.func20 rfl rfl [] [(.dv (.roI .u8 x62)), (.dv (.roI .u8 x63))] [] [] (.bl res) [] rfl rfl rfl rfl rfl rfl .nil 3 ?_
 replace h := (show words_Equal x62 x63 = _ from h)
 unfold words_Equal at h
 refine And.intro (fun hb => ?_) (fun hb => ?_)
 ·replace h := cond_t h hb
  obtain rfl := some_in h
  exact ⟨0, [], [], rfl, trivial⟩
 ·replace h := cond_f h hb
  obtain ⟨r1_0_64, hl1_64, hr1_64⟩ := bnd h
  refine Or.inr ⟨[13], {p : Int // p = r1_0_64}, ⟨fun | ⟨x64, _⟩ => [(5, (.int .u8 x64))], fun | ⟨x64, _⟩ => [], fun _ => 0⟩, 0, ?_, ?_⟩
  ·rintro ⟨x64, hp⟩
   subst hp
   replace h := hr1_64
   obtain rfl := some_in h
   exact ⟨0, [], [], rfl, trivial⟩
  ·replace h := hl1_64
   refine Or.inl ?_
   refine ⟨[], {x : Nat × Int × Int // words_Equal_l1 x62 x63 x.1 x.2.1 x.2.2 = some r1_0_64}, ⟨fun | ⟨(n1, x65, x66), _⟩ => [(5, (.int .u8 x65)), (14, (.int .i64 x66))], fun | ⟨(n1, x65, x66), _⟩ => [], fun | ⟨(n1, x65, x66), _⟩ => n1⟩, [], [], ⟨(FUEL, 0, 0), h⟩, ⟨rfl, ⟨rfl, rfl, trivial⟩, trivial, rfl⟩, ?_⟩
   rintro ⟨⟨n1, x65, x66⟩, h⟩
   cases n1 with
   | zero => exact no_none h
   | succ n1 =>
    replace h := (show words_Equal_l1 x62 x63 (n1 + 1) x65 x66 = _ from h)
    replace h := (words_Equal_l1.eq_2 .. ).symm.trans h
    refine And.intro (fun hb => ?_) (fun hb => ?_)
    ·replace h := cond_t h hb
     refine Or.inl ?_
     obtain ⟨hg, h⟩ := gd h
     refine And.intro hg ?_
     obtain ⟨hg, h⟩ := gd h
     refine And.intro hg ?_
     let x67 : Int := (bits .u8 .xor (List.getD x62 (Int.toNat x66) 0) (List.getD x63 (Int.toNat x66) 0))
     replace h := nm_at x67 rfl h
     exact ⟨⟨(n1, (bits .u8 .or x65 x67), (IntKind.wrap .i64 (x66 + 1))), h⟩, [], ⟨rfl, ⟨rfl, rfl, trivial⟩, trivial, rfl⟩, Nat.lt_succ_self _⟩
    ·replace h := cond_f h hb
     exact ⟨[], [], ⟨x65, some_in h⟩, [], rfl, ⟨rfl, trivial⟩, trivial, rfl⟩
theorem field_Elem_Same_c (x58 : T_field_Elem) (x59 : T_field_Elem) (res : Bool) (h : field_Elem_Same x58 x59 = some res) :
  Fn Tryd.prog (GE er) 59 [(.dv (T_field_Elem.dv x58)), (.dv (T_field_Elem.dv x59))] [] (.bl res) [] := by
 refine bE er Tryd.func59 rfl rfl [] [(.dv (T_field_Elem.dv x58)), (.dv (T_field_Elem.dv x59))] [] [] (.bl res) [] rfl rfl rfl rfl rfl rfl .nil 3 ?_
 replace h := (show field_Elem_Same x58 x59 = _ from h)
 unfold field_Elem_Same at h
 obtain ⟨x60, hc62, h⟩ := bnd h
 refine ⟨[], _, _, _, ⟨⟨_, field_Elem_Bytes_c er x58 x60 hc62, ⟨.inl rfl, trivial⟩⟩, trivial, rfl⟩, ?_⟩
 obtain ⟨x61, hc62, h⟩ := bnd h
 refine ⟨[], _, _, _, ⟨⟨_, field_Elem_Bytes_c er x59 x61 hc62, ⟨.inl rfl, trivial⟩⟩, trivial, rfl⟩, ?_⟩
 refine Or.inl ?_
 refine And.intro (by omega) ?_
 refine ⟨0, 32, ⟨rfl, rfl⟩, ?_⟩
 refine Or.inl ?_
 refine And.intro (by omega) ?_
 refine ⟨0, 32, ⟨rfl, rfl⟩, ?_⟩
 obtain ⟨x62, hc62, h⟩ := bnd h
 refine ⟨[true, true], _, _, _, ⟨⟨_, words_Equal_c er (List.take 32 x60) (List.take 32 x61) x62 hc62, ⟨.inl rfl, .inl rfl, trivial⟩⟩, trivial, rfl⟩, ?_⟩
 obtain rfl := some_in h
 exact ⟨0, [], [], rfl, trivial⟩
theorem field_Elem_Root_c (x51 : T_field_Elem) (res : T_field_Elem × Bool) (h : field_Elem_Root x51 = some res) :
  Fn Tryd.prog (GE er) 46 [(.dv (T_field_Elem.dv x51))] [] (.tup [(.dv (T_field_Elem.dv res.1)), (.bl res.2)]) [] := by
 refine bE er Tryd.func46 rfl rfl [] [(.dv (T_field_Elem.dv x51))] [] [] (.tup [(.dv (T_field_Elem.dv res.1)), (.bl res.2)]) [] rfl rfl rfl rfl rfl rfl .nil 3 ?_
 replace h := (show field_Elem_Root x51 = _ from h)
 unfold field_Elem_Root at h
 obtain ⟨r65, hc65, h⟩ := bnd h
 obtain ⟨x52, x53⟩ := r65
 refine ⟨[], _, _, _, ⟨⟨_, field_Elem_power_c er x51 (x52, x53) hc65, ⟨.inl rfl, trivial⟩⟩, trivial, rfl⟩, ?_⟩
 obtain ⟨x54, hc65, h⟩ := bnd h
 refine ⟨[], _, _, _, ⟨⟨_, field_Elem_Square_c er x52 x54 hc65, ⟨.inl rfl, trivial⟩⟩, trivial, rfl⟩, ?_⟩
 obtain ⟨x55, hc65, h⟩ := bnd h
 refine ⟨[], _, _, _, ⟨⟨_, field_Elem_Times_c er x54 x51 x55 hc65, ⟨.inl rfl, .inl rfl, trivial⟩⟩, trivial, rfl⟩, ?_⟩
 obtain ⟨x56, hc65, h⟩ := bnd h
 refine ⟨[], _, _, _, ⟨⟨_, field_Elem_Square_c er x55 x56 hc65, ⟨.inl rfl, trivial⟩⟩, trivial, rfl⟩, ?_⟩
 obtain ⟨x57, hc65, h⟩ := bnd h
 refine ⟨[], _, _, _, ⟨⟨_, field_Elem_Square_c er x56 x57 hc65, ⟨.inl rfl, trivial⟩⟩, trivial, rfl⟩, ?_⟩
 obtain ⟨x58, hc65, h⟩ := bnd h
 refine ⟨[], _, _, _, ⟨⟨_, field_Elem_Same_c er x57 x51 x58 hc65, ⟨.inl rfl, .inl rfl, trivial⟩⟩, trivial, rfl⟩, ?_⟩
 obtain ⟨r1_0_59, hl1_59, hr1_59⟩ := bnd h
 refine Or.inr ⟨[], {p : T_field_Elem // p = r1_0_59}, ⟨fun | ⟨x59, _⟩ => [], fun | ⟨x59, _⟩ => [(4, (.var (.dv (T_field_Elem.dv x59))))], fun _ => 0⟩, 0, ?_, ?_⟩
 ·rintro ⟨x59, hp⟩
  subst hp
  replace h := hr1_59
  obtain ⟨x61, hc65, h⟩ := bnd h
  refine ⟨[], _, _, _, ⟨⟨_, field_Elem_Square_c er x59 x61 hc65, ⟨.inl rfl, trivial⟩⟩, trivial, rfl⟩, ?_⟩
  obtain ⟨x62, hc65, h⟩ := bnd h
  refine ⟨[], _, _, _, ⟨⟨_, field_Elem_Same_c er x61 x51 x62 hc65, ⟨.inl rfl, .inl rfl, trivial⟩⟩, trivial, rfl⟩, ?_⟩
  refine And.intro (fun hb => ?_) (fun hb => ?_)
  ·replace h := cond_t h hb
   obtain rfl := some_in h
   exact ⟨0, [], [], rfl, trivial⟩
  ·replace h := cond_f h hb
   obtain ⟨x63, hc65, h⟩ := bnd h
   refine ⟨[], _, _, _, ⟨⟨_, field_Elem_Odd_c er x59 x63 hc65, ⟨.inl rfl, trivial⟩⟩, trivial, rfl⟩, ?_⟩
   obtain ⟨r2_0_64, hl2_64, hr2_64⟩ := bnd h
   refine Or.inr ⟨[], {p : T_field_Elem // p = r2_0_64}, ⟨fun | ⟨x64, _⟩ => [], fun | ⟨x64, _⟩ => [(4, (.var (.dv (T_field_Elem.dv x64))))], fun _ => 0⟩, 0, ?_, ?_⟩
   ·rintro ⟨x64, hp⟩
    subst hp
    replace h := hr2_64
    obtain rfl := some_in h
    exact ⟨0, [], [], rfl, trivial⟩
   ·replace h := hl2_64
    refine And.intro (fun hb => ?_) (fun hb => ?_)
    ·replace h := cond_t h hb
     obtain ⟨x65, hc65, h⟩ := bnd h
     refine ⟨[], _, _, _, ⟨⟨_, field_Elem_Sub_c er ({ fn := (List.replicate 10 (0 : Int)) } : T_field_Elem) x59 x65 hc65, ⟨.inl rfl, .inl rfl, trivial⟩⟩, trivial, rfl⟩, ?_⟩
     exact ⟨[], [], ⟨x65, some_in h⟩, [], rfl, trivial, ⟨rfl, rfl, rfl, rfl, rfl, trivial⟩, rfl⟩
    ·replace h := cond_f h hb
     exact ⟨[], [], ⟨x59, some_in h⟩, [], rfl, trivial, ⟨rfl, rfl, rfl, rfl, rfl, trivial⟩, rfl⟩
 ·replace h := hl1_59
  refine And.intro (fun hb => ?_) (fun hb => ?_)
  ·replace h := cond_t h hb
   obtain ⟨x60, hc60, h⟩ := bnd h
   refine ⟨[], _, _, _, ⟨⟨_, field_Elem_Times_c er x56 ({ fn := tb_field_minus } : T_field_Elem) x60 hc60, ⟨.inl rfl, .inl rfl, trivial⟩⟩, trivial, rfl⟩, ?_⟩
   exact ⟨[], [], ⟨x60, some_in h⟩, [], rfl, trivial, ⟨rfl, rfl, rfl, rfl, rfl, trivial⟩, rfl⟩
  ·replace h := cond_f h hb
   exact ⟨[], [], ⟨x56, some_in h⟩, [], rfl, trivial, ⟨rfl, rfl, rfl, rfl, rfl, trivial⟩, rfl⟩
theorem words_Zero_c (x70 : List Int) (res : Bool) (h : words_Zero x70 = some res) :
  Fn Tryd.prog (GE er) 60 [(.dv (.roI .u8 x70))] [] (.bl res) [] := by
 refine bE er Tryd.func60 rfl rfl [] [(.dv (.roI .u8 x70))] [] [] (.bl res) [] rfl rfl rfl rfl rfl rfl .nil 3 ?_
 replace h := (show words_Zero x70 = _ from h)
 unfold words_Zero at h
 obtain ⟨r1_0_71, hl1_71, hr1_71⟩ := bnd h
 refine Or.inr ⟨[7], {p : Int // p = r1_0_71}, ⟨fun | ⟨x71, _⟩ => [(3, (.int .u8 x71))], fun | ⟨x71, _⟩ => [], fun _ => 0⟩, 0, ?_, ?_⟩
 ·rintro ⟨x71, hp⟩
  subst hp
  replace h := hr1_71
  obtain rfl := some_in h
  exact ⟨0, [], [], rfl, trivial⟩
 ·replace h := hl1_71
  refine Or.inl ?_
  refine ⟨[], {x : Nat × Int × Int // words_Zero_l1 x70 x.1 x.2.1 x.2.2 = some r1_0_71}, ⟨fun | ⟨(n1, x72, x73), _⟩ => [(3, (.int .u8 x72)), (8, (.int .i64 x73))], fun | ⟨(n1, x72, x73), _⟩ => [], fun | ⟨(n1, x72, x73), _⟩ => n1⟩, [], [], ⟨(FUEL, 0, 0), h⟩, ⟨rfl, ⟨rfl, rfl, trivial⟩, trivial, rfl⟩, ?_⟩
  rintro ⟨⟨n1, x72, x73⟩, h⟩
  cases n1 with
  | zero => exact no_none h
  | succ n1 =>
   replace h := (show words_Zero_l1 x70 (n1 + 1) x72 x73 = _ from h)
   replace h := (words_Zero_l1.eq_2 .. ).symm.trans h
   refine And.intro (fun hb => ?_) (fun hb => ?_)
   ·replace h := cond_t h hb
    refine Or.inl ?_
    obtain ⟨hg, h⟩ := gd h
    refine And.intro hg ?_
    exact ⟨⟨(n1, (bits .u8 .or x72 (List.getD x70 (Int.toNat x73) 0)), (IntKind.wrap .i64 (x73 + 1))), h⟩, [], ⟨rfl, ⟨rfl, rfl, trivial⟩, trivial, rfl⟩, Nat.lt_succ_self _⟩
   ·replace h := cond_f h hb
    exact ⟨[], [], ⟨x72, some_in h⟩, [], rfl, ⟨rfl, trivial⟩, trivial, rfl⟩
theorem field_Elem_Zero_c (x68 : T_field_Elem) (res : Bool) (h : field_Elem_Zero x68 = some res) :
  Fn Tryd.prog (GE er) 47 [(.dv (T_field_Elem.dv x68))] [] (.bl res) [] := by
 refine bE er Tryd.func47 rfl rfl [] [(.dv (T_field_Elem.dv x68))] [] [] (.bl res) [] rfl rfl rfl rfl rfl rfl .nil 3 ?_
 replace h := (show field_Elem_Zero x68 = _ from h)
 unfold field_Elem_Zero at h
 obtain ⟨x69, hc70, h⟩ := bnd h
 refine ⟨[], _, _, _, ⟨⟨_, field_Elem_Bytes_c er x68 x69 hc70, ⟨.inl rfl, trivial⟩⟩, trivial, rfl⟩, ?_⟩
 refine Or.inl ?_
 refine And.intro (by omega) ?_
 refine ⟨0, 32, ⟨rfl, rfl⟩, ?_⟩
 obtain ⟨x70, hc70, h⟩ := bnd h
 refine ⟨[true], _, _, _, ⟨⟨_, words_Zero_c er (List.take 32 x69) x70 hc70, ⟨.inl rfl, trivial⟩⟩, trivial, rfl⟩, ?_⟩
 obtain rfl := some_in h
 exact ⟨0, [], [], rfl, trivial⟩
theorem points_Read_c (x37 : List Int) (res : (T_points_Point ⊕ T_points_Point)) (h : points_Read x37 = some res) :
  Fn Tryd.prog (GE er) 16 [(.dv (.ints .u8 32 x37))] [] (match res with | (Sum.inl p0) => (.tup [(.dv (T_points_Point.dv p0)), (.dv (.sc .nilIface))]) | (Sum.inr p0) => (.tup [(.dv (T_points_Point.dv p0)), (errA er 4)])) (match res with | (Sum.inl p0) => [] | (Sum.inr p0) => []) := by
 refine bE er Tryd.func16 rfl rfl [] [(.dv (.ints .u8 32 x37))] [] [] (match res with | (Sum.inl p0) => (.tup [(.dv (T_points_Point.dv p0)), (.dv (.sc .nilIface))]) | (Sum.inr p0) => (.tup [(.dv (T_points_Point.dv p0)), (errA er 4)])) (match res with | (Sum.inl p0) => [] | (Sum.inr p0) => []) rfl rfl (by rcases res with _ | _ <;> rfl) (by rcases res with _ | _ <;> rfl) (by rcases res with _ | _ <;> rfl) (by rcases res with _ | _ <;> rfl) (by rcases res with _ | _ <;> exact .nil) 3 ?_
 replace h := (show points_Read x37 = _ from h)
 unfold points_Read at h
 refine And.intro (by decide) ?_
 refine And.intro (by decide) ?_
 refine And.intro (by decide) ?_
 let x38 : List Int := (List.set x37 31 (bits .u8 .andNot (List.getD x37 31 0) 128))
 replace h := nm_at x38 rfl h
 obtain ⟨r58, hc58, h⟩ := bnd h
 rcases r58 with x39 | ⟨⟩
 ·refine ⟨[], _, _, _, ⟨⟨_, field_Strict_c er x38 (Sum.inl x39) hc58, ⟨.inl rfl, trivial⟩⟩, trivial, rfl⟩, ?_⟩
  refine And.intro (fun h0 => Bool.noConfusion h0) (fun _ => ?_)
  obtain ⟨x40, hc58, h⟩ := bnd h
  refine ⟨[], _, _, _, ⟨⟨_, field_Elem_Square_c er x39 x40 hc58, ⟨.inl rfl, trivial⟩⟩, trivial, rfl⟩, ?_⟩
  obtain ⟨x41, hc58, h⟩ := bnd h
  refine ⟨[], _, _, _, ⟨⟨_, field_Small_c er 1 x41 hc58, ⟨.inl rfl, trivial⟩⟩, trivial, rfl⟩, ?_⟩
  obtain ⟨x42, hc58, h⟩ := bnd h
  refine ⟨[], _, _, _, ⟨⟨_, field_Elem_Sub_c er x40 x41 x42 hc58, ⟨.inl rfl, .inl rfl, trivial⟩⟩, trivial, rfl⟩, ?_⟩
  obtain ⟨x43, hc58, h⟩ := bnd h
  refine ⟨[], _, _, _, ⟨⟨_, field_Curve_c er x43 hc58, trivial⟩, trivial, rfl⟩, ?_⟩
  obtain ⟨x44, hc58, h⟩ := bnd h
  refine ⟨[], _, _, _, ⟨⟨_, field_Elem_Times_c er x43 x40 x44 hc58, ⟨.inl rfl, .inl rfl, trivial⟩⟩, trivial, rfl⟩, ?_⟩
  obtain ⟨x45, hc58, h⟩ := bnd h
  refine ⟨[], _, _, _, ⟨⟨_, field_Elem_Add_c er x44 x41 x45 hc58, ⟨.inl rfl, .inl rfl, trivial⟩⟩, trivial, rfl⟩, ?_⟩
  obtain ⟨x46, hc58, h⟩ := bnd h
  refine ⟨[], _, _, _, ⟨⟨_, field_Elem_Invert_c er x45 x46 hc58, ⟨.inl rfl, trivial⟩⟩, trivial, rfl⟩, ?_⟩
  obtain ⟨x47, hc58, h⟩ := bnd h
  refine ⟨[], _, _, _, ⟨⟨_, field_Elem_Times_c er x42 x46 x47 hc58, ⟨.inl rfl, .inl rfl, trivial⟩⟩, trivial, rfl⟩, ?_⟩
  obtain ⟨r58, hc58, h⟩ := bnd h
  obtain ⟨x48, x49⟩ := r58
  refine ⟨[], _, _, _, ⟨⟨_, field_Elem_Root_c er x47 (x48, x49) hc58, ⟨.inl rfl, trivial⟩⟩, trivial, rfl⟩, ?_⟩
  refine And.intro (fun hb => ?_) (fun hb => ?_)
  ·replace h := cond_t h hb
   obtain rfl := some_in h
   exact ⟨0, [], [], rfl, trivial⟩
  ·replace h := cond_f h hb
   refine And.intro (fun hb => ?_) (fun hb => ?_)
   ·replace h := cond_t h hb
    obtain ⟨x50, hc54, h⟩ := bnd h
    refine ⟨[], _, _, _, ⟨⟨_, field_Elem_Zero_c er x48 x50 hc54, ⟨.inl rfl, trivial⟩⟩, trivial, rfl⟩, ?_⟩
    refine And.intro (fun hb => ?_) (fun hb => ?_)
    ·replace h := cond_t h hb
     obtain rfl := some_in h
     exact ⟨0, [], [], rfl, trivial⟩
    ·replace h := cond_f h hb
     obtain ⟨r1_0_51, hl1_51, hr1_51⟩ := bnd h
     refine Or.inr ⟨[], {p : T_field_Elem // p = r1_0_51}, ⟨fun | ⟨x51, _⟩ => [], fun | ⟨x51, _⟩ => [(5, (.var (.dv (T_field_Elem.dv x51))))], fun _ => 0⟩, 0, ?_, ?_⟩
     ·rintro ⟨x51, hp⟩
      subst hp
      replace h := hr1_51
      obtain ⟨x54, hc54, h⟩ := bnd h
      refine ⟨[], _, _, _, ⟨⟨_, points_at_c er x51 x39 x54 hc54, ⟨.inl rfl, .inl rfl, trivial⟩⟩, trivial, rfl⟩, ?_⟩
      obtain rfl := some_in h
      exact ⟨0, [], [], rfl, trivial⟩
     ·replace h := hl1_51
      refine And.intro (fun hb => ?_) (fun hb => ?_)
      ·replace h := cond_t h hb
       obtain ⟨x52, hc53, h⟩ := bnd h
       refine ⟨[], _, _, _, ⟨⟨_, field_Small_c er 0 x52 hc53, ⟨.inl rfl, trivial⟩⟩, trivial, rfl⟩, ?_⟩
       obtain ⟨x53, hc53, h⟩ := bnd h
       refine ⟨[], _, _, _, ⟨⟨_, field_Elem_Sub_c er x52 x48 x53 hc53, ⟨.inl rfl, .inl rfl, trivial⟩⟩, trivial, rfl⟩, ?_⟩
       exact ⟨[], [], ⟨x53, some_in h⟩, [], rfl, trivial, ⟨rfl, rfl, rfl, rfl, rfl, rfl, trivial⟩, rfl⟩
      ·replace h := cond_f h hb
       exact ⟨[], [], ⟨x48, some_in h⟩, [], rfl, trivial, ⟨rfl, rfl, rfl, rfl, rfl, rfl, trivial⟩, rfl⟩
   ·replace h := cond_f h hb
    obtain ⟨r2_0_55, hl2_55, hr2_55⟩ := bnd h
    refine Or.inr ⟨[], {p : T_field_Elem // p = r2_0_55}, ⟨fun | ⟨x55, _⟩ => [], fun | ⟨x55, _⟩ => [(5, (.var (.dv (T_field_Elem.dv x55))))], fun _ => 0⟩, 0, ?_, ?_⟩
    ·rintro ⟨x55, hp⟩
     subst hp
     replace h := hr2_55
     obtain ⟨x58, hc58, h⟩ := bnd h
     refine ⟨[], _, _, _, ⟨⟨_, points_at_c er x55 x39 x58 hc58, ⟨.inl rfl, .inl rfl, trivial⟩⟩, trivial, rfl⟩, ?_⟩
     obtain rfl := some_in h
     exact ⟨0, [], [], rfl, trivial⟩
    ·replace h := hl2_55
     refine And.intro (fun hb => ?_) (fun hb => ?_)
     ·replace h := cond_t h hb
      obtain ⟨x56, hc57, h⟩ := bnd h
      refine ⟨[], _, _, _, ⟨⟨_, field_Small_c er 0 x56 hc57, ⟨.inl rfl, trivial⟩⟩, trivial, rfl⟩, ?_⟩
      obtain ⟨x57, hc57, h⟩ := bnd h
      refine ⟨[], _, _, _, ⟨⟨_, field_Elem_Sub_c er x56 x48 x57 hc57, ⟨.inl rfl, .inl rfl, trivial⟩⟩, trivial, rfl⟩, ?_⟩
      exact ⟨[], [], ⟨x57, some_in h⟩, [], rfl, trivial, ⟨rfl, rfl, rfl, rfl, rfl, rfl, trivial⟩, rfl⟩
     ·replace h := cond_f h hb
      exact ⟨[], [], ⟨x48, some_in h⟩, [], rfl, trivial, ⟨rfl, rfl, rfl, rfl, rfl, rfl, trivial⟩, rfl⟩
 ·refine ⟨[], _, _, _, ⟨⟨_, field_Strict_c er x38 (Sum.inr ()) hc58, ⟨.inl rfl, trivial⟩⟩, trivial, rfl⟩, ?_⟩
  refine And.intro (fun _ => ?_) (fun h0 => Bool.noConfusion h0)
  obtain rfl := some_in h
  exact ⟨0, [], [], rfl, trivial⟩
theorem scalar_Right_c (x60 : List Int) (res : Bool) (h : scalar_Right x60 = some res) :
  Fn Tryd.prog (GE er) 17 [(.dv (.ints .u8 32 x60))] [] (.bl res) [] := by
 refine bE er Tryd.func17 rfl rfl [] [(.dv (.ints .u8 32 x60))] [] [] (.bl res) [] rfl rfl rfl rfl rfl rfl .nil 3 ?_
 replace h := (show scalar_Right x60 = _ from h)
 unfold scalar_Right at h
 refine Or.inl ?_
 refine And.intro (by omega) ?_
 refine ⟨0, 32, ⟨rfl, rfl⟩, ?_⟩
 obtain ⟨x61, hc63, h⟩ := bnd h
 refine ⟨[true], _, _, _, ⟨⟨_, scalar_mod_c er (List.take 32 x60) x61 hc63, ⟨.inl rfl, trivial⟩⟩, trivial, rfl⟩, ?_⟩
 obtain ⟨x62, hc63, h⟩ := bnd h
 refine ⟨[], _, _, _, ⟨⟨_, scalar_number_bytes_c er x61 x62 hc63, ⟨.inl rfl, trivial⟩⟩, trivial, rfl⟩, ?_⟩
 refine Or.inl ?_
 refine And.intro (by omega) ?_
 refine ⟨0, 32, ⟨rfl, rfl⟩, ?_⟩
 refine Or.inl ?_
 refine And.intro (by omega) ?_
 refine ⟨0, 32, ⟨rfl, rfl⟩, ?_⟩
 obtain ⟨x63, hc63, h⟩ := bnd h
 refine ⟨[true, true], _, _, _, ⟨⟨_, words_Equal_c er (List.take 32 x62) (List.take 32 x60) x63 hc63, ⟨.inl rfl, .inl rfl, trivial⟩⟩, trivial, rfl⟩, ?_⟩
 obtain rfl := some_in h
 exact ⟨0, [], [], rfl, trivial⟩
theorem shawide_padded_4_c (b0 b1 b2 b3 k0 : Nat) (hn : [b0, b1, b2, b3, k0].Nodup) (x79 : Nat) (x80 : Nat) (x81 : Nat) (x82 : List Int) (x83 : List Int) (x84 : List Int) (res : Unit) (h : shawide_padded_4 x79 x80 x81 x82 x83 x84 = some res) :
  Fn Tryd.prog (GE er) 49 [(.vs b0 0 3)] [(b0, (.var (.cons (.sl b1 [] ly5 0 x79) (.cons (.sl b2 [] ly5 0 x80) (.cons (.sl b3 [] ly5 0 x81) (.dv .nil)))))), (b1, (.frzI .u8 x82)), (b2, (.var (.dv (.ints .u8 32 x83)))), (b3, (.rowI .u8 x84))] (.fn 61 [(.ptr k0 [] ly32)]) [(b0, (.var (.cons (.sl b1 [] ly5 0 x79) (.cons (.sl b2 [] ly5 0 x80) (.cons (.sl b3 [] ly5 0 x81) (.dv .nil)))))), (b1, (.frzI .u8 x82)), (b2, (.var (.dv (.ints .u8 32 x83)))), (b3, (.rowI .u8 x84)), (k0, (.var (.vs b0 0 3)))] := by
 refine bE er Tryd.func49 rfl rfl [(0, b0), (1, b1), (2, b2), (3, b3), (4, k0)] [(.vs 0 0 3)] [(.var (.cons (.sl 1 [] ly5 0 x79) (.cons (.sl 2 [] ly5 0 x80) (.cons (.sl 3 [] ly5 0 x81) (.dv .nil))))), (.frzI .u8 x82), (.var (.dv (.ints .u8 32 x83))), (.rowI .u8 x84)] [4] (.fn 61 [(.ptr 4 [] ly32)]) [(.var (.cons (.sl 1 [] ly5 0 x79) (.cons (.sl 2 [] ly5 0 x80) (.cons (.sl 3 [] ly5 0 x81) (.dv .nil))))), (.frzI .u8 x82), (.var (.dv (.ints .u8 32 x83))), (.rowI .u8 x84), (.var (.vs 0 0 3))] rfl rfl rfl rfl rfl rfl hn 3 ?_
 replace h := (show shawide_padded_4 x79 x80 x81 x82 x83 x84 = _ from h)
 unfold shawide_padded_4 at h
 obtain rfl := some_in h
 exact ⟨0, [], [], rfl, rfl, rfl, rfl, rfl, rfl, trivial⟩
theorem slices_Concat_byte_byte_5_c (b0 b1 b2 b3 k0 : Nat) (hn : [b0, b1, b2, b3, k0].Nodup) (x85 : Nat) (x86 : Nat) (x87 : Nat) (x88 : List Int) (x89 : List Int) (x90 : List Int) (res : (List Int)) (h : slices_Concat_byte_byte_5 x85 x86 x87 x88 x89 x90 = some res) :
  Fn Tryd.prog (GE er) 12 [(.vs b0 0 3)] [(b0, (.var (.cons (.sl b1 [] ly5 0 x85) (.cons (.sl b2 [] ly5 0 x86) (.cons (.sl b3 [] ly5 0 x87) (.dv .nil)))))), (b1, (.frzI .u8 x88)), (b2, (.var (.dv (.ints .u8 32 x89)))), (b3, (.rowI .u8 x90))] (.sl k0 [] ly5 0 (List.length res)) [(b0, (.var (.cons (.sl b1 [] ly5 0 x85) (.cons (.sl b2 [] ly5 0 x86) (.cons (.sl b3 [] ly5 0 x87) (.dv .nil)))))), (b1, (.frzI .u8 x88)), (b2, (.var (.dv (.ints .u8 32 x89)))), (b3, (.rowI .u8 x90)), (k0, (.rowI .u8 res))] := by
 refine bE er Tryd.func12 rfl rfl [(0, b0), (1, b1), (2, b2), (3, b3), (5, k0)] [(.vs 0 0 3)] [(.var (.cons (.sl 1 [] ly5 0 x85) (.cons (.sl 2 [] ly5 0 x86) (.cons (.sl 3 [] ly5 0 x87) (.dv .nil))))), (.frzI .u8 x88), (.var (.dv (.ints .u8 32 x89))), (.rowI .u8 x90)] [5] (.sl 5 [] ly5 0 (List.length res)) [(.var (.cons (.sl 1 [] ly5 0 x85) (.cons (.sl 2 [] ly5 0 x86) (.cons (.sl 3 [] ly5 0 x87) (.dv .nil))))), (.frzI .u8 x88), (.var (.dv (.ints .u8 32 x89))), (.rowI .u8 x90), (.rowI .u8 res)] rfl rfl rfl rfl rfl rfl hn 3 ?_
 replace h := (show slices_Concat_byte_byte_5 x85 x86 x87 x88 x89 x90 = _ from h)
 unfold slices_Concat_byte_byte_5 at h
 obtain ⟨r1_0_91, hl1_91, hr1_91⟩ := bnd h
 refine Or.inr ⟨[10], {p : Int // p = r1_0_91}, ⟨fun | ⟨x91, _⟩ => [(3, (.int .i64 x91))], fun | ⟨x91, _⟩ => [], fun _ => 0⟩, 0, ?_, ?_⟩
 ·rintro ⟨x91, hp⟩
  subst hp
  replace h := hr1_91
  obtain ⟨r96, hc96, h⟩ := bnd h
  obtain ⟨x93, x94⟩ := r96
  refine ⟨[], _, _, _, ⟨⟨_, slices_Grow_byte_byte_2_c er 4 (by decide) x91 (x93, x94) hc96, ⟨.inl rfl, .inl rfl, trivial⟩⟩, trivial, rfl⟩, ?_⟩
  refine Or.inl ?_
  obtain ⟨r2_0_95, hl2_95, hr2_95⟩ := bnd h
  refine Or.inr ⟨[24, 26], {p : (List Int) // p = r2_0_95}, ⟨fun | ⟨x95, _⟩ => [(6, (.sl 5 [] ly5 0 (List.length x95)))], fun | ⟨x95, _⟩ => [(4, .dead), (5, (.rowI .u8 x95))], fun _ => 0⟩, 1, ?_, ?_⟩
  ·rintro ⟨x95, hp⟩
   subst hp
   replace h := hr2_95
   obtain rfl := some_in h
   exact ⟨0, [], [], rfl, rfl, rfl, rfl, rfl, rfl, trivial⟩
  ·replace h := hl2_95
   refine Or.inr ⟨30, ?_⟩
   refine And.intro (fun _ => ?_) (fun h0 => Bool.noConfusion h0)
   refine Or.inl ?_
   refine And.intro (by decide) ?_
   obtain ⟨hg, h⟩ := gd h
   refine And.intro (le_of_ln2 (ln_0 _ _) hg) ?_
   obtain ⟨hg2, h⟩ := gd h
   refine ⟨((List.take x93 x94) ++ (List.take x85 x88)), app_cut (cut_0 _ _) (cut_0 _ _), 0, (List.length ((List.take x93 x94) ++ (List.take x85 x88))), ⟨rfl, cut_ln hg2 (ln_0 _ _)⟩, ?_⟩
   refine Or.inl ?_
   refine And.intro (fun _ => ?_) (fun h0 => Bool.noConfusion h0)
   refine Or.inl ?_
   refine And.intro (by decide) ?_
   obtain ⟨hg, h⟩ := gd h
   refine And.intro (le_of_ln2 (ln_0 _ _) hg) ?_
   refine ⟨(((List.take x93 x94) ++ (List.take x85 x88)) ++ (List.take x86 x89)), app_cut (cut_full _) (cut_0 _ _), 0, (List.length (((List.take x93 x94) ++ (List.take x85 x88)) ++ (List.take x86 x89))), ⟨rfl, app_ln (ln_0 _ _)⟩, ?_⟩
   refine Or.inl ?_
   let x96 : List Int := (((List.take x93 x94) ++ (List.take x85 x88)) ++ (List.take x86 x89))
   replace h := nm_at x96 rfl h
   refine And.intro (fun _ => ?_) (fun h0 => Bool.noConfusion h0)
   refine Or.inl ?_
   refine And.intro (by decide) ?_
   obtain ⟨hg, h⟩ := gd h
   refine And.intro (le_of_ln2 (ln_0 _ _) hg) ?_
   refine ⟨(x96 ++ (List.take x87 x90)), app_cut (cut_full _) (cut_0 _ _), 0, (List.length (x96 ++ (List.take x87 x90))), ⟨rfl, app_ln (ln_0 _ _)⟩, ?_⟩
   refine Or.inl ?_
   refine And.intro (fun h0 => Bool.noConfusion h0) (fun _ => ?_)
   exact ⟨[], [], ⟨(x96 ++ (List.take x87 x90)), some_in h⟩, [(5, 7)], rfl, ⟨rfl, trivial⟩, ⟨rfl, rfl, rfl, rfl, trivial, rfl, trivial⟩, rfl⟩
 ·replace h := hl1_91
  refine Or.inr ⟨30, ?_⟩
  refine And.intro (fun _ => ?_) (fun h0 => Bool.noConfusion h0)
  refine Or.inl ?_
  refine And.intro (by decide) ?_
  refine Or.inl ?_
  refine And.intro (fun hb => ?_) (fun hb => ?_)
  ·replace h := cond_t h hb
   exact no_none h
  ·replace h := cond_f h hb
   refine And.intro (fun _ => ?_) (fun h0 => Bool.noConfusion h0)
   refine Or.inl ?_
   refine And.intro (by decide) ?_
   let x92 : Int := (IntKind.wrap .i64 ((IntKind.wrap .i64 (0 + (x85 : Int))) + (x86 : Int)))
   replace h := nm_at x92 rfl h
   refine Or.inl ?_
   refine And.intro (fun hb => ?_) (fun hb => ?_)
   ·replace h := cond_t h hb
    exact no_none h
   ·replace h := cond_f h hb
    refine And.intro (fun _ => ?_) (fun h0 => Bool.noConfusion h0)
    refine Or.inl ?_
    refine And.intro (by decide) ?_
    refine Or.inl ?_
    refine And.intro (fun hb => ?_) (fun hb => ?_)
    ·replace h := cond_t h hb
     exact no_none h
    ·replace h := cond_f h hb
     refine And.intro (fun h0 => Bool.noConfusion h0) (fun _ => ?_)
     exact ⟨[], [], ⟨(IntKind.wrap .i64 (x92 + (x87 : Int))), some_in h⟩, [], rfl, ⟨rfl, trivial⟩, ⟨rfl, rfl, rfl, rfl, trivial⟩, rfl⟩
theorem shawide_Sum_4_c (b0 b1 b2 b3 : Nat) (hn : [b0, b1, b2, b3].Nodup) (x72 : Nat) (x73 : Nat) (x74 : Nat) (x75 : List Int) (x76 : List Int) (x77 : List Int) (res : (List Int)) (h : shawide_Sum_4 x72 x73 x74 x75 x76 x77 = some res) :
  Fn Tryd.prog (GE er) 21 [(.vs b0 0 3)] [(b0, (.var (.cons (.sl b1 [] ly5 0 x72) (.cons (.sl b2 [] ly5 0 x73) (.cons (.sl b3 [] ly5 0 x74) (.dv .nil)))))), (b1, (.frzI .u8 x75)), (b2, (.var (.dv (.ints .u8 32 x76)))), (b3, (.rowI .u8 x77))] (.dv (.ints .u8 64 res)) [(b0, (.var (.cons (.sl b1 [] ly5 0 x72) (.cons (.sl b2 [] ly5 0 x73) (.cons (.sl b3 [] ly5 0 x74) (.dv .nil)))))), (b1, (.frzI .u8 x75)), (b2, (.var (.dv (.ints .u8 32 x76)))), (b3, (.rowI .u8 x77))] := by
 refine bE er Tryd.func21 rfl rfl [(0, b0), (1, b1), (2, b2), (3, b3)] [(.vs 0 0 3)] [(.var (.cons (.sl 1 [] ly5 0 x72) (.cons (.sl 2 [] ly5 0 x73) (.cons (.sl 3 [] ly5 0 x74) (.dv .nil))))), (.frzI .u8 x75), (.var (.dv (.ints .u8 32 x76))), (.rowI .u8 x77)] [] (.dv (.ints .u8 64 res)) [(.var (.cons (.sl 1 [] ly5 0 x72) (.cons (.sl 2 [] ly5 0 x73) (.cons (.sl 3 [] ly5 0 x74) (.dv .nil))))), (.frzI .u8 x75), (.var (.dv (.ints .u8 32 x76))), (.rowI .u8 x77)] rfl rfl rfl rfl rfl rfl hn 3 ?_
 replace h := (show shawide_Sum_4 x72 x73 x74 x75 x76 x77 = _ from h)
 unfold shawide_Sum_4 at h
 obtain ⟨x78, hc103, h⟩ := bnd h
 refine ⟨[], _, _, _, ⟨⟨_, shawide_begin_c er x78 hc103, trivial⟩, trivial, rfl⟩, ?_⟩
 obtain ⟨r103, hc103, h⟩ := bnd h
 refine ⟨[], _, _, _, ⟨⟨_, shawide_padded_4_c er 0 1 2 3 6 (by decide) x72 x73 x74 x75 x76 x77 r103 hc103, ⟨.inl rfl, trivial⟩⟩, ⟨⟨rfl, rfl⟩, ⟨rfl, rfl⟩, ⟨rfl, rfl⟩, ⟨rfl, rfl⟩, trivial⟩, rfl⟩, ?_⟩
 obtain ⟨r1_0_79, hl1_79, hr1_79⟩ := bnd h
 refine Or.inr ⟨[11], {p : (List Int) // p = r1_0_79}, ⟨fun | ⟨x79, _⟩ => [], fun | ⟨x79, _⟩ => [(5, (.var (.dv (.ints .u64 8 x79))))], fun _ => 0⟩, 0, ?_, ?_⟩
 ·rintro ⟨x79, hp⟩
  subst hp
  replace h := hr1_79
  obtain ⟨r5_2_96, hl5_96, hr5_96⟩ := bnd h
  refine Or.inr ⟨[15], {p : (List Int) // p = r5_2_96}, ⟨fun | ⟨x96, _⟩ => [], fun | ⟨x96, _⟩ => [(7, (.var (.dv (.ints .u8 64 x96))))], fun _ => 0⟩, 0, ?_, ?_⟩
  ·rintro ⟨x96, hp⟩
   subst hp
   replace h := hr5_96
   obtain rfl := some_in h
   exact ⟨0, [], [], rfl, rfl, rfl, rfl, rfl, trivial⟩
  ·replace h := hl5_96
   refine Or.inl ?_
   refine ⟨[], {x : Nat × Int × (List Int) // shawide_Sum_4_l3 x79 x.1 x.2.1 x.2.2 = some r5_2_96}, ⟨fun | ⟨(n3, x97, x98), _⟩ => [(16, (.int .i64 x97))], fun | ⟨(n3, x97, x98), _⟩ => [(7, (.var (.dv (.ints .u8 64 x98))))], fun | ⟨(n3, x97, x98), _⟩ => n3⟩, [], [], ⟨(FUEL, 0, (List.replicate 64 (0 : Int))), h⟩, ⟨rfl, ⟨rfl, trivial⟩, ⟨rfl, rfl, rfl, rfl, rfl, rfl, rfl, rfl, trivial⟩, rfl⟩, ?_⟩
   rintro ⟨⟨n3, x97, x98⟩, h⟩
   cases n3 with
   | zero => exact no_none h
   | succ n3 =>
    replace h := (show shawide_Sum_4_l3 x79 (n3 + 1) x97 x98 = _ from h)
    replace h := (shawide_Sum_4_l3.eq_2 .. ).symm.trans h
    refine And.intro (fun hb => ?_) (fun hb => ?_)
    ·replace h := cond_t h hb
     refine Or.inl ?_
     obtain ⟨hg, h⟩ := gd h
     refine And.intro hg ?_
     obtain ⟨r6_2_99, hl6_99, hr6_99⟩ := bnd h
     refine Or.inr ⟨[6, 7], {p : (List Int) // p = r6_2_99}, ⟨fun | ⟨x99, _⟩ => [], fun | ⟨x99, _⟩ => [(7, (.var (.dv (.ints .u8 64 x99))))], fun _ => 0⟩, 0, ?_, ?_⟩
     ·rintro ⟨x99, hp⟩
      subst hp
      replace h := hr6_99
      exact ⟨⟨(n3, (IntKind.wrap .i64 (x97 + 1)), x99), h⟩, [], ⟨rfl, ⟨rfl, trivial⟩, ⟨rfl, rfl, rfl, rfl, rfl, rfl, rfl, rfl, trivial⟩, rfl⟩, Nat.lt_succ_self _⟩
     ·replace h := hl6_99
      refine Or.inl ?_
      refine ⟨[], {x : Nat × Int × (List Int) // shawide_Sum_4_l4 x79 x97 x.1 x.2.1 x.2.2 = some r6_2_99}, ⟨fun | ⟨(n4, x100, x101), _⟩ => [(20, (.int .i64 x100))], fun | ⟨(n4, x100, x101), _⟩ => [(7, (.var (.dv (.ints .u8 64 x101))))], fun | ⟨(n4, x100, x101), _⟩ => n4⟩, [], [], ⟨(FUEL, 0, x98), h⟩, ⟨rfl, ⟨rfl, trivial⟩, ⟨rfl, rfl, rfl, rfl, rfl, rfl, rfl, rfl, trivial⟩, rfl⟩, ?_⟩
      rintro ⟨⟨n4, x100, x101⟩, h⟩
      cases n4 with
      | zero => exact no_none h
      | succ n4 =>
       replace h := (show shawide_Sum_4_l4 x79 x97 (n4 + 1) x100 x101 = _ from h)
       replace h := (shawide_Sum_4_l4.eq_2 .. ).symm.trans h
       refine And.intro (fun hb => ?_) (fun hb => ?_)
       ·replace h := cond_t h hb
        refine Or.inl ?_
        obtain ⟨hg, h⟩ := gd h
        refine And.intro hg ?_
        let x102 : Int := (Int.fdiv (List.getD x79 (Int.toNat x97) 0) (2 ^ (min (Int.toNat (IntKind.wrap .i64 (56 - (IntKind.wrap .i64 (8 * x100))))) (IntKind.bits .u64))))
        replace h := nm_at x102 rfl h
        obtain ⟨hg, h⟩ := gd h
        refine And.intro hg ?_
        let x103 : Nat := (Int.toNat (IntKind.wrap .i64 ((IntKind.wrap .i64 (8 * x97)) + x100)))
        replace h := nm_at x103 rfl h
        exact ⟨⟨(n4, (IntKind.wrap .i64 (x100 + 1)), (List.set x101 x103 (IntKind.wrap .u8 x102))), h⟩, [], ⟨rfl, ⟨rfl, trivial⟩, ⟨rfl, rfl, rfl, rfl, rfl, rfl, rfl, rfl, trivial⟩, rfl⟩, Nat.lt_succ_self _⟩
       ·replace h := cond_f h hb
        exact ⟨[], [], ⟨x101, some_in h⟩, [], rfl, trivial, ⟨rfl, rfl, rfl, rfl, rfl, rfl, rfl, rfl, trivial⟩, rfl⟩
    ·replace h := cond_f h hb
     exact ⟨[], [], ⟨x98, some_in h⟩, [], rfl, trivial, ⟨rfl, rfl, rfl, rfl, rfl, rfl, rfl, rfl, trivial⟩, rfl⟩
 ·replace h := hl1_79
  intro L5
  refine ⟨Tryd.f61, _, ⟨Tryd.func61, rfl, rfl, rfl⟩, ?_⟩
  obtain ⟨x80, hc95, h⟩ := bnd h
  refine ⟨[], _, _, _, ⟨⟨_, slices_Concat_byte_byte_5_c er 0 1 2 3 10 (by decide) x72 x73 x74 x75 x76 x77 x80 hc95, ⟨.inl rfl, trivial⟩⟩, ⟨⟨rfl, rfl⟩, ⟨rfl, rfl⟩, ⟨rfl, rfl⟩, ⟨rfl, rfl⟩, trivial⟩, rfl⟩, ?_⟩
  refine Or.inl ?_
  refine Or.inl ?_
  obtain ⟨hg, h⟩ := gd h
  refine And.intro (le_of_ln2 (ln_full [128]) hg) ?_
  refine ⟨(x80 ++ [128]), app_cut (cut_full _) (cut_full [128]), 0, (List.length (x80 ++ [128])), ⟨rfl, app_ln (ln_full [128])⟩, ?_⟩
  refine Or.inl ?_
  obtain ⟨x81, hc95, h⟩ := bnd h
  refine ⟨[], _, _, _, ⟨⟨_, shawide_blocks_c er ((List.length x80) : Int) x81 hc95, ⟨.inl rfl, trivial⟩⟩, trivial, rfl⟩, ?_⟩
  let x82 : Int := (IntKind.wrap .i64 ((IntKind.wrap .i64 (x81 * 128)) - ((List.length x80) : Int)))
  replace h := nm_at x82 rfl h
  obtain ⟨hg, h⟩ := gd h
  refine And.intro hg ?_
  refine ⟨((x80 ++ [128]) ++ (List.replicate (Int.toNat (IntKind.wrap .i64 (x82 - 1))) (0 : Int))), app_cut (cut_full _) rfl, 0, (List.length ((x80 ++ [128]) ++ (List.replicate (Int.toNat (IntKind.wrap .i64 (x82 - 1))) (0 : Int)))), ⟨rfl, by first | (simp; done) | exact (List.length_append ..).trans (congrArg (_ + ·) (List.length_replicate ..))⟩, ?_⟩
  refine Or.inl ?_
  let x83 : List Int := ((x80 ++ [128]) ++ (List.replicate (Int.toNat (IntKind.wrap .i64 (x82 - 1))) (0 : Int)))
  replace h := nm_at x83 rfl h
  let x84 : Int := (IntKind.wrap .u64 (8 * (IntKind.wrap .u64 ((List.length x80) : Int))))
  replace h := nm_at x84 rfl h
  obtain ⟨r2_0_85, hl2_85, hr2_85⟩ := bnd h
  refine Or.inr ⟨[5], {p : (List Int) // p = r2_0_85}, ⟨fun | ⟨x85, _⟩ => [], fun | ⟨x85, _⟩ => [(13, (.rowI .u8 x85))], fun _ => 0⟩, 0, ?_, ?_⟩
  ·rintro ⟨x85, hp⟩
   subst hp
   replace h := hr2_85
   obtain ⟨r95, hc95, h⟩ := bnd h
   refine ⟨[], _, _, _, ⟨⟨_, slices_Chunk_byte_byte_2_c er 13 14 15 (by decide) (List.length x83) 128 x85 r95 hc95, ⟨.inl rfl, .inl rfl, trivial⟩⟩, ⟨⟨rfl, rfl⟩, trivial⟩, rfl⟩, ?_⟩
   obtain ⟨r3_1_90, hl3_90, hr3_90⟩ := bnd h
   refine Or.inr ⟨[2, 43], {p : (List Int) // p = r3_1_90}, ⟨fun | ⟨x90, _⟩ => [], fun | ⟨x90, _⟩ => [(5, (.var (.dv (.ints .u64 8 x90))))], fun _ => 0⟩, 0, ?_, ?_⟩
   ·rintro ⟨x90, hp⟩
    subst hp
    replace h := hr3_90
    exact ⟨[], [], ⟨x90, some_in h⟩, [], rfl, trivial, ⟨rfl, rfl, rfl, rfl, rfl, rfl, rfl, trivial⟩, rfl⟩
   ·replace h := hl3_90
    intro L7
    refine ⟨Tryd.f69, _, ⟨Tryd.func69, rfl, rfl, rfl⟩, ?_⟩
    obtain ⟨r4_1_91, hl4_91, hr4_91⟩ := bnd h
    refine Or.inr ⟨[0, 1, 2], {p : (List Int) // p = r4_1_91}, ⟨fun | ⟨x91, _⟩ => [], fun | ⟨x91, _⟩ => [(5, (.var (.dv (.ints .u64 8 x91))))], fun _ => 0⟩, 0, ?_, ?_⟩
    ·rintro ⟨x91, hp⟩
     subst hp
     replace h := hr4_91
     exact ⟨[], [], ⟨x91, some_in h⟩, [], rfl, trivial, ⟨rfl, rfl, rfl, rfl, rfl, rfl, rfl, trivial, rfl, rfl, trivial, rfl, trivial, rfl, rfl, rfl, trivial⟩, rfl⟩
    ·replace h := hl4_91
     refine Or.inl ?_
     refine ⟨[], {x : Nat × Int × (List Int) // shawide_Sum_4_l2 x83 x85 x.1 x.2.1 x.2.2 = some r4_1_91}, ⟨fun | ⟨(n2, x92, x93), _⟩ => [(4, (.int .i64 x92))], fun | ⟨(n2, x92, x93), _⟩ => [(5, (.var (.dv (.ints .u64 8 x93))))], fun | ⟨(n2, x92, x93), _⟩ => n2⟩, [], [], ⟨(FUEL, 0, x78), h⟩, ⟨rfl, ⟨rfl, trivial⟩, ⟨rfl, rfl, rfl, rfl, rfl, rfl, rfl, trivial, rfl, rfl, trivial, rfl, trivial, rfl, rfl, rfl, trivial, rfl, trivial⟩, rfl⟩, ?_⟩
     rintro ⟨⟨n2, x92, x93⟩, h⟩
     cases n2 with
     | zero => exact no_none h
     | succ n2 =>
      replace h := (show shawide_Sum_4_l2 x83 x85 (n2 + 1) x92 x93 = _ from h)
      replace h := (shawide_Sum_4_l2.eq_2 .. ).symm.trans h
      refine And.intro (fun hb => ?_) (fun hb => ?_)
      ·replace h := cond_t h hb
       refine Or.inl ?_
       obtain ⟨hg, h⟩ := gd h
       refine And.intro hg ?_
       refine ⟨(Int.toNat x92), (Int.toNat (((List.length x83) : Int) - x92)), ⟨by simp, rfl⟩, ?_⟩
       let x94 : Int := (if ((Int.toNat (((List.length x83) : Int) - x92)) : Int) < 128 then ((Int.toNat (((List.length x83) : Int) - x92)) : Int) else 128)
       replace h := nm_at x94 rfl h
       obtain ⟨hg, h⟩ := gd h
       refine And.intro hg ?_
       obtain ⟨hg, h⟩ := gd h
       refine And.intro hg ?_
       refine ⟨(Int.toNat x92), (Int.toNat ((IntKind.wrap .i64 (x92 + x94)) - x92)), ⟨by simp, rfl⟩, ?_⟩
       refine ⟨rfl, ?_⟩
       refine Or.inl ?_
       refine ⟨rfl, ?_⟩
       refine Or.inl ?_
       obtain ⟨x95, hc95, h⟩ := bnd h
       refine ⟨[], _, _, _, ⟨⟨_, shawide_state_take_2_c er 5 13 (by decide) (Int.toNat x92) (Int.toNat ((IntKind.wrap .i64 (x92 + x94)) - x92)) x93 x85 x95 hc95, ⟨.inl rfl, .inl rfl, trivial⟩⟩, ⟨⟨rfl, rfl⟩, ⟨rfl, rfl⟩, trivial⟩, rfl⟩, ?_⟩
       exact ⟨⟨(n2, (IntKind.wrap .i64 (x92 + 128)), x95), h⟩, [], ⟨rfl, ⟨rfl, trivial⟩, ⟨rfl, rfl, rfl, rfl, rfl, rfl, rfl, trivial, rfl, rfl, trivial, rfl, trivial, rfl, rfl, rfl, trivial, rfl, trivial⟩, rfl⟩, Nat.lt_succ_self _⟩
      ·replace h := cond_f h hb
       exact ⟨[], [], ⟨x93, some_in h⟩, [], rfl, trivial, ⟨rfl, rfl, rfl, rfl, rfl, rfl, rfl, trivial, rfl, rfl, trivial, rfl, trivial, rfl, rfl, rfl, trivial, rfl, trivial⟩, rfl⟩
  ·replace h := hl2_85
   refine Or.inl ?_
   refine ⟨[], {x : Nat × Int × (List Int) // shawide_Sum_4_l1 x83 x84 x.1 x.2.1 x.2.2 = some r2_0_85}, ⟨fun | ⟨(n1, x86, x87), _⟩ => [(26, (.int .i64 x86))], fun | ⟨(n1, x86, x87), _⟩ => [(13, (.rowI .u8 x87))], fun | ⟨(n1, x86, x87), _⟩ => n1⟩, [], [], ⟨(FUEL, 0, x83), h⟩, ⟨rfl, ⟨rfl, trivial⟩, ⟨rfl, rfl, rfl, rfl, rfl, rfl, rfl, trivial, rfl, rfl, trivial, rfl, trivial, rfl, trivial⟩, rfl⟩, ?_⟩
   rintro ⟨⟨n1, x86, x87⟩, h⟩
   cases n1 with
   | zero => exact no_none h
   | succ n1 =>
    replace h := (show shawide_Sum_4_l1 x83 x84 (n1 + 1) x86 x87 = _ from h)
    replace h := (shawide_Sum_4_l1.eq_2 .. ).symm.trans h
    refine And.intro (fun hb => ?_) (fun hb => ?_)
    ·replace h := cond_t h hb
     refine Or.inl ?_
     let x88 : Int := (IntKind.wrap .i64 ((IntKind.wrap .i64 (((List.length x83) : Int) - 1)) - x86))
     replace h := nm_at x88 rfl h
     obtain ⟨hg, h⟩ := gd h
     refine And.intro hg ?_
     let x89 : Int := (Int.fdiv x84 (2 ^ (min (Int.toNat (IntKind.wrap .i64 (8 * x86))) (IntKind.bits .u64))))
     replace h := nm_at x89 rfl h
     obtain ⟨hg, h⟩ := gd h
     refine And.intro hg ?_
     exact ⟨⟨(n1, (IntKind.wrap .i64 (x86 + 1)), (List.set x87 (Int.toNat x88) (IntKind.wrap .u8 x89))), h⟩, [], ⟨rfl, ⟨rfl, trivial⟩, ⟨rfl, rfl, rfl, rfl, rfl, rfl, rfl, trivial, rfl, rfl, trivial, rfl, trivial, rfl, trivial⟩, rfl⟩, Nat.lt_succ_self _⟩
    ·replace h := cond_f h hb
     exact ⟨[], [], ⟨x87, some_in h⟩, [], rfl, trivial, ⟨rfl, rfl, rfl, rfl, rfl, rfl, rfl, trivial, rfl, rfl, trivial, rfl, trivial, rfl, trivial⟩, rfl⟩
theorem sign_hash_3_c (b0 b1 b2 b3 : Nat) (hn : [b0, b1, b2, b3].Nodup) (x66 : Nat) (x67 : Nat) (x68 : Nat) (x69 : List Int) (x70 : List Int) (x71 : List Int) (res : (List Int)) (h : sign_hash_3 x66 x67 x68 x69 x70 x71 = some res) :
  Fn Tryd.prog (GE er) 13 [(.vs b0 0 3)] [(b0, (.var (.cons (.sl b1 [] ly5 0 x66) (.cons (.sl b2 [] ly5 0 x67) (.cons (.sl b3 [] ly5 0 x68) (.dv .nil)))))), (b1, (.frzI .u8 x69)), (b2, (.var (.dv (.ints .u8 32 x70)))), (b3, (.rowI .u8 x71))] (.dv (.ints .u8 32 res)) [(b0, (.var (.cons (.sl b1 [] ly5 0 x66) (.cons (.sl b2 [] ly5 0 x67) (.cons (.sl b3 [] ly5 0 x68) (.dv .nil)))))), (b1, (.frzI .u8 x69)), (b2, (.var (.dv (.ints .u8 32 x70)))), (b3, (.rowI .u8 x71))] := by
 refine bE er Tryd.func13 rfl rfl [(0, b0), (1, b1), (2, b2), (3, b3)] [(.vs 0 0 3)] [(.var (.cons (.sl 1 [] ly5 0 x66) (.cons (.sl 2 [] ly5 0 x67) (.cons (.sl 3 [] ly5 0 x68) (.dv .nil))))), (.frzI .u8 x69), (.var (.dv (.ints .u8 32 x70))), (.rowI .u8 x71)] [] (.dv (.ints .u8 32 res)) [(.var (.cons (.sl 1 [] ly5 0 x66) (.cons (.sl 2 [] ly5 0 x67) (.cons (.sl 3 [] ly5 0 x68) (.dv .nil))))), (.frzI .u8 x69), (.var (.dv (.ints .u8 32 x70))), (.rowI .u8 x71)] rfl rfl rfl rfl rfl rfl hn 3 ?_
 replace h := (show sign_hash_3 x66 x67 x68 x69 x70 x71 = _ from h)
 unfold sign_hash_3 at h
 obtain ⟨x72, hc73, h⟩ := bnd h
 refine ⟨[], _, _, _, ⟨⟨_, shawide_Sum_4_c er 0 1 2 3 (by decide) x66 x67 x68 x69 x70 x71 x72 hc73, ⟨.inl rfl, trivial⟩⟩, ⟨⟨rfl, rfl⟩, ⟨rfl, rfl⟩, ⟨rfl, rfl⟩, ⟨rfl, rfl⟩, trivial⟩, rfl⟩, ?_⟩
 obtain ⟨x73, hc73, h⟩ := bnd h
 refine ⟨[], _, _, _, ⟨⟨_, scalar_Reduce_c er x72 x73 hc73, ⟨.inl rfl, trivial⟩⟩, trivial, rfl⟩, ?_⟩
 obtain rfl := some_in h
 exact ⟨0, [], [], rfl, rfl, rfl, rfl, rfl, trivial⟩
theorem points_Point_Negate_c (x75 : T_points_Point) (res : T_points_Point) (h : points_Point_Negate x75 = some res) :
  Fn Tryd.prog (GE er) 18 [(.dv (T_points_Point.dv x75))] [] (.dv (T_points_Point.dv res)) [] := by
 refine bE er Tryd.func18 rfl rfl [] [(.dv (T_points_Point.dv x75))] [] [] (.dv (T_points_Point.dv res)) [] rfl rfl rfl rfl rfl rfl .nil 3 ?_
 replace h := (show points_Point_Negate x75 = _ from h)
 unfold points_Point_Negate at h
 obtain ⟨x76, hc78, h⟩ := bnd h
 refine ⟨[], _, _, _, ⟨⟨_, field_Small_c er 0 x76 hc78, ⟨.inl rfl, trivial⟩⟩, trivial, rfl⟩, ?_⟩
 obtain ⟨x77, hc78, h⟩ := bnd h
 refine ⟨[], _, _, _, ⟨⟨_, field_Elem_Sub_c er x76 x75.fx x77 hc78, ⟨.inl rfl, .inl rfl, trivial⟩⟩, trivial, rfl⟩, ?_⟩
 obtain ⟨x78, hc78, h⟩ := bnd h
 refine ⟨[], _, _, _, ⟨⟨_, field_Elem_Sub_c er x76 x75.ft x78 hc78, ⟨.inl rfl, .inl rfl, trivial⟩⟩, trivial, rfl⟩, ?_⟩
 obtain rfl := some_in h
 exact ⟨0, [], [], rfl, trivial⟩
theorem points_Point_With_c (x80 : T_points_Point) (x81 : List Int) (x82 : List Int) (res : T_points_Point) (h : points_Point_With x80 x81 x82 = some res) :
  Fn Tryd.prog (GE er) 19 [(.dv (T_points_Point.dv x80)), (.dv (.ints .u8 32 x81)), (.dv (.ints .u8 32 x82))] [] (.dv (T_points_Point.dv res)) [] := by
 refine bE er Tryd.func19 rfl rfl [] [(.dv (T_points_Point.dv x80)), (.dv (.ints .u8 32 x81)), (.dv (.ints .u8 32 x82))] [] [] (.dv (T_points_Point.dv res)) [] rfl rfl rfl rfl rfl rfl .nil 3 ?_
 replace h := (show points_Point_With x80 x81 x82 = _ from h)
 unfold points_Point_With at h
 obtain ⟨x83, hc116, h⟩ := bnd h
 refine ⟨[], _, _, _, ⟨⟨_, points_twice_c er x83 hc116, trivial⟩, trivial, rfl⟩, ?_⟩
 obtain ⟨x84, hc116, h⟩ := bnd h
 refine ⟨[], _, _, _, ⟨⟨_, points_Base_c er x84 hc116, trivial⟩, trivial, rfl⟩, ?_⟩
 obtain ⟨x85, hc116, h⟩ := bnd h
 refine ⟨[], _, _, _, ⟨⟨_, points_Point_plus_c er x80 x84 x83 x85 hc116, ⟨.inl rfl, .inl rfl, .inl rfl, trivial⟩⟩, trivial, rfl⟩, ?_⟩
 obtain ⟨x86, hc116, h⟩ := bnd h
 refine ⟨[], _, _, _, ⟨⟨_, points_Zero_c er x86 hc116, trivial⟩, trivial, rfl⟩, ?_⟩
 refine And.intro (fun _ => ?_) (fun h0 => Bool.noConfusion h0)
 obtain ⟨x87, hc116, h⟩ := bnd h
 refine ⟨[], _, _, _, ⟨⟨_, points_Point_double_c er x86 x87 hc116, ⟨.inl rfl, trivial⟩⟩, trivial, rfl⟩, ?_⟩
 obtain ⟨x88, hc116, h⟩ := bnd h
 refine ⟨[], _, _, _, ⟨⟨_, scalar_Bit_c er x81 255 x88 hc116, ⟨.inl rfl, .inl rfl, trivial⟩⟩, trivial, rfl⟩, ?_⟩
 obtain ⟨x89, hc116, h⟩ := bnd h
 refine ⟨[], _, _, _, ⟨⟨_, scalar_Bit_c er x82 255 x89 hc116, ⟨.inl rfl, .inl rfl, trivial⟩⟩, trivial, rfl⟩, ?_⟩
 obtain ⟨r1_0_90, hl1_90, hr1_90⟩ := bnd h
 refine Or.inr ⟨[12, 13], {p : T_points_Point // p = r1_0_90}, ⟨fun | ⟨x90, _⟩ => [], fun | ⟨x90, _⟩ => [(7, (.var (.dv (T_points_Point.dv x90))))], fun _ => 0⟩, 0, ?_, ?_⟩
 ·rintro ⟨x90, hp⟩
  subst hp
  replace h := hr1_90
  refine Or.inr ⟨[], {x : Nat × Int × T_points_Point // points_Point_With_l1 x80 x81 x82 x83 x84 x85 x.1 x.2.1 x.2.2 = some res}, ⟨fun | ⟨(n1, x101, x102), _⟩ => [(7, (.ptr 4 [] ly38)), (8, (.ptr 5 [] ly40)), (9, (.ptr 6 [] ly40)), (10, (.ptr 7 [] ly40)), (11, (.int .i64 x101))], fun | ⟨(n1, x101, x102), _⟩ => [(7, (.var (.dv (T_points_Point.dv x102))))], fun | ⟨(n1, x101, x102), _⟩ => n1⟩, [], [], ⟨(FUEL, 254, x90), h⟩, ⟨rfl, ⟨rfl, rfl, rfl, rfl, rfl, trivial⟩, ⟨rfl, rfl, rfl, rfl, rfl, rfl, rfl, rfl, trivial⟩, rfl⟩, ?_⟩
  rintro ⟨⟨n1, x101, x102⟩, h⟩
  cases n1 with
  | zero => exact no_none h
  | succ n1 =>
   replace h := (show points_Point_With_l1 x80 x81 x82 x83 x84 x85 (n1 + 1) x101 x102 = _ from h)
   replace h := (points_Point_With_l1.eq_2 .. ).symm.trans h
   refine And.intro (fun hb => ?_) (fun hb => ?_)
   ·replace h := cond_t h hb
    obtain ⟨x103, hc116, h⟩ := bnd h
    refine ⟨[], _, _, _, ⟨⟨_, points_Point_double_c er x102 x103 hc116, ⟨.inl rfl, trivial⟩⟩, trivial, rfl⟩, ?_⟩
    obtain ⟨x104, hc116, h⟩ := bnd h
    refine ⟨[], _, _, _, ⟨⟨_, scalar_Bit_c er x81 x101 x104 hc116, ⟨.inl rfl, .inl rfl, trivial⟩⟩, trivial, rfl⟩, ?_⟩
    obtain ⟨x105, hc116, h⟩ := bnd h
    refine ⟨[], _, _, _, ⟨⟨_, scalar_Bit_c er x82 x101 x105 hc116, ⟨.inl rfl, .inl rfl, trivial⟩⟩, trivial, rfl⟩, ?_⟩
    obtain ⟨r7_0_106, hl7_106, hr7_106⟩ := bnd h
    refine Or.inr ⟨[12, 13], {p : T_points_Point // p = r7_0_106}, ⟨fun | ⟨x106, _⟩ => [], fun | ⟨x106, _⟩ => [(7, (.var (.dv (T_points_Point.dv x106))))], fun _ => 0⟩, 0, ?_, ?_⟩
    ·rintro ⟨x106, hp⟩
     subst hp
     replace h := hr7_106
     exact ⟨⟨(n1, (IntKind.wrap .i64 (x101 - 1)), x106), h⟩, [], ⟨rfl, ⟨rfl, rfl, rfl, rfl, rfl, trivial⟩, ⟨rfl, rfl, rfl, rfl, rfl, rfl, rfl, rfl, trivial⟩, rfl⟩, Nat.lt_succ_self _⟩
    ·replace h := hl7_106
     refine And.intro (fun hb => ?_) (fun hb => ?_)
     ·replace h := cond_t h hb
      obtain ⟨r8_0_107, hl8_107, hr8_107⟩ := bnd h
      refine Or.inr ⟨[], {p : T_points_Point // p = r8_0_107}, ⟨fun | ⟨x107, _⟩ => [], fun | ⟨x107, _⟩ => [(7, (.var (.dv (T_points_Point.dv x107))))], fun _ => 0⟩, 0, ?_, ?_⟩
      ·rintro ⟨x107, hp⟩
       subst hp
       replace h := hr8_107
       exact ⟨[], [], ⟨x107, some_in h⟩, [], rfl, trivial, ⟨rfl, rfl, rfl, rfl, rfl, rfl, rfl, rfl, trivial⟩, rfl⟩
      ·replace h := hl8_107
       refine And.intro (fun hb => ?_) (fun hb => ?_)
       ·replace h := cond_t h hb
        obtain ⟨x108, hc108, h⟩ := bnd h
        refine ⟨[], _, _, _, ⟨⟨_, points_Point_plus_c er x103 x85 x83 x108 hc108, ⟨.inl rfl, .inl rfl, .inl rfl, trivial⟩⟩, trivial, rfl⟩, ?_⟩
        exact ⟨[], [], ⟨x108, some_in h⟩, [], rfl, trivial, ⟨rfl, rfl, rfl, rfl, rfl, rfl, rfl, rfl, trivial⟩, rfl⟩
       ·replace h := cond_f h hb
        obtain ⟨r9_0_109, hl9_109, hr9_109⟩ := bnd h
        refine Or.inr ⟨[], {p : T_points_Point // p = r9_0_109}, ⟨fun | ⟨x109, _⟩ => [], fun | ⟨x109, _⟩ => [(7, (.var (.dv (T_points_Point.dv x109))))], fun _ => 0⟩, 0, ?_, ?_⟩
        ·rintro ⟨x109, hp⟩
         subst hp
         replace h := hr9_109
         exact ⟨[], [], ⟨x109, some_in h⟩, [], rfl, trivial, ⟨rfl, rfl, rfl, rfl, rfl, rfl, rfl, rfl, trivial⟩, rfl⟩
        ·replace h := hl9_109
         refine And.intro (fun hb => ?_) (fun hb => ?_)
         ·replace h := cond_t h hb
          obtain ⟨x110, hc110, h⟩ := bnd h
          refine ⟨[], _, _, _, ⟨⟨_, points_Point_plus_c er x103 x80 x83 x110 hc110, ⟨.inl rfl, .inl rfl, .inl rfl, trivial⟩⟩, trivial, rfl⟩, ?_⟩
          exact ⟨[], [], ⟨x110, some_in h⟩, [], rfl, trivial, ⟨rfl, rfl, rfl, rfl, rfl, rfl, rfl, rfl, trivial⟩, rfl⟩
         ·replace h := cond_f h hb
          obtain ⟨r10_0_111, hl10_111, hr10_111⟩ := bnd h
          refine Or.inr ⟨[], {p : T_points_Point // p = r10_0_111}, ⟨fun | ⟨x111, _⟩ => [], fun | ⟨x111, _⟩ => [(7, (.var (.dv (T_points_Point.dv x111))))], fun _ => 0⟩, 0, ?_, ?_⟩
          ·rintro ⟨x111, hp⟩
           subst hp
           replace h := hr10_111
           exact ⟨[], [], ⟨x111, some_in h⟩, [], rfl, trivial, ⟨rfl, rfl, rfl, rfl, rfl, rfl, rfl, rfl, trivial⟩, rfl⟩
          ·replace h := hl10_111
           refine And.intro (fun hb => ?_) (fun hb => ?_)
           ·replace h := cond_t h hb
            obtain ⟨x112, hc112, h⟩ := bnd h
            refine ⟨[], _, _, _, ⟨⟨_, points_Point_plus_c er x103 x84 x83 x112 hc112, ⟨.inl rfl, .inl rfl, .inl rfl, trivial⟩⟩, trivial, rfl⟩, ?_⟩
            exact ⟨[], [], ⟨x112, some_in h⟩, [], rfl, trivial, ⟨rfl, rfl, rfl, rfl, rfl, rfl, rfl, rfl, trivial⟩, rfl⟩
           ·replace h := cond_f h hb
            exact ⟨[], [], ⟨x103, some_in h⟩, [], rfl, trivial, ⟨rfl, rfl, rfl, rfl, rfl, rfl, rfl, rfl, trivial⟩, rfl⟩
     ·replace h := cond_f h hb
      obtain ⟨r11_0_113, hl11_113, hr11_113⟩ := bnd h
      refine Or.inr ⟨[], {p : T_points_Point // p = r11_0_113}, ⟨fun | ⟨x113, _⟩ => [], fun | ⟨x113, _⟩ => [(7, (.var (.dv (T_points_Point.dv x113))))], fun _ => 0⟩, 0, ?_, ?_⟩
      ·rintro ⟨x113, hp⟩
       subst hp
       replace h := hr11_113
       exact ⟨[], [], ⟨x113, some_in h⟩, [], rfl, trivial, ⟨rfl, rfl, rfl, rfl, rfl, rfl, rfl, rfl, trivial⟩, rfl⟩
      ·replace h := hl11_113
       refine And.intro (fun hb => ?_) (fun hb => ?_)
       ·replace h := cond_t h hb
        obtain ⟨x114, hc114, h⟩ := bnd h
        refine ⟨[], _, _, _, ⟨⟨_, points_Point_plus_c er x103 x80 x83 x114 hc114, ⟨.inl rfl, .inl rfl, .inl rfl, trivial⟩⟩, trivial, rfl⟩, ?_⟩
        exact ⟨[], [], ⟨x114, some_in h⟩, [], rfl, trivial, ⟨rfl, rfl, rfl, rfl, rfl, rfl, rfl, rfl, trivial⟩, rfl⟩
       ·replace h := cond_f h hb
        obtain ⟨r12_0_115, hl12_115, hr12_115⟩ := bnd h
        refine Or.inr ⟨[], {p : T_points_Point // p = r12_0_115}, ⟨fun | ⟨x115, _⟩ => [], fun | ⟨x115, _⟩ => [(7, (.var (.dv (T_points_Point.dv x115))))], fun _ => 0⟩, 0, ?_, ?_⟩
        ·rintro ⟨x115, hp⟩
         subst hp
         replace h := hr12_115
         exact ⟨[], [], ⟨x115, some_in h⟩, [], rfl, trivial, ⟨rfl, rfl, rfl, rfl, rfl, rfl, rfl, rfl, trivial⟩, rfl⟩
        ·replace h := hl12_115
         refine And.intro (fun hb => ?_) (fun hb => ?_)
         ·replace h := cond_t h hb
          obtain ⟨x116, hc116, h⟩ := bnd h
          refine ⟨[], _, _, _, ⟨⟨_, points_Point_plus_c er x103 x84 x83 x116 hc116, ⟨.inl rfl, .inl rfl, .inl rfl, trivial⟩⟩, trivial, rfl⟩, ?_⟩
          exact ⟨[], [], ⟨x116, some_in h⟩, [], rfl, trivial, ⟨rfl, rfl, rfl, rfl, rfl, rfl, rfl, rfl, trivial⟩, rfl⟩
         ·replace h := cond_f h hb
          exact ⟨[], [], ⟨x103, some_in h⟩, [], rfl, trivial, ⟨rfl, rfl, rfl, rfl, rfl, rfl, rfl, rfl, trivial⟩, rfl⟩
   ·replace h := cond_f h hb
    obtain rfl := some_in h
    exact ⟨0, [], [], rfl, trivial⟩
 ·replace h := hl1_90
  refine And.intro (fun hb => ?_) (fun hb => ?_)
  ·replace h := cond_t h hb
   obtain ⟨r2_0_91, hl2_91, hr2_91⟩ := bnd h
   refine Or.inr ⟨[], {p : T_points_Point // p = r2_0_91}, ⟨fun | ⟨x91, _⟩ => [], fun | ⟨x91, _⟩ => [(7, (.var (.dv (T_points_Point.dv x91))))], fun _ => 0⟩, 0, ?_, ?_⟩
   ·rintro ⟨x91, hp⟩
    subst hp
    replace h := hr2_91
    exact ⟨[], [], ⟨x91, some_in h⟩, [], rfl, trivial, ⟨rfl, rfl, rfl, rfl, rfl, rfl, rfl, rfl, trivial⟩, rfl⟩
   ·replace h := hl2_91
    refine And.intro (fun hb => ?_) (fun hb => ?_)
    ·replace h := cond_t h hb
     obtain ⟨x92, hc92, h⟩ := bnd h
     refine ⟨[], _, _, _, ⟨⟨_, points_Point_plus_c er x87 x85 x83 x92 hc92, ⟨.inl rfl, .inl rfl, .inl rfl, trivial⟩⟩, trivial, rfl⟩, ?_⟩
     exact ⟨[], [], ⟨x92, some_in h⟩, [], rfl, trivial, ⟨rfl, rfl, rfl, rfl, rfl, rfl, rfl, rfl, trivial⟩, rfl⟩
    ·replace h := cond_f h hb
     obtain ⟨r3_0_93, hl3_93, hr3_93⟩ := bnd h
     refine Or.inr ⟨[], {p : T_points_Point // p = r3_0_93}, ⟨fun | ⟨x93, _⟩ => [], fun | ⟨x93, _⟩ => [(7, (.var (.dv (T_points_Point.dv x93))))], fun _ => 0⟩, 0, ?_, ?_⟩
     ·rintro ⟨x93, hp⟩
      subst hp
      replace h := hr3_93
      exact ⟨[], [], ⟨x93, some_in h⟩, [], rfl, trivial, ⟨rfl, rfl, rfl, rfl, rfl, rfl, rfl, rfl, trivial⟩, rfl⟩
     ·replace h := hl3_93
      refine And.intro (fun hb => ?_) (fun hb => ?_)
      ·replace h := cond_t h hb
       obtain ⟨x94, hc94, h⟩ := bnd h
       refine ⟨[], _, _, _, ⟨⟨_, points_Point_plus_c er x87 x80 x83 x94 hc94, ⟨.inl rfl, .inl rfl, .inl rfl, trivial⟩⟩, trivial, rfl⟩, ?_⟩
       exact ⟨[], [], ⟨x94, some_in h⟩, [], rfl, trivial, ⟨rfl, rfl, rfl, rfl, rfl, rfl, rfl, rfl, trivial⟩, rfl⟩
      ·replace h := cond_f h hb
       obtain ⟨r4_0_95, hl4_95, hr4_95⟩ := bnd h
       refine Or.inr ⟨[], {p : T_points_Point // p = r4_0_95}, ⟨fun | ⟨x95, _⟩ => [], fun | ⟨x95, _⟩ => [(7, (.var (.dv (T_points_Point.dv x95))))], fun _ => 0⟩, 0, ?_, ?_⟩
       ·rintro ⟨x95, hp⟩
        subst hp
        replace h := hr4_95
        exact ⟨[], [], ⟨x95, some_in h⟩, [], rfl, trivial, ⟨rfl, rfl, rfl, rfl, rfl, rfl, rfl, rfl, trivial⟩, rfl⟩
       ·replace h := hl4_95
        refine And.intro (fun hb => ?_) (fun hb => ?_)
        ·replace h := cond_t h hb
         obtain ⟨x96, hc96, h⟩ := bnd h
         refine ⟨[], _, _, _, ⟨⟨_, points_Point_plus_c er x87 x84 x83 x96 hc96, ⟨.inl rfl, .inl rfl, .inl rfl, trivial⟩⟩, trivial, rfl⟩, ?_⟩
         exact ⟨[], [], ⟨x96, some_in h⟩, [], rfl, trivial, ⟨rfl, rfl, rfl, rfl, rfl, rfl, rfl, rfl, trivial⟩, rfl⟩
        ·replace h := cond_f h hb
         exact ⟨[], [], ⟨x87, some_in h⟩, [], rfl, trivial, ⟨rfl, rfl, rfl, rfl, rfl, rfl, rfl, rfl, trivial⟩, rfl⟩
  ·replace h := cond_f h hb
   obtain ⟨r5_0_97, hl5_97, hr5_97⟩ := bnd h
   refine Or.inr ⟨[], {p : T_points_Point // p = r5_0_97}, ⟨fun | ⟨x97, _⟩ => [], fun | ⟨x97, _⟩ => [(7, (.var (.dv (T_points_Point.dv x97))))], fun _ => 0⟩, 0, ?_, ?_⟩
   ·rintro ⟨x97, hp⟩
    subst hp
    replace h := hr5_97
    exact ⟨[], [], ⟨x97, some_in h⟩, [], rfl, trivial, ⟨rfl, rfl, rfl, rfl, rfl, rfl, rfl, rfl, trivial⟩, rfl⟩
   ·replace h := hl5_97
    refine And.intro (fun hb => ?_) (fun hb => ?_)
    ·replace h := cond_t h hb
     obtain ⟨x98, hc98, h⟩ := bnd h
     refine ⟨[], _, _, _, ⟨⟨_, points_Point_plus_c er x87 x80 x83 x98 hc98, ⟨.inl rfl, .inl rfl, .inl rfl, trivial⟩⟩, trivial, rfl⟩, ?_⟩
     exact ⟨[], [], ⟨x98, some_in h⟩, [], rfl, trivial, ⟨rfl, rfl, rfl, rfl, rfl, rfl, rfl, rfl, trivial⟩, rfl⟩
    ·replace h := cond_f h hb
     obtain ⟨r6_0_99, hl6_99, hr6_99⟩ := bnd h
     refine Or.inr ⟨[], {p : T_points_Point // p = r6_0_99}, ⟨fun | ⟨x99, _⟩ => [], fun | ⟨x99, _⟩ => [(7, (.var (.dv (T_points_Point.dv x99))))], fun _ => 0⟩, 0, ?_, ?_⟩
     ·rintro ⟨x99, hp⟩
      subst hp
      replace h := hr6_99
      exact ⟨[], [], ⟨x99, some_in h⟩, [], rfl, trivial, ⟨rfl, rfl, rfl, rfl, rfl, rfl, rfl, rfl, trivial⟩, rfl⟩
     ·replace h := hl6_99
      refine And.intro (fun hb => ?_) (fun hb => ?_)
      ·replace h := cond_t h hb
       obtain ⟨x100, hc100, h⟩ := bnd h
       refine ⟨[], _, _, _, ⟨⟨_, points_Point_plus_c er x87 x84 x83 x100 hc100, ⟨.inl rfl, .inl rfl, .inl rfl, trivial⟩⟩, trivial, rfl⟩, ?_⟩
       exact ⟨[], [], ⟨x100, some_in h⟩, [], rfl, trivial, ⟨rfl, rfl, rfl, rfl, rfl, rfl, rfl, rfl, trivial⟩, rfl⟩
      ·replace h := cond_f h hb
       exact ⟨[], [], ⟨x87, some_in h⟩, [], rfl, trivial, ⟨rfl, rfl, rfl, rfl, rfl, rfl, rfl, rfl, trivial⟩, rfl⟩
theorem sign_Verify_c (b0 b1 : Nat) (hn : [b0, b1].Nodup) (x33 : List Int) (x34 : List Int) (x35 : Nat) (x36 : List Int) (res : Bool) (h : sign_Verify x33 x34 x35 x36 = some res) :
  Fn Tryd.prog (GE er) 6 [(.dv (.ints .u8 32 x33)), (.dv (.ints .u8 64 x34)), (.vs b0 0 1)] [(b0, (.var (.cons (.sl b1 [] ly5 0 x35) (.dv .nil)))), (b1, (.frzI .u8 x36))] (.bl res) [(b0, (.var (.cons (.sl b1 [] ly5 0 x35) (.dv .nil)))), (b1, (.frzI .u8 x36))] := by
 refine bE er Tryd.func6 rfl rfl [(0, b0), (1, b1)] [(.dv (.ints .u8 32 x33)), (.dv (.ints .u8 64 x34)), (.vs 0 0 1)] [(.var (.cons (.sl 1 [] ly5 0 x35) (.dv .nil))), (.frzI .u8 x36)] [] (.bl res) [(.var (.cons (.sl 1 [] ly5 0 x35) (.dv .nil))), (.frzI .u8 x36)] rfl rfl rfl rfl rfl rfl hn 3 ?_
 replace h := (show sign_Verify x33 x34 x35 x36 = _ from h)
 unfold sign_Verify at h
 refine Or.inr ?_
 refine And.intro (by decide) ?_
 refine ⟨x34, rfl, 32, 32, ⟨rfl, rfl⟩, ?_⟩
 obtain ⟨hg, h⟩ := gd h
 refine And.intro (by first | exact hg | simpa using hg) ?_
 refine ⟨(List.take 32 (List.take 32 (List.drop 32 x34))), by first | rfl | simp, ?_⟩
 obtain ⟨r45, hc45, h⟩ := bnd h
 rcases r45 with x37 | x45
 ·refine ⟨[], _, _, _, ⟨⟨_, points_Read_c er x33 (Sum.inl x37) hc45, ⟨.inl rfl, trivial⟩⟩, trivial, rfl⟩, ?_⟩
  refine And.intro (fun h0 => Bool.noConfusion h0) (fun _ => ?_)
  obtain ⟨x38, hc44, h⟩ := bnd h
  refine ⟨[], _, _, _, ⟨⟨_, scalar_Right_c er (List.take 32 (List.take 32 (List.drop 32 x34))) x38 hc44, ⟨.inl rfl, trivial⟩⟩, trivial, rfl⟩, ?_⟩
  refine And.intro (fun hb => ?_) (fun hb => ?_)
  ·replace h := cond_t h hb
   obtain rfl := some_in h
   exact ⟨0, [], [], rfl, rfl, rfl, trivial⟩
  ·replace h := cond_f h hb
   refine Or.inl ?_
   refine And.intro (by decide) ?_
   refine And.intro (by decide) ?_
   refine ⟨0, 32, ⟨rfl, rfl⟩, ?_⟩
   refine Or.inl ?_
   refine And.intro (by omega) ?_
   refine ⟨0, 32, ⟨rfl, rfl⟩, ?_⟩
   obtain ⟨x39, hc44, h⟩ := bnd h
   refine ⟨[], _, _, _, ⟨⟨_, slices_Concat_byte_byte_2_c er 0 1 6 (by decide) x35 x36 x39 hc44, ⟨.inl rfl, trivial⟩⟩, ⟨⟨rfl, rfl⟩, ⟨rfl, rfl⟩, trivial⟩, rfl⟩, ?_⟩
   refine Or.inl ?_
   refine Or.inr ?_
   obtain ⟨x40, hc44, h⟩ := bnd h
   refine ⟨[], _, _, _, ⟨⟨_, sign_hash_3_c er 7 3 2 6 (by decide) 32 32 (List.length x39) x34 x33 x39 x40 hc44, ⟨.inl rfl, trivial⟩⟩, ⟨⟨rfl, rfl⟩, ⟨rfl, rfl⟩, ⟨rfl, rfl⟩, ⟨rfl, rfl⟩, trivial⟩, rfl⟩, ?_⟩
   obtain ⟨x41, hc44, h⟩ := bnd h
   refine ⟨[], _, _, _, ⟨⟨_, points_Point_Negate_c er x37 x41 hc44, ⟨.inl rfl, trivial⟩⟩, trivial, rfl⟩, ?_⟩
   obtain ⟨x42, hc44, h⟩ := bnd h
   refine ⟨[], _, _, _, ⟨⟨_, points_Point_With_c er x41 x40 (List.take 32 (List.take 32 (List.drop 32 x34))) x42 hc44, ⟨.inl rfl, .inl rfl, .inl rfl, trivial⟩⟩, trivial, rfl⟩, ?_⟩
   obtain ⟨x43, hc44, h⟩ := bnd h
   refine ⟨[], _, _, _, ⟨⟨_, points_Point_Bytes_c er x42 x43 hc44, ⟨.inl rfl, trivial⟩⟩, trivial, rfl⟩, ?_⟩
   refine Or.inl ?_
   refine And.intro (by omega) ?_
   refine ⟨0, 32, ⟨rfl, rfl⟩, ?_⟩
   refine Or.inl ?_
   refine And.intro (by decide) ?_
   refine And.intro (by decide) ?_
   refine ⟨0, 32, ⟨rfl, rfl⟩, ?_⟩
   obtain ⟨x44, hc44, h⟩ := bnd h
   refine ⟨[true, true], _, _, _, ⟨⟨_, words_Equal_c er (List.take 32 x43) (List.take 32 x34) x44 hc44, ⟨.inl rfl, .inl rfl, trivial⟩⟩, trivial, rfl⟩, ?_⟩
   obtain rfl := some_in h
   exact ⟨0, [], [], rfl, rfl, rfl, trivial⟩
 ·refine ⟨[], _, _, _, ⟨⟨_, points_Read_c er x33 (Sum.inr x45) hc45, ⟨.inl rfl, trivial⟩⟩, trivial, rfl⟩, ?_⟩
  refine And.intro (fun _ => ?_) (fun h0 => Bool.noConfusion h0)
  obtain rfl := some_in h
  exact ⟨0, [], [], rfl, rfl, rfl, trivial⟩
theorem fl13_alive_c (res : Bool) (h : fl13_alive = some res) :
  Fn Tryd.prog (GE er) 4 [] [] (.bl res) [] := by
 refine bE er Tryd.func4 rfl rfl [] [] [] [] (.bl res) [] rfl rfl rfl rfl rfl rfl .nil 3 ?_
 replace h := (show fl13_alive = _ from h)
 unfold fl13_alive at h
 refine Or.inl ?_
 refine ⟨0, (List.length [97]), ⟨rfl, rfl⟩, ?_⟩
 refine Or.inl ?_
 refine Or.inr ?_
 obtain ⟨x4, hc8, h⟩ := bnd h
 refine ⟨[], _, _, _, ⟨⟨_, sign_Sign_c er 1 0 (by decide) (List.set (List.replicate 32 (0 : Int)) 0 1) (List.length [97]) [97] x4 hc8, ⟨.inl rfl, .inl rfl, trivial⟩⟩, ⟨⟨rfl, rfl⟩, ⟨rfl, rfl⟩, trivial⟩, rfl⟩, ?_⟩
 obtain ⟨x5, hc8, h⟩ := bnd h
 refine ⟨[], _, _, _, ⟨⟨_, sign_Public_c er (List.set (List.replicate 32 (0 : Int)) 0 1) x5 hc8, ⟨.inl rfl, trivial⟩⟩, trivial, rfl⟩, ?_⟩
 refine Or.inl ?_
 refine ⟨0, (List.length [97]), ⟨rfl, rfl⟩, ?_⟩
 refine Or.inl ?_
 refine Or.inr ?_
 obtain ⟨x6, hc8, h⟩ := bnd h
 refine ⟨[], _, _, _, ⟨⟨_, sign_Verify_c er 4 3 (by decide) x5 x4 (List.length [97]) [97] x6 hc8, ⟨.inl rfl, .inl rfl, .inl rfl, trivial⟩⟩, ⟨⟨rfl, rfl⟩, ⟨rfl, rfl⟩, trivial⟩, rfl⟩, ?_⟩
 refine And.intro (fun hb => ?_) (fun hb => ?_)
 ·replace h := cond_t h hb
  obtain ⟨x7, hc8, h⟩ := bnd h
  refine ⟨[], _, _, _, ⟨⟨_, sign_Public_c er (List.set (List.replicate 32 (0 : Int)) 0 2) x7 hc8, ⟨.inl rfl, trivial⟩⟩, trivial, rfl⟩, ?_⟩
  refine Or.inl ?_
  refine ⟨0, (List.length [97]), ⟨rfl, rfl⟩, ?_⟩
  refine Or.inl ?_
  refine Or.inr ?_
  obtain ⟨x8, hc8, h⟩ := bnd h
  refine ⟨[], _, _, _, ⟨⟨_, sign_Verify_c er 6 5 (by decide) x7 x4 (List.length [97]) [97] x8 hc8, ⟨.inl rfl, .inl rfl, .inl rfl, trivial⟩⟩, ⟨⟨rfl, rfl⟩, ⟨rfl, rfl⟩, trivial⟩, rfl⟩, ?_⟩
  obtain rfl := some_in h
  exact ⟨0, [], [], rfl, trivial⟩
 ·replace h := cond_f h hb
  obtain rfl := some_in h
  exact ⟨0, [], [], rfl, trivial⟩
theorem slices_Concat_byte_byte_6_c (k0 : Nat) (hn : [k0].Nodup) (x17 : List (List Int)) (res : Nat × (List Int)) (h : slices_Concat_byte_byte_6 x17 = some res) :
  Fn Tryd.prog (GE er) 12 [(.dv (.ro ly24 (List.length x17) (rw_ (fun q => .roI .u8 q) [] x17)))] [] (.sl k0 [] ly5 0 res.1) [(k0, (.rowI .u8 res.2))] := by
 refine bE er Tryd.func12 rfl rfl [(0, k0)] [(.dv (.ro ly24 (List.length x17) (rw_ (fun q => .roI .u8 q) [] x17)))] [] [0] (.sl 0 [] ly5 0 res.1) [(.rowI .u8 res.2)] rfl rfl rfl rfl rfl rfl hn 3 ?_
 replace h := (show slices_Concat_byte_byte_6 x17 = _ from h)
 unfold slices_Concat_byte_byte_6 at h
 obtain ⟨r1_0_18, hl1_18, hr1_18⟩ := bnd h
 refine Or.inr ⟨[10], {p : Int // p = r1_0_18}, ⟨fun | ⟨x18, _⟩ => [(3, (.int .i64 x18))], fun | ⟨x18, _⟩ => [], fun _ => 0⟩, 0, ?_, ?_⟩
 ·rintro ⟨x18, hp⟩
  subst hp
  replace h := hr1_18
  obtain ⟨r28, hc28, h⟩ := bnd h
  obtain ⟨x22, x23⟩ := r28
  refine ⟨[], _, _, _, ⟨⟨_, slices_Grow_byte_byte_2_c er 0 (by decide) x18 (x22, x23) hc28, ⟨.inl rfl, .inl rfl, trivial⟩⟩, trivial, rfl⟩, ?_⟩
  refine Or.inl ?_
  obtain ⟨r2_1_25, hl2_25, hr2_25⟩ := bnd h
  refine Or.inr ⟨[24, 26], (({p : Unit // (Sum.inl p) = r2_1_25}) ⊕ ({p : Nat × (List Int) // (Sum.inr p) = r2_1_25})), ⟨fun | (Sum.inl (⟨(), _⟩)) => [(6, (.sl 0 [] ly5 0 x22)), (24, (.sl 0 [] ly5 0 x22))] | (Sum.inr (⟨(x24, x25), _⟩)) => [(6, (.sl 0 [] ly5 0 x24))], fun | (Sum.inl (⟨(), _⟩)) => [] | (Sum.inr (⟨(x24, x25), _⟩)) => [(0, (.rowI .u8 x25))], fun _ => 0⟩, 0, ?_, ?_⟩
  ·rintro (⟨⟨⟩, hp⟩ | ⟨⟨x24, x25⟩, hp⟩)
   ·subst hp
    replace h := hr2_25
    obtain rfl := some_in h
    exact ⟨0, [], [], rfl, rfl, trivial⟩
   ·subst hp
    replace h := hr2_25
    obtain rfl := some_in h
    exact ⟨0, [], [], rfl, rfl, trivial⟩
  ·replace h := hl2_25
   refine Or.inl ?_
   refine ⟨[24], {x : Nat × Nat × Int × (List Int) // slices_Concat_byte_byte_6_l2 x17 x.1 x.2.1 x.2.2.1 x.2.2.2 = some r2_1_25}, ⟨fun | ⟨(n2, x26, x27, x28), _⟩ => [(6, (.sl 0 [] ly5 0 x26)), (27, (.int .i64 x27))], fun | ⟨(n2, x26, x27, x28), _⟩ => [(0, (.rowI .u8 x28))], fun | ⟨(n2, x26, x27, x28), _⟩ => n2⟩, [], [], ⟨(FUEL, x22, 0, x23), h⟩, ⟨rfl, ⟨rfl, rfl, trivial⟩, ⟨rfl, trivial⟩, rfl⟩, ?_⟩
   rintro ⟨⟨n2, x26, x27, x28⟩, h⟩
   cases n2 with
   | zero => exact no_none h
   | succ n2 =>
    replace h := (show slices_Concat_byte_byte_6_l2 x17 (n2 + 1) x26 x27 x28 = _ from h)
    replace h := (slices_Concat_byte_byte_6_l2.eq_2 .. ).symm.trans h
    refine And.intro (fun hb => ?_) (fun hb => ?_)
    ·replace h := cond_t h hb
     refine Or.inl ?_
     obtain ⟨hg, h⟩ := gd h
     refine And.intro hg ?_
     obtain ⟨hg, h⟩ := gd h
     refine And.intro (hg) ?_
     obtain ⟨hg2, h⟩ := gd h
     refine ⟨((List.take x26 x28) ++ (List.getD x17 (Int.toNat x27) [])), app_cut (cut_0 _ _) (rfl), 0, (List.length ((List.take x26 x28) ++ (List.getD x17 (Int.toNat x27) []))), ⟨rfl, cut_ln hg2 (rfl)⟩, ?_⟩
     refine Or.inl ?_
     exact ⟨⟨(n2, (List.length ((List.take x26 x28) ++ (List.getD x17 (Int.toNat x27) []))), (IntKind.wrap .i64 (x27 + 1)), ((List.take x26 x28) ++ (List.getD x17 (Int.toNat x27) []))), h⟩, [(0, 1)], ⟨rfl, ⟨rfl, rfl, trivial⟩, ⟨rfl, trivial⟩, rfl⟩, Nat.lt_succ_self _⟩
    ·replace h := cond_f h hb
     exact ⟨[], [], (Sum.inr (⟨(x26, x28), some_in h⟩)), [], rfl, ⟨rfl, trivial⟩, ⟨rfl, trivial⟩, rfl⟩
 ·replace h := hl1_18
  refine Or.inl ?_
  refine ⟨[], {x : Nat × Int × Int // slices_Concat_byte_byte_6_l1 x17 x.1 x.2.1 x.2.2 = some r1_0_18}, ⟨fun | ⟨(n1, x19, x20), _⟩ => [(3, (.int .i64 x19)), (11, (.int .i64 x20))], fun | ⟨(n1, x19, x20), _⟩ => [], fun | ⟨(n1, x19, x20), _⟩ => n1⟩, [], [], ⟨(FUEL, 0, 0), h⟩, ⟨rfl, ⟨rfl, rfl, trivial⟩, trivial, rfl⟩, ?_⟩
  rintro ⟨⟨n1, x19, x20⟩, h⟩
  cases n1 with
  | zero => exact no_none h
  | succ n1 =>
   replace h := (show slices_Concat_byte_byte_6_l1 x17 (n1 + 1) x19 x20 = _ from h)
   replace h := (slices_Concat_byte_byte_6_l1.eq_2 .. ).symm.trans h
   refine And.intro (fun hb => ?_) (fun hb => ?_)
   ·replace h := cond_t h hb
    refine Or.inl ?_
    obtain ⟨hg, h⟩ := gd h
    refine And.intro hg ?_
    let x21 : Int := (IntKind.wrap .i64 (x19 + (List.length (List.getD x17 (Int.toNat x20) []) : Int)))
    replace h := nm_at x21 rfl h
    refine Or.inl ?_
    refine And.intro (fun hb => ?_) (fun hb => ?_)
    ·replace h := cond_t h hb
     exact no_none h
    ·replace h := cond_f h hb
     exact ⟨⟨(n1, x21, (IntKind.wrap .i64 (x20 + 1))), h⟩, [], ⟨rfl, ⟨rfl, rfl, trivial⟩, trivial, rfl⟩, Nat.lt_succ_self _⟩
   ·replace h := cond_f h hb
    exact ⟨[], [], ⟨x19, some_in h⟩, [], rfl, ⟨rfl, trivial⟩, trivial, rfl⟩
theorem sign_Sign_2_c (x10 : List Int) (x11 : List (List Int)) (res : (List Int)) (h : sign_Sign_2 x10 x11 = some res) :
  Fn Tryd.prog (GE er) 5 [(.dv (.ints .u8 32 x10)), (.dv (.ro ly24 (List.length x11) (rw_ (fun q => .roI .u8 q) [] x11)))] [] (.dv (.ints .u8 64 res)) [] := by
 refine bE er Tryd.func5 rfl rfl [] [(.dv (.ints .u8 32 x10)), (.dv (.ro ly24 (List.length x11) (rw_ (fun q => .roI .u8 q) [] x11)))] [] [] (.dv (.ints .u8 64 res)) [] rfl rfl rfl rfl rfl rfl .nil 3 ?_
 replace h := (show sign_Sign_2 x10 x11 = _ from h)
 unfold sign_Sign_2 at h
 obtain ⟨r26, hc26, h⟩ := bnd h
 obtain ⟨x12, x13⟩ := r26
 refine ⟨[], _, _, _, ⟨⟨_, sign_secret_c er 2 (by decide) x10 (x12, x13) hc26, ⟨.inl rfl, trivial⟩⟩, trivial, rfl⟩, ?_⟩
 refine Or.inl ?_
 obtain ⟨x14, hc26, h⟩ := bnd h
 refine ⟨[], _, _, _, ⟨⟨_, points_Base_c er x14 hc26, trivial⟩, trivial, rfl⟩, ?_⟩
 obtain ⟨x15, hc26, h⟩ := bnd h
 refine ⟨[], _, _, _, ⟨⟨_, points_Point_Times_c er x14 x12 x15 hc26, ⟨.inl rfl, .inl rfl, trivial⟩⟩, trivial, rfl⟩, ?_⟩
 obtain ⟨x16, hc26, h⟩ := bnd h
 refine ⟨[], _, _, _, ⟨⟨_, points_Point_Bytes_c er x15 x16 hc26, ⟨.inl rfl, trivial⟩⟩, trivial, rfl⟩, ?_⟩
 obtain ⟨r26, hc26, h⟩ := bnd h
 obtain ⟨x17, x18⟩ := r26
 refine ⟨[], _, _, _, ⟨⟨_, slices_Concat_byte_byte_6_c er 5 (by decide) x11 (x17, x18) hc26, ⟨.inl rfl, trivial⟩⟩, trivial, rfl⟩, ?_⟩
 refine Or.inl ?_
 refine Or.inr ?_
 obtain ⟨x19, hc26, h⟩ := bnd h
 refine ⟨[], _, _, _, ⟨⟨_, sign_hash_c er 6 2 5 (by decide) 32 32 x17 x13 x18 x19 hc26, ⟨.inl rfl, trivial⟩⟩, ⟨⟨rfl, rfl⟩, ⟨rfl, rfl⟩, ⟨rfl, rfl⟩, trivial⟩, rfl⟩, ?_⟩
 obtain ⟨x20, hc26, h⟩ := bnd h
 refine ⟨[], _, _, _, ⟨⟨_, points_Base_c er x20 hc26, trivial⟩, trivial, rfl⟩, ?_⟩
 obtain ⟨x21, hc26, h⟩ := bnd h
 refine ⟨[], _, _, _, ⟨⟨_, points_Point_Times_c er x20 x19 x21 hc26, ⟨.inl rfl, .inl rfl, trivial⟩⟩, trivial, rfl⟩, ?_⟩
 obtain ⟨x22, hc26, h⟩ := bnd h
 refine ⟨[], _, _, _, ⟨⟨_, points_Point_Bytes_c er x21 x22 hc26, ⟨.inl rfl, trivial⟩⟩, trivial, rfl⟩, ?_⟩
 refine Or.inl ?_
 refine And.intro (by omega) ?_
 refine ⟨0, 32, ⟨rfl, rfl⟩, ?_⟩
 refine Or.inl ?_
 refine And.intro (by omega) ?_
 refine ⟨0, 32, ⟨rfl, rfl⟩, ?_⟩
 refine Or.inr ?_
 obtain ⟨x23, hc26, h⟩ := bnd h
 refine ⟨[], _, _, _, ⟨⟨_, sign_hash_2_c er 9 8 4 5 (by decide) 32 32 x17 x22 x16 x18 x23 hc26, ⟨.inl rfl, trivial⟩⟩, ⟨⟨rfl, rfl⟩, ⟨rfl, rfl⟩, ⟨rfl, rfl⟩, ⟨rfl, rfl⟩, trivial⟩, rfl⟩, ?_⟩
 obtain ⟨x24, hc26, h⟩ := bnd h
 refine ⟨[], _, _, _, ⟨⟨_, scalar_Times_c er x23 x12 x24 hc26, ⟨.inl rfl, .inl rfl, trivial⟩⟩, trivial, rfl⟩, ?_⟩
 obtain ⟨x25, hc26, h⟩ := bnd h
 refine ⟨[], _, _, _, ⟨⟨_, scalar_Add_c er x19 x24 x25 hc26, ⟨.inl rfl, .inl rfl, trivial⟩⟩, trivial, rfl⟩, ?_⟩
 refine Or.inl ?_
 refine And.intro (by omega) ?_
 refine ⟨0, 64, ⟨rfl, rfl⟩, ?_⟩
 refine Or.inl ?_
 refine And.intro (by omega) ?_
 refine ⟨0, 32, ⟨rfl, rfl⟩, ?_⟩
 let x26 : List Int := (over (List.replicate 64 (0 : Int)) 0 (List.take 64 (List.take 32 x22)))
 replace h := nm_at x26 rfl h
 refine Or.inl ?_
 refine And.intro (by decide) ?_
 refine ⟨32, 32, ⟨rfl, rfl⟩, ?_⟩
 refine Or.inl ?_
 refine And.intro (by omega) ?_
 refine ⟨0, 32, ⟨rfl, rfl⟩, ?_⟩
 obtain rfl := some_in h
 exact ⟨0, [], [], rfl, trivial⟩
theorem sign_Verify_2_c (x29 : List Int) (x30 : List Int) (x31 : List (List Int)) (res : Bool) (h : sign_Verify_2 x29 x30 x31 = some res) :
  Fn Tryd.prog (GE er) 6 [(.dv (.ints .u8 32 x29)), (.dv (.ints .u8 64 x30)), (.dv (.ro ly24 (List.length x31) (rw_ (fun q => .roI .u8 q) [] x31)))] [] (.bl res) [] := by
 refine bE er Tryd.func6 rfl rfl [] [(.dv (.ints .u8 32 x29)), (.dv (.ints .u8 64 x30)), (.dv (.ro ly24 (List.length x31) (rw_ (fun q => .roI .u8 q) [] x31)))] [] [] (.bl res) [] rfl rfl rfl rfl rfl rfl .nil 3 ?_
 replace h := (show sign_Verify_2 x29 x30 x31 = _ from h)
 unfold sign_Verify_2 at h
 refine Or.inr ?_
 refine And.intro (by decide) ?_
 refine ⟨x30, rfl, 32, 32, ⟨rfl, rfl⟩, ?_⟩
 obtain ⟨hg, h⟩ := gd h
 refine And.intro (by first | exact hg | simpa using hg) ?_
 refine ⟨(List.take 32 (List.take 32 (List.drop 32 x30))), by first | rfl | simp, ?_⟩
 obtain ⟨r41, hc41, h⟩ := bnd h
 rcases r41 with x32 | x41
 ·refine ⟨[], _, _, _, ⟨⟨_, points_Read_c er x29 (Sum.inl x32) hc41, ⟨.inl rfl, trivial⟩⟩, trivial, rfl⟩, ?_⟩
  refine And.intro (fun h0 => Bool.noConfusion h0) (fun _ => ?_)
  obtain ⟨x33, hc40, h⟩ := bnd h
  refine ⟨[], _, _, _, ⟨⟨_, scalar_Right_c er (List.take 32 (List.take 32 (List.drop 32 x30))) x33 hc40, ⟨.inl rfl, trivial⟩⟩, trivial, rfl⟩, ?_⟩
  refine And.intro (fun hb => ?_) (fun hb => ?_)
  ·replace h := cond_t h hb
   obtain rfl := some_in h
   exact ⟨0, [], [], rfl, trivial⟩
  ·replace h := cond_f h hb
   refine Or.inl ?_
   refine And.intro (by decide) ?_
   refine And.intro (by decide) ?_
   refine ⟨0, 32, ⟨rfl, rfl⟩, ?_⟩
   refine Or.inl ?_
   refine And.intro (by omega) ?_
   refine ⟨0, 32, ⟨rfl, rfl⟩, ?_⟩
   obtain ⟨r40, hc40, h⟩ := bnd h
   obtain ⟨x34, x35⟩ := r40
   refine ⟨[], _, _, _, ⟨⟨_, slices_Concat_byte_byte_6_c er 4 (by decide) x31 (x34, x35) hc40, ⟨.inl rfl, trivial⟩⟩, trivial, rfl⟩, ?_⟩
   refine Or.inl ?_
   refine Or.inr ?_
   obtain ⟨x36, hc40, h⟩ := bnd h
   refine ⟨[], _, _, _, ⟨⟨_, sign_hash_3_c er 5 1 0 4 (by decide) 32 32 x34 x30 x29 x35 x36 hc40, ⟨.inl rfl, trivial⟩⟩, ⟨⟨rfl, rfl⟩, ⟨rfl, rfl⟩, ⟨rfl, rfl⟩, ⟨rfl, rfl⟩, trivial⟩, rfl⟩, ?_⟩
   obtain ⟨x37, hc40, h⟩ := bnd h
   refine ⟨[], _, _, _, ⟨⟨_, points_Point_Negate_c er x32 x37 hc40, ⟨.inl rfl, trivial⟩⟩, trivial, rfl⟩, ?_⟩
   obtain ⟨x38, hc40, h⟩ := bnd h
   refine ⟨[], _, _, _, ⟨⟨_, points_Point_With_c er x37 x36 (List.take 32 (List.take 32 (List.drop 32 x30))) x38 hc40, ⟨.inl rfl, .inl rfl, .inl rfl, trivial⟩⟩, trivial, rfl⟩, ?_⟩
   obtain ⟨x39, hc40, h⟩ := bnd h
   refine ⟨[], _, _, _, ⟨⟨_, points_Point_Bytes_c er x38 x39 hc40, ⟨.inl rfl, trivial⟩⟩, trivial, rfl⟩, ?_⟩
   refine Or.inl ?_
   refine And.intro (by omega) ?_
   refine ⟨0, 32, ⟨rfl, rfl⟩, ?_⟩
   refine Or.inl ?_
   refine And.intro (by decide) ?_
   refine And.intro (by decide) ?_
   refine ⟨0, 32, ⟨rfl, rfl⟩, ?_⟩
   obtain ⟨x40, hc40, h⟩ := bnd h
   refine ⟨[true, true], _, _, _, ⟨⟨_, words_Equal_c er (List.take 32 x39) (List.take 32 x30) x40 hc40, ⟨.inl rfl, .inl rfl, trivial⟩⟩, trivial, rfl⟩, ?_⟩
   obtain rfl := some_in h
   exact ⟨0, [], [], rfl, trivial⟩
 ·refine ⟨[], _, _, _, ⟨⟨_, points_Read_c er x29 (Sum.inr x41) hc41, ⟨.inl rfl, trivial⟩⟩, trivial, rfl⟩, ?_⟩
  refine And.intro (fun _ => ?_) (fun h0 => Bool.noConfusion h0)
  obtain rfl := some_in h
  exact ⟨0, [], [], rfl, trivial⟩
theorem fl13_SignBends_c (x1 : List Int) (x2 : List Int) (x3 : List Int) (res : Bool) (h : fl13_SignBends x1 x2 x3 = some res) :
  Fn Tryd.prog (GE er) 3 [(.dv (.ints .u8 32 x1)), (.dv (.roI .u8 x2)), (.dv (.ints .u8 32 x3))] [] (.bl res) [] := by
 refine bE er Tryd.func3 rfl rfl [] [(.dv (.ints .u8 32 x1)), (.dv (.roI .u8 x2)), (.dv (.ints .u8 32 x3))] [] [] (.bl res) [] rfl rfl rfl rfl rfl rfl .nil 3 ?_
 replace h := (show fl13_SignBends x1 x2 x3 = _ from h)
 unfold fl13_SignBends at h
 obtain ⟨x4, hc8, h⟩ := bnd h
 refine ⟨[], _, _, _, ⟨⟨_, fl13_alive_c er x4 hc8, trivial⟩, trivial, rfl⟩, ?_⟩
 refine And.intro (fun hb => ?_) (fun hb => ?_)
 ·replace h := cond_t h hb
  obtain rfl := some_in h
  exact ⟨0, [], [], rfl, trivial⟩
 ·replace h := cond_f h hb
  refine And.intro (fun hb => ?_) (fun hb => ?_)
  ·replace h := cond_t h hb
   obtain rfl := some_in h
   exact ⟨0, [], [], rfl, trivial⟩
  ·replace h := cond_f h hb
   refine Or.inl ?_
   refine ⟨(List.length [x2]), (rw_ (fun q => .roI .u8 q) [] [x2]), ⟨rfl, fun j hj => match j, hj with | 0, _ => rfl | _ + 1, hj => absurd hj (by omega)⟩, ?_⟩
   refine Or.inl ?_
   obtain ⟨x5, hc8, h⟩ := bnd h
   refine ⟨[false, true], _, _, _, ⟨⟨_, sign_Sign_2_c er x1 [x2] x5 hc8, ⟨.inl rfl, .inl rfl, trivial⟩⟩, trivial, rfl⟩, ?_⟩
   refine Or.inl ?_
   refine And.intro (by decide) ?_
   refine ⟨32, 32, ⟨rfl, rfl⟩, ?_⟩
   refine Or.inl ?_
   refine And.intro (by omega) ?_
   refine ⟨0, 32, ⟨rfl, rfl⟩, ?_⟩
   obtain ⟨x6, hc8, h⟩ := bnd h
   refine ⟨[], _, _, _, ⟨⟨_, sign_Public_c er x1 x6 hc8, ⟨.inl rfl, trivial⟩⟩, trivial, rfl⟩, ?_⟩
   refine Or.inl ?_
   refine ⟨(List.length [x2]), (rw_ (fun q => .roI .u8 q) [] [x2]), ⟨rfl, fun j hj => match j, hj with | 0, _ => rfl | _ + 1, hj => absurd hj (by omega)⟩, ?_⟩
   refine Or.inl ?_
   obtain ⟨x7, hc8, h⟩ := bnd h
   refine ⟨[false, false, true], _, _, _, ⟨⟨_, sign_Verify_2_c er x6 (over x5 32 (List.take 32 (List.take 32 x3))) [x2] x7 hc8, ⟨.inl rfl, .inl rfl, .inl rfl, trivial⟩⟩, trivial, rfl⟩, ?_⟩
   let x8 : Bool := (x7 == ((over x5 32 (List.take 32 (List.take 32 x3))) == x5))
   replace h := nm_at x8 rfl h
   obtain rfl := some_in h
   exact ⟨0, [], [], rfl, trivial⟩
end
end Go.Eng
