/-
  Part of a proof: SelC1.
-/
import Derived.Test.YtedebbmgijcpfaaDoorSelM
set_option linter.unusedVariables false
set_option linter.unusedSimpArgs false
set_option linter.unusedVariables false
set_option linter.unusedSimpArgs false
namespace Go.Eng
open Go.Proofs
set_option maxRecDepth 100000
set_option maxHeartbeats 4000000
section
variable (er : Nat -> ErrV)
def GEv (er : Nat -> ErrV) : Nat -> AV
 | 0 => .rp (.sc (.iface (er 4).1 (er 4).2))
 | 1 => .rp (.sc (.iface (er 3).1 (er 3).2))
 | 2 => .rp (.sc (.iface (er 1).1 (er 1).2))
 | 3 => .rp (.sc (.iface (er 2).1 (er 2).2))
 | 4 => .rp (.sc (.iface (er 5).1 (er 5).2))
 | 5 => .rp (.sc (.iface (er 6).1 (er 6).2))
 | 6 => .rp (.sc (.iface (er 7).1 (er 7).2))
 | 7 => .rp (.sc (.iface (er 8).1 (er 8).2))
 | 8 => .rp (.sc (.iface (er 9).1 (er 9).2))
 | 9 => .rp (.sc (.iface (er 10).1 (er 10).2))
 | 10 => .rp (.sc (.iface (er 11).1 (er 11).2))
 | 11 => .rp (.sc (.iface (er 12).1 (er 12).2))
 | 12 => .rp (.sc (.iface (er 13).1 (er 13).2))
 | 13 => .rp (.sc (.iface (er 14).1 (er 14).2))
 | 14 => .rp (.sc (.iface (er 15).1 (er 15).2))
 | 15 => .rp (.sc (.iface (er 16).1 (er 16).2))
 | 16 => .rp (.sc (.iface (er 17).1 (er 17).2))
 | 17 => .rp (.sc (.iface (er 18).1 (er 18).2))
 | 18 => .rp (.sc (.iface (er 19).1 (er 19).2))
 | _ => .any
def GE (er : Nat -> ErrV) : Glob := ⟨GEv er, ErrsOK 106 er errI⟩
theorem GE_plain (er : Nat -> ErrV) : GPlain (GE er) := fun g => by show (GEv er g).inB _ = true; unfold GEv; split <;> rfl
theorem bE (er : Nat -> ErrV) {f : FuncId} {fn : Func} {c : Code} (hf : Tryd.prog.funcs[f]? = some fn) (hname : (fn.name == "runtime.NumGoroutine") = false) (hb : fn.body = some c) (τ : List (Nat × Nat)) (as0 : List AV) (bs0 : List Blk) (news : List Nat) (r0 : AV) (ws : List Blk) {args : List AV} {S wr : List (Nat × Blk)} {r : AV} (ha : as0.map (AV.ren τ) = args) (hS : renAll τ (List.range bs0.length) bs0 = S) (hr : r0.ren τ = r) (hw : renAll τ (List.range bs0.length ++ news) ws = wr) (hchk : bodyB as0 bs0 news r0 ws = true) (hk : τ.map Prod.fst = List.range bs0.length ++ news) (hn : (τ.map Prod.snd).Nodup) (dp : Nat) (h : startT as0 fn.ntmps fun ts => vcR Tryd.prog (GE er) tab (itR Tryd.prog (GE er) tab dp) bs0.length noY c false [] none (retK tab fn fun r bs => r = r0 /\ leaves bs (List.range bs0.length ++ news) ws) ts bs0) : Fn Tryd.prog (GE er) f args S r wr :=
 Fn.bodyE tabOK mixed (GE_plain er) hf hname hb τ as0 bs0 news r0 ws ha hS hr hw hchk hk hn dp h
theorem slices_Chunk_byte_byte_c (k0 k1 : Nat) (hn : [k0, k1].Nodup) (x11 : List Int) (x12 : Int) (res : Unit) (h : slices_Chunk_byte_byte x11 x12 = some res) :
  Fn Tryd.prog (GE er) 20 [(.dv (.roI .u8 x11)), (.int .i64 x12)] [] (.fn 39 [(.ptr k0 [] ly24), (.ptr k1 [] ly3)]) [(k0, (.var (.dv (.roI .u8 x11)))), (k1, (.var (.int .i64 x12)))] := by
 refine bE er Tryd.func20 rfl rfl [(0, k0), (1, k1)] [(.dv (.roI .u8 x11)), (.int .i64 x12)] [] [0, 1] (.fn 39 [(.ptr 0 [] ly24), (.ptr 1 [] ly3)]) [(.var (.dv (.roI .u8 x11))), (.var (.int .i64 x12))] rfl rfl rfl rfl rfl rfl hn 3 ?_
 replace h := (show slices_Chunk_byte_byte x11 x12 = _ from h)
 unfold slices_Chunk_byte_byte at h
 refine Or.inl ?_
 refine And.intro (fun hb => ?_) (fun hb => ?_)
 ·replace h := cond_t h hb
  exact no_none h
 ·replace h := cond_f h hb
  obtain rfl := some_in h
  exact ⟨0, [], [], rfl, rfl, rfl, trivial⟩
theorem stream_word_c (x22 : List Int) (res : Int) (h : stream_word x22 = some res) :
  Fn Tryd.prog (GE er) 52 [(.dv (.roI .u8 x22))] [] (.int .u32 res) [] := by
 refine bE er Tryd.func52 rfl rfl [] [(.dv (.roI .u8 x22))] [] [] (.int .u32 res) [] rfl rfl rfl rfl rfl rfl .nil 3 ?_
 replace h := (show stream_word x22 = _ from h)
 unfold stream_word at h
 obtain ⟨hg, h⟩ := gd h
 refine And.intro hg ?_
 obtain ⟨hg, h⟩ := gd h
 refine And.intro hg ?_
 refine And.intro (by decide) ?_
 let x23 : Int := (IntKind.wrap .u32 ((IntKind.wrap .u32 (List.getD x22 1 0)) * 2 ^ 8))
 replace h := nm_at x23 rfl h
 obtain ⟨hg, h⟩ := gd h
 refine And.intro hg ?_
 refine And.intro (by decide) ?_
 let x24 : Int := (IntKind.wrap .u32 ((IntKind.wrap .u32 (List.getD x22 2 0)) * 2 ^ 16))
 replace h := nm_at x24 rfl h
 let x25 : Int := (bits .u32 .or (bits .u32 .or (IntKind.wrap .u32 (List.getD x22 0 0)) x23) x24)
 replace h := nm_at x25 rfl h
 obtain ⟨hg, h⟩ := gd h
 refine And.intro hg ?_
 refine And.intro (by decide) ?_
 let x26 : Int := (IntKind.wrap .u32 ((IntKind.wrap .u32 (List.getD x22 3 0)) * 2 ^ 24))
 replace h := nm_at x26 rfl h
 obtain rfl := some_in h
 exact ⟨0, [], [], rfl, trivial⟩
theorem stream_begin_c (x18 : List Int) (x19 : Int) (x20 : List Int) (res : (List Int)) (h : stream_begin x18 x19 x20 = some res) :
  Fn Tryd.prog (GE er) 40 [(.dv (.ints .u8 32 x18)), (.int .u32 x19), (.dv (.roI .u8 x20))] [] (.dv (.ints .u32 16 res)) [] := by
 refine bE er Tryd.func40 rfl rfl [] [(.dv (.ints .u8 32 x18)), (.int .u32 x19), (.dv (.roI .u8 x20))] [] [] (.dv (.ints .u32 16 res)) [] rfl rfl rfl rfl rfl rfl .nil 3 ?_
 replace h := (show stream_begin x18 x19 x20 = _ from h)
 unfold stream_begin at h
 let x21 : List Int := (List.set (List.set (List.set (List.set (List.replicate 16 (0 : Int)) 0 1634760805) 1 857760878) 2 2036477234) 3 1797285236)
 replace h := nm_at x21 rfl h
 obtain ⟨r1_0_22, hl1_22, hr1_22⟩ := bnd h
 refine Or.inr ⟨[3], {p : (List Int) // p = r1_0_22}, ⟨fun | ⟨x22, _⟩ => [], fun | ⟨x22, _⟩ => [(2, (.var (.dv (.ints .u32 16 x22))))], fun _ => 0⟩, 0, ?_, ?_⟩
 ·rintro ⟨x22, hp⟩
  subst hp
  replace h := hr1_22
  refine And.intro (by decide) ?_
  obtain ⟨r2_1_26, hl2_26, hr2_26⟩ := bnd h
  refine Or.inr ⟨[2], {p : (List Int) // p = r2_1_26}, ⟨fun | ⟨x26, _⟩ => [], fun | ⟨x26, _⟩ => [(2, (.var (.dv (.ints .u32 16 x26))))], fun _ => 0⟩, 0, ?_, ?_⟩
  ·rintro ⟨x26, hp⟩
   subst hp
   replace h := hr2_26
   obtain rfl := some_in h
   exact ⟨0, [], [], rfl, trivial⟩
  ·replace h := hl2_26
   refine Or.inl ?_
   refine ⟨[], {x : Nat × Int × (List Int) // stream_begin_l2 x20 x.1 x.2.1 x.2.2 = some r2_1_26}, ⟨fun | ⟨(n2, x27, x28), _⟩ => [(24, (.int .i64 x27))], fun | ⟨(n2, x27, x28), _⟩ => [(2, (.var (.dv (.ints .u32 16 x28))))], fun | ⟨(n2, x27, x28), _⟩ => n2⟩, [], [], ⟨(FUEL, 0, (List.set x22 12 x19)), h⟩, ⟨rfl, ⟨rfl, trivial⟩, ⟨rfl, rfl, rfl, trivial⟩, rfl⟩, ?_⟩
   rintro ⟨⟨n2, x27, x28⟩, h⟩
   cases n2 with
   | zero => exact no_none h
   | succ n2 =>
    replace h := (show stream_begin_l2 x20 (n2 + 1) x27 x28 = _ from h)
    replace h := (stream_begin_l2.eq_2 .. ).symm.trans h
    refine And.intro (fun hb => ?_) (fun hb => ?_)
    ·replace h := cond_t h hb
     refine Or.inl ?_
     obtain ⟨hg, h⟩ := gd h
     refine And.intro hg ?_
     refine ⟨(List.take (Int.toNat ((List.length x20 : Int) - (IntKind.wrap .i64 (4 * x27)))) (List.drop (Int.toNat (IntKind.wrap .i64 (4 * x27))) x20)), by first | rfl | simp, ?_⟩
     let x29 : List Int := (List.take (Int.toNat ((List.length x20 : Int) - (IntKind.wrap .i64 (4 * x27)))) (List.drop (Int.toNat (IntKind.wrap .i64 (4 * x27))) x20))
     replace h := nm_at x29 rfl h
     obtain ⟨x30, hc31, h⟩ := bnd h
     refine ⟨[], _, _, _, ⟨⟨_, stream_word_c er x29 x30 hc31, ⟨.inl rfl, trivial⟩⟩, trivial, rfl⟩, ?_⟩
     obtain ⟨hg, h⟩ := gd h
     refine And.intro hg ?_
     let x31 : List Int := (List.set x28 (Int.toNat (IntKind.wrap .i64 (13 + x27))) x30)
     replace h := nm_at x31 rfl h
     exact ⟨⟨(n2, (IntKind.wrap .i64 (x27 + 1)), x31), h⟩, [], ⟨rfl, ⟨rfl, trivial⟩, ⟨rfl, rfl, rfl, trivial⟩, rfl⟩, Nat.lt_succ_self _⟩
    ·replace h := cond_f h hb
     exact ⟨[], [], ⟨x28, some_in h⟩, [], rfl, trivial, ⟨rfl, rfl, rfl, trivial⟩, rfl⟩
 ·replace h := hl1_22
  refine Or.inl ?_
  refine ⟨[], {x : Nat × Int × (List Int) // stream_begin_l1 x18 x.1 x.2.1 x.2.2 = some r1_0_22}, ⟨fun | ⟨(n1, x23, x24), _⟩ => [(11, (.int .i64 x23))], fun | ⟨(n1, x23, x24), _⟩ => [(2, (.var (.dv (.ints .u32 16 x24))))], fun | ⟨(n1, x23, x24), _⟩ => n1⟩, [], [], ⟨(FUEL, 0, x21), h⟩, ⟨rfl, ⟨rfl, trivial⟩, ⟨rfl, rfl, rfl, trivial⟩, rfl⟩, ?_⟩
  rintro ⟨⟨n1, x23, x24⟩, h⟩
  cases n1 with
  | zero => exact no_none h
  | succ n1 =>
   replace h := (show stream_begin_l1 x18 (n1 + 1) x23 x24 = _ from h)
   replace h := (stream_begin_l1.eq_2 .. ).symm.trans h
   refine And.intro (fun hb => ?_) (fun hb => ?_)
   ·replace h := cond_t h hb
    refine Or.inl ?_
    refine Or.inl ?_
    obtain ⟨hg, h⟩ := gd h
    refine And.intro hg ?_
    refine ⟨(Int.toNat (IntKind.wrap .i64 (4 * x23))), (Int.toNat (32 - (IntKind.wrap .i64 (4 * x23)))), ⟨rfl, rfl⟩, ?_⟩
    obtain ⟨x25, hc25, h⟩ := bnd h
    refine ⟨[true], _, _, _, ⟨⟨_, stream_word_c er (List.take (Int.toNat (32 - (IntKind.wrap .i64 (4 * x23)))) (List.drop (Int.toNat (IntKind.wrap .i64 (4 * x23))) x18)) x25 hc25, ⟨.inl rfl, trivial⟩⟩, trivial, rfl⟩, ?_⟩
    obtain ⟨hg, h⟩ := gd h
    refine And.intro hg ?_
    exact ⟨⟨(n1, (IntKind.wrap .i64 (x23 + 1)), (List.set x24 (Int.toNat (IntKind.wrap .i64 (4 + x23))) x25)), h⟩, [], ⟨rfl, ⟨rfl, trivial⟩, ⟨rfl, rfl, rfl, trivial⟩, rfl⟩, Nat.lt_succ_self _⟩
   ·replace h := cond_f h hb
    exact ⟨[], [], ⟨x24, some_in h⟩, [], rfl, trivial, ⟨rfl, rfl, rfl, trivial⟩, rfl⟩
theorem words_Left_c (x43 : Int) (x44 : Int) (res : Int) (h : words_Left x43 x44 = some res) :
  Fn Tryd.prog (GE er) 59 [(.int .u32 x43), (.int .i64 x44)] [] (.int .u32 res) [] := by
 refine bE er Tryd.func59 rfl rfl [] [(.int .u32 x43), (.int .i64 x44)] [] [] (.int .u32 res) [] rfl rfl rfl rfl rfl rfl .nil 3 ?_
 replace h := (show words_Left x43 x44 = _ from h)
 unfold words_Left at h
 refine And.intro (by decide) ?_
 obtain ⟨hg, h⟩ := gd h
 refine And.intro hg ?_
 let x45 : Int := (IntKind.wrap .u32 (x43 * 2 ^ (min (Int.toNat (Int.tmod (IntKind.wrap .u64 x44) 32)) (IntKind.bits .u32))))
 replace h := nm_at x45 rfl h
 let x46 : Int := (IntKind.wrap .u64 (32 - (Int.tmod (IntKind.wrap .u64 x44) 32)))
 replace h := nm_at x46 rfl h
 obtain ⟨hg, h⟩ := gd h
 refine And.intro hg ?_
 let x47 : Int := (Int.fdiv x43 (2 ^ (min (Int.toNat x46) (IntKind.bits .u32))))
 replace h := nm_at x47 rfl h
 obtain rfl := some_in h
 exact ⟨0, [], [], rfl, trivial⟩
theorem stream_Quarter_c (x39 : Int) (x40 : Int) (x41 : Int) (x42 : Int) (res : Int × Int × Int × Int) (h : stream_Quarter x39 x40 x41 x42 = some res) :
  Fn Tryd.prog (GE er) 58 [(.int .u32 x39), (.int .u32 x40), (.int .u32 x41), (.int .u32 x42)] [] (.tup [(.int .u32 res.1), (.int .u32 res.2.1), (.int .u32 res.2.2.1), (.int .u32 res.2.2.2)]) [] := by
 refine bE er Tryd.func58 rfl rfl [] [(.int .u32 x39), (.int .u32 x40), (.int .u32 x41), (.int .u32 x42)] [] [] (.tup [(.int .u32 res.1), (.int .u32 res.2.1), (.int .u32 res.2.2.1), (.int .u32 res.2.2.2)]) [] rfl rfl rfl rfl rfl rfl .nil 3 ?_
 replace h := (show stream_Quarter x39 x40 x41 x42 = _ from h)
 unfold stream_Quarter at h
 obtain ⟨x43, hc48, h⟩ := bnd h
 refine ⟨[], _, _, _, ⟨⟨_, words_Left_c er (bits .u32 .xor x42 (IntKind.wrap .u32 (x39 + x40))) 16 x43 hc48, ⟨.inl rfl, .inl rfl, trivial⟩⟩, trivial, rfl⟩, ?_⟩
 obtain ⟨x44, hc48, h⟩ := bnd h
 refine ⟨[], _, _, _, ⟨⟨_, words_Left_c er (bits .u32 .xor x40 (IntKind.wrap .u32 (x41 + x43))) 12 x44 hc48, ⟨.inl rfl, .inl rfl, trivial⟩⟩, trivial, rfl⟩, ?_⟩
 let x45 : Int := (bits .u32 .xor x43 (IntKind.wrap .u32 ((IntKind.wrap .u32 (x39 + x40)) + x44)))
 replace h := nm_at x45 rfl h
 obtain ⟨x46, hc48, h⟩ := bnd h
 refine ⟨[], _, _, _, ⟨⟨_, words_Left_c er x45 8 x46 hc48, ⟨.inl rfl, .inl rfl, trivial⟩⟩, trivial, rfl⟩, ?_⟩
 let x47 : Int := (bits .u32 .xor x44 (IntKind.wrap .u32 ((IntKind.wrap .u32 (x41 + x43)) + x46)))
 replace h := nm_at x47 rfl h
 obtain ⟨x48, hc48, h⟩ := bnd h
 refine ⟨[], _, _, _, ⟨⟨_, words_Left_c er x47 7 x48 hc48, ⟨.inl rfl, .inl rfl, trivial⟩⟩, trivial, rfl⟩, ?_⟩
 obtain rfl := some_in h
 exact ⟨0, [], [], rfl, trivial⟩
theorem stream_state_quarter_2_c (b0 : Nat) (hn : [b0].Nodup) (x35 : Int) (x36 : Int) (x37 : Int) (x38 : Int) (x39 : List Int) (res : (List Int)) (h : stream_state_quarter_2 x35 x36 x37 x38 x39 = some res) :
  Fn Tryd.prog (GE er) 53 [(.ptr b0 [] ly74), (.int .i64 x35), (.int .i64 x36), (.int .i64 x37), (.int .i64 x38)] [(b0, (.var (.dv (.ints .u32 16 x39))))] (.tup []) [(b0, (.var (.dv (.ints .u32 16 res))))] := by
 refine bE er Tryd.func53 rfl rfl [(0, b0)] [(.ptr 0 [] ly74), (.int .i64 x35), (.int .i64 x36), (.int .i64 x37), (.int .i64 x38)] [(.var (.dv (.ints .u32 16 x39)))] [] (.tup []) [(.var (.dv (.ints .u32 16 res)))] rfl rfl rfl rfl rfl rfl hn 3 ?_
 replace h := (show stream_state_quarter_2 x35 x36 x37 x38 x39 = _ from h)
 unfold stream_state_quarter_2 at h
 obtain ⟨hg, h⟩ := gd h
 refine And.intro hg ?_
 obtain ⟨hg, h⟩ := gd h
 refine And.intro hg ?_
 obtain ⟨hg, h⟩ := gd h
 refine And.intro hg ?_
 obtain ⟨hg, h⟩ := gd h
 refine And.intro hg ?_
 obtain ⟨r45, hc45, h⟩ := bnd h
 obtain ⟨x40, x41, x42, x43⟩ := r45
 refine ⟨[], _, _, _, ⟨⟨_, stream_Quarter_c er (List.getD x39 (Int.toNat x35) 0) (List.getD x39 (Int.toNat x36) 0) (List.getD x39 (Int.toNat x37) 0) (List.getD x39 (Int.toNat x38) 0) (x40, x41, x42, x43) hc45, ⟨.inl rfl, .inl rfl, .inl rfl, .inl rfl, trivial⟩⟩, trivial, rfl⟩, ?_⟩
 obtain ⟨hg, h⟩ := gd h
 refine And.intro hg ?_
 obtain ⟨hg, h⟩ := gd h
 refine And.intro hg ?_
 let x44 : List Int := (List.set (List.set x39 (Int.toNat x35) x40) (Int.toNat x36) x41)
 replace h := nm_at x44 rfl h
 obtain ⟨hg, h⟩ := gd h
 refine And.intro hg ?_
 obtain ⟨hg, h⟩ := gd h
 refine And.intro hg ?_
 let x45 : List Int := (List.set (List.set x44 (Int.toNat x37) x42) (Int.toNat x38) x43)
 replace h := nm_at x45 rfl h
 obtain rfl := some_in h
 exact ⟨0, [], [], rfl, rfl, trivial⟩
theorem stream_state_double_2_c (b0 : Nat) (hn : [b0].Nodup) (x34 : List Int) (res : (List Int)) (h : stream_state_double_2 x34 = some res) :
  Fn Tryd.prog (GE er) 41 [(.ptr b0 [] ly74)] [(b0, (.var (.dv (.ints .u32 16 x34))))] (.tup []) [(b0, (.var (.dv (.ints .u32 16 res))))] := by
 refine bE er Tryd.func41 rfl rfl [(0, b0)] [(.ptr 0 [] ly74)] [(.var (.dv (.ints .u32 16 x34)))] [] (.tup []) [(.var (.dv (.ints .u32 16 res)))] rfl rfl rfl rfl rfl rfl hn 3 ?_
 replace h := (show stream_state_double_2 x34 = _ from h)
 unfold stream_state_double_2 at h
 obtain ⟨r1_0_35, hl1_35, hr1_35⟩ := bnd h
 refine Or.inr ⟨[], {p : (List Int) // p = r1_0_35}, ⟨fun | ⟨x35, _⟩ => [], fun | ⟨x35, _⟩ => [(0, (.var (.dv (.ints .u32 16 x35))))], fun _ => 0⟩, 0, ?_, ?_⟩
 ·rintro ⟨x35, hp⟩
  subst hp
  replace h := hr1_35
  obtain ⟨r2_1_39, hl2_39, hr2_39⟩ := bnd h
  refine Or.inr ⟨[], {p : (List Int) // p = r2_1_39}, ⟨fun | ⟨x39, _⟩ => [], fun | ⟨x39, _⟩ => [(0, (.var (.dv (.ints .u32 16 x39))))], fun _ => 0⟩, 0, ?_, ?_⟩
  ·rintro ⟨x39, hp⟩
   subst hp
   replace h := hr2_39
   obtain rfl := some_in h
   exact ⟨0, [], [], rfl, rfl, trivial⟩
  ·replace h := hl2_39
   refine Or.inl ?_
   refine ⟨[], {x : Nat × Int × (List Int) // stream_state_double_2_l2 x.1 x.2.1 x.2.2 = some r2_1_39}, ⟨fun | ⟨(n2, x40, x41), _⟩ => [(17, (.int .i64 x40))], fun | ⟨(n2, x40, x41), _⟩ => [(0, (.var (.dv (.ints .u32 16 x41))))], fun | ⟨(n2, x40, x41), _⟩ => n2⟩, [], [], ⟨(FUEL, 0, x35), h⟩, ⟨rfl, ⟨rfl, trivial⟩, ⟨rfl, trivial⟩, rfl⟩, ?_⟩
   rintro ⟨⟨n2, x40, x41⟩, h⟩
   cases n2 with
   | zero => exact no_none h
   | succ n2 =>
    replace h := (show stream_state_double_2_l2 (n2 + 1) x40 x41 = _ from h)
    replace h := (stream_state_double_2_l2.eq_2 .. ).symm.trans h
    refine And.intro (fun hb => ?_) (fun hb => ?_)
    ·replace h := cond_t h hb
     refine Or.inl ?_
     refine And.intro (by decide) ?_
     let x42 : Int := (IntKind.wrap .i64 (4 + (Int.tmod (IntKind.wrap .i64 (x40 + 1)) 4)))
     replace h := nm_at x42 rfl h
     refine And.intro (by decide) ?_
     let x43 : Int := (IntKind.wrap .i64 (8 + (Int.tmod (IntKind.wrap .i64 (x40 + 2)) 4)))
     replace h := nm_at x43 rfl h
     refine And.intro (by decide) ?_
     let x44 : Int := (IntKind.wrap .i64 (12 + (Int.tmod (IntKind.wrap .i64 (x40 + 3)) 4)))
     replace h := nm_at x44 rfl h
     obtain ⟨x45, hc45, h⟩ := bnd h
     refine ⟨[], _, _, _, ⟨⟨_, stream_state_quarter_2_c er 0 (by decide) x40 x42 x43 x44 x41 x45 hc45, ⟨.inl rfl, .inl rfl, .inl rfl, .inl rfl, .inl rfl, trivial⟩⟩, ⟨⟨rfl, rfl⟩, trivial⟩, rfl⟩, ?_⟩
     exact ⟨⟨(n2, (IntKind.wrap .i64 (x40 + 1)), x45), h⟩, [], ⟨rfl, ⟨rfl, trivial⟩, ⟨rfl, trivial⟩, rfl⟩, Nat.lt_succ_self _⟩
    ·replace h := cond_f h hb
     exact ⟨[], [], ⟨x41, some_in h⟩, [], rfl, trivial, ⟨rfl, trivial⟩, rfl⟩
 ·replace h := hl1_35
  refine Or.inl ?_
  refine ⟨[], {x : Nat × Int × (List Int) // stream_state_double_2_l1 x.1 x.2.1 x.2.2 = some r1_0_35}, ⟨fun | ⟨(n1, x36, x37), _⟩ => [(4, (.int .i64 x36))], fun | ⟨(n1, x36, x37), _⟩ => [(0, (.var (.dv (.ints .u32 16 x37))))], fun | ⟨(n1, x36, x37), _⟩ => n1⟩, [], [], ⟨(FUEL, 0, x34), h⟩, ⟨rfl, ⟨rfl, trivial⟩, ⟨rfl, trivial⟩, rfl⟩, ?_⟩
  rintro ⟨⟨n1, x36, x37⟩, h⟩
  cases n1 with
  | zero => exact no_none h
  | succ n1 =>
   replace h := (show stream_state_double_2_l1 (n1 + 1) x36 x37 = _ from h)
   replace h := (stream_state_double_2_l1.eq_2 .. ).symm.trans h
   refine And.intro (fun hb => ?_) (fun hb => ?_)
   ·replace h := cond_t h hb
    refine Or.inl ?_
    obtain ⟨x38, hc38, h⟩ := bnd h
    refine ⟨[], _, _, _, ⟨⟨_, stream_state_quarter_2_c er 0 (by decide) x36 (IntKind.wrap .i64 (4 + x36)) (IntKind.wrap .i64 (8 + x36)) (IntKind.wrap .i64 (12 + x36)) x37 x38 hc38, ⟨.inl rfl, .inl rfl, .inl rfl, .inl rfl, .inl rfl, trivial⟩⟩, ⟨⟨rfl, rfl⟩, trivial⟩, rfl⟩, ?_⟩
    exact ⟨⟨(n1, (IntKind.wrap .i64 (x36 + 1)), x38), h⟩, [], ⟨rfl, ⟨rfl, trivial⟩, ⟨rfl, trivial⟩, rfl⟩, Nat.lt_succ_self _⟩
   ·replace h := cond_f h hb
    exact ⟨[], [], ⟨x37, some_in h⟩, [], rfl, trivial, ⟨rfl, trivial⟩, rfl⟩
theorem stream_Block_c (k0 : Nat) (hn : [k0].Nodup) (x15 : List Int) (x16 : Int) (x17 : List Int) (res : (((List Int)) ⊕ Unit)) (h : stream_Block x15 x16 x17 = some res) :
  Fn Tryd.prog (GE er) 21 [(.dv (.ints .u8 32 x15)), (.int .u32 x16), (.dv (.roI .u8 x17))] [] (match res with | (Sum.inl p0) => (.tup [(.sl k0 [] ly5 0 (List.length p0)), (.dv (.sc .nilIface))]) | (Sum.inr _) => (.tup [(.dv (.sc (.slice none 0 0))), (errA er 4)])) (match res with | (Sum.inl p0) => [(k0, (.rowI .u8 p0))] | (Sum.inr _) => []) := by
 refine bE er Tryd.func21 rfl rfl ((match res with | (Sum.inl p0) => [(3, k0)] | (Sum.inr _) => [])) [(.dv (.ints .u8 32 x15)), (.int .u32 x16), (.dv (.roI .u8 x17))] [] (match res with | (Sum.inl p0) => [3] | (Sum.inr _) => []) (match res with | (Sum.inl p0) => (.tup [(.sl 3 [] ly5 0 (List.length p0)), (.dv (.sc .nilIface))]) | (Sum.inr _) => (.tup [(.dv (.sc (.slice none 0 0))), (errA er 4)])) (match res with | (Sum.inl p0) => [(.rowI .u8 p0)] | (Sum.inr _) => []) rfl rfl (by rcases res with _ | _ <;> rfl) (by rcases res with _ | _ <;> rfl) (by rcases res with _ | _ <;> rfl) (by rcases res with _ | _ <;> rfl) (by rcases res with _ | _ <;> first | exact hn.sublist (.cons_cons _ .slnil) | exact hn.sublist (.cons _ .slnil)) 3 ?_
 replace h := (show stream_Block x15 x16 x17 = _ from h)
 unfold stream_Block at h
 refine And.intro (fun hb => ?_) (fun hb => ?_)
 ·replace h := cond_t h hb
  obtain rfl := some_in h
  exact ⟨0, [], [], rfl, trivial⟩
 ·replace h := cond_f h hb
  obtain ⟨x18, hc28, h⟩ := bnd h
  refine ⟨[], _, _, _, ⟨⟨_, stream_begin_c er x15 x16 x17 x18 hc28, ⟨.inl rfl, .inl rfl, .inl rfl, trivial⟩⟩, trivial, rfl⟩, ?_⟩
  refine And.intro (fun _ => ?_) (fun h0 => Bool.noConfusion h0)
  obtain ⟨x19, hc28, h⟩ := bnd h
  refine ⟨[], _, _, _, ⟨⟨_, stream_state_double_2_c er 1 (by decide) x18 x19 hc28, ⟨.inl rfl, trivial⟩⟩, ⟨⟨rfl, rfl⟩, trivial⟩, rfl⟩, ?_⟩
  refine Or.inr ⟨[1, 2, 3], {x : Nat × Int × (List Int) // stream_Block_l1 x18 x.1 x.2.1 x.2.2 = some res}, ⟨fun | ⟨(n1, x20, x21), _⟩ => [(6, (.dv (.sc (.slice none 0 0)))), (7, (.dv (.sc .nilIface))), (8, (.ptr 1 [] ly74)), (9, (.ptr 2 [] ly74)), (10, (.int .i64 x20))], fun | ⟨(n1, x20, x21), _⟩ => [(1, (.var (.dv (.ints .u32 16 x21))))], fun | ⟨(n1, x20, x21), _⟩ => n1⟩, [], [], ⟨(FUEL, 1, x19), h⟩, ⟨rfl, ⟨rfl, rfl, rfl, rfl, rfl, trivial⟩, ⟨rfl, rfl, rfl, trivial⟩, rfl⟩, ?_⟩
  rintro ⟨⟨n1, x20, x21⟩, h⟩
  cases n1 with
  | zero => exact no_none h
  | succ n1 =>
   replace h := (show stream_Block_l1 x18 (n1 + 1) x20 x21 = _ from h)
   replace h := (stream_Block_l1.eq_2 .. ).symm.trans h
   refine And.intro (fun hb => ?_) (fun hb => ?_)
   ·replace h := cond_t h hb
    obtain ⟨x22, hc22, h⟩ := bnd h
    refine ⟨[], _, _, _, ⟨⟨_, stream_state_double_2_c er 1 (by decide) x21 x22 hc22, ⟨.inl rfl, trivial⟩⟩, ⟨⟨rfl, rfl⟩, trivial⟩, rfl⟩, ?_⟩
    exact ⟨⟨(n1, (IntKind.wrap .i64 (x20 + 1)), x22), h⟩, [], ⟨rfl, ⟨rfl, rfl, rfl, rfl, rfl, trivial⟩, ⟨rfl, rfl, rfl, trivial⟩, rfl⟩, Nat.lt_succ_self _⟩
   ·replace h := cond_f h hb
    obtain ⟨r1_0_24, hl1_24, hr1_24⟩ := bnd h
    refine Or.inr ⟨[], {p : Int × (List Int) // p = r1_0_24}, ⟨fun | ⟨(x23, x24), _⟩ => [(11, (.sl 3 [] ly5 0 (List.length x24))), (29, (.int .i64 x23)), (30, (.dv (.sc (.bool false))))], fun | ⟨(x23, x24), _⟩ => [(3, (.rowI .u8 x24))], fun _ => 0⟩, 1, ?_, ?_⟩
    ·rintro ⟨⟨x23, x24⟩, hp⟩
     subst hp
     replace h := hr1_24
     obtain rfl := some_in h
     exact ⟨0, [], [], rfl, rfl, trivial⟩
    ·replace h := hl1_24
     refine Or.inl ?_
     refine ⟨[], {x : Nat × Int × (List Int) // stream_Block_l2 x18 x21 x.1 x.2.1 x.2.2 = some r1_0_24}, ⟨fun | ⟨(n2, x25, x26), _⟩ => [(11, (.sl 3 [] ly5 0 (List.length x26))), (29, (.int .i64 x25))], fun | ⟨(n2, x25, x26), _⟩ => [(3, (.rowI .u8 x26))], fun | ⟨(n2, x25, x26), _⟩ => n2⟩, [(11, .rowI .u8 [])], [], ⟨(FUEL, 0, ([] : List Int)), h⟩, ⟨rfl, ⟨rfl, rfl, trivial⟩, ⟨rfl, rfl, rfl, rfl, trivial⟩, rfl⟩, ?_⟩
     rintro ⟨⟨n2, x25, x26⟩, h⟩
     cases n2 with
     | zero => exact no_none h
     | succ n2 =>
      replace h := (show stream_Block_l2 x18 x21 (n2 + 1) x25 x26 = _ from h)
      replace h := (stream_Block_l2.eq_2 .. ).symm.trans h
      refine And.intro (fun hb => ?_) (fun hb => ?_)
      ·replace h := cond_t h hb
       refine Or.inl ?_
       obtain ⟨hg, h⟩ := gd h
       refine And.intro hg ?_
       obtain ⟨hg, h⟩ := gd h
       refine And.intro hg ?_
       let x27 : Int := (IntKind.wrap .u32 ((List.getD x21 (Int.toNat x25) 0) + (List.getD x18 (Int.toNat x25) 0)))
       replace h := nm_at x27 rfl h
       refine And.intro (by decide) ?_
       refine And.intro (by decide) ?_
       refine And.intro (by decide) ?_
       refine Or.inl ?_
       let x28 : List Int := [(IntKind.wrap .u8 x27), (IntKind.wrap .u8 (Int.fdiv x27 (2 ^ 8))), (IntKind.wrap .u8 (Int.fdiv x27 (2 ^ 16))), (IntKind.wrap .u8 (Int.fdiv x27 (2 ^ 24)))]
       replace h := nm_at x28 rfl h
       obtain ⟨hg, h⟩ := gd h
       refine And.intro (le_of_ln2 (ln_full x28) hg) ?_
       refine ⟨(x26 ++ x28), app_cut (cut_full _) (cut_full x28), 0, (List.length (x26 ++ x28)), ⟨rfl, app_ln (ln_full x28)⟩, ?_⟩
       refine Or.inl ?_
       exact ⟨⟨(n2, (IntKind.wrap .i64 (x25 + 1)), (x26 ++ x28)), h⟩, [(3, 5)], ⟨rfl, ⟨rfl, rfl, trivial⟩, ⟨rfl, rfl, rfl, rfl, trivial⟩, rfl⟩, Nat.lt_succ_self _⟩
      ·replace h := cond_f h hb
       exact ⟨[], [], ⟨(x25, x26), some_in h⟩, [], rfl, ⟨rfl, rfl, rfl, trivial⟩, ⟨rfl, rfl, rfl, rfl, trivial⟩, rfl⟩
theorem slices_Clone_byte_byte_c (k0 : Nat) (hn : [k0].Nodup) (x32 : List Int) (res : (List Int)) (h : slices_Clone_byte_byte x32 = some res) :
  Fn Tryd.prog (GE er) 28 [(.dv (.roI .u8 x32))] [] (.sl k0 [] ly5 0 (List.length res)) [(k0, (.rowI .u8 res))] := by
 refine bE er Tryd.func28 rfl rfl [(1, k0)] [(.dv (.roI .u8 x32))] [] [1] (.sl 1 [] ly5 0 (List.length res)) [(.rowI .u8 res)] rfl rfl rfl rfl rfl rfl hn 3 ?_
 replace h := (show slices_Clone_byte_byte x32 = _ from h)
 unfold slices_Clone_byte_byte at h
 refine And.intro ?_ ?_
 ·intro hnil
  replace hnil : x32 = [] := List.eq_nil_of_length_eq_zero hnil
  replace h : (some ([] : List Int)) = some res := by simpa [hnil] using h
  obtain rfl := some_in h
  exact ⟨1, [(2, (.rowI .u8 ([] : List Int)))], [], rfl, rfl, trivial⟩
 ·refine Or.inl ?_
  obtain ⟨hg, h⟩ := gd h
  refine And.intro (hg) ?_
  refine ⟨(([] : List Int) ++ x32), app_cut (cut_full _) (rfl), 0, (List.length (([] : List Int) ++ x32)), ⟨rfl, app_ln (rfl)⟩, ?_⟩
  refine Or.inl ?_
  obtain rfl := some_in h
  exact ⟨0, [], [], rfl, rfl, trivial⟩
theorem words_Mix_c (k0 : Nat) (hn : [k0].Nodup) (x30 : List Int) (x31 : List Int) (res : (((List Int)) ⊕ Unit)) (h : words_Mix x30 x31 = some res) :
  Fn Tryd.prog (GE er) 22 [(.dv (.roI .u8 x30)), (.dv (.roI .u8 x31))] [] (match res with | (Sum.inl p0) => (.tup [(.sl k0 [] ly5 0 (List.length p0)), (.dv (.sc .nilIface))]) | (Sum.inr _) => (.tup [(.dv (.sc (.slice none 0 0))), (errA er 4)])) (match res with | (Sum.inl p0) => [(k0, (.rowI .u8 p0))] | (Sum.inr _) => []) := by
 refine bE er Tryd.func22 rfl rfl ((match res with | (Sum.inl p0) => [(0, k0)] | (Sum.inr _) => [])) [(.dv (.roI .u8 x30)), (.dv (.roI .u8 x31))] [] (match res with | (Sum.inl p0) => [0] | (Sum.inr _) => []) (match res with | (Sum.inl p0) => (.tup [(.sl 0 [] ly5 0 (List.length p0)), (.dv (.sc .nilIface))]) | (Sum.inr _) => (.tup [(.dv (.sc (.slice none 0 0))), (errA er 4)])) (match res with | (Sum.inl p0) => [(.rowI .u8 p0)] | (Sum.inr _) => []) rfl rfl (by rcases res with _ | _ <;> rfl) (by rcases res with _ | _ <;> rfl) (by rcases res with _ | _ <;> rfl) (by rcases res with _ | _ <;> rfl) (by rcases res with _ | _ <;> first | exact hn.sublist (.cons_cons _ .slnil) | exact hn.sublist (.cons _ .slnil)) 3 ?_
 replace h := (show words_Mix x30 x31 = _ from h)
 unfold words_Mix at h
 refine And.intro (fun hb => ?_) (fun hb => ?_)
 ·replace h := cond_t h hb
  obtain rfl := some_in h
  exact ⟨0, [], [], rfl, trivial⟩
 ·replace h := cond_f h hb
  obtain ⟨x32, hc36, h⟩ := bnd h
  refine ⟨[], _, _, _, ⟨⟨_, slices_Clone_byte_byte_c er 0 (by decide) x30 x32 hc36, ⟨.inl rfl, trivial⟩⟩, trivial, rfl⟩, ?_⟩
  refine Or.inl ?_
  obtain ⟨r1_0_33, hl1_33, hr1_33⟩ := bnd h
  refine Or.inr ⟨[6, 15, 16, 17], {p : (List Int) // p = r1_0_33}, ⟨fun | ⟨x33, _⟩ => [(6, (.sl 0 [] ly5 0 (List.length x33))), (15, (.sl 0 [] ly5 0 (List.length x33))), (16, (.sl 0 [] ly5 0 (List.length x33)))], fun | ⟨x33, _⟩ => [(0, (.rowI .u8 x33))], fun _ => 0⟩, 0, ?_, ?_⟩
  ·rintro ⟨x33, hp⟩
   subst hp
   replace h := hr1_33
   obtain rfl := some_in h
   exact ⟨0, [], [], rfl, rfl, trivial⟩
  ·replace h := hl1_33
   refine Or.inl ?_
   refine ⟨[6, 15, 16], {x : Nat × Int × (List Int) // words_Mix_l1 x31 x32 x.1 x.2.1 x.2.2 = some r1_0_33}, ⟨fun | ⟨(n1, x34, x35), _⟩ => [(6, (.sl 0 [] ly5 0 (List.length x35))), (15, (.sl 0 [] ly5 0 (List.length x35))), (16, (.sl 0 [] ly5 0 (List.length x35))), (18, (.int .i64 x34))], fun | ⟨(n1, x34, x35), _⟩ => [(0, (.rowI .u8 x35))], fun | ⟨(n1, x34, x35), _⟩ => n1⟩, [], [], ⟨(FUEL, 0, x32), h⟩, ⟨rfl, ⟨rfl, rfl, rfl, rfl, trivial⟩, ⟨rfl, trivial⟩, rfl⟩, ?_⟩
   rintro ⟨⟨n1, x34, x35⟩, h⟩
   cases n1 with
   | zero => exact no_none h
   | succ n1 =>
    replace h := (show words_Mix_l1 x31 x32 (n1 + 1) x34 x35 = _ from h)
    replace h := (words_Mix_l1.eq_2 .. ).symm.trans h
    refine And.intro (fun hb => ?_) (fun hb => ?_)
    ·replace h := cond_t h hb
     refine Or.inl ?_
     obtain ⟨hg, h⟩ := gd h
     refine And.intro hg ?_
     obtain ⟨hg, h⟩ := gd h
     refine And.intro hg ?_
     let x36 : Int := (bits .u8 .xor (List.getD x35 (Int.toNat x34) 0) (List.getD x31 (Int.toNat x34) 0))
     replace h := nm_at x36 rfl h
     obtain ⟨hg, h⟩ := gd h
     refine And.intro hg ?_
     exact ⟨⟨(n1, (IntKind.wrap .i64 (x34 + 1)), (List.set x35 (Int.toNat x34) x36)), h⟩, [], ⟨rfl, ⟨(show ((.sl 0 [] ly5 0 (List.length x35)) : AV) = ((.sl 0 [] ly5 0 (List.length (List.set x35 (Int.toNat x34) x36))) : AV) by simp only [List.length_set]), (show ((.sl 0 [] ly5 0 (List.length x35)) : AV) = ((.sl 0 [] ly5 0 (List.length (List.set x35 (Int.toNat x34) x36))) : AV) by simp only [List.length_set]), (show ((.sl 0 [] ly5 0 (List.length x35)) : AV) = ((.sl 0 [] ly5 0 (List.length (List.set x35 (Int.toNat x34) x36))) : AV) by simp only [List.length_set]), rfl, trivial⟩, ⟨rfl, trivial⟩, rfl⟩, Nat.lt_succ_self _⟩
    ·replace h := cond_f h hb
     exact ⟨[], [], ⟨x35, some_in h⟩, [], rfl, ⟨rfl, rfl, rfl, trivial⟩, ⟨rfl, trivial⟩, rfl⟩
theorem stream_Turn_c (k0 : Nat) (hn : [k0].Nodup) (x7 : List Int) (x8 : Int) (x9 : List Int) (x10 : List Int) (res : (((List Int)) ⊕ Nat)) (h : stream_Turn x7 x8 x9 x10 = some res) :
  Fn Tryd.prog (GE er) 13 [(.dv (.ints .u8 32 x7)), (.int .u32 x8), (.dv (.roI .u8 x9)), (.dv (.roI .u8 x10))] [] (match res with | (Sum.inl p0) => (.tup [(.sl k0 [] ly5 0 (List.length p0)), (.dv (.sc .nilIface))]) | (Sum.inr p0) => (.tup [(.dv (.sc (.slice none 0 0))), (errA er p0)])) (match res with | (Sum.inl p0) => [(k0, (.rowI .u8 p0))] | (Sum.inr p0) => []) := by
 refine bE er Tryd.func13 rfl rfl ((match res with | (Sum.inl p0) => [(8, k0)] | (Sum.inr p0) => [])) [(.dv (.ints .u8 32 x7)), (.int .u32 x8), (.dv (.roI .u8 x9)), (.dv (.roI .u8 x10))] [] (match res with | (Sum.inl p0) => [8] | (Sum.inr p0) => []) (match res with | (Sum.inl p0) => (.tup [(.sl 8 [] ly5 0 (List.length p0)), (.dv (.sc .nilIface))]) | (Sum.inr p0) => (.tup [(.dv (.sc (.slice none 0 0))), (errA er p0)])) (match res with | (Sum.inl p0) => [(.rowI .u8 p0)] | (Sum.inr p0) => []) rfl rfl (by rcases res with _ | _ <;> rfl) (by rcases res with _ | _ <;> rfl) (by rcases res with _ | _ <;> rfl) (by rcases res with _ | _ <;> rfl) (by rcases res with _ | _ <;> first | exact hn.sublist (.cons_cons _ .slnil) | exact hn.sublist (.cons _ .slnil)) 3 ?_
 replace h := (show stream_Turn x7 x8 x9 x10 = _ from h)
 unfold stream_Turn at h
 refine Or.inl ?_
 refine And.intro (fun hb => ?_) (fun hb => ?_)
 ·replace h := cond_t h hb
  obtain rfl := some_in h
  exact ⟨0, [], [], rfl, trivial⟩
 ·replace h := cond_f h hb
  refine And.intro (fun hb => ?_) (fun hb => ?_)
  ·replace h := cond_t h hb
   obtain rfl := some_in h
   exact ⟨0, [], [], rfl, trivial⟩
  ·replace h := cond_f h hb
   obtain ⟨r26, hc26, h⟩ := bnd h
   refine ⟨[], _, _, _, ⟨⟨_, slices_Chunk_byte_byte_c er 6 7 (by decide) x10 64 r26 hc26, ⟨.inl rfl, .inl rfl, trivial⟩⟩, trivial, rfl⟩, ?_⟩
   obtain ⟨r1_0_14, hl1_14, hr1_14⟩ := bnd h
   refine Or.inr ⟨[4, 5, 26], {p : Int × (List Int) // (Sum.inl p) = r1_0_14}, ⟨fun | ⟨(x11, x12), _⟩ => [], fun | ⟨(x11, x12), _⟩ => [(1, (.var (.int .u32 x11))), (5, (.var (.sl 8 [] ly5 0 (List.length x12)))), (8, (.rowI .u8 x12))], fun _ => 0⟩, 1, ?_, ?_⟩
   ·rintro ⟨⟨x11, x12⟩, hp⟩
    subst hp
    replace h := hr1_14
    obtain rfl := some_in h
    exact ⟨0, [], [], rfl, rfl, trivial⟩
   ·replace h := hl1_14
    intro L3
    refine ⟨Tryd.f39, _, ⟨Tryd.func39, rfl, rfl, rfl⟩, ?_⟩
    obtain ⟨r2_0_18, hl2_18, hr2_18⟩ := bnd h
    refine Or.inr ⟨[0, 1, 2], {p : Int × (List Int) // (Sum.inl p) = r2_0_18}, ⟨fun | ⟨(x15, x16), _⟩ => [], fun | ⟨(x15, x16), _⟩ => [(1, (.var (.int .u32 x15))), (5, (.var (.sl 10 [] ly5 0 (List.length x16)))), (10, (.rowI .u8 x16))], fun _ => 0⟩, 1, ?_, ?_⟩
    ·rintro ⟨⟨x15, x16⟩, hp⟩
     subst hp
     replace h := hr2_18
     exact ⟨[], [], ⟨(x15, x16), some_in h⟩, [(8, 10)], rfl, trivial, ⟨rfl, rfl, rfl, rfl, rfl, rfl, rfl, rfl, rfl, trivial⟩, rfl⟩
    ·replace h := hl2_18
     refine Or.inl ?_
     refine ⟨[], {x : Nat × Int × Int × (List Int) // stream_Turn_l1 x7 x9 x10 x.1 x.2.1 x.2.2.1 x.2.2.2 = some r2_0_18}, ⟨fun | ⟨(n1, x19, x20, x21), _⟩ => [(4, (.int .i64 x19))], fun | ⟨(n1, x19, x20, x21), _⟩ => [(1, (.var (.int .u32 x20))), (5, (.var (.sl 10 [] ly5 0 (List.length x21)))), (10, (.rowI .u8 x21))], fun | ⟨(n1, x19, x20, x21), _⟩ => n1⟩, [], [(5, [], .rowI .u8 [])], ⟨(FUEL, 0, x8, ([] : List Int)), h⟩, ⟨rfl, ⟨rfl, trivial⟩, ⟨rfl, rfl, rfl, rfl, rfl, rfl, rfl, rfl, trivial, rfl, rfl, trivial⟩, rfl⟩, ?_⟩
     rintro ⟨⟨n1, x19, x20, x21⟩, h⟩
     cases n1 with
     | zero => exact no_none h
     | succ n1 =>
      replace h := (show stream_Turn_l1 x7 x9 x10 (n1 + 1) x19 x20 x21 = _ from h)
      replace h := (stream_Turn_l1.eq_2 .. ).symm.trans h
      refine And.intro (fun hb => ?_) (fun hb => ?_)
      ·replace h := cond_t h hb
       refine Or.inl ?_
       obtain ⟨hg, h⟩ := gd h
       refine And.intro hg ?_
       refine ⟨(List.take (Int.toNat ((List.length x10 : Int) - x19)) (List.drop (Int.toNat x19) x10)), by first | rfl | simp, ?_⟩
       let x22 : List Int := (List.take (Int.toNat ((List.length x10 : Int) - x19)) (List.drop (Int.toNat x19) x10))
       replace h := nm_at x22 rfl h
       let x23 : Int := (if (List.length x22 : Int) < 64 then (List.length x22 : Int) else 64)
       replace h := nm_at x23 rfl h
       obtain ⟨hg, h⟩ := gd h
       refine And.intro hg ?_
       obtain ⟨hg, h⟩ := gd h
       refine And.intro hg ?_
       refine ⟨(List.take (Int.toNat ((IntKind.wrap .i64 (x19 + x23)) - x19)) (List.drop (Int.toNat x19) x10)), by first | rfl | simp, ?_⟩
       let x24 : List Int := (List.take (Int.toNat ((IntKind.wrap .i64 (x19 + x23)) - x19)) (List.drop (Int.toNat x19) x10))
       replace h := nm_at x24 rfl h
       refine ⟨rfl, ?_⟩
       refine Or.inl ?_
       obtain ⟨r26, hc26, h⟩ := bnd h
       rcases r26 with x25 | ⟨⟩
       ·refine ⟨[], _, _, _, ⟨⟨_, stream_Block_c er 11 (by decide) x7 x20 x9 (Sum.inl x25) hc26, ⟨.inl rfl, .inl rfl, .inl rfl, trivial⟩⟩, trivial, rfl⟩, ?_⟩
        refine Or.inl ?_
        refine And.intro (fun h0 => Bool.noConfusion h0) (fun _ => ?_)
        obtain ⟨hg, h⟩ := gd h
        refine And.intro hg ?_
        obtain ⟨hg, h⟩ := gd h
        refine And.intro hg ?_
        refine ⟨0, (Int.toNat ((List.length x24 : Int) - 0)), ⟨by simp, rfl⟩, ?_⟩
        obtain ⟨r26, hc26, h⟩ := bnd h
        rcases r26 with x26 | ⟨⟩
        ·refine ⟨[false, true], _, _, _, ⟨⟨_, words_Mix_c er 12 (by decide) x24 (List.take (Int.toNat ((List.length x24 : Int) - 0)) x25) (Sum.inl x26) hc26, ⟨.inl rfl, .inl rfl, trivial⟩⟩, trivial, rfl⟩, ?_⟩
         refine Or.inl ?_
         refine And.intro (fun h0 => Bool.noConfusion h0) (fun _ => ?_)
         obtain ⟨hg, h⟩ := gd h
         refine And.intro (le_of_ln2 (ln_full x26) hg) ?_
         refine ⟨(x21 ++ x26), app_cut (cut_full _) (cut_full x26), 0, (List.length (x21 ++ x26)), ⟨rfl, app_ln (ln_full x26)⟩, ?_⟩
         refine Or.inl ?_
         exact ⟨⟨(n1, (IntKind.wrap .i64 (x19 + 64)), (IntKind.wrap .u32 (x20 + 1)), (x21 ++ x26)), h⟩, [(10, 13)], ⟨rfl, ⟨rfl, trivial⟩, ⟨rfl, rfl, rfl, rfl, rfl, rfl, rfl, rfl, trivial, rfl, rfl, trivial⟩, rfl⟩, Nat.lt_succ_self _⟩
        ·refine ⟨[false, true], _, _, _, ⟨⟨_, words_Mix_c er 12 (by decide) x24 (List.take (Int.toNat ((List.length x24 : Int) - 0)) x25) (Sum.inr ()) hc26, ⟨.inl rfl, .inl rfl, trivial⟩⟩, trivial, rfl⟩, ?_⟩
         refine And.intro (fun _ => ?_) (fun h0 => Bool.noConfusion h0)
         obtain rfl := some_in h
         replace h := hr2_18
         obtain rfl := some_in h
         replace h := hr1_14
         obtain rfl := some_in h
         exact ⟨0, [], [], rfl, trivial⟩
       ·refine ⟨[], _, _, _, ⟨⟨_, stream_Block_c er 11 (by decide) x7 x20 x9 (Sum.inr ()) hc26, ⟨.inl rfl, .inl rfl, .inl rfl, trivial⟩⟩, trivial, rfl⟩, ?_⟩
        refine And.intro (fun _ => ?_) (fun h0 => Bool.noConfusion h0)
        obtain rfl := some_in h
        replace h := hr2_18
        obtain rfl := some_in h
        replace h := hr1_14
        obtain rfl := some_in h
        exact ⟨0, [], [], rfl, trivial⟩
      ·replace h := cond_f h hb
       exact ⟨[], [], ⟨(x20, x21), some_in h⟩, [], rfl, trivial, ⟨rfl, rfl, rfl, rfl, rfl, rfl, rfl, rfl, trivial, rfl, rfl, trivial⟩, rfl⟩
theorem seal_filled_c (k0 : Nat) (hn : [k0].Nodup) (x35 : List Int) (res : (List Int)) (h : seal_filled x35 = some res) :
  Fn Tryd.prog (GE er) 23 [(.dv (.roI .u8 x35))] [] (.sl k0 [] ly5 0 (List.length res)) [(k0, (.rowI .u8 res))] := by
 refine bE er Tryd.func23 rfl rfl [(0, k0)] [(.dv (.roI .u8 x35))] [] [0] (.sl 0 [] ly5 0 (List.length res)) [(.rowI .u8 res)] rfl rfl rfl rfl rfl rfl hn 3 ?_
 replace h := (show seal_filled x35 = _ from h)
 unfold seal_filled at h
 refine And.intro (by decide) ?_
 let x36 : Int := (IntKind.wrap .i64 (16 - (Int.tmod (List.length x35 : Int) 16)))
 replace h := nm_at x36 rfl h
 refine And.intro (by decide) ?_
 obtain ⟨hg, h⟩ := gd h
 refine And.intro hg ?_
 refine Or.inl ?_
 refine ⟨(List.replicate (Int.toNat (Int.tmod x36 16)) (0 : Int)), rfl, 0, (List.length (List.replicate (Int.toNat (Int.tmod x36 16)) (0 : Int))), ⟨rfl, List.length_replicate ..⟩, ?_⟩
 refine Or.inl ?_
 obtain rfl := some_in h
 exact ⟨0, [], [], rfl, rfl, trivial⟩
theorem words_PutLittle_c (k0 : Nat) (hn : [k0].Nodup) (x40 : Int) (x41 : Int) (res : (((List Int)) ⊕ Unit)) (h : words_PutLittle x40 x41 = some res) :
  Fn Tryd.prog (GE er) 42 [(.int .u64 x40), (.int .i64 x41)] [] (match res with | (Sum.inl p0) => (.tup [(.sl k0 [] ly5 0 (List.length (List.replicate (Int.toNat x41) (0 : Int)))), (.dv (.sc .nilIface))]) | (Sum.inr _) => (.tup [(.dv (.sc (.slice none 0 0))), (errA er 1)])) (match res with | (Sum.inl p0) => [(k0, (.rowI .u8 p0))] | (Sum.inr _) => []) := by
 refine bE er Tryd.func42 rfl rfl ((match res with | (Sum.inl p0) => [(0, k0)] | (Sum.inr _) => [])) [(.int .u64 x40), (.int .i64 x41)] [] (match res with | (Sum.inl p0) => [0] | (Sum.inr _) => []) (match res with | (Sum.inl p0) => (.tup [(.sl 0 [] ly5 0 (List.length (List.replicate (Int.toNat x41) (0 : Int)))), (.dv (.sc .nilIface))]) | (Sum.inr _) => (.tup [(.dv (.sc (.slice none 0 0))), (errA er 1)])) (match res with | (Sum.inl p0) => [(.rowI .u8 p0)] | (Sum.inr _) => []) rfl rfl (by rcases res with _ | _ <;> rfl) (by rcases res with _ | _ <;> rfl) (by rcases res with _ | _ <;> rfl) (by rcases res with _ | _ <;> rfl) (by rcases res with _ | _ <;> first | exact hn.sublist (.cons_cons _ .slnil) | exact hn.sublist (.cons _ .slnil)) 3 ?_
 replace h := (show words_PutLittle x40 x41 = _ from h)
 unfold words_PutLittle at h
 refine And.intro (fun hb => ?_) (fun hb => ?_)
 ·replace h := cond_t h hb
  obtain rfl := some_in h
  exact ⟨0, [], [], rfl, trivial⟩
 ·replace h := cond_f h hb
  refine And.intro (fun hb => ?_) (fun hb => ?_)
  ·replace h := cond_t h hb
   obtain rfl := some_in h
   exact ⟨0, [], [], rfl, trivial⟩
  ·replace h := cond_f h hb
   obtain ⟨hg, h⟩ := gd h
   refine And.intro hg ?_
   refine Or.inl ?_
   refine ⟨(List.replicate (Int.toNat x41) (0 : Int)), rfl, 0, (List.length (List.replicate (Int.toNat x41) (0 : Int))), ⟨rfl, List.length_replicate ..⟩, ?_⟩
   refine Or.inl ?_
   refine And.intro (fun hb => ?_) (fun hb => ?_)
   ·replace h := cond_t h hb
    obtain ⟨hg, h⟩ := gd h
    refine And.intro hg ?_
    let x42 : List Int := (List.set (List.replicate (Int.toNat x41) (0 : Int)) (Int.toNat 0) (IntKind.wrap .u8 x40))
    replace h := nm_at x42 rfl h
    refine And.intro (by decide) ?_
    refine Or.inr ⟨[], {x : Nat × Int × Int × (List Int) // words_PutLittle_l1 x41 x.1 x.2.1 x.2.2.1 x.2.2.2 = some res}, ⟨fun | ⟨(n1, x43, x44, x45), _⟩ => [(0, (.int .u64 x43)), (4, (.dv (.sc (.slice none 0 0)))), (5, (.dv (.sc .nilIface))), (6, (.sl 0 [] ly5 0 (List.length (List.replicate (Int.toNat x41) (0 : Int))))), (7, (.int .i64 x44))], fun | ⟨(n1, x43, x44, x45), _⟩ => [(0, (.rowI .u8 x45))], fun | ⟨(n1, x43, x44, x45), _⟩ => n1⟩, [], [], ⟨(FUEL, (Int.fdiv x40 (2 ^ 8)), 1, x42), h⟩, ⟨rfl, ⟨rfl, rfl, rfl, rfl, rfl, trivial⟩, ⟨rfl, trivial⟩, rfl⟩, ?_⟩
    rintro ⟨⟨n1, x43, x44, x45⟩, h⟩
    cases n1 with
    | zero => exact no_none h
    | succ n1 =>
     replace h := (show words_PutLittle_l1 x41 (n1 + 1) x43 x44 x45 = _ from h)
     replace h := (words_PutLittle_l1.eq_2 .. ).symm.trans h
     refine And.intro (fun hb => ?_) (fun hb => ?_)
     ·replace h := cond_t h hb
      obtain ⟨hg, h⟩ := gd h
      refine And.intro hg ?_
      refine And.intro (by decide) ?_
      exact ⟨⟨(n1, (Int.fdiv x43 (2 ^ 8)), (IntKind.wrap .i64 (x44 + 1)), (List.set x45 (Int.toNat x44) (IntKind.wrap .u8 x43))), h⟩, [], ⟨rfl, ⟨rfl, rfl, rfl, rfl, rfl, trivial⟩, ⟨rfl, trivial⟩, rfl⟩, Nat.lt_succ_self _⟩
     ·replace h := cond_f h hb
      obtain rfl := some_in h
      exact ⟨0, [], [], rfl, rfl, trivial⟩
   ·replace h := cond_f h hb
    obtain rfl := some_in h
    exact ⟨0, [], [], rfl, rfl, trivial⟩
theorem seal_count_c (k0 : Nat) (hn : [k0].Nodup) (x39 : List Int) (res : Nat × (List Int)) (h : seal_count x39 = some res) :
  Fn Tryd.prog (GE er) 24 [(.dv (.roI .u8 x39))] [] (.sl k0 [] ly5 0 res.1) [(k0, (.rowI .u8 res.2))] := by
 refine bE er Tryd.func24 rfl rfl [(0, k0)] [(.dv (.roI .u8 x39))] [] [0] (.sl 0 [] ly5 0 res.1) [(.rowI .u8 res.2)] rfl rfl rfl rfl rfl rfl hn 3 ?_
 replace h := (show seal_count x39 = _ from h)
 unfold seal_count at h
 obtain ⟨r40, hc40, h⟩ := bnd h
 rcases r40 with x40 | ⟨⟩
 ·refine ⟨[], _, _, _, ⟨⟨_, words_PutLittle_c er 0 (by decide) (IntKind.wrap .u64 (List.length x39 : Int)) 8 (Sum.inl x40) hc40, ⟨.inl rfl, .inl rfl, trivial⟩⟩, trivial, rfl⟩, ?_⟩
  refine Or.inl ?_
  refine And.intro (fun h0 => Bool.noConfusion h0) (fun _ => ?_)
  obtain rfl := some_in h
  exact ⟨0, [], [], rfl, rfl, trivial⟩
 ·refine ⟨[], _, _, _, ⟨⟨_, words_PutLittle_c er 0 (by decide) (IntKind.wrap .u64 (List.length x39 : Int)) 8 (Sum.inr ()) hc40, ⟨.inl rfl, .inl rfl, trivial⟩⟩, trivial, rfl⟩, ?_⟩
  refine And.intro (fun _ => ?_) (fun h0 => Bool.noConfusion h0)
  obtain rfl := some_in h
  exact ⟨0, [(2, (.rowI .u8 ([] : List Int)))], [], rfl, rfl, trivial⟩
theorem seal_code_c (k0 k1 k2 k3 k4 : Nat) (hn : [k0, k1, k2, k3, k4].Nodup) (x28 : List Int) (x29 : List Int) (x30 : List Int) (x31 : List Int) (res : (((List Int) × Nat × Nat × Nat × Nat × (List Int) × (List Int) × (List Int) × (List Int)) ⊕ ((List Int) × Nat × Nat × Nat × Nat × (List Int) × (List Int) × (List Int) × (List Int)))) (h : seal_code x28 x29 x30 x31 = some res) :
  Fn Tryd.prog (GE er) 14 [(.dv (.ints .u8 32 x28)), (.dv (.roI .u8 x29)), (.dv (.roI .u8 x30)), (.dv (.roI .u8 x31))] [] (match res with | (Sum.inl (p0, p1, p2, p3, p4, p5, p6, p7, p8)) => (.tup [(.dv (.ints .u8 32 p0)), (.vs k0 0 6), (.dv (.sc .nilIface))]) | (Sum.inr (p0, p1, p2, p3, p4, p5, p6, p7, p8)) => (.tup [(.dv (.ints .u8 32 p0)), (.vs k0 0 6), (errA er 4)])) (match res with | (Sum.inl (p0, p1, p2, p3, p4, p5, p6, p7, p8)) => [(k0, (.var (.cons (.dv (.roI .u8 x30)) (.cons (.sl k1 [] ly5 0 p1) (.cons (.dv (.roI .u8 x31)) (.cons (.sl k2 [] ly5 0 p2) (.cons (.sl k3 [] ly5 0 p3) (.cons (.sl k4 [] ly5 0 p4) (.dv .nil))))))))), (k1, (.rowI .u8 p5)), (k2, (.rowI .u8 p6)), (k3, (.rowI .u8 p7)), (k4, (.rowI .u8 p8))] | (Sum.inr (p0, p1, p2, p3, p4, p5, p6, p7, p8)) => [(k0, (.var (.cons (.dv (.roI .u8 x30)) (.cons (.sl k1 [] ly5 0 p1) (.cons (.dv (.roI .u8 x31)) (.cons (.sl k2 [] ly5 0 p2) (.cons (.sl k3 [] ly5 0 p3) (.cons (.sl k4 [] ly5 0 p4) (.dv .nil))))))))), (k1, (.rowI .u8 p5)), (k2, (.rowI .u8 p6)), (k3, (.rowI .u8 p7)), (k4, (.rowI .u8 p8))]) := by
 refine bE er Tryd.func14 rfl rfl ((match res with | (Sum.inl (p0, p1, p2, p3, p4, p5, p6, p7, p8)) => [(8, k0), (4, k1), (5, k2), (6, k3), (7, k4)] | (Sum.inr (p0, p1, p2, p3, p4, p5, p6, p7, p8)) => [(7, k0), (3, k1), (4, k2), (5, k3), (6, k4)])) [(.dv (.ints .u8 32 x28)), (.dv (.roI .u8 x29)), (.dv (.roI .u8 x30)), (.dv (.roI .u8 x31))] [] (match res with | (Sum.inl (p0, p1, p2, p3, p4, p5, p6, p7, p8)) => [8, 4, 5, 6, 7] | (Sum.inr (p0, p1, p2, p3, p4, p5, p6, p7, p8)) => [7, 3, 4, 5, 6]) (match res with | (Sum.inl (p0, p1, p2, p3, p4, p5, p6, p7, p8)) => (.tup [(.dv (.ints .u8 32 p0)), (.vs 8 0 6), (.dv (.sc .nilIface))]) | (Sum.inr (p0, p1, p2, p3, p4, p5, p6, p7, p8)) => (.tup [(.dv (.ints .u8 32 p0)), (.vs 7 0 6), (errA er 4)])) (match res with | (Sum.inl (p0, p1, p2, p3, p4, p5, p6, p7, p8)) => [(.var (.cons (.dv (.roI .u8 x30)) (.cons (.sl 4 [] ly5 0 p1) (.cons (.dv (.roI .u8 x31)) (.cons (.sl 5 [] ly5 0 p2) (.cons (.sl 6 [] ly5 0 p3) (.cons (.sl 7 [] ly5 0 p4) (.dv .nil)))))))), (.rowI .u8 p5), (.rowI .u8 p6), (.rowI .u8 p7), (.rowI .u8 p8)] | (Sum.inr (p0, p1, p2, p3, p4, p5, p6, p7, p8)) => [(.var (.cons (.dv (.roI .u8 x30)) (.cons (.sl 3 [] ly5 0 p1) (.cons (.dv (.roI .u8 x31)) (.cons (.sl 4 [] ly5 0 p2) (.cons (.sl 5 [] ly5 0 p3) (.cons (.sl 6 [] ly5 0 p4) (.dv .nil)))))))), (.rowI .u8 p5), (.rowI .u8 p6), (.rowI .u8 p7), (.rowI .u8 p8)]) rfl rfl (by rcases res with _ | _ <;> rfl) (by rcases res with _ | _ <;> rfl) (by rcases res with _ | _ <;> rfl) (by rcases res with _ | _ <;> rfl) (by rcases res with _ | _ <;> exact hn) 3 ?_
 replace h := (show seal_code x28 x29 x30 x31 = _ from h)
 unfold seal_code at h
 obtain ⟨r47, hc47, h⟩ := bnd h
 rcases r47 with x32 | ⟨⟩
 ·refine ⟨[], _, _, _, ⟨⟨_, stream_Block_c er 3 (by decide) x28 0 x29 (Sum.inl x32) hc47, ⟨.inl rfl, .inl rfl, .inl rfl, trivial⟩⟩, trivial, rfl⟩, ?_⟩
  refine Or.inl ?_
  refine Or.inl ?_
  refine And.intro (by omega) ?_
  refine ⟨0, 32, ⟨rfl, rfl⟩, ?_⟩
  let x33 : List Int := (over (List.replicate 32 (0 : Int)) 0 (List.take 32 (List.take (List.length x32) x32)))
  replace h := nm_at x33 rfl h
  let x34 : Int := (min (List.length (List.take (List.length x32) x32)) 32 : Nat)
  replace h := nm_at x34 rfl h
  obtain ⟨x35, hc40, h⟩ := bnd h
  refine ⟨[], _, _, _, ⟨⟨_, seal_filled_c er 4 (by decide) x30 x35 hc40, ⟨.inl rfl, trivial⟩⟩, trivial, rfl⟩, ?_⟩
  refine Or.inl ?_
  obtain ⟨x36, hc40, h⟩ := bnd h
  refine ⟨[], _, _, _, ⟨⟨_, seal_filled_c er 5 (by decide) x31 x36 hc40, ⟨.inl rfl, trivial⟩⟩, trivial, rfl⟩, ?_⟩
  refine Or.inl ?_
  obtain ⟨r40, hc40, h⟩ := bnd h
  obtain ⟨x37, x38⟩ := r40
  refine ⟨[], _, _, _, ⟨⟨_, seal_count_c er 6 (by decide) x30 (x37, x38) hc40, ⟨.inl rfl, trivial⟩⟩, trivial, rfl⟩, ?_⟩
  refine Or.inl ?_
  obtain ⟨r40, hc40, h⟩ := bnd h
  obtain ⟨x39, x40⟩ := r40
  refine ⟨[], _, _, _, ⟨⟨_, seal_count_c er 7 (by decide) x31 (x39, x40) hc40, ⟨.inl rfl, trivial⟩⟩, trivial, rfl⟩, ?_⟩
  refine Or.inl ?_
  refine Or.inr ?_
  obtain rfl := some_in h
  exact ⟨0, [], [], rfl, rfl, rfl, rfl, rfl, rfl, trivial⟩
 ·refine ⟨[], _, _, _, ⟨⟨_, stream_Block_c er 3 (by decide) x28 0 x29 (Sum.inr ()) hc47, ⟨.inl rfl, .inl rfl, .inl rfl, trivial⟩⟩, trivial, rfl⟩, ?_⟩
  refine Or.inl ?_
  refine And.intro (by omega) ?_
  refine ⟨0, 32, ⟨rfl, rfl⟩, ?_⟩
  let x41 : List Int := (over (List.replicate 32 (0 : Int)) 0 (List.take 32 ([] : List Int)))
  replace h := nm_at x41 rfl h
  obtain ⟨x42, hc47, h⟩ := bnd h
  refine ⟨[], _, _, _, ⟨⟨_, seal_filled_c er 3 (by decide) x30 x42 hc47, ⟨.inl rfl, trivial⟩⟩, trivial, rfl⟩, ?_⟩
  refine Or.inl ?_
  obtain ⟨x43, hc47, h⟩ := bnd h
  refine ⟨[], _, _, _, ⟨⟨_, seal_filled_c er 4 (by decide) x31 x43 hc47, ⟨.inl rfl, trivial⟩⟩, trivial, rfl⟩, ?_⟩
  refine Or.inl ?_
  obtain ⟨r47, hc47, h⟩ := bnd h
  obtain ⟨x44, x45⟩ := r47
  refine ⟨[], _, _, _, ⟨⟨_, seal_count_c er 5 (by decide) x30 (x44, x45) hc47, ⟨.inl rfl, trivial⟩⟩, trivial, rfl⟩, ?_⟩
  refine Or.inl ?_
  obtain ⟨r47, hc47, h⟩ := bnd h
  obtain ⟨x46, x47⟩ := r47
  refine ⟨[], _, _, _, ⟨⟨_, seal_count_c er 6 (by decide) x31 (x46, x47) hc47, ⟨.inl rfl, trivial⟩⟩, trivial, rfl⟩, ?_⟩
  refine Or.inl ?_
  refine Or.inr ?_
  obtain rfl := some_in h
  exact ⟨0, [], [], rfl, rfl, rfl, rfl, rfl, rfl, trivial⟩
theorem seal_code_2_c (b0 k0 k1 k2 k3 k4 : Nat) (hn : [b0, k0, k1, k2, k3, k4].Nodup) (x48 : List Int) (x49 : List Int) (x50 : List Int) (x51 : List Int) (res : (((List Int) × Nat × Nat × Nat × Nat × (List Int) × (List Int) × (List Int) × (List Int)) ⊕ ((List Int) × Nat × Nat × Nat × Nat × (List Int) × (List Int) × (List Int) × (List Int)))) (h : seal_code_2 x48 x49 x50 x51 = some res) :
  Fn Tryd.prog (GE er) 14 [(.dv (.ints .u8 32 x48)), (.dv (.roI .u8 x49)), (.dv (.roI .u8 x50)), (.sl b0 [] ly5 0 (List.length x51))] [(b0, (.rowI .u8 x51))] (match res with | (Sum.inl (p0, p1, p2, p3, p4, p5, p6, p7, p8)) => (.tup [(.dv (.ints .u8 32 p0)), (.vs k0 0 6), (.dv (.sc .nilIface))]) | (Sum.inr (p0, p1, p2, p3, p4, p5, p6, p7, p8)) => (.tup [(.dv (.ints .u8 32 p0)), (.vs k0 0 6), (errA er 4)])) (match res with | (Sum.inl (p0, p1, p2, p3, p4, p5, p6, p7, p8)) => [(b0, (.rowI .u8 x51)), (k0, (.var (.cons (.dv (.roI .u8 x50)) (.cons (.sl k1 [] ly5 0 p1) (.cons (.sl b0 [] ly5 0 (List.length x51)) (.cons (.sl k2 [] ly5 0 p2) (.cons (.sl k3 [] ly5 0 p3) (.cons (.sl k4 [] ly5 0 p4) (.dv .nil))))))))), (k1, (.rowI .u8 p5)), (k2, (.rowI .u8 p6)), (k3, (.rowI .u8 p7)), (k4, (.rowI .u8 p8))] | (Sum.inr (p0, p1, p2, p3, p4, p5, p6, p7, p8)) => [(b0, (.rowI .u8 x51)), (k0, (.var (.cons (.dv (.roI .u8 x50)) (.cons (.sl k1 [] ly5 0 p1) (.cons (.sl b0 [] ly5 0 (List.length x51)) (.cons (.sl k2 [] ly5 0 p2) (.cons (.sl k3 [] ly5 0 p3) (.cons (.sl k4 [] ly5 0 p4) (.dv .nil))))))))), (k1, (.rowI .u8 p5)), (k2, (.rowI .u8 p6)), (k3, (.rowI .u8 p7)), (k4, (.rowI .u8 p8))]) := by
 refine bE er Tryd.func14 rfl rfl ((0, b0) :: (match res with | (Sum.inl (p0, p1, p2, p3, p4, p5, p6, p7, p8)) => [(9, k0), (5, k1), (6, k2), (7, k3), (8, k4)] | (Sum.inr (p0, p1, p2, p3, p4, p5, p6, p7, p8)) => [(8, k0), (4, k1), (5, k2), (6, k3), (7, k4)])) [(.dv (.ints .u8 32 x48)), (.dv (.roI .u8 x49)), (.dv (.roI .u8 x50)), (.sl 0 [] ly5 0 (List.length x51))] [(.rowI .u8 x51)] (match res with | (Sum.inl (p0, p1, p2, p3, p4, p5, p6, p7, p8)) => [9, 5, 6, 7, 8] | (Sum.inr (p0, p1, p2, p3, p4, p5, p6, p7, p8)) => [8, 4, 5, 6, 7]) (match res with | (Sum.inl (p0, p1, p2, p3, p4, p5, p6, p7, p8)) => (.tup [(.dv (.ints .u8 32 p0)), (.vs 9 0 6), (.dv (.sc .nilIface))]) | (Sum.inr (p0, p1, p2, p3, p4, p5, p6, p7, p8)) => (.tup [(.dv (.ints .u8 32 p0)), (.vs 8 0 6), (errA er 4)])) (match res with | (Sum.inl (p0, p1, p2, p3, p4, p5, p6, p7, p8)) => [(.rowI .u8 x51), (.var (.cons (.dv (.roI .u8 x50)) (.cons (.sl 5 [] ly5 0 p1) (.cons (.sl 0 [] ly5 0 (List.length x51)) (.cons (.sl 6 [] ly5 0 p2) (.cons (.sl 7 [] ly5 0 p3) (.cons (.sl 8 [] ly5 0 p4) (.dv .nil)))))))), (.rowI .u8 p5), (.rowI .u8 p6), (.rowI .u8 p7), (.rowI .u8 p8)] | (Sum.inr (p0, p1, p2, p3, p4, p5, p6, p7, p8)) => [(.rowI .u8 x51), (.var (.cons (.dv (.roI .u8 x50)) (.cons (.sl 4 [] ly5 0 p1) (.cons (.sl 0 [] ly5 0 (List.length x51)) (.cons (.sl 5 [] ly5 0 p2) (.cons (.sl 6 [] ly5 0 p3) (.cons (.sl 7 [] ly5 0 p4) (.dv .nil)))))))), (.rowI .u8 p5), (.rowI .u8 p6), (.rowI .u8 p7), (.rowI .u8 p8)]) rfl rfl (by rcases res with _ | _ <;> rfl) (by rcases res with _ | _ <;> rfl) (by rcases res with _ | _ <;> rfl) (by rcases res with _ | _ <;> rfl) (by rcases res with _ | _ <;> exact hn) 3 ?_
 replace h := (show seal_code_2 x48 x49 x50 x51 = _ from h)
 unfold seal_code_2 at h
 obtain ⟨r67, hc67, h⟩ := bnd h
 rcases r67 with x52 | ⟨⟩
 ·refine ⟨[], _, _, _, ⟨⟨_, stream_Block_c er 4 (by decide) x48 0 x49 (Sum.inl x52) hc67, ⟨.inl rfl, .inl rfl, .inl rfl, trivial⟩⟩, trivial, rfl⟩, ?_⟩
  refine Or.inl ?_
  refine Or.inl ?_
  refine And.intro (by omega) ?_
  refine ⟨0, 32, ⟨rfl, rfl⟩, ?_⟩
  let x53 : List Int := (over (List.replicate 32 (0 : Int)) 0 (List.take 32 (List.take (List.length x52) x52)))
  replace h := nm_at x53 rfl h
  let x54 : Int := (min (List.length (List.take (List.length x52) x52)) 32 : Nat)
  replace h := nm_at x54 rfl h
  obtain ⟨x55, hc60, h⟩ := bnd h
  refine ⟨[], _, _, _, ⟨⟨_, seal_filled_c er 5 (by decide) x50 x55 hc60, ⟨.inl rfl, trivial⟩⟩, trivial, rfl⟩, ?_⟩
  refine Or.inl ?_
  obtain ⟨x56, hc60, h⟩ := bnd h
  refine ⟨[true], _, _, _, ⟨⟨_, seal_filled_c er 6 (by decide) x51 x56 hc60, ⟨ve_full _ _, trivial⟩⟩, trivial, rfl⟩, ?_⟩
  refine Or.inl ?_
  obtain ⟨r60, hc60, h⟩ := bnd h
  obtain ⟨x57, x58⟩ := r60
  refine ⟨[], _, _, _, ⟨⟨_, seal_count_c er 7 (by decide) x50 (x57, x58) hc60, ⟨.inl rfl, trivial⟩⟩, trivial, rfl⟩, ?_⟩
  refine Or.inl ?_
  obtain ⟨r60, hc60, h⟩ := bnd h
  obtain ⟨x59, x60⟩ := r60
  refine ⟨[true], _, _, _, ⟨⟨_, seal_count_c er 8 (by decide) x51 (x59, x60) hc60, ⟨ve_full _ _, trivial⟩⟩, trivial, rfl⟩, ?_⟩
  refine Or.inl ?_
  refine Or.inr ?_
  obtain rfl := some_in h
  exact ⟨0, [], [], rfl, rfl, rfl, rfl, rfl, rfl, rfl, trivial⟩
 ·refine ⟨[], _, _, _, ⟨⟨_, stream_Block_c er 4 (by decide) x48 0 x49 (Sum.inr ()) hc67, ⟨.inl rfl, .inl rfl, .inl rfl, trivial⟩⟩, trivial, rfl⟩, ?_⟩
  refine Or.inl ?_
  refine And.intro (by omega) ?_
  refine ⟨0, 32, ⟨rfl, rfl⟩, ?_⟩
  let x61 : List Int := (over (List.replicate 32 (0 : Int)) 0 (List.take 32 ([] : List Int)))
  replace h := nm_at x61 rfl h
  obtain ⟨x62, hc67, h⟩ := bnd h
  refine ⟨[], _, _, _, ⟨⟨_, seal_filled_c er 4 (by decide) x50 x62 hc67, ⟨.inl rfl, trivial⟩⟩, trivial, rfl⟩, ?_⟩
  refine Or.inl ?_
  obtain ⟨x63, hc67, h⟩ := bnd h
  refine ⟨[true], _, _, _, ⟨⟨_, seal_filled_c er 5 (by decide) x51 x63 hc67, ⟨ve_full _ _, trivial⟩⟩, trivial, rfl⟩, ?_⟩
  refine Or.inl ?_
  obtain ⟨r67, hc67, h⟩ := bnd h
  obtain ⟨x64, x65⟩ := r67
  refine ⟨[], _, _, _, ⟨⟨_, seal_count_c er 6 (by decide) x50 (x64, x65) hc67, ⟨.inl rfl, trivial⟩⟩, trivial, rfl⟩, ?_⟩
  refine Or.inl ?_
  obtain ⟨r67, hc67, h⟩ := bnd h
  obtain ⟨x66, x67⟩ := r67
  refine ⟨[true], _, _, _, ⟨⟨_, seal_count_c er 7 (by decide) x51 (x66, x67) hc67, ⟨ve_full _ _, trivial⟩⟩, trivial, rfl⟩, ?_⟩
  refine Or.inl ?_
  refine Or.inr ?_
  obtain rfl := some_in h
  exact ⟨0, [], [], rfl, rfl, rfl, rfl, rfl, rfl, rfl, trivial⟩
theorem onetime_read_c (x93 : List Int) (res : (List Int)) (h : onetime_read x93 = some res) :
  Fn Tryd.prog (GE er) 27 [(.dv (.roI .u8 x93))] [] (.dv (.ints .u64 5 res)) [] := by
 refine bE er Tryd.func27 rfl rfl [] [(.dv (.roI .u8 x93))] [] [] (.dv (.ints .u64 5 res)) [] rfl rfl rfl rfl rfl rfl .nil 3 ?_
 replace h := (show onetime_read x93 = _ from h)
 unfold onetime_read at h
 refine And.intro (by decide) ?_
 refine Or.inl ?_
 refine ⟨(List.replicate 32 (0 : Int)), rfl, 0, (List.length (List.replicate 32 (0 : Int))), ⟨rfl, List.length_replicate ..⟩, ?_⟩
 refine Or.inl ?_
 refine ⟨(over (List.replicate 32 (0 : Int)) 0 (List.take (List.length (List.replicate 32 (0 : Int))) x93)), rfl, ?_⟩
 let x94 : List Int := (over (List.replicate 32 (0 : Int)) 0 (List.take (List.length (List.replicate 32 (0 : Int))) x93))
 replace h := nm_at x94 rfl h
 let x95 : Int := (min (List.length x93) (List.length (List.replicate 32 (0 : Int))) : Nat)
 replace h := nm_at x95 rfl h
 obtain ⟨r1_0_96, hl1_96, hr1_96⟩ := bnd h
 refine Or.inr ⟨[12], {p : (List Int) // p = r1_0_96}, ⟨fun | ⟨x96, _⟩ => [], fun | ⟨x96, _⟩ => [(2, (.var (.dv (.ints .u64 5 x96))))], fun _ => 0⟩, 0, ?_, ?_⟩
 ·rintro ⟨x96, hp⟩
  subst hp
  replace h := hr1_96
  obtain rfl := some_in h
  exact ⟨0, [], [], rfl, trivial⟩
 ·replace h := hl1_96
  refine Or.inl ?_
  refine ⟨[12], {x : Nat × Int × (List Int) // onetime_read_l1 x94 x.1 x.2.1 x.2.2 = some r1_0_96}, ⟨fun | ⟨(n1, x97, x98), _⟩ => [(13, (.int .i64 x97))], fun | ⟨(n1, x97, x98), _⟩ => [(2, (.var (.dv (.ints .u64 5 x98))))], fun | ⟨(n1, x97, x98), _⟩ => n1⟩, [], [], ⟨(FUEL, 0, (List.replicate 5 (0 : Int))), h⟩, ⟨rfl, ⟨rfl, trivial⟩, ⟨rfl, rfl, rfl, trivial⟩, rfl⟩, ?_⟩
  rintro ⟨⟨n1, x97, x98⟩, h⟩
  cases n1 with
  | zero => exact no_none h
  | succ n1 =>
   replace h := (show onetime_read_l1 x94 (n1 + 1) x97 x98 = _ from h)
   replace h := (onetime_read_l1.eq_2 .. ).symm.trans h
   refine And.intro (fun hb => ?_) (fun hb => ?_)
   ·replace h := cond_t h hb
    refine Or.inl ?_
    obtain ⟨r2_0_99, hl2_99, hr2_99⟩ := bnd h
    refine Or.inr ⟨[], {p : Int // p = r2_0_99}, ⟨fun | ⟨x99, _⟩ => [(7, (.int .u64 x99))], fun | ⟨x99, _⟩ => [], fun _ => 0⟩, 0, ?_, ?_⟩
    ·rintro ⟨x99, hp⟩
     subst hp
     replace h := hr2_99
     refine And.intro (by decide) ?_
     obtain ⟨hg, h⟩ := gd h
     refine And.intro hg ?_
     let x105 : Int := (Int.fdiv x99 (2 ^ (min (Int.toNat (Int.tmod (IntKind.wrap .i64 (26 * x97)) 8)) (IntKind.bits .u64))))
     replace h := nm_at x105 rfl h
     obtain ⟨hg, h⟩ := gd h
     refine And.intro hg ?_
     let x106 : List Int := (List.set x98 (Int.toNat x97) (bits .u64 .and x105 67108863))
     replace h := nm_at x106 rfl h
     exact ⟨⟨(n1, (IntKind.wrap .i64 (x97 + 1)), x106), h⟩, [], ⟨rfl, ⟨rfl, trivial⟩, ⟨rfl, rfl, rfl, trivial⟩, rfl⟩, Nat.lt_succ_self _⟩
    ·replace h := hl2_99
     refine Or.inl ?_
     refine ⟨[], {x : Nat × Int × Int // onetime_read_l2 x94 x97 x.1 x.2.1 x.2.2 = some r2_0_99}, ⟨fun | ⟨(n2, x100, x101), _⟩ => [(7, (.int .u64 x100)), (8, (.int .i64 x101))], fun | ⟨(n2, x100, x101), _⟩ => [], fun | ⟨(n2, x100, x101), _⟩ => n2⟩, [], [], ⟨(FUEL, 0, 4), h⟩, ⟨rfl, ⟨rfl, rfl, trivial⟩, ⟨rfl, rfl, rfl, trivial⟩, rfl⟩, ?_⟩
     rintro ⟨⟨n2, x100, x101⟩, h⟩
     cases n2 with
     | zero => exact no_none h
     | succ n2 =>
      replace h := (show onetime_read_l2 x94 x97 (n2 + 1) x100 x101 = _ from h)
      replace h := (onetime_read_l2.eq_2 .. ).symm.trans h
      refine And.intro (fun hb => ?_) (fun hb => ?_)
      ·replace h := cond_t h hb
       refine Or.inl ?_
       refine And.intro (by decide) ?_
       refine And.intro (by decide) ?_
       let x102 : Int := (IntKind.wrap .i64 (Int.tdiv (IntKind.wrap .i64 (26 * x97)) 8))
       replace h := nm_at x102 rfl h
       obtain ⟨hg, h⟩ := gd h
       refine And.intro hg ?_
       let x103 : Int := (List.getD x94 (Int.toNat (IntKind.wrap .i64 (x102 + x101))) 0)
       replace h := nm_at x103 rfl h
       let x104 : Int := (bits .u64 .or (IntKind.wrap .u64 (x100 * 2 ^ 8)) (IntKind.wrap .u64 x103))
       replace h := nm_at x104 rfl h
       exact ⟨⟨(n2, x104, (IntKind.wrap .i64 (x101 - 1))), h⟩, [], ⟨rfl, ⟨rfl, rfl, trivial⟩, ⟨rfl, rfl, rfl, trivial⟩, rfl⟩, Nat.lt_succ_self _⟩
      ·replace h := cond_f h hb
       exact ⟨[], [], ⟨x100, some_in h⟩, [], rfl, ⟨rfl, trivial⟩, ⟨rfl, rfl, rfl, trivial⟩, rfl⟩
   ·replace h := cond_f h hb
    exact ⟨[], [], ⟨x98, some_in h⟩, [], rfl, trivial, ⟨rfl, rfl, rfl, trivial⟩, rfl⟩
theorem onetime_clamped_c (x89 : List Int) (res : (List Int)) (h : onetime_clamped x89 = some res) :
  Fn Tryd.prog (GE er) 25 [(.dv (.ints .u8 32 x89))] [] (.dv (.ints .u64 5 res)) [] := by
 refine bE er Tryd.func25 rfl rfl [] [(.dv (.ints .u8 32 x89))] [] [] (.dv (.ints .u64 5 res)) [] rfl rfl rfl rfl rfl rfl .nil 3 ?_
 replace h := (show onetime_clamped x89 = _ from h)
 unfold onetime_clamped at h
 refine Or.inl ?_
 refine And.intro (by decide) ?_
 refine And.intro (by decide) ?_
 refine ⟨0, 16, ⟨rfl, rfl⟩, ?_⟩
 obtain ⟨x90, hc101, h⟩ := bnd h
 refine ⟨[true], _, _, _, ⟨⟨_, slices_Clone_byte_byte_c er 2 (by decide) (List.take 16 x89) x90 hc101, ⟨.inl rfl, trivial⟩⟩, trivial, rfl⟩, ?_⟩
 refine Or.inl ?_
 refine Or.inl ?_
 obtain ⟨r1_0_91, hl1_91, hr1_91⟩ := bnd h
 refine Or.inr ⟨[11], {p : (List Int) // p = r1_0_91}, ⟨fun | ⟨x91, _⟩ => [], fun | ⟨x91, _⟩ => [(2, (.rowI .u8 x91))], fun _ => 0⟩, 0, ?_, ?_⟩
 ·rintro ⟨x91, hp⟩
  subst hp
  replace h := hr1_91
  refine Or.inl ?_
  obtain ⟨r2_1_96, hl2_96, hr2_96⟩ := bnd h
  refine Or.inr ⟨[24], {p : (List Int) // p = r2_1_96}, ⟨fun | ⟨x96, _⟩ => [], fun | ⟨x96, _⟩ => [(2, (.rowI .u8 x96))], fun _ => 0⟩, 0, ?_, ?_⟩
  ·rintro ⟨x96, hp⟩
   subst hp
   replace h := hr2_96
   obtain ⟨x101, hc101, h⟩ := bnd h
   refine ⟨[true], _, _, _, ⟨⟨_, onetime_read_c er (List.take (List.length x90) x96) x101 hc101, ⟨.inl rfl, trivial⟩⟩, trivial, rfl⟩, ?_⟩
   obtain rfl := some_in h
   exact ⟨0, [], [], rfl, trivial⟩
  ·replace h := hl2_96
   refine Or.inl ?_
   refine ⟨[], {x : Nat × Int × (List Int) // onetime_clamped_l2 x90 x.1 x.2.1 x.2.2 = some r2_1_96}, ⟨fun | ⟨(n2, x97, x98), _⟩ => [(25, (.int .i64 x97))], fun | ⟨(n2, x97, x98), _⟩ => [(2, (.rowI .u8 x98))], fun | ⟨(n2, x97, x98), _⟩ => n2⟩, [], [], ⟨(FUEL, 0, x91), h⟩, ⟨rfl, ⟨rfl, trivial⟩, ⟨rfl, rfl, rfl, rfl, rfl, trivial⟩, rfl⟩, ?_⟩
   rintro ⟨⟨n2, x97, x98⟩, h⟩
   cases n2 with
   | zero => exact no_none h
   | succ n2 =>
    replace h := (show onetime_clamped_l2 x90 (n2 + 1) x97 x98 = _ from h)
    replace h := (onetime_clamped_l2.eq_2 .. ).symm.trans h
    refine And.intro (fun hb => ?_) (fun hb => ?_)
    ·replace h := cond_t h hb
     refine Or.inl ?_
     obtain ⟨hg, h⟩ := gd h
     refine And.intro hg ?_
     obtain ⟨hg, h⟩ := gd h
     refine And.intro hg ?_
     let x99 : Int := (List.getD x98 (Int.toNat (List.getD [4, 8, 12] (Int.toNat x97) 0)) 0)
     replace h := nm_at x99 rfl h
     obtain ⟨hg, h⟩ := gd h
     refine And.intro hg ?_
     let x100 : List Int := (List.set x98 (Int.toNat (List.getD [4, 8, 12] (Int.toNat x97) 0)) (bits .u8 .and x99 252))
     replace h := nm_at x100 rfl h
     exact ⟨⟨(n2, (IntKind.wrap .i64 (x97 + 1)), x100), h⟩, [], ⟨rfl, ⟨rfl, trivial⟩, ⟨rfl, rfl, rfl, rfl, rfl, trivial⟩, rfl⟩, Nat.lt_succ_self _⟩
    ·replace h := cond_f h hb
     exact ⟨[], [], ⟨x98, some_in h⟩, [], rfl, trivial, ⟨rfl, rfl, rfl, rfl, rfl, trivial⟩, rfl⟩
 ·replace h := hl1_91
  refine Or.inl ?_
  refine ⟨[], {x : Nat × Int × (List Int) // onetime_clamped_l1 x90 x.1 x.2.1 x.2.2 = some r1_0_91}, ⟨fun | ⟨(n1, x92, x93), _⟩ => [(12, (.int .i64 x92))], fun | ⟨(n1, x92, x93), _⟩ => [(2, (.rowI .u8 x93))], fun | ⟨(n1, x92, x93), _⟩ => n1⟩, [], [], ⟨(FUEL, 0, x90), h⟩, ⟨rfl, ⟨rfl, trivial⟩, ⟨rfl, rfl, rfl, rfl, trivial⟩, rfl⟩, ?_⟩
  rintro ⟨⟨n1, x92, x93⟩, h⟩
  cases n1 with
  | zero => exact no_none h
  | succ n1 =>
   replace h := (show onetime_clamped_l1 x90 (n1 + 1) x92 x93 = _ from h)
   replace h := (onetime_clamped_l1.eq_2 .. ).symm.trans h
   refine And.intro (fun hb => ?_) (fun hb => ?_)
   ·replace h := cond_t h hb
    refine Or.inl ?_
    obtain ⟨hg, h⟩ := gd h
    refine And.intro hg ?_
    obtain ⟨hg, h⟩ := gd h
    refine And.intro hg ?_
    let x94 : Int := (List.getD x93 (Int.toNat (List.getD [3, 7, 11, 15] (Int.toNat x92) 0)) 0)
    replace h := nm_at x94 rfl h
    obtain ⟨hg, h⟩ := gd h
    refine And.intro hg ?_
    let x95 : List Int := (List.set x93 (Int.toNat (List.getD [3, 7, 11, 15] (Int.toNat x92) 0)) (bits .u8 .and x94 15))
    replace h := nm_at x95 rfl h
    exact ⟨⟨(n1, (IntKind.wrap .i64 (x92 + 1)), x95), h⟩, [], ⟨rfl, ⟨rfl, trivial⟩, ⟨rfl, rfl, rfl, rfl, trivial⟩, rfl⟩, Nat.lt_succ_self _⟩
   ·replace h := cond_f h hb
    exact ⟨[], [], ⟨x93, some_in h⟩, [], rfl, trivial, ⟨rfl, rfl, rfl, rfl, trivial⟩, rfl⟩
theorem slices_Grow_byte_byte_2_c (k0 : Nat) (hn : [k0].Nodup) (x117 : Int) (res : Nat × (List Int)) (h : slices_Grow_byte_byte_2 x117 = some res) :
  Fn Tryd.prog (GE er) 43 [(.dv (.sc (.slice none 0 0))), (.int .i64 x117)] [] (.sl k0 [] ly5 0 res.1) [(k0, (.rowI .u8 res.2))] := by
 refine bE er Tryd.func43 rfl rfl [(0, k0)] [(.dv (.sc (.slice none 0 0))), (.int .i64 x117)] [] [0] (.sl 0 [] ly5 0 res.1) [(.rowI .u8 res.2)] rfl rfl rfl rfl rfl rfl hn 3 ?_
 replace h := (show slices_Grow_byte_byte_2 x117 = _ from h)
 unfold slices_Grow_byte_byte_2 at h
 refine Or.inl ?_
 refine And.intro (fun hb => ?_) (fun hb => ?_)
 ·replace h := cond_t h hb
  exact no_none h
 ·replace h := cond_f h hb
  obtain ⟨r1_0_119, hl1_119, hr1_119⟩ := bnd h
  refine Or.inr ⟨[], {p : Nat × (List Int) // p = r1_0_119}, ⟨fun | ⟨(x118, x119), _⟩ => [(0, (.sl 0 [] ly5 0 x118))], fun | ⟨(x118, x119), _⟩ => [(0, (.rowI .u8 x119))], fun _ => 0⟩, 1, ?_, ?_⟩
  ·rintro ⟨⟨x118, x119⟩, hp⟩
   subst hp
   replace h := hr1_119
   obtain rfl := some_in h
   exact ⟨0, [], [], rfl, rfl, trivial⟩
  ·replace h := hl1_119
   refine And.intro (fun hb => ?_) (fun hb => ?_)
   ·replace h := cond_t h hb
    refine And.intro (by decide) ?_
    refine And.intro (by decide) ?_
    obtain ⟨hg, h⟩ := gd h
    refine And.intro hg ?_
    refine ⟨(List.replicate (Int.toNat (IntKind.wrap .i64 (x117 - 0))) (0 : Int)), rfl, 0, (List.length (List.replicate (Int.toNat (IntKind.wrap .i64 (x117 - 0))) (0 : Int))), ⟨rfl, List.length_replicate ..⟩, ?_⟩
    refine Or.inl ?_
    let x120 : List Int := (List.replicate (Int.toNat (IntKind.wrap .i64 (x117 - 0))) (0 : Int))
    replace h := nm_at x120 rfl h
    obtain ⟨hg, h⟩ := gd h
    refine And.intro hg ?_
    refine And.intro (by decide) ?_
    refine ⟨0, 0, ⟨by simp, rfl⟩, ?_⟩
    exact ⟨[], [], ⟨(0, x120), some_in h⟩, [], rfl, ⟨rfl, trivial⟩, ⟨rfl, trivial⟩, rfl⟩
   ·replace h := cond_f h hb
    exact ⟨[(0, .rowI .u8 [])], [], ⟨((List.length ([] : List Int)), ([] : List Int)), some_in h⟩, [], rfl, ⟨rfl, trivial⟩, ⟨rfl, trivial⟩, rfl⟩
theorem slices_Concat_byte_byte_c (b0 b1 b2 b3 b4 b5 k0 : Nat) (hn : [b0, b1, b2, b3, b4, b5, k0].Nodup) (x103 : List Int) (x104 : Nat) (x105 : Nat) (x106 : Nat) (x107 : Nat) (x108 : Nat) (x109 : List Int) (x110 : List Int) (x111 : List Int) (x112 : List Int) (x113 : List Int) (res : (List Int)) (h : slices_Concat_byte_byte x103 x104 x105 x106 x107 x108 x109 x110 x111 x112 x113 = some res) :
  Fn Tryd.prog (GE er) 26 [(.vs b0 0 6)] [(b0, (.var (.cons (.dv (.roI .u8 x103)) (.cons (.sl b1 [] ly5 0 x104) (.cons (.sl b2 [] ly5 0 x105) (.cons (.sl b3 [] ly5 0 x106) (.cons (.sl b4 [] ly5 0 x107) (.cons (.sl b5 [] ly5 0 x108) (.dv .nil))))))))), (b1, (.rowI .u8 x109)), (b2, (.rowI .u8 x110)), (b3, (.rowI .u8 x111)), (b4, (.rowI .u8 x112)), (b5, (.rowI .u8 x113))] (.sl k0 [] ly5 0 (List.length res)) [(b0, (.var (.cons (.dv (.roI .u8 x103)) (.cons (.sl b1 [] ly5 0 x104) (.cons (.sl b2 [] ly5 0 x105) (.cons (.sl b3 [] ly5 0 x106) (.cons (.sl b4 [] ly5 0 x107) (.cons (.sl b5 [] ly5 0 x108) (.dv .nil))))))))), (b1, (.rowI .u8 x109)), (b2, (.rowI .u8 x110)), (b3, (.rowI .u8 x111)), (b4, (.rowI .u8 x112)), (b5, (.rowI .u8 x113)), (k0, (.rowI .u8 res))] := by
 refine bE er Tryd.func26 rfl rfl [(0, b0), (1, b1), (2, b2), (3, b3), (4, b4), (5, b5), (7, k0)] [(.vs 0 0 6)] [(.var (.cons (.dv (.roI .u8 x103)) (.cons (.sl 1 [] ly5 0 x104) (.cons (.sl 2 [] ly5 0 x105) (.cons (.sl 3 [] ly5 0 x106) (.cons (.sl 4 [] ly5 0 x107) (.cons (.sl 5 [] ly5 0 x108) (.dv .nil)))))))), (.rowI .u8 x109), (.rowI .u8 x110), (.rowI .u8 x111), (.rowI .u8 x112), (.rowI .u8 x113)] [7] (.sl 7 [] ly5 0 (List.length res)) [(.var (.cons (.dv (.roI .u8 x103)) (.cons (.sl 1 [] ly5 0 x104) (.cons (.sl 2 [] ly5 0 x105) (.cons (.sl 3 [] ly5 0 x106) (.cons (.sl 4 [] ly5 0 x107) (.cons (.sl 5 [] ly5 0 x108) (.dv .nil)))))))), (.rowI .u8 x109), (.rowI .u8 x110), (.rowI .u8 x111), (.rowI .u8 x112), (.rowI .u8 x113), (.rowI .u8 res)] rfl rfl rfl rfl rfl rfl hn 3 ?_
 replace h := (show slices_Concat_byte_byte x103 x104 x105 x106 x107 x108 x109 x110 x111 x112 x113 = _ from h)
 unfold slices_Concat_byte_byte at h
 obtain ⟨r1_0_114, hl1_114, hr1_114⟩ := bnd h
 refine Or.inr ⟨[10], {p : Int // p = r1_0_114}, ⟨fun | ⟨x114, _⟩ => [(3, (.int .i64 x114))], fun | ⟨x114, _⟩ => [], fun _ => 0⟩, 0, ?_, ?_⟩
 ·rintro ⟨x114, hp⟩
  subst hp
  replace h := hr1_114
  obtain ⟨r123, hc123, h⟩ := bnd h
  obtain ⟨x119, x120⟩ := r123
  refine ⟨[], _, _, _, ⟨⟨_, slices_Grow_byte_byte_2_c er 6 (by decide) x114 (x119, x120) hc123, ⟨.inl rfl, .inl rfl, trivial⟩⟩, trivial, rfl⟩, ?_⟩
  refine Or.inl ?_
  obtain ⟨r2_0_121, hl2_121, hr2_121⟩ := bnd h
  refine Or.inr ⟨[24, 26], {p : (List Int) // p = r2_0_121}, ⟨fun | ⟨x121, _⟩ => [(6, (.sl 7 [] ly5 0 (List.length x121)))], fun | ⟨x121, _⟩ => [(6, .dead), (7, (.rowI .u8 x121))], fun _ => 0⟩, 1, ?_, ?_⟩
  ·rintro ⟨x121, hp⟩
   subst hp
   replace h := hr2_121
   obtain rfl := some_in h
   exact ⟨0, [], [], rfl, rfl, rfl, rfl, rfl, rfl, rfl, rfl, trivial⟩
  ·replace h := hl2_121
   refine Or.inr ⟨30, ?_⟩
   refine And.intro (fun _ => ?_) (fun h0 => Bool.noConfusion h0)
   refine Or.inl ?_
   refine And.intro (by decide) ?_
   obtain ⟨hg, h⟩ := gd h
   refine And.intro (hg) ?_
   obtain ⟨hg2, h⟩ := gd h
   refine ⟨((List.take x119 x120) ++ x103), app_cut (cut_0 _ _) (rfl), 0, (List.length ((List.take x119 x120) ++ x103)), ⟨rfl, cut_ln hg2 (rfl)⟩, ?_⟩
   refine Or.inl ?_
   refine And.intro (fun _ => ?_) (fun h0 => Bool.noConfusion h0)
   refine Or.inl ?_
   refine And.intro (by decide) ?_
   obtain ⟨hg, h⟩ := gd h
   refine And.intro (le_of_ln2 (ln_0 _ _) hg) ?_
   refine ⟨(((List.take x119 x120) ++ x103) ++ (List.take x104 x109)), app_cut (cut_full _) (cut_0 _ _), 0, (List.length (((List.take x119 x120) ++ x103) ++ (List.take x104 x109))), ⟨rfl, app_ln (ln_0 _ _)⟩, ?_⟩
   refine Or.inl ?_
   refine And.intro (fun _ => ?_) (fun h0 => Bool.noConfusion h0)
   refine Or.inl ?_
   refine And.intro (by decide) ?_
   obtain ⟨hg, h⟩ := gd h
   refine And.intro (le_of_ln2 (ln_0 _ _) hg) ?_
   refine ⟨((((List.take x119 x120) ++ x103) ++ (List.take x104 x109)) ++ (List.take x105 x110)), app_cut (cut_full _) (cut_0 _ _), 0, (List.length ((((List.take x119 x120) ++ x103) ++ (List.take x104 x109)) ++ (List.take x105 x110))), ⟨rfl, app_ln (ln_0 _ _)⟩, ?_⟩
   refine Or.inl ?_
   let x122 : List Int := ((((List.take x119 x120) ++ x103) ++ (List.take x104 x109)) ++ (List.take x105 x110))
   replace h := nm_at x122 rfl h
   refine And.intro (fun _ => ?_) (fun h0 => Bool.noConfusion h0)
   refine Or.inl ?_
   refine And.intro (by decide) ?_
   obtain ⟨hg, h⟩ := gd h
   refine And.intro (le_of_ln2 (ln_0 _ _) hg) ?_
   refine ⟨(x122 ++ (List.take x106 x111)), app_cut (cut_full _) (cut_0 _ _), 0, (List.length (x122 ++ (List.take x106 x111))), ⟨rfl, app_ln (ln_0 _ _)⟩, ?_⟩
   refine Or.inl ?_
   refine And.intro (fun _ => ?_) (fun h0 => Bool.noConfusion h0)
   refine Or.inl ?_
   refine And.intro (by decide) ?_
   obtain ⟨hg, h⟩ := gd h
   refine And.intro (le_of_ln2 (ln_0 _ _) hg) ?_
   refine ⟨((x122 ++ (List.take x106 x111)) ++ (List.take x107 x112)), app_cut (cut_full _) (cut_0 _ _), 0, (List.length ((x122 ++ (List.take x106 x111)) ++ (List.take x107 x112))), ⟨rfl, app_ln (ln_0 _ _)⟩, ?_⟩
   refine Or.inl ?_
   refine And.intro (fun _ => ?_) (fun h0 => Bool.noConfusion h0)
   refine Or.inl ?_
   refine And.intro (by decide) ?_
   obtain ⟨hg, h⟩ := gd h
   refine And.intro (le_of_ln2 (ln_0 _ _) hg) ?_
   refine ⟨(((x122 ++ (List.take x106 x111)) ++ (List.take x107 x112)) ++ (List.take x108 x113)), app_cut (cut_full _) (cut_0 _ _), 0, (List.length (((x122 ++ (List.take x106 x111)) ++ (List.take x107 x112)) ++ (List.take x108 x113))), ⟨rfl, app_ln (ln_0 _ _)⟩, ?_⟩
   refine Or.inl ?_
   let x123 : List Int := (((x122 ++ (List.take x106 x111)) ++ (List.take x107 x112)) ++ (List.take x108 x113))
   replace h := nm_at x123 rfl h
   refine And.intro (fun h0 => Bool.noConfusion h0) (fun _ => ?_)
   exact ⟨[], [], ⟨x123, some_in h⟩, [(7, 12)], rfl, ⟨rfl, trivial⟩, ⟨rfl, rfl, rfl, rfl, rfl, rfl, trivial, rfl, trivial⟩, rfl⟩
 ·replace h := hl1_114
  refine Or.inr ⟨30, ?_⟩
  refine And.intro (fun _ => ?_) (fun h0 => Bool.noConfusion h0)
  refine Or.inl ?_
  refine And.intro (by decide) ?_
  let x115 : Bool := (decide ((IntKind.wrap .i64 (0 + (List.length x103 : Int))) < 0))
  replace h := nm_at x115 rfl h
  refine Or.inl ?_
  refine And.intro (fun hb => ?_) (fun hb => ?_)
  ·replace h := cond_t h hb
   exact no_none h
  ·replace h := cond_f h hb
   refine And.intro (fun _ => ?_) (fun h0 => Bool.noConfusion h0)
   refine Or.inl ?_
   refine And.intro (by decide) ?_
   let x116 : Int := (IntKind.wrap .i64 ((IntKind.wrap .i64 (0 + (List.length x103 : Int))) + (x104 : Int)))
   replace h := nm_at x116 rfl h
   refine Or.inl ?_
   refine And.intro (fun hb => ?_) (fun hb => ?_)
   ·replace h := cond_t h hb
    exact no_none h
   ·replace h := cond_f h hb
    refine And.intro (fun _ => ?_) (fun h0 => Bool.noConfusion h0)
    refine Or.inl ?_
    refine And.intro (by decide) ?_
    refine Or.inl ?_
    refine And.intro (fun hb => ?_) (fun hb => ?_)
    ·replace h := cond_t h hb
     exact no_none h
    ·replace h := cond_f h hb
     refine And.intro (fun _ => ?_) (fun h0 => Bool.noConfusion h0)
     refine Or.inl ?_
     refine And.intro (by decide) ?_
     let x117 : Int := (IntKind.wrap .i64 ((IntKind.wrap .i64 (x116 + (x105 : Int))) + (x106 : Int)))
     replace h := nm_at x117 rfl h
     refine Or.inl ?_
     refine And.intro (fun hb => ?_) (fun hb => ?_)
     ·replace h := cond_t h hb
      exact no_none h
     ·replace h := cond_f h hb
      refine And.intro (fun _ => ?_) (fun h0 => Bool.noConfusion h0)
      refine Or.inl ?_
      refine And.intro (by decide) ?_
      refine Or.inl ?_
      refine And.intro (fun hb => ?_) (fun hb => ?_)
      ·replace h := cond_t h hb
       exact no_none h
      ·replace h := cond_f h hb
       refine And.intro (fun _ => ?_) (fun h0 => Bool.noConfusion h0)
       refine Or.inl ?_
       refine And.intro (by decide) ?_
       let x118 : Int := (IntKind.wrap .i64 ((IntKind.wrap .i64 (x117 + (x107 : Int))) + (x108 : Int)))
       replace h := nm_at x118 rfl h
       refine Or.inl ?_
       refine And.intro (fun hb => ?_) (fun hb => ?_)
       ·replace h := cond_t h hb
        exact no_none h
       ·replace h := cond_f h hb
        refine And.intro (fun h0 => Bool.noConfusion h0) (fun _ => ?_)
        exact ⟨[], [], ⟨x118, some_in h⟩, [], rfl, ⟨rfl, trivial⟩, ⟨rfl, rfl, rfl, rfl, rfl, rfl, trivial⟩, rfl⟩
theorem slices_Chunk_byte_byte_2_c (b0 k0 k1 : Nat) (hn : [b0, k0, k1].Nodup) (x125 : Int) (x126 : List Int) (res : Unit) (h : slices_Chunk_byte_byte_2 x125 x126 = some res) :
  Fn Tryd.prog (GE er) 20 [(.sl b0 [] ly5 0 (List.length x126)), (.int .i64 x125)] [(b0, (.rowI .u8 x126))] (.fn 39 [(.ptr k0 [] ly24), (.ptr k1 [] ly3)]) [(b0, (.rowI .u8 x126)), (k0, (.var (.sl b0 [] ly5 0 (List.length x126)))), (k1, (.var (.int .i64 x125)))] := by
 refine bE er Tryd.func20 rfl rfl [(0, b0), (1, k0), (2, k1)] [(.sl 0 [] ly5 0 (List.length x126)), (.int .i64 x125)] [(.rowI .u8 x126)] [1, 2] (.fn 39 [(.ptr 1 [] ly24), (.ptr 2 [] ly3)]) [(.rowI .u8 x126), (.var (.sl 0 [] ly5 0 (List.length x126))), (.var (.int .i64 x125))] rfl rfl rfl rfl rfl rfl hn 3 ?_
 replace h := (show slices_Chunk_byte_byte_2 x125 x126 = _ from h)
 unfold slices_Chunk_byte_byte_2 at h
 refine Or.inl ?_
 refine And.intro (fun hb => ?_) (fun hb => ?_)
 ·replace h := cond_t h hb
  exact no_none h
 ·replace h := cond_f h hb
  obtain rfl := some_in h
  exact ⟨0, [], [], rfl, rfl, rfl, rfl, trivial⟩
theorem onetime_number_carry_2_c (b0 : Nat) (hn : [b0].Nodup) (x135 : List Int) (res : (List Int)) (h : onetime_number_carry_2 x135 = some res) :
  Fn Tryd.prog (GE er) 44 [(.ptr b0 [] ly57)] [(b0, (.var (.dv (.ints .u64 5 x135))))] (.tup []) [(b0, (.var (.dv (.ints .u64 5 res))))] := by
 refine bE er Tryd.func44 rfl rfl [(0, b0)] [(.ptr 0 [] ly57)] [(.var (.dv (.ints .u64 5 x135)))] [] (.tup []) [(.var (.dv (.ints .u64 5 res)))] rfl rfl rfl rfl rfl rfl hn 3 ?_
 replace h := (show onetime_number_carry_2 x135 = _ from h)
 unfold onetime_number_carry_2 at h
 obtain ⟨r1_0_136, hl1_136, hr1_136⟩ := bnd h
 refine Or.inr ⟨[0], {p : (List Int) // p = r1_0_136}, ⟨fun | ⟨x136, _⟩ => [], fun | ⟨x136, _⟩ => [(0, (.var (.dv (.ints .u64 5 x136))))], fun _ => 0⟩, 0, ?_, ?_⟩
 ·rintro ⟨x136, hp⟩
  subst hp
  replace h := hr1_136
  obtain rfl := some_in h
  exact ⟨0, [], [], rfl, rfl, trivial⟩
 ·replace h := hl1_136
  refine Or.inl ?_
  refine ⟨[], {x : Nat × Int × (List Int) // onetime_number_carry_2_l1 x.1 x.2.1 x.2.2 = some r1_0_136}, ⟨fun | ⟨(n1, x137, x138), _⟩ => [(4, (.int .i64 x137))], fun | ⟨(n1, x137, x138), _⟩ => [(0, (.var (.dv (.ints .u64 5 x138))))], fun | ⟨(n1, x137, x138), _⟩ => n1⟩, [], [], ⟨(FUEL, 0, x135), h⟩, ⟨rfl, ⟨rfl, trivial⟩, ⟨rfl, trivial⟩, rfl⟩, ?_⟩
  rintro ⟨⟨n1, x137, x138⟩, h⟩
  cases n1 with
  | zero => exact no_none h
  | succ n1 =>
   replace h := (show onetime_number_carry_2_l1 (n1 + 1) x137 x138 = _ from h)
   replace h := (onetime_number_carry_2_l1.eq_2 .. ).symm.trans h
   refine And.intro (fun hb => ?_) (fun hb => ?_)
   ·replace h := cond_t h hb
    refine Or.inl ?_
    obtain ⟨r2_0_140, hl2_140, hr2_140⟩ := bnd h
    refine Or.inr ⟨[], {p : Int × (List Int) // p = r2_0_140}, ⟨fun | ⟨(x139, x140), _⟩ => [(2, (.int .u64 x139))], fun | ⟨(x139, x140), _⟩ => [(0, (.var (.dv (.ints .u64 5 x140))))], fun _ => 0⟩, 0, ?_, ?_⟩
    ·rintro ⟨⟨x139, x140⟩, hp⟩
     subst hp
     replace h := hr2_140
     refine And.intro (by decide) ?_
     let x148 : Int := (IntKind.wrap .u64 ((List.getD x140 0 0) + (IntKind.wrap .u64 (5 * x139))))
     replace h := nm_at x148 rfl h
     refine And.intro (by decide) ?_
     exact ⟨⟨(n1, (IntKind.wrap .i64 (x137 + 1)), (List.set x140 0 x148)), h⟩, [], ⟨rfl, ⟨rfl, trivial⟩, ⟨rfl, trivial⟩, rfl⟩, Nat.lt_succ_self _⟩
    ·replace h := hl2_140
     refine Or.inl ?_
     refine ⟨[], {x : Nat × Int × Int × (List Int) // onetime_number_carry_2_l2 x.1 x.2.1 x.2.2.1 x.2.2.2 = some r2_0_140}, ⟨fun | ⟨(n2, x141, x142, x143), _⟩ => [(2, (.int .u64 x141)), (6, (.int .i64 x142))], fun | ⟨(n2, x141, x142, x143), _⟩ => [(0, (.var (.dv (.ints .u64 5 x143))))], fun | ⟨(n2, x141, x142, x143), _⟩ => n2⟩, [], [], ⟨(FUEL, 0, 0, x138), h⟩, ⟨rfl, ⟨rfl, rfl, trivial⟩, ⟨rfl, trivial⟩, rfl⟩, ?_⟩
     rintro ⟨⟨n2, x141, x142, x143⟩, h⟩
     cases n2 with
     | zero => exact no_none h
     | succ n2 =>
      replace h := (show onetime_number_carry_2_l2 (n2 + 1) x141 x142 x143 = _ from h)
      replace h := (onetime_number_carry_2_l2.eq_2 .. ).symm.trans h
      refine And.intro (fun hb => ?_) (fun hb => ?_)
      ·replace h := cond_t h hb
       refine Or.inl ?_
       obtain ⟨hg, h⟩ := gd h
       refine And.intro hg ?_
       let x144 : Int := (IntKind.wrap .u64 ((List.getD x143 (Int.toNat x142) 0) + x141))
       replace h := nm_at x144 rfl h
       obtain ⟨hg, h⟩ := gd h
       refine And.intro hg ?_
       obtain ⟨hg, h⟩ := gd h
       refine And.intro hg ?_
       let x145 : Int := (List.getD (List.set x143 (Int.toNat x142) x144) (Int.toNat x142) 0)
       replace h := nm_at x145 rfl h
       refine And.intro (by decide) ?_
       obtain ⟨hg, h⟩ := gd h
       refine And.intro hg ?_
       let x146 : Int := (List.getD (List.set x143 (Int.toNat x142) x144) (Int.toNat x142) 0)
       replace h := nm_at x146 rfl h
       obtain ⟨hg, h⟩ := gd h
       refine And.intro hg ?_
       let x147 : List Int := (List.set (List.set x143 (Int.toNat x142) x144) (Int.toNat x142) (bits .u64 .and x146 67108863))
       replace h := nm_at x147 rfl h
       exact ⟨⟨(n2, (Int.fdiv x145 (2 ^ 26)), (IntKind.wrap .i64 (x142 + 1)), x147), h⟩, [], ⟨rfl, ⟨rfl, rfl, trivial⟩, ⟨rfl, trivial⟩, rfl⟩, Nat.lt_succ_self _⟩
      ·replace h := cond_f h hb
       exact ⟨[], [], ⟨(x141, x143), some_in h⟩, [], rfl, ⟨rfl, trivial⟩, ⟨rfl, trivial⟩, rfl⟩
   ·replace h := cond_f h hb
    exact ⟨[], [], ⟨x138, some_in h⟩, [], rfl, trivial, ⟨rfl, trivial⟩, rfl⟩
theorem onetime_times_c (x131 : List Int) (x132 : List Int) (res : (List Int)) (h : onetime_times x131 x132 = some res) :
  Fn Tryd.prog (GE er) 29 [(.dv (.ints .u64 5 x131)), (.dv (.ints .u64 5 x132))] [] (.dv (.ints .u64 5 res)) [] := by
 refine bE er Tryd.func29 rfl rfl [] [(.dv (.ints .u64 5 x131)), (.dv (.ints .u64 5 x132))] [] [] (.dv (.ints .u64 5 res)) [] rfl rfl rfl rfl rfl rfl .nil 3 ?_
 replace h := (show onetime_times x131 x132 = _ from h)
 unfold onetime_times at h
 obtain ⟨r1_0_133, hl1_133, hr1_133⟩ := bnd h
 refine Or.inr ⟨[3, 11], {p : (List Int) // p = r1_0_133}, ⟨fun | ⟨x133, _⟩ => [], fun | ⟨x133, _⟩ => [(3, (.var (.dv (.ints .u64 5 x133))))], fun _ => 0⟩, 0, ?_, ?_⟩
 ·rintro ⟨x133, hp⟩
  subst hp
  replace h := hr1_133
  obtain ⟨x143, hc143, h⟩ := bnd h
  refine ⟨[], _, _, _, ⟨⟨_, onetime_number_carry_2_c er 3 (by decide) x133 x143 hc143, ⟨.inl rfl, trivial⟩⟩, ⟨⟨rfl, rfl⟩, trivial⟩, rfl⟩, ?_⟩
  obtain rfl := some_in h
  exact ⟨0, [], [], rfl, trivial⟩
 ·replace h := hl1_133
  refine Or.inl ?_
  refine ⟨[], {x : Nat × Int × (List Int) // onetime_times_l1 x131 x132 x.1 x.2.1 x.2.2 = some r1_0_133}, ⟨fun | ⟨(n1, x134, x135), _⟩ => [(12, (.int .i64 x134))], fun | ⟨(n1, x134, x135), _⟩ => [(3, (.var (.dv (.ints .u64 5 x135))))], fun | ⟨(n1, x134, x135), _⟩ => n1⟩, [], [], ⟨(FUEL, 0, (List.replicate 5 (0 : Int))), h⟩, ⟨rfl, ⟨rfl, trivial⟩, ⟨rfl, rfl, rfl, rfl, trivial⟩, rfl⟩, ?_⟩
  rintro ⟨⟨n1, x134, x135⟩, h⟩
  cases n1 with
  | zero => exact no_none h
  | succ n1 =>
   replace h := (show onetime_times_l1 x131 x132 (n1 + 1) x134 x135 = _ from h)
   replace h := (onetime_times_l1.eq_2 .. ).symm.trans h
   refine And.intro (fun hb => ?_) (fun hb => ?_)
   ·replace h := cond_t h hb
    refine Or.inl ?_
    obtain ⟨hg, h⟩ := gd h
    refine And.intro hg ?_
    obtain ⟨r2_0_136, hl2_136, hr2_136⟩ := bnd h
    refine Or.inr ⟨[6, 7, 16], {p : (List Int) // p = r2_0_136}, ⟨fun | ⟨x136, _⟩ => [], fun | ⟨x136, _⟩ => [(3, (.var (.dv (.ints .u64 5 x136))))], fun _ => 0⟩, 0, ?_, ?_⟩
    ·rintro ⟨x136, hp⟩
     subst hp
     replace h := hr2_136
     exact ⟨⟨(n1, (IntKind.wrap .i64 (x134 + 1)), x136), h⟩, [], ⟨rfl, ⟨rfl, trivial⟩, ⟨rfl, rfl, rfl, rfl, trivial⟩, rfl⟩, Nat.lt_succ_self _⟩
    ·replace h := hl2_136
     refine Or.inl ?_
     refine ⟨[], {x : Nat × Int × (List Int) // onetime_times_l2 x131 x132 x134 x.1 x.2.1 x.2.2 = some r2_0_136}, ⟨fun | ⟨(n2, x137, x138), _⟩ => [(17, (.int .i64 x137))], fun | ⟨(n2, x137, x138), _⟩ => [(3, (.var (.dv (.ints .u64 5 x138))))], fun | ⟨(n2, x137, x138), _⟩ => n2⟩, [], [], ⟨(FUEL, 0, x135), h⟩, ⟨rfl, ⟨rfl, trivial⟩, ⟨rfl, rfl, rfl, rfl, trivial⟩, rfl⟩, ?_⟩
     rintro ⟨⟨n2, x137, x138⟩, h⟩
     cases n2 with
     | zero => exact no_none h
     | succ n2 =>
      replace h := (show onetime_times_l2 x131 x132 x134 (n2 + 1) x137 x138 = _ from h)
      replace h := (onetime_times_l2.eq_2 .. ).symm.trans h
      refine And.intro (fun hb => ?_) (fun hb => ?_)
      ·replace h := cond_t h hb
       refine Or.inl ?_
       obtain ⟨hg, h⟩ := gd h
       refine And.intro hg ?_
       let x139 : Int := (IntKind.wrap .u64 ((List.getD x131 (Int.toNat x134) 0) * (List.getD x132 (Int.toNat x137) 0)))
       replace h := nm_at x139 rfl h
       obtain ⟨r3_0_140, hl3_140, hr3_140⟩ := bnd h
       refine Or.inr ⟨[], {p : Int // p = r3_0_140}, ⟨fun | ⟨x140, _⟩ => [(10, (.int .u64 x140))], fun | ⟨x140, _⟩ => [], fun _ => 0⟩, 0, ?_, ?_⟩
       ·rintro ⟨x140, hp⟩
        subst hp
        replace h := hr3_140
        refine And.intro (by decide) ?_
        obtain ⟨hg, h⟩ := gd h
        refine And.intro hg ?_
        let x141 : Int := (List.getD x138 (Int.toNat (Int.tmod (IntKind.wrap .i64 (x134 + x137)) 5)) 0)
        replace h := nm_at x141 rfl h
        obtain ⟨hg, h⟩ := gd h
        refine And.intro hg ?_
        let x142 : List Int := (List.set x138 (Int.toNat (Int.tmod (IntKind.wrap .i64 (x134 + x137)) 5)) (IntKind.wrap .u64 (x141 + x140)))
        replace h := nm_at x142 rfl h
        exact ⟨⟨(n2, (IntKind.wrap .i64 (x137 + 1)), x142), h⟩, [], ⟨rfl, ⟨rfl, trivial⟩, ⟨rfl, rfl, rfl, rfl, trivial⟩, rfl⟩, Nat.lt_succ_self _⟩
       ·replace h := hl3_140
        refine And.intro (fun hb => ?_) (fun hb => ?_)
        ·replace h := cond_t h hb
         exact ⟨[], [], ⟨(IntKind.wrap .u64 (x139 * 5)), some_in h⟩, [], rfl, ⟨rfl, trivial⟩, ⟨rfl, rfl, rfl, rfl, trivial⟩, rfl⟩
        ·replace h := cond_f h hb
         exact ⟨[], [], ⟨x139, some_in h⟩, [], rfl, ⟨rfl, trivial⟩, ⟨rfl, rfl, rfl, rfl, trivial⟩, rfl⟩
      ·replace h := cond_f h hb
       exact ⟨[], [], ⟨x138, some_in h⟩, [], rfl, trivial, ⟨rfl, rfl, rfl, rfl, trivial⟩, rfl⟩
   ·replace h := cond_f h hb
    exact ⟨[], [], ⟨x135, some_in h⟩, [], rfl, trivial, ⟨rfl, rfl, rfl, rfl, trivial⟩, rfl⟩
theorem words_Pick_c (x134 : Bool) (x135 : Int) (x136 : Int) (res : Int) (h : words_Pick x134 x135 x136 = some res) :
  Fn Tryd.prog (GE er) 45 [(.bl x134), (.int .u64 x135), (.int .u64 x136)] [] (.int .u64 res) [] := by
 refine bE er Tryd.func45 rfl rfl [] [(.bl x134), (.int .u64 x135), (.int .u64 x136)] [] [] (.int .u64 res) [] rfl rfl rfl rfl rfl rfl .nil 3 ?_
 replace h := (show words_Pick x134 x135 x136 = _ from h)
 unfold words_Pick at h
 obtain ⟨r1_0_137, hl1_137, hr1_137⟩ := bnd h
 refine Or.inr ⟨[], {p : Int // p = r1_0_137}, ⟨fun | ⟨x137, _⟩ => [(7, (.int .u64 x137))], fun | ⟨x137, _⟩ => [], fun _ => 0⟩, 0, ?_, ?_⟩
 ·rintro ⟨x137, hp⟩
  subst hp
  replace h := hr1_137
  let x138 : Int := (bits .u64 .or (bits .u64 .and x135 x137) (bits .u64 .andNot x136 x137))
  replace h := nm_at x138 rfl h
  obtain rfl := some_in h
  exact ⟨0, [], [], rfl, trivial⟩
 ·replace h := hl1_137
  refine And.intro (fun hb => ?_) (fun hb => ?_)
  ·replace h := cond_t h hb
   exact ⟨[], [], ⟨18446744073709551615, some_in h⟩, [], rfl, ⟨rfl, trivial⟩, trivial, rfl⟩
  ·replace h := cond_f h hb
   exact ⟨[], [], ⟨0, some_in h⟩, [], rfl, ⟨rfl, trivial⟩, trivial, rfl⟩
theorem onetime_number_least_c (x128 : List Int) (res : (List Int)) (h : onetime_number_least x128 = some res) :
  Fn Tryd.prog (GE er) 30 [(.dv (.ints .u64 5 x128))] [] (.dv (.ints .u64 5 res)) [] := by
 refine bE er Tryd.func30 rfl rfl [] [(.dv (.ints .u64 5 x128))] [] [] (.dv (.ints .u64 5 res)) [] rfl rfl rfl rfl rfl rfl .nil 3 ?_
 replace h := (show onetime_number_least x128 = _ from h)
 unfold onetime_number_least at h
 obtain ⟨x129, hc143, h⟩ := bnd h
 refine ⟨[], _, _, _, ⟨⟨_, onetime_number_carry_2_c er 0 (by decide) x128 x129 hc143, ⟨.inl rfl, trivial⟩⟩, ⟨⟨rfl, rfl⟩, trivial⟩, rfl⟩, ?_⟩
 obtain ⟨x130, hc143, h⟩ := bnd h
 refine ⟨[], _, _, _, ⟨⟨_, onetime_number_carry_2_c er 0 (by decide) x129 x130 hc143, ⟨.inl rfl, trivial⟩⟩, ⟨⟨rfl, rfl⟩, trivial⟩, rfl⟩, ?_⟩
 refine And.intro (by decide) ?_
 refine And.intro (by decide) ?_
 let x131 : List Int := (List.set x130 0 (IntKind.wrap .u64 ((List.getD x130 0 0) + 5)))
 replace h := nm_at x131 rfl h
 obtain ⟨r1_0_132, hl1_132, hr1_132⟩ := bnd h
 refine Or.inr ⟨[7, 8], {p : (List Int) // p = r1_0_132}, ⟨fun | ⟨x132, _⟩ => [], fun | ⟨x132, _⟩ => [(2, (.var (.dv (.ints .u64 5 x132))))], fun _ => 0⟩, 0, ?_, ?_⟩
 ·rintro ⟨x132, hp⟩
  subst hp
  replace h := hr1_132
  refine And.intro (by decide) ?_
  refine And.intro (by decide) ?_
  refine And.intro (by decide) ?_
  refine And.intro (by decide) ?_
  let x139 : List Int := (List.set x132 4 (bits .u64 .and (List.getD x132 4 0) 67108863))
  replace h := nm_at x139 rfl h
  obtain ⟨r2_1_140, hl2_140, hr2_140⟩ := bnd h
  refine Or.inr ⟨[5], {p : (List Int) // p = r2_1_140}, ⟨fun | ⟨x140, _⟩ => [], fun | ⟨x140, _⟩ => [(0, (.var (.dv (.ints .u64 5 x140))))], fun _ => 0⟩, 0, ?_, ?_⟩
  ·rintro ⟨x140, hp⟩
   subst hp
   replace h := hr2_140
   obtain rfl := some_in h
   exact ⟨0, [], [], rfl, trivial⟩
  ·replace h := hl2_140
   refine Or.inl ?_
   refine ⟨[], {x : Nat × Int × (List Int) // onetime_number_least_l2 x132 x139 x.1 x.2.1 x.2.2 = some r2_1_140}, ⟨fun | ⟨(n2, x141, x142), _⟩ => [(41, (.int .i64 x141))], fun | ⟨(n2, x141, x142), _⟩ => [(0, (.var (.dv (.ints .u64 5 x142))))], fun | ⟨(n2, x141, x142), _⟩ => n2⟩, [], [], ⟨(FUEL, 0, x130), h⟩, ⟨rfl, ⟨rfl, trivial⟩, ⟨rfl, rfl, rfl, trivial⟩, rfl⟩, ?_⟩
   rintro ⟨⟨n2, x141, x142⟩, h⟩
   cases n2 with
   | zero => exact no_none h
   | succ n2 =>
    replace h := (show onetime_number_least_l2 x132 x139 (n2 + 1) x141 x142 = _ from h)
    replace h := (onetime_number_least_l2.eq_2 .. ).symm.trans h
    refine And.intro (fun hb => ?_) (fun hb => ?_)
    ·replace h := cond_t h hb
     refine Or.inl ?_
     obtain ⟨hg, h⟩ := gd h
     refine And.intro hg ?_
     obtain ⟨hg, h⟩ := gd h
     refine And.intro hg ?_
     obtain ⟨x143, hc143, h⟩ := bnd h
     refine ⟨[], _, _, _, ⟨⟨_, words_Pick_c er (!((Int.fdiv (List.getD x132 4 0) (2 ^ 26)) == 0)) (List.getD x139 (Int.toNat x141) 0) (List.getD x142 (Int.toNat x141) 0) x143 hc143, ⟨.inl rfl, .inl rfl, .inl rfl, trivial⟩⟩, trivial, rfl⟩, ?_⟩
     obtain ⟨hg, h⟩ := gd h
     refine And.intro hg ?_
     exact ⟨⟨(n2, (IntKind.wrap .i64 (x141 + 1)), (List.set x142 (Int.toNat x141) x143)), h⟩, [], ⟨rfl, ⟨rfl, trivial⟩, ⟨rfl, rfl, rfl, trivial⟩, rfl⟩, Nat.lt_succ_self _⟩
    ·replace h := cond_f h hb
     exact ⟨[], [], ⟨x142, some_in h⟩, [], rfl, trivial, ⟨rfl, rfl, rfl, trivial⟩, rfl⟩
 ·replace h := hl1_132
  refine Or.inl ?_
  refine ⟨[7, 8], {x : Nat × Int × (List Int) // onetime_number_least_l1 x.1 x.2.1 x.2.2 = some r1_0_132}, ⟨fun | ⟨(n1, x133, x134), _⟩ => [(14, (.int .i64 x133))], fun | ⟨(n1, x133, x134), _⟩ => [(2, (.var (.dv (.ints .u64 5 x134))))], fun | ⟨(n1, x133, x134), _⟩ => n1⟩, [], [], ⟨(FUEL, 0, x131), h⟩, ⟨rfl, ⟨rfl, trivial⟩, ⟨rfl, rfl, rfl, trivial⟩, rfl⟩, ?_⟩
  rintro ⟨⟨n1, x133, x134⟩, h⟩
  cases n1 with
  | zero => exact no_none h
  | succ n1 =>
   replace h := (show onetime_number_least_l1 (n1 + 1) x133 x134 = _ from h)
   replace h := (onetime_number_least_l1.eq_2 .. ).symm.trans h
   refine And.intro (fun hb => ?_) (fun hb => ?_)
   ·replace h := cond_t h hb
    refine Or.inl ?_
    obtain ⟨hg, h⟩ := gd h
    refine And.intro hg ?_
    let x135 : Int := (List.getD x134 (Int.toNat (IntKind.wrap .i64 (x133 + 1))) 0)
    replace h := nm_at x135 rfl h
    obtain ⟨hg, h⟩ := gd h
    refine And.intro hg ?_
    refine And.intro (by decide) ?_
    let x136 : Int := (IntKind.wrap .u64 (x135 + (Int.fdiv (List.getD x134 (Int.toNat x133) 0) (2 ^ 26))))
    replace h := nm_at x136 rfl h
    obtain ⟨hg, h⟩ := gd h
    refine And.intro hg ?_
    let x137 : List Int := (List.set x134 (Int.toNat (IntKind.wrap .i64 (x133 + 1))) x136)
    replace h := nm_at x137 rfl h
    obtain ⟨hg, h⟩ := gd h
    refine And.intro hg ?_
    let x138 : Int := (bits .u64 .and (List.getD x137 (Int.toNat x133) 0) 67108863)
    replace h := nm_at x138 rfl h
    obtain ⟨hg, h⟩ := gd h
    refine And.intro hg ?_
    exact ⟨⟨(n1, (IntKind.wrap .i64 (x133 + 1)), (List.set x137 (Int.toNat x133) x138)), h⟩, [], ⟨rfl, ⟨rfl, trivial⟩, ⟨rfl, rfl, rfl, trivial⟩, rfl⟩, Nat.lt_succ_self _⟩
   ·replace h := cond_f h hb
    exact ⟨[], [], ⟨x134, some_in h⟩, [], rfl, trivial, ⟨rfl, rfl, rfl, trivial⟩, rfl⟩
theorem onetime_number_low_c (x145 : List Int) (res : (List Int)) (h : onetime_number_low x145 = some res) :
  Fn Tryd.prog (GE er) 31 [(.dv (.ints .u64 5 x145))] [] (.dv (.ints .u8 16 res)) [] := by
 refine bE er Tryd.func31 rfl rfl [] [(.dv (.ints .u64 5 x145))] [] [] (.dv (.ints .u8 16 res)) [] rfl rfl rfl rfl rfl rfl .nil 3 ?_
 replace h := (show onetime_number_low x145 = _ from h)
 unfold onetime_number_low at h
 obtain ⟨r1_0_146, hl1_146, hr1_146⟩ := bnd h
 refine Or.inr ⟨[1], {p : (List Int) // p = r1_0_146}, ⟨fun | ⟨x146, _⟩ => [], fun | ⟨x146, _⟩ => [(2, (.var (.dv (.ints .u8 16 x146))))], fun _ => 0⟩, 0, ?_, ?_⟩
 ·rintro ⟨x146, hp⟩
  subst hp
  replace h := hr1_146
  obtain rfl := some_in h
  exact ⟨0, [], [], rfl, trivial⟩
 ·replace h := hl1_146
  refine Or.inl ?_
  refine ⟨[], {x : Nat × Int × (List Int) // onetime_number_low_l1 x145 x.1 x.2.1 x.2.2 = some r1_0_146}, ⟨fun | ⟨(n1, x147, x148), _⟩ => [(8, (.int .i64 x147))], fun | ⟨(n1, x147, x148), _⟩ => [(2, (.var (.dv (.ints .u8 16 x148))))], fun | ⟨(n1, x147, x148), _⟩ => n1⟩, [], [], ⟨(FUEL, 0, (List.replicate 16 (0 : Int))), h⟩, ⟨rfl, ⟨rfl, trivial⟩, ⟨rfl, rfl, rfl, trivial⟩, rfl⟩, ?_⟩
  rintro ⟨⟨n1, x147, x148⟩, h⟩
  cases n1 with
  | zero => exact no_none h
  | succ n1 =>
   replace h := (show onetime_number_low_l1 x145 (n1 + 1) x147 x148 = _ from h)
   replace h := (onetime_number_low_l1.eq_2 .. ).symm.trans h
   refine And.intro (fun hb => ?_) (fun hb => ?_)
   ·replace h := cond_t h hb
    refine Or.inl ?_
    obtain ⟨r2_0_149, hl2_149, hr2_149⟩ := bnd h
    refine Or.inr ⟨[], {p : Int // p = r2_0_149}, ⟨fun | ⟨x149, _⟩ => [(5, (.int .u64 x149))], fun | ⟨x149, _⟩ => [], fun _ => 0⟩, 0, ?_, ?_⟩
    ·rintro ⟨x149, hp⟩
     subst hp
     replace h := hr2_149
     obtain ⟨hg, h⟩ := gd h
     refine And.intro hg ?_
     exact ⟨⟨(n1, (IntKind.wrap .i64 (x147 + 1)), (List.set x148 (Int.toNat x147) (IntKind.wrap .u8 x149))), h⟩, [], ⟨rfl, ⟨rfl, trivial⟩, ⟨rfl, rfl, rfl, trivial⟩, rfl⟩, Nat.lt_succ_self _⟩
    ·replace h := hl2_149
     refine Or.inl ?_
     refine ⟨[], {x : Nat × Int × Int // onetime_number_low_l2 x145 x147 x.1 x.2.1 x.2.2 = some r2_0_149}, ⟨fun | ⟨(n2, x150, x151), _⟩ => [(5, (.int .u64 x150)), (11, (.int .i64 x151))], fun | ⟨(n2, x150, x151), _⟩ => [], fun | ⟨(n2, x150, x151), _⟩ => n2⟩, [], [], ⟨(FUEL, 0, 0), h⟩, ⟨rfl, ⟨rfl, rfl, trivial⟩, ⟨rfl, rfl, rfl, trivial⟩, rfl⟩, ?_⟩
     rintro ⟨⟨n2, x150, x151⟩, h⟩
     cases n2 with
     | zero => exact no_none h
     | succ n2 =>
      replace h := (show onetime_number_low_l2 x145 x147 (n2 + 1) x150 x151 = _ from h)
      replace h := (onetime_number_low_l2.eq_2 .. ).symm.trans h
      refine And.intro (fun hb => ?_) (fun hb => ?_)
      ·replace h := cond_t h hb
       refine Or.inl ?_
       refine And.intro (by decide) ?_
       let x152 : Int := (IntKind.wrap .i64 (Int.tdiv (IntKind.wrap .i64 ((IntKind.wrap .i64 (8 * x147)) + x151)) 26))
       replace h := nm_at x152 rfl h
       obtain ⟨hg, h⟩ := gd h
       refine And.intro hg ?_
       refine And.intro (by decide) ?_
       let x153 : Int := (Int.tmod (IntKind.wrap .i64 ((IntKind.wrap .i64 (8 * x147)) + x151)) 26)
       replace h := nm_at x153 rfl h
       obtain ⟨hg, h⟩ := gd h
       refine And.intro hg ?_
       let x154 : Int := (Int.fdiv (List.getD x145 (Int.toNat x152) 0) (2 ^ (min (Int.toNat x153) (IntKind.bits .u64))))
       replace h := nm_at x154 rfl h
       obtain ⟨hg, h⟩ := gd h
       refine And.intro hg ?_
       let x155 : Int := (IntKind.wrap .u64 ((bits .u64 .and x154 1) * 2 ^ (min (Int.toNat x151) (IntKind.bits .u64))))
       replace h := nm_at x155 rfl h
       exact ⟨⟨(n2, (bits .u64 .or x150 x155), (IntKind.wrap .i64 (x151 + 1))), h⟩, [], ⟨rfl, ⟨rfl, rfl, trivial⟩, ⟨rfl, rfl, rfl, trivial⟩, rfl⟩, Nat.lt_succ_self _⟩
      ·replace h := cond_f h hb
       exact ⟨[], [], ⟨x150, some_in h⟩, [], rfl, ⟨rfl, trivial⟩, ⟨rfl, rfl, rfl, trivial⟩, rfl⟩
   ·replace h := cond_f h hb
    exact ⟨[], [], ⟨x148, some_in h⟩, [], rfl, trivial, ⟨rfl, rfl, rfl, trivial⟩, rfl⟩
theorem onetime_Sum_c (b0 b1 b2 b3 b4 b5 : Nat) (hn : [b0, b1, b2, b3, b4, b5].Nodup) (x77 : List Int) (x78 : List Int) (x79 : Nat) (x80 : Nat) (x81 : Nat) (x82 : Nat) (x83 : Nat) (x84 : List Int) (x85 : List Int) (x86 : List Int) (x87 : List Int) (x88 : List Int) (res : (List Int)) (h : onetime_Sum x77 x78 x79 x80 x81 x82 x83 x84 x85 x86 x87 x88 = some res) :
  Fn Tryd.prog (GE er) 15 [(.dv (.ints .u8 32 x77)), (.vs b0 0 6)] [(b0, (.var (.cons (.dv (.roI .u8 x78)) (.cons (.sl b1 [] ly5 0 x79) (.cons (.sl b2 [] ly5 0 x80) (.cons (.sl b3 [] ly5 0 x81) (.cons (.sl b4 [] ly5 0 x82) (.cons (.sl b5 [] ly5 0 x83) (.dv .nil))))))))), (b1, (.rowI .u8 x84)), (b2, (.rowI .u8 x85)), (b3, (.rowI .u8 x86)), (b4, (.rowI .u8 x87)), (b5, (.rowI .u8 x88))] (.dv (.ints .u8 16 res)) [(b0, (.var (.cons (.dv (.roI .u8 x78)) (.cons (.sl b1 [] ly5 0 x79) (.cons (.sl b2 [] ly5 0 x80) (.cons (.sl b3 [] ly5 0 x81) (.cons (.sl b4 [] ly5 0 x82) (.cons (.sl b5 [] ly5 0 x83) (.dv .nil))))))))), (b1, (.rowI .u8 x84)), (b2, (.rowI .u8 x85)), (b3, (.rowI .u8 x86)), (b4, (.rowI .u8 x87)), (b5, (.rowI .u8 x88))] := by
 refine bE er Tryd.func15 rfl rfl [(0, b0), (1, b1), (2, b2), (3, b3), (4, b4), (5, b5)] [(.dv (.ints .u8 32 x77)), (.vs 0 0 6)] [(.var (.cons (.dv (.roI .u8 x78)) (.cons (.sl 1 [] ly5 0 x79) (.cons (.sl 2 [] ly5 0 x80) (.cons (.sl 3 [] ly5 0 x81) (.cons (.sl 4 [] ly5 0 x82) (.cons (.sl 5 [] ly5 0 x83) (.dv .nil)))))))), (.rowI .u8 x84), (.rowI .u8 x85), (.rowI .u8 x86), (.rowI .u8 x87), (.rowI .u8 x88)] [] (.dv (.ints .u8 16 res)) [(.var (.cons (.dv (.roI .u8 x78)) (.cons (.sl 1 [] ly5 0 x79) (.cons (.sl 2 [] ly5 0 x80) (.cons (.sl 3 [] ly5 0 x81) (.cons (.sl 4 [] ly5 0 x82) (.cons (.sl 5 [] ly5 0 x83) (.dv .nil)))))))), (.rowI .u8 x84), (.rowI .u8 x85), (.rowI .u8 x86), (.rowI .u8 x87), (.rowI .u8 x88)] rfl rfl rfl rfl rfl rfl hn 3 ?_
 replace h := (show onetime_Sum x77 x78 x79 x80 x81 x82 x83 x84 x85 x86 x87 x88 = _ from h)
 unfold onetime_Sum at h
 obtain ⟨x89, hc111, h⟩ := bnd h
 refine ⟨[], _, _, _, ⟨⟨_, onetime_clamped_c er x77 x89 hc111, ⟨.inl rfl, trivial⟩⟩, trivial, rfl⟩, ?_⟩
 obtain ⟨x90, hc111, h⟩ := bnd h
 refine ⟨[], _, _, _, ⟨⟨_, slices_Concat_byte_byte_c er 0 1 2 3 4 5 10 (by decide) x78 x79 x80 x81 x82 x83 x84 x85 x86 x87 x88 x90 hc111, ⟨.inl rfl, trivial⟩⟩, ⟨⟨rfl, rfl⟩, ⟨rfl, rfl⟩, ⟨rfl, rfl⟩, ⟨rfl, rfl⟩, ⟨rfl, rfl⟩, ⟨rfl, rfl⟩, trivial⟩, rfl⟩, ?_⟩
 refine Or.inl ?_
 obtain ⟨r111, hc111, h⟩ := bnd h
 refine ⟨[], _, _, _, ⟨⟨_, slices_Chunk_byte_byte_2_c er 10 11 12 (by decide) 16 x90 r111 hc111, ⟨.inl rfl, .inl rfl, trivial⟩⟩, ⟨⟨rfl, rfl⟩, trivial⟩, rfl⟩, ?_⟩
 obtain ⟨r1_0_91, hl1_91, hr1_91⟩ := bnd h
 refine Or.inr ⟨[17], {p : (List Int) // p = r1_0_91}, ⟨fun | ⟨x91, _⟩ => [], fun | ⟨x91, _⟩ => [(9, (.var (.dv (.ints .u64 5 x91))))], fun _ => 0⟩, 0, ?_, ?_⟩
 ·rintro ⟨x91, hp⟩
  subst hp
  replace h := hr1_91
  obtain ⟨x103, hc111, h⟩ := bnd h
  refine ⟨[], _, _, _, ⟨⟨_, onetime_number_least_c er x91 x103 hc111, ⟨.inl rfl, trivial⟩⟩, trivial, rfl⟩, ?_⟩
  obtain ⟨x104, hc111, h⟩ := bnd h
  refine ⟨[], _, _, _, ⟨⟨_, onetime_number_low_c er x103 x104 hc111, ⟨.inl rfl, trivial⟩⟩, trivial, rfl⟩, ?_⟩
  obtain ⟨r4_2_105, hl4_105, hr4_105⟩ := bnd h
  refine Or.inr ⟨[], {p : (List Int) // p = r4_2_105}, ⟨fun | ⟨x105, _⟩ => [], fun | ⟨x105, _⟩ => [(13, (.var (.dv (.ints .u8 16 x105))))], fun _ => 0⟩, 0, ?_, ?_⟩
  ·rintro ⟨x105, hp⟩
   subst hp
   replace h := hr4_105
   obtain rfl := some_in h
   exact ⟨0, [], [], rfl, rfl, rfl, rfl, rfl, rfl, rfl, trivial⟩
  ·replace h := hl4_105
   refine Or.inl ?_
   refine ⟨[], {x : Nat × Int × Int × (List Int) // onetime_Sum_l3 x77 x.1 x.2.1 x.2.2.1 x.2.2.2 = some r4_2_105}, ⟨fun | ⟨(n3, x106, x107, x108), _⟩ => [(11, (.int .i64 x106)), (42, (.int .i64 x107))], fun | ⟨(n3, x106, x107, x108), _⟩ => [(13, (.var (.dv (.ints .u8 16 x108))))], fun | ⟨(n3, x106, x107, x108), _⟩ => n3⟩, [], [], ⟨(FUEL, 0, 0, x104), h⟩, ⟨rfl, ⟨rfl, rfl, trivial⟩, ⟨rfl, rfl, rfl, rfl, rfl, rfl, rfl, rfl, rfl, rfl, rfl, rfl, rfl, rfl, trivial⟩, rfl⟩, ?_⟩
   rintro ⟨⟨n3, x106, x107, x108⟩, h⟩
   cases n3 with
   | zero => exact no_none h
   | succ n3 =>
    replace h := (show onetime_Sum_l3 x77 (n3 + 1) x106 x107 x108 = _ from h)
    replace h := (onetime_Sum_l3.eq_2 .. ).symm.trans h
    refine And.intro (fun hb => ?_) (fun hb => ?_)
    ·replace h := cond_t h hb
     refine Or.inl ?_
     obtain ⟨hg, h⟩ := gd h
     refine And.intro hg ?_
     obtain ⟨hg, h⟩ := gd h
     refine And.intro hg ?_
     let x109 : Int := (List.getD x77 (Int.toNat (IntKind.wrap .i64 (16 + x107))) 0)
     replace h := nm_at x109 rfl h
     let x110 : Int := (IntKind.wrap .i64 ((IntKind.wrap .i64 (List.getD x108 (Int.toNat x107) 0)) + (IntKind.wrap .i64 x109)))
     replace h := nm_at x110 rfl h
     obtain ⟨hg, h⟩ := gd h
     refine And.intro hg ?_
     let x111 : List Int := (List.set x108 (Int.toNat x107) (IntKind.wrap .u8 (IntKind.wrap .i64 (x106 + x110))))
     replace h := nm_at x111 rfl h
     refine And.intro (by decide) ?_
     exact ⟨⟨(n3, (Int.fdiv (IntKind.wrap .i64 (x106 + x110)) (2 ^ 8)), (IntKind.wrap .i64 (x107 + 1)), x111), h⟩, [], ⟨rfl, ⟨rfl, rfl, trivial⟩, ⟨rfl, rfl, rfl, rfl, rfl, rfl, rfl, rfl, rfl, rfl, rfl, rfl, rfl, rfl, trivial⟩, rfl⟩, Nat.lt_succ_self _⟩
    ·replace h := cond_f h hb
     exact ⟨[], [], ⟨x108, some_in h⟩, [], rfl, trivial, ⟨rfl, rfl, rfl, rfl, rfl, rfl, rfl, rfl, rfl, rfl, rfl, rfl, rfl, rfl, trivial⟩, rfl⟩
 ·replace h := hl1_91
  intro L3
  refine ⟨Tryd.f39, _, ⟨Tryd.func39, rfl, rfl, rfl⟩, ?_⟩
  obtain ⟨r2_0_92, hl2_92, hr2_92⟩ := bnd h
  refine Or.inr ⟨[0, 1, 2], {p : (List Int) // p = r2_0_92}, ⟨fun | ⟨x92, _⟩ => [], fun | ⟨x92, _⟩ => [(9, (.var (.dv (.ints .u64 5 x92))))], fun _ => 0⟩, 0, ?_, ?_⟩
  ·rintro ⟨x92, hp⟩
   subst hp
   replace h := hr2_92
   exact ⟨[], [], ⟨x92, some_in h⟩, [], rfl, trivial, ⟨rfl, rfl, rfl, rfl, rfl, rfl, rfl, rfl, rfl, rfl, rfl, rfl, rfl, trivial⟩, rfl⟩
  ·replace h := hl2_92
   refine Or.inl ?_
   refine ⟨[], {x : Nat × Int × (List Int) // onetime_Sum_l1 x89 x90 x.1 x.2.1 x.2.2 = some r2_0_92}, ⟨fun | ⟨(n1, x93, x94), _⟩ => [(4, (.int .i64 x93))], fun | ⟨(n1, x93, x94), _⟩ => [(9, (.var (.dv (.ints .u64 5 x94))))], fun | ⟨(n1, x93, x94), _⟩ => n1⟩, [], [], ⟨(FUEL, 0, (List.replicate 5 (0 : Int))), h⟩, ⟨rfl, ⟨rfl, trivial⟩, ⟨rfl, rfl, rfl, rfl, rfl, rfl, rfl, rfl, rfl, rfl, rfl, rfl, rfl, trivial, rfl, trivial⟩, rfl⟩, ?_⟩
   rintro ⟨⟨n1, x93, x94⟩, h⟩
   cases n1 with
   | zero => exact no_none h
   | succ n1 =>
    replace h := (show onetime_Sum_l1 x89 x90 (n1 + 1) x93 x94 = _ from h)
    replace h := (onetime_Sum_l1.eq_2 .. ).symm.trans h
    refine And.intro (fun hb => ?_) (fun hb => ?_)
    ·replace h := cond_t h hb
     refine Or.inl ?_
     obtain ⟨hg, h⟩ := gd h
     refine And.intro hg ?_
     refine ⟨(Int.toNat x93), (Int.toNat (((List.length x90) : Int) - x93)), ⟨by simp, rfl⟩, ?_⟩
     let x95 : Int := (if ((Int.toNat (((List.length x90) : Int) - x93)) : Int) < 16 then ((Int.toNat (((List.length x90) : Int) - x93)) : Int) else 16)
     replace h := nm_at x95 rfl h
     obtain ⟨hg, h⟩ := gd h
     refine And.intro hg ?_
     obtain ⟨hg, h⟩ := gd h
     refine And.intro hg ?_
     refine ⟨(Int.toNat x93), (Int.toNat ((IntKind.wrap .i64 (x93 + x95)) - x93)), ⟨by simp, rfl⟩, ?_⟩
     refine ⟨rfl, ?_⟩
     refine Or.inl ?_
     obtain ⟨x96, hc102, h⟩ := bnd h
     refine ⟨[true], _, _, _, ⟨⟨_, slices_Clone_byte_byte_c er 15 (by decide) (List.take (Int.toNat ((IntKind.wrap .i64 (x93 + x95)) - x93)) (List.drop (Int.toNat x93) x90)) x96 hc102, ⟨.inl rfl, trivial⟩⟩, trivial, rfl⟩, ?_⟩
     refine Or.inl ?_
     refine Or.inl ?_
     obtain ⟨hg, h⟩ := gd h
     refine And.intro (le_of_ln2 (ln_full [1]) hg) ?_
     refine ⟨(x96 ++ [1]), app_cut (cut_full _) (cut_full [1]), 0, (List.length (x96 ++ [1])), ⟨rfl, app_ln (ln_full [1])⟩, ?_⟩
     refine Or.inl ?_
     obtain ⟨x97, hc102, h⟩ := bnd h
     refine ⟨[true], _, _, _, ⟨⟨_, onetime_read_c er (x96 ++ [1]) x97 hc102, ⟨ve_full _ _, trivial⟩⟩, trivial, rfl⟩, ?_⟩
     obtain ⟨r3_0_98, hl3_98, hr3_98⟩ := bnd h
     refine Or.inr ⟨[], {p : (List Int) // p = r3_0_98}, ⟨fun | ⟨x98, _⟩ => [], fun | ⟨x98, _⟩ => [(9, (.var (.dv (.ints .u64 5 x98))))], fun _ => 0⟩, 0, ?_, ?_⟩
     ·rintro ⟨x98, hp⟩
      subst hp
      replace h := hr3_98
      obtain ⟨x102, hc102, h⟩ := bnd h
      refine ⟨[], _, _, _, ⟨⟨_, onetime_times_c er x98 x89 x102 hc102, ⟨.inl rfl, .inl rfl, trivial⟩⟩, trivial, rfl⟩, ?_⟩
      exact ⟨⟨(n1, (IntKind.wrap .i64 (x93 + 16)), x102), h⟩, [], ⟨rfl, ⟨rfl, trivial⟩, ⟨rfl, rfl, rfl, rfl, rfl, rfl, rfl, rfl, rfl, rfl, rfl, rfl, rfl, trivial, rfl, trivial⟩, rfl⟩, Nat.lt_succ_self _⟩
     ·replace h := hl3_98
      refine Or.inl ?_
      refine ⟨[], {x : Nat × Int × (List Int) // onetime_Sum_l2 x97 x.1 x.2.1 x.2.2 = some r3_0_98}, ⟨fun | ⟨(n2, x99, x100), _⟩ => [(24, (.int .i64 x99))], fun | ⟨(n2, x99, x100), _⟩ => [(9, (.var (.dv (.ints .u64 5 x100))))], fun | ⟨(n2, x99, x100), _⟩ => n2⟩, [], [], ⟨(FUEL, 0, x94), h⟩, ⟨rfl, ⟨rfl, trivial⟩, ⟨rfl, rfl, rfl, rfl, rfl, rfl, rfl, rfl, rfl, rfl, rfl, rfl, rfl, trivial, rfl, trivial, rfl, rfl, rfl, trivial⟩, rfl⟩, ?_⟩
      rintro ⟨⟨n2, x99, x100⟩, h⟩
      cases n2 with
      | zero => exact no_none h
      | succ n2 =>
       replace h := (show onetime_Sum_l2 x97 (n2 + 1) x99 x100 = _ from h)
       replace h := (onetime_Sum_l2.eq_2 .. ).symm.trans h
       refine And.intro (fun hb => ?_) (fun hb => ?_)
       ·replace h := cond_t h hb
        refine Or.inl ?_
        obtain ⟨hg, h⟩ := gd h
        refine And.intro hg ?_
        obtain ⟨hg, h⟩ := gd h
        refine And.intro hg ?_
        let x101 : Int := (IntKind.wrap .u64 ((List.getD x100 (Int.toNat x99) 0) + (List.getD x97 (Int.toNat x99) 0)))
        replace h := nm_at x101 rfl h
        obtain ⟨hg, h⟩ := gd h
        refine And.intro hg ?_
        exact ⟨⟨(n2, (IntKind.wrap .i64 (x99 + 1)), (List.set x100 (Int.toNat x99) x101)), h⟩, [], ⟨rfl, ⟨rfl, trivial⟩, ⟨rfl, rfl, rfl, rfl, rfl, rfl, rfl, rfl, rfl, rfl, rfl, rfl, rfl, trivial, rfl, trivial, rfl, rfl, rfl, trivial⟩, rfl⟩, Nat.lt_succ_self _⟩
       ·replace h := cond_f h hb
        exact ⟨[], [], ⟨x100, some_in h⟩, [], rfl, trivial, ⟨rfl, rfl, rfl, rfl, rfl, rfl, rfl, rfl, rfl, rfl, rfl, rfl, rfl, trivial, rfl, trivial, rfl, rfl, rfl, trivial⟩, rfl⟩
    ·replace h := cond_f h hb
     exact ⟨[], [], ⟨x94, some_in h⟩, [], rfl, trivial, ⟨rfl, rfl, rfl, rfl, rfl, rfl, rfl, rfl, rfl, rfl, rfl, rfl, rfl, trivial, rfl, trivial⟩, rfl⟩
theorem seal_Seal_c (k0 : Nat) (hn : [k0].Nodup) (x3 : List Int) (x4 : List Int) (x5 : List Int) (x6 : List Int) (res : (((List Int)) ⊕ Nat)) (h : seal_Seal x3 x4 x5 x6 = some res) :
  Fn Tryd.prog (GE er) 7 [(.dv (.ints .u8 32 x3)), (.dv (.roI .u8 x4)), (.dv (.roI .u8 x5)), (.dv (.roI .u8 x6))] [] (match res with | (Sum.inl p0) => (.tup [(.sl k0 [] ly5 0 (List.length p0)), (.dv (.sc .nilIface))]) | (Sum.inr p0) => (.tup [(.dv (.sc (.slice none 0 0))), (errA er p0)])) (match res with | (Sum.inl p0) => [(k0, (.rowI .u8 p0))] | (Sum.inr p0) => []) := by
 refine bE er Tryd.func7 rfl rfl ((match res with | (Sum.inl p0) => [(9, k0)] | (Sum.inr p0) => [])) [(.dv (.ints .u8 32 x3)), (.dv (.roI .u8 x4)), (.dv (.roI .u8 x5)), (.dv (.roI .u8 x6))] [] (match res with | (Sum.inl p0) => [9] | (Sum.inr p0) => []) (match res with | (Sum.inl p0) => (.tup [(.sl 9 [] ly5 0 (List.length p0)), (.dv (.sc .nilIface))]) | (Sum.inr p0) => (.tup [(.dv (.sc (.slice none 0 0))), (errA er p0)])) (match res with | (Sum.inl p0) => [(.rowI .u8 p0)] | (Sum.inr p0) => []) rfl rfl (by rcases res with _ | _ <;> rfl) (by rcases res with _ | _ <;> rfl) (by rcases res with _ | _ <;> rfl) (by rcases res with _ | _ <;> rfl) (by rcases res with _ | _ <;> first | exact hn.sublist (.cons_cons _ .slnil) | exact hn.sublist (.cons _ .slnil)) 3 ?_
 replace h := (show seal_Seal x3 x4 x5 x6 = _ from h)
 unfold seal_Seal at h
 refine Or.inl ?_
 refine And.intro (fun hb => ?_) (fun hb => ?_)
 ·replace h := cond_t h hb
  obtain rfl := some_in h
  exact ⟨0, [], [], rfl, trivial⟩
 ·replace h := cond_f h hb
  refine And.intro (fun hb => ?_) (fun hb => ?_)
  ·replace h := cond_t h hb
   obtain rfl := some_in h
   exact ⟨0, [], [], rfl, trivial⟩
  ·replace h := cond_f h hb
   refine And.intro (fun hb => ?_) (fun hb => ?_)
   ·replace h := cond_t h hb
    obtain rfl := some_in h
    exact ⟨0, [], [], rfl, trivial⟩
   ·replace h := cond_f h hb
    obtain ⟨r27, hc27, h⟩ := bnd h
    rcases r27 with x7 | x27
    ·refine ⟨[], _, _, _, ⟨⟨_, stream_Turn_c er 1 (by decide) x3 1 x4 x6 (Sum.inl x7) hc27, ⟨.inl rfl, .inl rfl, .inl rfl, .inl rfl, trivial⟩⟩, trivial, rfl⟩, ?_⟩
     refine Or.inl ?_
     refine And.intro (fun h0 => Bool.noConfusion h0) (fun _ => ?_)
     obtain ⟨r26, hc26, h⟩ := bnd h
     rcases r26 with ⟨x8, x9, x10, x11, x12, x13, x14, x15, x16⟩ | ⟨x18, x19, x20, x21, x22, x23, x24, x25, x26⟩
     ·refine ⟨[], _, _, _, ⟨⟨_, seal_code_2_c er 1 2 3 4 5 6 (by decide) x3 x4 x5 x7 (Sum.inl (x8, x9, x10, x11, x12, x13, x14, x15, x16)) hc26, ⟨.inl rfl, .inl rfl, .inl rfl, .inl rfl, trivial⟩⟩, ⟨⟨rfl, rfl⟩, trivial⟩, rfl⟩, ?_⟩
      refine And.intro (fun h0 => Bool.noConfusion h0) (fun _ => ?_)
      obtain ⟨x17, hc17, h⟩ := bnd h
      refine ⟨[], _, _, _, ⟨⟨_, onetime_Sum_c er 2 3 1 4 5 6 (by decide) x8 x5 x9 (List.length x7) x10 x11 x12 x13 x7 x14 x15 x16 x17 hc17, ⟨.inl rfl, .inl rfl, trivial⟩⟩, ⟨⟨rfl, rfl⟩, ⟨rfl, rfl⟩, ⟨rfl, rfl⟩, ⟨rfl, rfl⟩, ⟨rfl, rfl⟩, ⟨rfl, rfl⟩, trivial⟩, rfl⟩, ?_⟩
      refine Or.inl ?_
      refine And.intro (by omega) ?_
      refine ⟨0, 16, ⟨rfl, rfl⟩, ?_⟩
      obtain ⟨hg, h⟩ := gd h
      refine And.intro (le_of_ln2 (ln_0 _ _) hg) ?_
      refine ⟨(x7 ++ (List.take 16 x17)), app_cut (cut_full _) (cut_0 _ _), 0, (List.length (x7 ++ (List.take 16 x17))), ⟨rfl, app_ln (ln_0 _ _)⟩, ?_⟩
      refine Or.inl ?_
      obtain rfl := some_in h
      exact ⟨0, [], [], rfl, rfl, trivial⟩
     ·refine ⟨[], _, _, _, ⟨⟨_, seal_code_2_c er 1 2 3 4 5 6 (by decide) x3 x4 x5 x7 (Sum.inr (x18, x19, x20, x21, x22, x23, x24, x25, x26)) hc26, ⟨.inl rfl, .inl rfl, .inl rfl, .inl rfl, trivial⟩⟩, ⟨⟨rfl, rfl⟩, trivial⟩, rfl⟩, ?_⟩
      refine And.intro (fun _ => ?_) (fun h0 => Bool.noConfusion h0)
      obtain rfl := some_in h
      exact ⟨0, [], [], rfl, trivial⟩
    ·refine ⟨[], _, _, _, ⟨⟨_, stream_Turn_c er 1 (by decide) x3 1 x4 x6 (Sum.inr x27) hc27, ⟨.inl rfl, .inl rfl, .inl rfl, .inl rfl, trivial⟩⟩, trivial, rfl⟩, ?_⟩
     refine And.intro (fun _ => ?_) (fun h0 => Bool.noConfusion h0)
     obtain rfl := some_in h
     exact ⟨0, [], [], rfl, trivial⟩
theorem slices_Concat_byte_byte_2_c (b0 b1 b2 b3 b4 k0 : Nat) (hn : [b0, b1, b2, b3, b4, k0].Nodup) (x71 : List Int) (x72 : Nat) (x73 : List Int) (x74 : Nat) (x75 : Nat) (x76 : Nat) (x77 : List Int) (x78 : List Int) (x79 : List Int) (x80 : List Int) (res : (List Int)) (h : slices_Concat_byte_byte_2 x71 x72 x73 x74 x75 x76 x77 x78 x79 x80 = some res) :
  Fn Tryd.prog (GE er) 26 [(.vs b0 0 6)] [(b0, (.var (.cons (.dv (.roI .u8 x71)) (.cons (.sl b1 [] ly5 0 x72) (.cons (.dv (.roI .u8 x73)) (.cons (.sl b2 [] ly5 0 x74) (.cons (.sl b3 [] ly5 0 x75) (.cons (.sl b4 [] ly5 0 x76) (.dv .nil))))))))), (b1, (.rowI .u8 x77)), (b2, (.rowI .u8 x78)), (b3, (.rowI .u8 x79)), (b4, (.rowI .u8 x80))] (.sl k0 [] ly5 0 (List.length res)) [(b0, (.var (.cons (.dv (.roI .u8 x71)) (.cons (.sl b1 [] ly5 0 x72) (.cons (.dv (.roI .u8 x73)) (.cons (.sl b2 [] ly5 0 x74) (.cons (.sl b3 [] ly5 0 x75) (.cons (.sl b4 [] ly5 0 x76) (.dv .nil))))))))), (b1, (.rowI .u8 x77)), (b2, (.rowI .u8 x78)), (b3, (.rowI .u8 x79)), (b4, (.rowI .u8 x80)), (k0, (.rowI .u8 res))] := by
 refine bE er Tryd.func26 rfl rfl [(0, b0), (1, b1), (2, b2), (3, b3), (4, b4), (6, k0)] [(.vs 0 0 6)] [(.var (.cons (.dv (.roI .u8 x71)) (.cons (.sl 1 [] ly5 0 x72) (.cons (.dv (.roI .u8 x73)) (.cons (.sl 2 [] ly5 0 x74) (.cons (.sl 3 [] ly5 0 x75) (.cons (.sl 4 [] ly5 0 x76) (.dv .nil)))))))), (.rowI .u8 x77), (.rowI .u8 x78), (.rowI .u8 x79), (.rowI .u8 x80)] [6] (.sl 6 [] ly5 0 (List.length res)) [(.var (.cons (.dv (.roI .u8 x71)) (.cons (.sl 1 [] ly5 0 x72) (.cons (.dv (.roI .u8 x73)) (.cons (.sl 2 [] ly5 0 x74) (.cons (.sl 3 [] ly5 0 x75) (.cons (.sl 4 [] ly5 0 x76) (.dv .nil)))))))), (.rowI .u8 x77), (.rowI .u8 x78), (.rowI .u8 x79), (.rowI .u8 x80), (.rowI .u8 res)] rfl rfl rfl rfl rfl rfl hn 3 ?_
 replace h := (show slices_Concat_byte_byte_2 x71 x72 x73 x74 x75 x76 x77 x78 x79 x80 = _ from h)
 unfold slices_Concat_byte_byte_2 at h
 obtain ⟨r1_0_81, hl1_81, hr1_81⟩ := bnd h
 refine Or.inr ⟨[10], {p : Int // p = r1_0_81}, ⟨fun | ⟨x81, _⟩ => [(3, (.int .i64 x81))], fun | ⟨x81, _⟩ => [], fun _ => 0⟩, 0, ?_, ?_⟩
 ·rintro ⟨x81, hp⟩
  subst hp
  replace h := hr1_81
  obtain ⟨r91, hc91, h⟩ := bnd h
  obtain ⟨x87, x88⟩ := r91
  refine ⟨[], _, _, _, ⟨⟨_, slices_Grow_byte_byte_2_c er 5 (by decide) x81 (x87, x88) hc91, ⟨.inl rfl, .inl rfl, trivial⟩⟩, trivial, rfl⟩, ?_⟩
  refine Or.inl ?_
  obtain ⟨r2_0_89, hl2_89, hr2_89⟩ := bnd h
  refine Or.inr ⟨[24, 26], {p : (List Int) // p = r2_0_89}, ⟨fun | ⟨x89, _⟩ => [(6, (.sl 6 [] ly5 0 (List.length x89)))], fun | ⟨x89, _⟩ => [(5, .dead), (6, (.rowI .u8 x89))], fun _ => 0⟩, 1, ?_, ?_⟩
  ·rintro ⟨x89, hp⟩
   subst hp
   replace h := hr2_89
   obtain rfl := some_in h
   exact ⟨0, [], [], rfl, rfl, rfl, rfl, rfl, rfl, rfl, trivial⟩
  ·replace h := hl2_89
   refine Or.inr ⟨30, ?_⟩
   refine And.intro (fun _ => ?_) (fun h0 => Bool.noConfusion h0)
   refine Or.inl ?_
   refine And.intro (by decide) ?_
   obtain ⟨hg, h⟩ := gd h
   refine And.intro (hg) ?_
   obtain ⟨hg2, h⟩ := gd h
   refine ⟨((List.take x87 x88) ++ x71), app_cut (cut_0 _ _) (rfl), 0, (List.length ((List.take x87 x88) ++ x71)), ⟨rfl, cut_ln hg2 (rfl)⟩, ?_⟩
   refine Or.inl ?_
   refine And.intro (fun _ => ?_) (fun h0 => Bool.noConfusion h0)
   refine Or.inl ?_
   refine And.intro (by decide) ?_
   obtain ⟨hg, h⟩ := gd h
   refine And.intro (le_of_ln2 (ln_0 _ _) hg) ?_
   refine ⟨(((List.take x87 x88) ++ x71) ++ (List.take x72 x77)), app_cut (cut_full _) (cut_0 _ _), 0, (List.length (((List.take x87 x88) ++ x71) ++ (List.take x72 x77))), ⟨rfl, app_ln (ln_0 _ _)⟩, ?_⟩
   refine Or.inl ?_
   refine And.intro (fun _ => ?_) (fun h0 => Bool.noConfusion h0)
   refine Or.inl ?_
   refine And.intro (by decide) ?_
   obtain ⟨hg, h⟩ := gd h
   refine And.intro (hg) ?_
   refine ⟨((((List.take x87 x88) ++ x71) ++ (List.take x72 x77)) ++ x73), app_cut (cut_full _) (rfl), 0, (List.length ((((List.take x87 x88) ++ x71) ++ (List.take x72 x77)) ++ x73)), ⟨rfl, app_ln (rfl)⟩, ?_⟩
   refine Or.inl ?_
   let x90 : List Int := ((((List.take x87 x88) ++ x71) ++ (List.take x72 x77)) ++ x73)
   replace h := nm_at x90 rfl h
   refine And.intro (fun _ => ?_) (fun h0 => Bool.noConfusion h0)
   refine Or.inl ?_
   refine And.intro (by decide) ?_
   obtain ⟨hg, h⟩ := gd h
   refine And.intro (le_of_ln2 (ln_0 _ _) hg) ?_
   refine ⟨(x90 ++ (List.take x74 x78)), app_cut (cut_full _) (cut_0 _ _), 0, (List.length (x90 ++ (List.take x74 x78))), ⟨rfl, app_ln (ln_0 _ _)⟩, ?_⟩
   refine Or.inl ?_
   refine And.intro (fun _ => ?_) (fun h0 => Bool.noConfusion h0)
   refine Or.inl ?_
   refine And.intro (by decide) ?_
   obtain ⟨hg, h⟩ := gd h
   refine And.intro (le_of_ln2 (ln_0 _ _) hg) ?_
   refine ⟨((x90 ++ (List.take x74 x78)) ++ (List.take x75 x79)), app_cut (cut_full _) (cut_0 _ _), 0, (List.length ((x90 ++ (List.take x74 x78)) ++ (List.take x75 x79))), ⟨rfl, app_ln (ln_0 _ _)⟩, ?_⟩
   refine Or.inl ?_
   refine And.intro (fun _ => ?_) (fun h0 => Bool.noConfusion h0)
   refine Or.inl ?_
   refine And.intro (by decide) ?_
   obtain ⟨hg, h⟩ := gd h
   refine And.intro (le_of_ln2 (ln_0 _ _) hg) ?_
   refine ⟨(((x90 ++ (List.take x74 x78)) ++ (List.take x75 x79)) ++ (List.take x76 x80)), app_cut (cut_full _) (cut_0 _ _), 0, (List.length (((x90 ++ (List.take x74 x78)) ++ (List.take x75 x79)) ++ (List.take x76 x80))), ⟨rfl, app_ln (ln_0 _ _)⟩, ?_⟩
   refine Or.inl ?_
   let x91 : List Int := (((x90 ++ (List.take x74 x78)) ++ (List.take x75 x79)) ++ (List.take x76 x80))
   replace h := nm_at x91 rfl h
   refine And.intro (fun h0 => Bool.noConfusion h0) (fun _ => ?_)
   exact ⟨[], [], ⟨x91, some_in h⟩, [(6, 11)], rfl, ⟨rfl, trivial⟩, ⟨rfl, rfl, rfl, rfl, rfl, trivial, rfl, trivial⟩, rfl⟩
 ·replace h := hl1_81
  refine Or.inr ⟨30, ?_⟩
  refine And.intro (fun _ => ?_) (fun h0 => Bool.noConfusion h0)
  refine Or.inl ?_
  refine And.intro (by decide) ?_
  let x82 : Bool := (decide ((IntKind.wrap .i64 (0 + (List.length x71 : Int))) < 0))
  replace h := nm_at x82 rfl h
  refine Or.inl ?_
  refine And.intro (fun hb => ?_) (fun hb => ?_)
  ·replace h := cond_t h hb
   exact no_none h
  ·replace h := cond_f h hb
   refine And.intro (fun _ => ?_) (fun h0 => Bool.noConfusion h0)
   refine Or.inl ?_
   refine And.intro (by decide) ?_
   let x83 : Int := (IntKind.wrap .i64 ((IntKind.wrap .i64 (0 + (List.length x71 : Int))) + (x72 : Int)))
   replace h := nm_at x83 rfl h
   refine Or.inl ?_
   refine And.intro (fun hb => ?_) (fun hb => ?_)
   ·replace h := cond_t h hb
    exact no_none h
   ·replace h := cond_f h hb
    refine And.intro (fun _ => ?_) (fun h0 => Bool.noConfusion h0)
    refine Or.inl ?_
    refine And.intro (by decide) ?_
    let x84 : Bool := (decide ((IntKind.wrap .i64 (x83 + (List.length x73 : Int))) < 0))
    replace h := nm_at x84 rfl h
    refine Or.inl ?_
    refine And.intro (fun hb => ?_) (fun hb => ?_)
    ·replace h := cond_t h hb
     exact no_none h
    ·replace h := cond_f h hb
     refine And.intro (fun _ => ?_) (fun h0 => Bool.noConfusion h0)
     refine Or.inl ?_
     refine And.intro (by decide) ?_
     let x85 : Int := (IntKind.wrap .i64 ((IntKind.wrap .i64 (x83 + (List.length x73 : Int))) + (x74 : Int)))
     replace h := nm_at x85 rfl h
     refine Or.inl ?_
     refine And.intro (fun hb => ?_) (fun hb => ?_)
     ·replace h := cond_t h hb
      exact no_none h
     ·replace h := cond_f h hb
      refine And.intro (fun _ => ?_) (fun h0 => Bool.noConfusion h0)
      refine Or.inl ?_
      refine And.intro (by decide) ?_
      refine Or.inl ?_
      refine And.intro (fun hb => ?_) (fun hb => ?_)
      ·replace h := cond_t h hb
       exact no_none h
      ·replace h := cond_f h hb
       refine And.intro (fun _ => ?_) (fun h0 => Bool.noConfusion h0)
       refine Or.inl ?_
       refine And.intro (by decide) ?_
       let x86 : Int := (IntKind.wrap .i64 ((IntKind.wrap .i64 (x85 + (x75 : Int))) + (x76 : Int)))
       replace h := nm_at x86 rfl h
       refine Or.inl ?_
       refine And.intro (fun hb => ?_) (fun hb => ?_)
       ·replace h := cond_t h hb
        exact no_none h
       ·replace h := cond_f h hb
        refine And.intro (fun h0 => Bool.noConfusion h0) (fun _ => ?_)
        exact ⟨[], [], ⟨x86, some_in h⟩, [], rfl, ⟨rfl, trivial⟩, ⟨rfl, rfl, rfl, rfl, rfl, trivial⟩, rfl⟩
theorem onetime_Sum_2_c (b0 b1 b2 b3 b4 : Nat) (hn : [b0, b1, b2, b3, b4].Nodup) (x59 : List Int) (x60 : List Int) (x61 : Nat) (x62 : List Int) (x63 : Nat) (x64 : Nat) (x65 : Nat) (x66 : List Int) (x67 : List Int) (x68 : List Int) (x69 : List Int) (res : (List Int)) (h : onetime_Sum_2 x59 x60 x61 x62 x63 x64 x65 x66 x67 x68 x69 = some res) :
  Fn Tryd.prog (GE er) 15 [(.dv (.ints .u8 32 x59)), (.vs b0 0 6)] [(b0, (.var (.cons (.dv (.roI .u8 x60)) (.cons (.sl b1 [] ly5 0 x61) (.cons (.dv (.roI .u8 x62)) (.cons (.sl b2 [] ly5 0 x63) (.cons (.sl b3 [] ly5 0 x64) (.cons (.sl b4 [] ly5 0 x65) (.dv .nil))))))))), (b1, (.rowI .u8 x66)), (b2, (.rowI .u8 x67)), (b3, (.rowI .u8 x68)), (b4, (.rowI .u8 x69))] (.dv (.ints .u8 16 res)) [(b0, (.var (.cons (.dv (.roI .u8 x60)) (.cons (.sl b1 [] ly5 0 x61) (.cons (.dv (.roI .u8 x62)) (.cons (.sl b2 [] ly5 0 x63) (.cons (.sl b3 [] ly5 0 x64) (.cons (.sl b4 [] ly5 0 x65) (.dv .nil))))))))), (b1, (.rowI .u8 x66)), (b2, (.rowI .u8 x67)), (b3, (.rowI .u8 x68)), (b4, (.rowI .u8 x69))] := by
 refine bE er Tryd.func15 rfl rfl [(0, b0), (1, b1), (2, b2), (3, b3), (4, b4)] [(.dv (.ints .u8 32 x59)), (.vs 0 0 6)] [(.var (.cons (.dv (.roI .u8 x60)) (.cons (.sl 1 [] ly5 0 x61) (.cons (.dv (.roI .u8 x62)) (.cons (.sl 2 [] ly5 0 x63) (.cons (.sl 3 [] ly5 0 x64) (.cons (.sl 4 [] ly5 0 x65) (.dv .nil)))))))), (.rowI .u8 x66), (.rowI .u8 x67), (.rowI .u8 x68), (.rowI .u8 x69)] [] (.dv (.ints .u8 16 res)) [(.var (.cons (.dv (.roI .u8 x60)) (.cons (.sl 1 [] ly5 0 x61) (.cons (.dv (.roI .u8 x62)) (.cons (.sl 2 [] ly5 0 x63) (.cons (.sl 3 [] ly5 0 x64) (.cons (.sl 4 [] ly5 0 x65) (.dv .nil)))))))), (.rowI .u8 x66), (.rowI .u8 x67), (.rowI .u8 x68), (.rowI .u8 x69)] rfl rfl rfl rfl rfl rfl hn 3 ?_
 replace h := (show onetime_Sum_2 x59 x60 x61 x62 x63 x64 x65 x66 x67 x68 x69 = _ from h)
 unfold onetime_Sum_2 at h
 obtain ⟨x70, hc92, h⟩ := bnd h
 refine ⟨[], _, _, _, ⟨⟨_, onetime_clamped_c er x59 x70 hc92, ⟨.inl rfl, trivial⟩⟩, trivial, rfl⟩, ?_⟩
 obtain ⟨x71, hc92, h⟩ := bnd h
 refine ⟨[], _, _, _, ⟨⟨_, slices_Concat_byte_byte_2_c er 0 1 2 3 4 9 (by decide) x60 x61 x62 x63 x64 x65 x66 x67 x68 x69 x71 hc92, ⟨.inl rfl, trivial⟩⟩, ⟨⟨rfl, rfl⟩, ⟨rfl, rfl⟩, ⟨rfl, rfl⟩, ⟨rfl, rfl⟩, ⟨rfl, rfl⟩, trivial⟩, rfl⟩, ?_⟩
 refine Or.inl ?_
 obtain ⟨r92, hc92, h⟩ := bnd h
 refine ⟨[], _, _, _, ⟨⟨_, slices_Chunk_byte_byte_2_c er 9 10 11 (by decide) 16 x71 r92 hc92, ⟨.inl rfl, .inl rfl, trivial⟩⟩, ⟨⟨rfl, rfl⟩, trivial⟩, rfl⟩, ?_⟩
 obtain ⟨r1_0_72, hl1_72, hr1_72⟩ := bnd h
 refine Or.inr ⟨[17], {p : (List Int) // p = r1_0_72}, ⟨fun | ⟨x72, _⟩ => [], fun | ⟨x72, _⟩ => [(8, (.var (.dv (.ints .u64 5 x72))))], fun _ => 0⟩, 0, ?_, ?_⟩
 ·rintro ⟨x72, hp⟩
  subst hp
  replace h := hr1_72
  obtain ⟨x84, hc92, h⟩ := bnd h
  refine ⟨[], _, _, _, ⟨⟨_, onetime_number_least_c er x72 x84 hc92, ⟨.inl rfl, trivial⟩⟩, trivial, rfl⟩, ?_⟩
  obtain ⟨x85, hc92, h⟩ := bnd h
  refine ⟨[], _, _, _, ⟨⟨_, onetime_number_low_c er x84 x85 hc92, ⟨.inl rfl, trivial⟩⟩, trivial, rfl⟩, ?_⟩
  obtain ⟨r4_2_86, hl4_86, hr4_86⟩ := bnd h
  refine Or.inr ⟨[], {p : (List Int) // p = r4_2_86}, ⟨fun | ⟨x86, _⟩ => [], fun | ⟨x86, _⟩ => [(12, (.var (.dv (.ints .u8 16 x86))))], fun _ => 0⟩, 0, ?_, ?_⟩
  ·rintro ⟨x86, hp⟩
   subst hp
   replace h := hr4_86
   obtain rfl := some_in h
   exact ⟨0, [], [], rfl, rfl, rfl, rfl, rfl, rfl, trivial⟩
  ·replace h := hl4_86
   refine Or.inl ?_
   refine ⟨[], {x : Nat × Int × Int × (List Int) // onetime_Sum_2_l3 x59 x.1 x.2.1 x.2.2.1 x.2.2.2 = some r4_2_86}, ⟨fun | ⟨(n3, x87, x88, x89), _⟩ => [(11, (.int .i64 x87)), (42, (.int .i64 x88))], fun | ⟨(n3, x87, x88, x89), _⟩ => [(12, (.var (.dv (.ints .u8 16 x89))))], fun | ⟨(n3, x87, x88, x89), _⟩ => n3⟩, [], [], ⟨(FUEL, 0, 0, x85), h⟩, ⟨rfl, ⟨rfl, rfl, trivial⟩, ⟨rfl, rfl, rfl, rfl, rfl, rfl, rfl, rfl, rfl, rfl, rfl, rfl, rfl, trivial⟩, rfl⟩, ?_⟩
   rintro ⟨⟨n3, x87, x88, x89⟩, h⟩
   cases n3 with
   | zero => exact no_none h
   | succ n3 =>
    replace h := (show onetime_Sum_2_l3 x59 (n3 + 1) x87 x88 x89 = _ from h)
    replace h := (onetime_Sum_2_l3.eq_2 .. ).symm.trans h
    refine And.intro (fun hb => ?_) (fun hb => ?_)
    ·replace h := cond_t h hb
     refine Or.inl ?_
     obtain ⟨hg, h⟩ := gd h
     refine And.intro hg ?_
     obtain ⟨hg, h⟩ := gd h
     refine And.intro hg ?_
     let x90 : Int := (IntKind.wrap .i64 (List.getD x59 (Int.toNat (IntKind.wrap .i64 (16 + x88))) 0))
     replace h := nm_at x90 rfl h
     let x91 : Int := (IntKind.wrap .i64 ((IntKind.wrap .i64 (List.getD x89 (Int.toNat x88) 0)) + x90))
     replace h := nm_at x91 rfl h
     obtain ⟨hg, h⟩ := gd h
     refine And.intro hg ?_
     let x92 : List Int := (List.set x89 (Int.toNat x88) (IntKind.wrap .u8 (IntKind.wrap .i64 (x87 + x91))))
     replace h := nm_at x92 rfl h
     refine And.intro (by decide) ?_
     exact ⟨⟨(n3, (Int.fdiv (IntKind.wrap .i64 (x87 + x91)) (2 ^ 8)), (IntKind.wrap .i64 (x88 + 1)), x92), h⟩, [], ⟨rfl, ⟨rfl, rfl, trivial⟩, ⟨rfl, rfl, rfl, rfl, rfl, rfl, rfl, rfl, rfl, rfl, rfl, rfl, rfl, trivial⟩, rfl⟩, Nat.lt_succ_self _⟩
    ·replace h := cond_f h hb
     exact ⟨[], [], ⟨x89, some_in h⟩, [], rfl, trivial, ⟨rfl, rfl, rfl, rfl, rfl, rfl, rfl, rfl, rfl, rfl, rfl, rfl, rfl, trivial⟩, rfl⟩
 ·replace h := hl1_72
  intro L3
  refine ⟨Tryd.f39, _, ⟨Tryd.func39, rfl, rfl, rfl⟩, ?_⟩
  obtain ⟨r2_0_73, hl2_73, hr2_73⟩ := bnd h
  refine Or.inr ⟨[0, 1, 2], {p : (List Int) // p = r2_0_73}, ⟨fun | ⟨x73, _⟩ => [], fun | ⟨x73, _⟩ => [(8, (.var (.dv (.ints .u64 5 x73))))], fun _ => 0⟩, 0, ?_, ?_⟩
  ·rintro ⟨x73, hp⟩
   subst hp
   replace h := hr2_73
   exact ⟨[], [], ⟨x73, some_in h⟩, [], rfl, trivial, ⟨rfl, rfl, rfl, rfl, rfl, rfl, rfl, rfl, rfl, rfl, rfl, rfl, trivial⟩, rfl⟩
  ·replace h := hl2_73
   refine Or.inl ?_
   refine ⟨[], {x : Nat × Int × (List Int) // onetime_Sum_2_l1 x70 x71 x.1 x.2.1 x.2.2 = some r2_0_73}, ⟨fun | ⟨(n1, x74, x75), _⟩ => [(4, (.int .i64 x74))], fun | ⟨(n1, x74, x75), _⟩ => [(8, (.var (.dv (.ints .u64 5 x75))))], fun | ⟨(n1, x74, x75), _⟩ => n1⟩, [], [], ⟨(FUEL, 0, (List.replicate 5 (0 : Int))), h⟩, ⟨rfl, ⟨rfl, trivial⟩, ⟨rfl, rfl, rfl, rfl, rfl, rfl, rfl, rfl, rfl, rfl, rfl, rfl, trivial, rfl, trivial⟩, rfl⟩, ?_⟩
   rintro ⟨⟨n1, x74, x75⟩, h⟩
   cases n1 with
   | zero => exact no_none h
   | succ n1 =>
    replace h := (show onetime_Sum_2_l1 x70 x71 (n1 + 1) x74 x75 = _ from h)
    replace h := (onetime_Sum_2_l1.eq_2 .. ).symm.trans h
    refine And.intro (fun hb => ?_) (fun hb => ?_)
    ·replace h := cond_t h hb
     refine Or.inl ?_
     obtain ⟨hg, h⟩ := gd h
     refine And.intro hg ?_
     refine ⟨(Int.toNat x74), (Int.toNat (((List.length x71) : Int) - x74)), ⟨by simp, rfl⟩, ?_⟩
     let x76 : Int := (if ((Int.toNat (((List.length x71) : Int) - x74)) : Int) < 16 then ((Int.toNat (((List.length x71) : Int) - x74)) : Int) else 16)
     replace h := nm_at x76 rfl h
     obtain ⟨hg, h⟩ := gd h
     refine And.intro hg ?_
     obtain ⟨hg, h⟩ := gd h
     refine And.intro hg ?_
     refine ⟨(Int.toNat x74), (Int.toNat ((IntKind.wrap .i64 (x74 + x76)) - x74)), ⟨by simp, rfl⟩, ?_⟩
     refine ⟨rfl, ?_⟩
     refine Or.inl ?_
     obtain ⟨x77, hc83, h⟩ := bnd h
     refine ⟨[true], _, _, _, ⟨⟨_, slices_Clone_byte_byte_c er 14 (by decide) (List.take (Int.toNat ((IntKind.wrap .i64 (x74 + x76)) - x74)) (List.drop (Int.toNat x74) x71)) x77 hc83, ⟨.inl rfl, trivial⟩⟩, trivial, rfl⟩, ?_⟩
     refine Or.inl ?_
     refine Or.inl ?_
     obtain ⟨hg, h⟩ := gd h
     refine And.intro (le_of_ln2 (ln_full [1]) hg) ?_
     refine ⟨(x77 ++ [1]), app_cut (cut_full _) (cut_full [1]), 0, (List.length (x77 ++ [1])), ⟨rfl, app_ln (ln_full [1])⟩, ?_⟩
     refine Or.inl ?_
     obtain ⟨x78, hc83, h⟩ := bnd h
     refine ⟨[true], _, _, _, ⟨⟨_, onetime_read_c er (x77 ++ [1]) x78 hc83, ⟨ve_full _ _, trivial⟩⟩, trivial, rfl⟩, ?_⟩
     obtain ⟨r3_0_79, hl3_79, hr3_79⟩ := bnd h
     refine Or.inr ⟨[], {p : (List Int) // p = r3_0_79}, ⟨fun | ⟨x79, _⟩ => [], fun | ⟨x79, _⟩ => [(8, (.var (.dv (.ints .u64 5 x79))))], fun _ => 0⟩, 0, ?_, ?_⟩
     ·rintro ⟨x79, hp⟩
      subst hp
      replace h := hr3_79
      obtain ⟨x83, hc83, h⟩ := bnd h
      refine ⟨[], _, _, _, ⟨⟨_, onetime_times_c er x79 x70 x83 hc83, ⟨.inl rfl, .inl rfl, trivial⟩⟩, trivial, rfl⟩, ?_⟩
      exact ⟨⟨(n1, (IntKind.wrap .i64 (x74 + 16)), x83), h⟩, [], ⟨rfl, ⟨rfl, trivial⟩, ⟨rfl, rfl, rfl, rfl, rfl, rfl, rfl, rfl, rfl, rfl, rfl, rfl, trivial, rfl, trivial⟩, rfl⟩, Nat.lt_succ_self _⟩
     ·replace h := hl3_79
      refine Or.inl ?_
      refine ⟨[], {x : Nat × Int × (List Int) // onetime_Sum_2_l2 x78 x.1 x.2.1 x.2.2 = some r3_0_79}, ⟨fun | ⟨(n2, x80, x81), _⟩ => [(24, (.int .i64 x80))], fun | ⟨(n2, x80, x81), _⟩ => [(8, (.var (.dv (.ints .u64 5 x81))))], fun | ⟨(n2, x80, x81), _⟩ => n2⟩, [], [], ⟨(FUEL, 0, x75), h⟩, ⟨rfl, ⟨rfl, trivial⟩, ⟨rfl, rfl, rfl, rfl, rfl, rfl, rfl, rfl, rfl, rfl, rfl, rfl, trivial, rfl, trivial, rfl, rfl, rfl, trivial⟩, rfl⟩, ?_⟩
      rintro ⟨⟨n2, x80, x81⟩, h⟩
      cases n2 with
      | zero => exact no_none h
      | succ n2 =>
       replace h := (show onetime_Sum_2_l2 x78 (n2 + 1) x80 x81 = _ from h)
       replace h := (onetime_Sum_2_l2.eq_2 .. ).symm.trans h
       refine And.intro (fun hb => ?_) (fun hb => ?_)
       ·replace h := cond_t h hb
        refine Or.inl ?_
        obtain ⟨hg, h⟩ := gd h
        refine And.intro hg ?_
        obtain ⟨hg, h⟩ := gd h
        refine And.intro hg ?_
        let x82 : Int := (IntKind.wrap .u64 ((List.getD x81 (Int.toNat x80) 0) + (List.getD x78 (Int.toNat x80) 0)))
        replace h := nm_at x82 rfl h
        obtain ⟨hg, h⟩ := gd h
        refine And.intro hg ?_
        exact ⟨⟨(n2, (IntKind.wrap .i64 (x80 + 1)), (List.set x81 (Int.toNat x80) x82)), h⟩, [], ⟨rfl, ⟨rfl, trivial⟩, ⟨rfl, rfl, rfl, rfl, rfl, rfl, rfl, rfl, rfl, rfl, rfl, rfl, trivial, rfl, trivial, rfl, rfl, rfl, trivial⟩, rfl⟩, Nat.lt_succ_self _⟩
       ·replace h := cond_f h hb
        exact ⟨[], [], ⟨x81, some_in h⟩, [], rfl, trivial, ⟨rfl, rfl, rfl, rfl, rfl, rfl, rfl, rfl, rfl, rfl, rfl, rfl, trivial, rfl, trivial, rfl, rfl, rfl, trivial⟩, rfl⟩
    ·replace h := cond_f h hb
     exact ⟨[], [], ⟨x75, some_in h⟩, [], rfl, trivial, ⟨rfl, rfl, rfl, rfl, rfl, rfl, rfl, rfl, rfl, rfl, rfl, rfl, trivial, rfl, trivial⟩, rfl⟩
theorem words_Equal_c (x94 : List Int) (x95 : List Int) (res : Bool) (h : words_Equal x94 x95 = some res) :
  Fn Tryd.prog (GE er) 38 [(.dv (.roI .u8 x94)), (.dv (.roI .u8 x95))] [] (.bl res) [] := by
 refine bE er Tryd.func38 rfl rfl [] [(.dv (.roI .u8 x94)), (.dv (.roI .u8 x95))] [] [] (.bl res) [] rfl rfl rfl rfl rfl rfl .nil 3 ?_
 replace h := (show words_Equal x94 x95 = _ from h)
 unfold words_Equal at h
 refine And.intro (fun hb => ?_) (fun hb => ?_)
 ·replace h := cond_t h hb
  obtain rfl := some_in h
  exact ⟨0, [], [], rfl, trivial⟩
 ·replace h := cond_f h hb
  obtain ⟨r1_0_96, hl1_96, hr1_96⟩ := bnd h
  refine Or.inr ⟨[13], {p : Int // p = r1_0_96}, ⟨fun | ⟨x96, _⟩ => [(5, (.int .u8 x96))], fun | ⟨x96, _⟩ => [], fun _ => 0⟩, 0, ?_, ?_⟩
  ·rintro ⟨x96, hp⟩
   subst hp
   replace h := hr1_96
   obtain rfl := some_in h
   exact ⟨0, [], [], rfl, trivial⟩
  ·replace h := hl1_96
   refine Or.inl ?_
   refine ⟨[], {x : Nat × Int × Int // words_Equal_l1 x94 x95 x.1 x.2.1 x.2.2 = some r1_0_96}, ⟨fun | ⟨(n1, x97, x98), _⟩ => [(5, (.int .u8 x97)), (14, (.int .i64 x98))], fun | ⟨(n1, x97, x98), _⟩ => [], fun | ⟨(n1, x97, x98), _⟩ => n1⟩, [], [], ⟨(FUEL, 0, 0), h⟩, ⟨rfl, ⟨rfl, rfl, trivial⟩, trivial, rfl⟩, ?_⟩
   rintro ⟨⟨n1, x97, x98⟩, h⟩
   cases n1 with
   | zero => exact no_none h
   | succ n1 =>
    replace h := (show words_Equal_l1 x94 x95 (n1 + 1) x97 x98 = _ from h)
    replace h := (words_Equal_l1.eq_2 .. ).symm.trans h
    refine And.intro (fun hb => ?_) (fun hb => ?_)
    ·replace h := cond_t h hb
     refine Or.inl ?_
     obtain ⟨hg, h⟩ := gd h
     refine And.intro hg ?_
     obtain ⟨hg, h⟩ := gd h
     refine And.intro hg ?_
     let x99 : Int := (bits .u8 .xor (List.getD x94 (Int.toNat x98) 0) (List.getD x95 (Int.toNat x98) 0))
     replace h := nm_at x99 rfl h
     exact ⟨⟨(n1, (bits .u8 .or x97 x99), (IntKind.wrap .i64 (x98 + 1))), h⟩, [], ⟨rfl, ⟨rfl, rfl, trivial⟩, trivial, rfl⟩, Nat.lt_succ_self _⟩
    ·replace h := cond_f h hb
     exact ⟨[], [], ⟨x97, some_in h⟩, [], rfl, ⟨rfl, trivial⟩, trivial, rfl⟩
theorem onetime_Right_c (b0 b1 b2 b3 b4 : Nat) (hn : [b0, b1, b2, b3, b4].Nodup) (x47 : List Int) (x48 : List Int) (x49 : List Int) (x50 : Nat) (x51 : List Int) (x52 : Nat) (x53 : Nat) (x54 : Nat) (x55 : List Int) (x56 : List Int) (x57 : List Int) (x58 : List Int) (res : Bool) (h : onetime_Right x47 x48 x49 x50 x51 x52 x53 x54 x55 x56 x57 x58 = some res) :
  Fn Tryd.prog (GE er) 19 [(.dv (.ints .u8 32 x47)), (.dv (.roI .u8 x48)), (.vs b0 0 6)] [(b0, (.var (.cons (.dv (.roI .u8 x49)) (.cons (.sl b1 [] ly5 0 x50) (.cons (.dv (.roI .u8 x51)) (.cons (.sl b2 [] ly5 0 x52) (.cons (.sl b3 [] ly5 0 x53) (.cons (.sl b4 [] ly5 0 x54) (.dv .nil))))))))), (b1, (.rowI .u8 x55)), (b2, (.rowI .u8 x56)), (b3, (.rowI .u8 x57)), (b4, (.rowI .u8 x58))] (.bl res) [(b0, (.var (.cons (.dv (.roI .u8 x49)) (.cons (.sl b1 [] ly5 0 x50) (.cons (.dv (.roI .u8 x51)) (.cons (.sl b2 [] ly5 0 x52) (.cons (.sl b3 [] ly5 0 x53) (.cons (.sl b4 [] ly5 0 x54) (.dv .nil))))))))), (b1, (.rowI .u8 x55)), (b2, (.rowI .u8 x56)), (b3, (.rowI .u8 x57)), (b4, (.rowI .u8 x58))] := by
 refine bE er Tryd.func19 rfl rfl [(0, b0), (1, b1), (2, b2), (3, b3), (4, b4)] [(.dv (.ints .u8 32 x47)), (.dv (.roI .u8 x48)), (.vs 0 0 6)] [(.var (.cons (.dv (.roI .u8 x49)) (.cons (.sl 1 [] ly5 0 x50) (.cons (.dv (.roI .u8 x51)) (.cons (.sl 2 [] ly5 0 x52) (.cons (.sl 3 [] ly5 0 x53) (.cons (.sl 4 [] ly5 0 x54) (.dv .nil)))))))), (.rowI .u8 x55), (.rowI .u8 x56), (.rowI .u8 x57), (.rowI .u8 x58)] [] (.bl res) [(.var (.cons (.dv (.roI .u8 x49)) (.cons (.sl 1 [] ly5 0 x50) (.cons (.dv (.roI .u8 x51)) (.cons (.sl 2 [] ly5 0 x52) (.cons (.sl 3 [] ly5 0 x53) (.cons (.sl 4 [] ly5 0 x54) (.dv .nil)))))))), (.rowI .u8 x55), (.rowI .u8 x56), (.rowI .u8 x57), (.rowI .u8 x58)] rfl rfl rfl rfl rfl rfl hn 3 ?_
 replace h := (show onetime_Right x47 x48 x49 x50 x51 x52 x53 x54 x55 x56 x57 x58 = _ from h)
 unfold onetime_Right at h
 obtain ⟨x59, hc60, h⟩ := bnd h
 refine ⟨[], _, _, _, ⟨⟨_, onetime_Sum_2_c er 0 1 2 3 4 (by decide) x47 x49 x50 x51 x52 x53 x54 x55 x56 x57 x58 x59 hc60, ⟨.inl rfl, .inl rfl, trivial⟩⟩, ⟨⟨rfl, rfl⟩, ⟨rfl, rfl⟩, ⟨rfl, rfl⟩, ⟨rfl, rfl⟩, ⟨rfl, rfl⟩, trivial⟩, rfl⟩, ?_⟩
 refine Or.inl ?_
 refine And.intro (by omega) ?_
 refine ⟨0, 16, ⟨rfl, rfl⟩, ?_⟩
 obtain ⟨x60, hc60, h⟩ := bnd h
 refine ⟨[false, true], _, _, _, ⟨⟨_, words_Equal_c er x48 (List.take 16 x59) x60 hc60, ⟨.inl rfl, .inl rfl, trivial⟩⟩, trivial, rfl⟩, ?_⟩
 obtain rfl := some_in h
 exact ⟨0, [], [], rfl, rfl, rfl, rfl, rfl, rfl, trivial⟩
theorem seal_Open_c (k0 : Nat) (hn : [k0].Nodup) (x30 : List Int) (x31 : List Int) (x32 : List Int) (x33 : List Int) (res : (((List Int)) ⊕ Nat)) (h : seal_Open x30 x31 x32 x33 = some res) :
  Fn Tryd.prog (GE er) 11 [(.dv (.ints .u8 32 x30)), (.dv (.roI .u8 x31)), (.dv (.roI .u8 x32)), (.dv (.roI .u8 x33))] [] (match res with | (Sum.inl p0) => (.tup [(.sl k0 [] ly5 0 (List.length p0)), (.dv (.sc .nilIface))]) | (Sum.inr p0) => (.tup [(.dv (.sc (.slice none 0 0))), (errA er p0)])) (match res with | (Sum.inl p0) => [(k0, (.rowI .u8 p0))] | (Sum.inr p0) => []) := by
 refine bE er Tryd.func11 rfl rfl ((match res with | (Sum.inl p0) => [(7, k0)] | (Sum.inr p0) => [])) [(.dv (.ints .u8 32 x30)), (.dv (.roI .u8 x31)), (.dv (.roI .u8 x32)), (.dv (.roI .u8 x33))] [] (match res with | (Sum.inl p0) => [7] | (Sum.inr p0) => []) (match res with | (Sum.inl p0) => (.tup [(.sl 7 [] ly5 0 (List.length p0)), (.dv (.sc .nilIface))]) | (Sum.inr p0) => (.tup [(.dv (.sc (.slice none 0 0))), (errA er p0)])) (match res with | (Sum.inl p0) => [(.rowI .u8 p0)] | (Sum.inr p0) => []) rfl rfl (by rcases res with _ | _ <;> rfl) (by rcases res with _ | _ <;> rfl) (by rcases res with _ | _ <;> rfl) (by rcases res with _ | _ <;> rfl) (by rcases res with _ | _ <;> first | exact hn.sublist (.cons_cons _ .slnil) | exact hn.sublist (.cons _ .slnil)) 3 ?_
 replace h := (show seal_Open x30 x31 x32 x33 = _ from h)
 unfold seal_Open at h
 refine Or.inl ?_
 refine And.intro (fun hb => ?_) (fun hb => ?_)
 ·replace h := cond_t h hb
  obtain rfl := some_in h
  exact ⟨0, [], [], rfl, trivial⟩
 ·replace h := cond_f h hb
  let x34 : Bool := (decide ((IntKind.wrap .i64 ((List.length x33 : Int) - 16)) < 0))
  replace h := nm_at x34 rfl h
  refine And.intro (fun hb => ?_) (fun hb => ?_)
  ·replace h := cond_t h hb
   obtain rfl := some_in h
   exact ⟨0, [], [], rfl, trivial⟩
  ·replace h := cond_f h hb
   refine And.intro (fun hb => ?_) (fun hb => ?_)
   ·replace h := cond_t h hb
    obtain rfl := some_in h
    exact ⟨0, [], [], rfl, trivial⟩
   ·replace h := cond_f h hb
    let x35 : Bool := (decide ((IntKind.wrap .i64 ((List.length x33 : Int) - 16)) > 16384))
    replace h := nm_at x35 rfl h
    refine And.intro (fun hb => ?_) (fun hb => ?_)
    ·replace h := cond_t h hb
     obtain rfl := some_in h
     exact ⟨0, [], [], rfl, trivial⟩
    ·replace h := cond_f h hb
     obtain ⟨hg, h⟩ := gd h
     refine And.intro hg ?_
     obtain ⟨hg, h⟩ := gd h
     refine And.intro hg ?_
     refine ⟨(List.take (Int.toNat ((IntKind.wrap .i64 ((List.length x33 : Int) - 16)) - 0)) x33), by first | rfl | simp, ?_⟩
     let x36 : List Int := (List.take (Int.toNat ((IntKind.wrap .i64 ((List.length x33 : Int) - 16)) - 0)) x33)
     replace h := nm_at x36 rfl h
     obtain ⟨r59, hc59, h⟩ := bnd h
     rcases r59 with ⟨x37, x38, x39, x40, x41, x42, x43, x44, x45⟩ | ⟨x51, x52, x53, x54, x55, x56, x57, x58, x59⟩
     ·refine ⟨[], _, _, _, ⟨⟨_, seal_code_c er 1 2 3 4 5 (by decide) x30 x31 x32 x36 (Sum.inl (x37, x38, x39, x40, x41, x42, x43, x44, x45)) hc59, ⟨.inl rfl, .inl rfl, .inl rfl, .inl rfl, trivial⟩⟩, trivial, rfl⟩, ?_⟩
      refine Or.inl ?_
      refine And.intro (fun h0 => Bool.noConfusion h0) (fun _ => ?_)
      obtain ⟨hg, h⟩ := gd h
      refine And.intro hg ?_
      refine ⟨(List.take (Int.toNat ((List.length x33 : Int) - (IntKind.wrap .i64 ((List.length x33 : Int) - 16)))) (List.drop (Int.toNat (IntKind.wrap .i64 ((List.length x33 : Int) - 16))) x33)), by first | rfl | simp, ?_⟩
      let x46 : List Int := (List.take (Int.toNat ((List.length x33 : Int) - (IntKind.wrap .i64 ((List.length x33 : Int) - 16)))) (List.drop (Int.toNat (IntKind.wrap .i64 ((List.length x33 : Int) - 16))) x33))
      replace h := nm_at x46 rfl h
      obtain ⟨x47, hc50, h⟩ := bnd h
      refine ⟨[], _, _, _, ⟨⟨_, onetime_Right_c er 1 2 3 4 5 (by decide) x37 x46 x32 x38 x36 x39 x40 x41 x42 x43 x44 x45 x47 hc50, ⟨.inl rfl, .inl rfl, .inl rfl, trivial⟩⟩, ⟨⟨rfl, rfl⟩, ⟨rfl, rfl⟩, ⟨rfl, rfl⟩, ⟨rfl, rfl⟩, ⟨rfl, rfl⟩, trivial⟩, rfl⟩, ?_⟩
      refine And.intro (fun hb => ?_) (fun hb => ?_)
      ·replace h := cond_t h hb
       obtain rfl := some_in h
       exact ⟨0, [], [], rfl, trivial⟩
      ·replace h := cond_f h hb
       obtain ⟨hg, h⟩ := gd h
       refine And.intro hg ?_
       obtain ⟨hg, h⟩ := gd h
       refine And.intro hg ?_
       refine ⟨(List.take (Int.toNat ((IntKind.wrap .i64 ((List.length x33 : Int) - 16)) - 0)) x33), by first | rfl | simp, ?_⟩
       let x48 : List Int := (List.take (Int.toNat ((IntKind.wrap .i64 ((List.length x33 : Int) - 16)) - 0)) x33)
       replace h := nm_at x48 rfl h
       obtain ⟨r50, hc50, h⟩ := bnd h
       rcases r50 with x49 | x50
       ·refine ⟨[], _, _, _, ⟨⟨_, stream_Turn_c er 7 (by decide) x30 1 x31 x48 (Sum.inl x49) hc50, ⟨.inl rfl, .inl rfl, .inl rfl, .inl rfl, trivial⟩⟩, trivial, rfl⟩, ?_⟩
        refine Or.inl ?_
        obtain rfl := some_in h
        exact ⟨0, [], [], rfl, rfl, trivial⟩
       ·refine ⟨[], _, _, _, ⟨⟨_, stream_Turn_c er 7 (by decide) x30 1 x31 x48 (Sum.inr x50) hc50, ⟨.inl rfl, .inl rfl, .inl rfl, .inl rfl, trivial⟩⟩, trivial, rfl⟩, ?_⟩
        obtain rfl := some_in h
        exact ⟨0, [], [], rfl, trivial⟩
     ·refine ⟨[], _, _, _, ⟨⟨_, seal_code_c er 1 2 3 4 5 (by decide) x30 x31 x32 x36 (Sum.inr (x51, x52, x53, x54, x55, x56, x57, x58, x59)) hc59, ⟨.inl rfl, .inl rfl, .inl rfl, .inl rfl, trivial⟩⟩, trivial, rfl⟩, ?_⟩
      refine Or.inl ?_
      refine And.intro (fun _ => ?_) (fun h0 => Bool.noConfusion h0)
      obtain rfl := some_in h
      exact ⟨0, [], [], rfl, trivial⟩
theorem fl08_alive_c (res : Bool) (h : fl08_alive = some res) :
  Fn Tryd.prog (GE er) 5 [] [] (.bl res) [] := by
 refine bE er Tryd.func5 rfl rfl [] [] [] [] (.bl res) [] rfl rfl rfl rfl rfl rfl .nil 3 ?_
 replace h := (show fl08_alive = _ from h)
 unfold fl08_alive at h
 refine And.intro (by decide) ?_
 refine Or.inl ?_
 refine ⟨(List.replicate 12 (0 : Int)), rfl, 0, (List.length (List.replicate 12 (0 : Int))), ⟨rfl, List.length_replicate ..⟩, ?_⟩
 refine Or.inl ?_
 obtain ⟨r11, hc11, h⟩ := bnd h
 rcases r11 with x3 | x9
 ·refine ⟨[false, true, false, false], _, _, _, ⟨⟨_, seal_Seal_c er 1 (by decide) (List.set (List.replicate 32 (0 : Int)) 0 1) (List.replicate 12 (0 : Int)) ([] : List Int) ([] : List Int) (Sum.inl x3) hc11, ⟨.inl rfl, ve_full _ _, (.inr (.inr ⟨rfl, .inl ⟨_, rfl⟩⟩)), (.inr (.inr ⟨rfl, .inl ⟨_, rfl⟩⟩)), trivial⟩⟩, trivial, rfl⟩, ?_⟩
  refine Or.inl ?_
  refine And.intro (by decide) ?_
  refine Or.inl ?_
  refine ⟨(List.replicate 12 (0 : Int)), rfl, 0, (List.length (List.replicate 12 (0 : Int))), ⟨rfl, List.length_replicate ..⟩, ?_⟩
  refine Or.inl ?_
  refine Or.inl ?_
  refine ⟨0, (List.length [119]), ⟨rfl, rfl⟩, ?_⟩
  refine Or.inl ?_
  refine Or.inl ?_
  refine ⟨0, (List.length [116, 101, 120, 116]), ⟨rfl, rfl⟩, ?_⟩
  refine Or.inl ?_
  obtain ⟨r8, hc8, h⟩ := bnd h
  rcases r8 with x4 | x8
  ·refine ⟨[false, true, true, true], _, _, _, ⟨⟨_, seal_Seal_c er 5 (by decide) (List.set (List.replicate 32 (0 : Int)) 0 1) (List.replicate 12 (0 : Int)) [119] [116, 101, 120, 116] (Sum.inl x4) hc8, ⟨.inl rfl, ve_full _ _, ve_full _ _, ve_full _ _, trivial⟩⟩, trivial, rfl⟩, ?_⟩
   refine Or.inl ?_
   refine And.intro (fun h0 => Bool.noConfusion h0) (fun _ => ?_)
   refine And.intro (fun hb => ?_) (fun hb => ?_)
   ·replace h := cond_t h hb
    obtain rfl := some_in h
    exact ⟨0, [], [], rfl, trivial⟩
   ·replace h := cond_f h hb
    refine And.intro (fun h0 => Bool.noConfusion h0) (fun _ => ?_)
    refine And.intro (fun hb => ?_) (fun hb => ?_)
    ·replace h := cond_t h hb
     obtain rfl := some_in h
     exact ⟨0, [], [], rfl, trivial⟩
    ·replace h := cond_f h hb
     refine And.intro (by decide) ?_
     refine Or.inl ?_
     refine ⟨(List.replicate 12 (0 : Int)), rfl, 0, (List.length (List.replicate 12 (0 : Int))), ⟨rfl, List.length_replicate ..⟩, ?_⟩
     refine Or.inl ?_
     refine Or.inl ?_
     refine ⟨0, (List.length [119]), ⟨rfl, rfl⟩, ?_⟩
     refine Or.inl ?_
     obtain ⟨r7, hc7, h⟩ := bnd h
     rcases r7 with x5 | x7
     ·refine ⟨[false, true, true, true], _, _, _, ⟨⟨_, seal_Open_c er 8 (by decide) (List.set (List.replicate 32 (0 : Int)) 0 1) (List.replicate 12 (0 : Int)) [119] x4 (Sum.inl x5) hc7, ⟨.inl rfl, ve_full _ _, ve_full _ _, ve_full _ _, trivial⟩⟩, trivial, rfl⟩, ?_⟩
      refine Or.inl ?_
      refine And.intro (fun _ => ?_) (fun h0 => Bool.noConfusion h0)
      refine ⟨(List.map (fun q : Int => UInt8.ofNat q.toNat) x5), congrArg (List.map fun q : Int => UInt8.ofNat q.toNat) (cut_full x5), ?_⟩
      let x6 : Bool := ((List.map (fun q : Int => UInt8.ofNat q.toNat) x5) == [116, 101, 120, 116])
      replace h := nm_at x6 rfl h
      obtain rfl := some_in h
      exact ⟨0, [], [], rfl, trivial⟩
     ·refine ⟨[false, true, true, true], _, _, _, ⟨⟨_, seal_Open_c er 8 (by decide) (List.set (List.replicate 32 (0 : Int)) 0 1) (List.replicate 12 (0 : Int)) [119] x4 (Sum.inr x7) hc7, ⟨.inl rfl, ve_full _ _, ve_full _ _, ve_full _ _, trivial⟩⟩, trivial, rfl⟩, ?_⟩
      refine And.intro (fun h0 => Bool.noConfusion h0) (fun _ => ?_)
      obtain rfl := some_in h
      exact ⟨0, [], [], rfl, trivial⟩
  ·refine ⟨[false, true, true, true], _, _, _, ⟨⟨_, seal_Seal_c er 5 (by decide) (List.set (List.replicate 32 (0 : Int)) 0 1) (List.replicate 12 (0 : Int)) [119] [116, 101, 120, 116] (Sum.inr x8) hc8, ⟨.inl rfl, ve_full _ _, ve_full _ _, ve_full _ _, trivial⟩⟩, trivial, rfl⟩, ?_⟩
   refine And.intro (fun h0 => Bool.noConfusion h0) (fun _ => ?_)
   refine And.intro (fun hb => ?_) (fun hb => ?_)
   ·replace h := cond_t h hb
    obtain rfl := some_in h
    exact ⟨0, [], [], rfl, trivial⟩
   ·replace h := cond_f h hb
    refine And.intro (fun _ => ?_) (fun h0 => Bool.noConfusion h0)
    obtain rfl := some_in h
    exact ⟨0, [], [], rfl, trivial⟩
 ·refine ⟨[false, true, false, false], _, _, _, ⟨⟨_, seal_Seal_c er 1 (by decide) (List.set (List.replicate 32 (0 : Int)) 0 1) (List.replicate 12 (0 : Int)) ([] : List Int) ([] : List Int) (Sum.inr x9) hc11, ⟨.inl rfl, ve_full _ _, (.inr (.inr ⟨rfl, .inl ⟨_, rfl⟩⟩)), (.inr (.inr ⟨rfl, .inl ⟨_, rfl⟩⟩)), trivial⟩⟩, trivial, rfl⟩, ?_⟩
  refine And.intro (by decide) ?_
  refine Or.inl ?_
  refine ⟨(List.replicate 12 (0 : Int)), rfl, 0, (List.length (List.replicate 12 (0 : Int))), ⟨rfl, List.length_replicate ..⟩, ?_⟩
  refine Or.inl ?_
  refine Or.inl ?_
  refine ⟨0, (List.length [119]), ⟨rfl, rfl⟩, ?_⟩
  refine Or.inl ?_
  refine Or.inl ?_
  refine ⟨0, (List.length [116, 101, 120, 116]), ⟨rfl, rfl⟩, ?_⟩
  refine Or.inl ?_
  obtain ⟨r11, hc11, h⟩ := bnd h
  rcases r11 with x10 | x11
  ·refine ⟨[false, true, true, true], _, _, _, ⟨⟨_, seal_Seal_c er 4 (by decide) (List.set (List.replicate 32 (0 : Int)) 0 1) (List.replicate 12 (0 : Int)) [119] [116, 101, 120, 116] (Sum.inl x10) hc11, ⟨.inl rfl, ve_full _ _, ve_full _ _, ve_full _ _, trivial⟩⟩, trivial, rfl⟩, ?_⟩
   refine Or.inl ?_
   refine And.intro (fun _ => ?_) (fun h0 => Bool.noConfusion h0)
   obtain rfl := some_in h
   exact ⟨0, [], [], rfl, trivial⟩
  ·refine ⟨[false, true, true, true], _, _, _, ⟨⟨_, seal_Seal_c er 4 (by decide) (List.set (List.replicate 32 (0 : Int)) 0 1) (List.replicate 12 (0 : Int)) [119] [116, 101, 120, 116] (Sum.inr x11) hc11, ⟨.inl rfl, ve_full _ _, ve_full _ _, ve_full _ _, trivial⟩⟩, trivial, rfl⟩, ?_⟩
   refine And.intro (fun _ => ?_) (fun h0 => Bool.noConfusion h0)
   obtain rfl := some_in h
   exact ⟨0, [], [], rfl, trivial⟩
theorem fnum_Bytes_c (k0 : Nat) (hn : [k0].Nodup) (x13 : List Int) (res : Nat × (List Int)) (h : fnum_Bytes x13 = some res) :
  Fn Tryd.prog (GE er) 6 [(.dv (.roI .u8 x13))] [] (.slc k0 (0 + 0) (Int.toNat ((List.length x13 : Int) - 0)) res.1) [(k0, (.rowI .u8 res.2))] := by
 refine bE er Tryd.func6 rfl rfl [(3, k0)] [(.dv (.roI .u8 x13))] [] [3] (.slc 3 (0 + 0) (Int.toNat ((List.length x13 : Int) - 0)) res.1) [(.rowI .u8 res.2)] rfl rfl rfl rfl rfl rfl hn 3 ?_
 replace h := (show fnum_Bytes x13 = _ from h)
 unfold fnum_Bytes at h
 obtain ⟨hg, h⟩ := gd h
 refine And.intro hg ?_
 obtain ⟨hg2, h⟩ := gd h
 refine Or.inr ⟨hg2, ?_⟩
 refine ⟨(List.replicate 0 (0 : Int)), rfl, ?_⟩
 let x14 : Nat := (Int.toNat (IntKind.wrap .i64 ((List.length x13 : Int) + 6)))
 replace h := nm_at x14 rfl h
 obtain ⟨hg, h⟩ := gd h
 refine And.intro hg ?_
 refine ⟨((List.take 0 (List.replicate 0 (0 : Int))) ++ x13), rfl, ?_⟩
 refine Or.inl ?_
 obtain ⟨hg, h⟩ := gd h
 refine And.intro hg ?_
 refine ⟨((List.take (0 + (List.length x13)) ((List.take 0 (List.replicate 0 (0 : Int))) ++ x13)) ++ (List.take (List.length [201, 202, 203, 204, 205, 206]) [201, 202, 203, 204, 205, 206])), rfl, ?_⟩
 let x15 : List Int := ((List.take (0 + (List.length x13)) ((List.take 0 (List.replicate 0 (0 : Int))) ++ x13)) ++ (List.take (List.length [201, 202, 203, 204, 205, 206]) [201, 202, 203, 204, 205, 206]))
 replace h := nm_at x15 rfl h
 let x16 : Nat := ((0 + (List.length x13)) + (List.length (List.take (List.length [201, 202, 203, 204, 205, 206]) [201, 202, 203, 204, 205, 206])))
 replace h := nm_at x16 rfl h
 obtain ⟨hg, h⟩ := gd h
 refine And.intro hg ?_
 obtain ⟨hg, h⟩ := gd h
 refine And.intro hg ?_
 obtain ⟨hg, h⟩ := gd h
 refine And.intro hg ?_
 refine Or.inr ?_
 obtain rfl := some_in h
 exact ⟨0, [], [], rfl, rfl, trivial⟩
theorem fr06_word_c (x31 : List Int) (x32 : Int) (res : Int) (h : fr06_word x31 x32 = some res) :
  Fn Tryd.prog (GE er) 46 [(.dv (.roI .u8 x31)), (.int .i64 x32)] [] (.int .u32 res) [] := by
 refine bE er Tryd.func46 rfl rfl [] [(.dv (.roI .u8 x31)), (.int .i64 x32)] [] [] (.int .u32 res) [] rfl rfl rfl rfl rfl rfl .nil 3 ?_
 replace h := (show fr06_word x31 x32 = _ from h)
 unfold fr06_word at h
 obtain ⟨hg, h⟩ := gd h
 refine And.intro hg ?_
 let x33 : Int := (IntKind.wrap .u32 (List.getD x31 (Int.toNat (IntKind.wrap .i64 (4 * x32))) 0))
 replace h := nm_at x33 rfl h
 obtain ⟨hg, h⟩ := gd h
 refine And.intro hg ?_
 let x34 : Int := (List.getD x31 (Int.toNat (IntKind.wrap .i64 ((IntKind.wrap .i64 (4 * x32)) + 1))) 0)
 replace h := nm_at x34 rfl h
 let x35 : Int := (IntKind.wrap .u32 (x33 + (IntKind.wrap .u32 (256 * (IntKind.wrap .u32 x34)))))
 replace h := nm_at x35 rfl h
 obtain ⟨hg, h⟩ := gd h
 refine And.intro hg ?_
 let x36 : Int := (List.getD x31 (Int.toNat (IntKind.wrap .i64 ((IntKind.wrap .i64 (4 * x32)) + 2))) 0)
 replace h := nm_at x36 rfl h
 let x37 : Int := (IntKind.wrap .u32 (x35 + (IntKind.wrap .u32 (65536 * (IntKind.wrap .u32 x36)))))
 replace h := nm_at x37 rfl h
 obtain ⟨hg, h⟩ := gd h
 refine And.intro hg ?_
 let x38 : Int := (List.getD x31 (Int.toNat (IntKind.wrap .i64 ((IntKind.wrap .i64 (4 * x32)) + 3))) 0)
 replace h := nm_at x38 rfl h
 let x39 : Int := (IntKind.wrap .u32 (x37 + (IntKind.wrap .u32 (16777216 * (IntKind.wrap .u32 x38)))))
 replace h := nm_at x39 rfl h
 obtain rfl := some_in h
 exact ⟨0, [], [], rfl, trivial⟩
theorem fr06_turn_c (x48 : Int) (x49 : Int) (res : Int) (h : fr06_turn x48 x49 = some res) :
  Fn Tryd.prog (GE er) 54 [(.int .u32 x48), (.int .u64 x49)] [] (.int .u32 res) [] := by
 refine bE er Tryd.func54 rfl rfl [] [(.int .u32 x48), (.int .u64 x49)] [] [] (.int .u32 res) [] rfl rfl rfl rfl rfl rfl .nil 3 ?_
 replace h := (show fr06_turn x48 x49 = _ from h)
 unfold fr06_turn at h
 obtain ⟨hg, h⟩ := gd h
 refine And.intro hg ?_
 let x50 : Int := (IntKind.wrap .u32 (x48 * 2 ^ (min (Int.toNat x49) (IntKind.bits .u32))))
 replace h := nm_at x50 rfl h
 obtain ⟨hg, h⟩ := gd h
 refine And.intro hg ?_
 let x51 : Int := (Int.fdiv x48 (2 ^ (min (Int.toNat (IntKind.wrap .u64 (32 - x49))) (IntKind.bits .u32))))
 replace h := nm_at x51 rfl h
 obtain rfl := some_in h
 exact ⟨0, [], [], rfl, trivial⟩
theorem fr06_Quarter_3_c (b0 : Nat) (hn : [b0].Nodup) (x66 : Nat) (x67 : Int) (x68 : Int) (x69 : Int) (x70 : Int) (x71 : List Int) (res : (List Int)) (h : fr06_Quarter_3 x66 x67 x68 x69 x70 x71 = some res) :
  Fn Tryd.prog (GE er) 47 [(.sl b0 [] ly39 0 x66), (.int .i64 x67), (.int .i64 x68), (.int .i64 x69), (.int .i64 x70)] [(b0, (.rowI .u32 x71))] (.tup []) [(b0, (.rowI .u32 res))] := by
 refine bE er Tryd.func47 rfl rfl [(0, b0)] [(.sl 0 [] ly39 0 x66), (.int .i64 x67), (.int .i64 x68), (.int .i64 x69), (.int .i64 x70)] [(.rowI .u32 x71)] [] (.tup []) [(.rowI .u32 res)] rfl rfl rfl rfl rfl rfl hn 3 ?_
 replace h := (show fr06_Quarter_3 x66 x67 x68 x69 x70 x71 = _ from h)
 unfold fr06_Quarter_3 at h
 obtain ⟨hg, h⟩ := gd h
 refine And.intro hg ?_
 obtain ⟨hg, h⟩ := gd h
 refine And.intro hg ?_
 let x72 : Int := (IntKind.wrap .u32 ((List.getD x71 (Int.toNat x67) 0) + (List.getD x71 (Int.toNat x68) 0)))
 replace h := nm_at x72 rfl h
 obtain ⟨hg, h⟩ := gd h
 refine And.intro hg ?_
 obtain ⟨hg, h⟩ := gd h
 refine And.intro hg ?_
 let x73 : Int := (List.getD (List.set x71 (Int.toNat x67) x72) (Int.toNat x70) 0)
 replace h := nm_at x73 rfl h
 obtain ⟨hg, h⟩ := gd h
 refine And.intro hg ?_
 let x74 : Int := (List.getD (List.set x71 (Int.toNat x67) x72) (Int.toNat x67) 0)
 replace h := nm_at x74 rfl h
 obtain ⟨x75, hc91, h⟩ := bnd h
 refine ⟨[], _, _, _, ⟨⟨_, fr06_turn_c er (bits .u32 .xor x73 x74) 16 x75 hc91, ⟨.inl rfl, .inl rfl, trivial⟩⟩, trivial, rfl⟩, ?_⟩
 obtain ⟨hg, h⟩ := gd h
 refine And.intro hg ?_
 let x76 : List Int := (List.set (List.set x71 (Int.toNat x67) x72) (Int.toNat x70) x75)
 replace h := nm_at x76 rfl h
 obtain ⟨hg, h⟩ := gd h
 refine And.intro hg ?_
 obtain ⟨hg, h⟩ := gd h
 refine And.intro hg ?_
 let x77 : Int := (IntKind.wrap .u32 ((List.getD x76 (Int.toNat x69) 0) + (List.getD x76 (Int.toNat x70) 0)))
 replace h := nm_at x77 rfl h
 obtain ⟨hg, h⟩ := gd h
 refine And.intro hg ?_
 obtain ⟨hg, h⟩ := gd h
 refine And.intro hg ?_
 let x78 : Int := (List.getD (List.set x76 (Int.toNat x69) x77) (Int.toNat x68) 0)
 replace h := nm_at x78 rfl h
 obtain ⟨hg, h⟩ := gd h
 refine And.intro hg ?_
 let x79 : Int := (List.getD (List.set x76 (Int.toNat x69) x77) (Int.toNat x69) 0)
 replace h := nm_at x79 rfl h
 obtain ⟨x80, hc91, h⟩ := bnd h
 refine ⟨[], _, _, _, ⟨⟨_, fr06_turn_c er (bits .u32 .xor x78 x79) 12 x80 hc91, ⟨.inl rfl, .inl rfl, trivial⟩⟩, trivial, rfl⟩, ?_⟩
 obtain ⟨hg, h⟩ := gd h
 refine And.intro hg ?_
 let x81 : List Int := (List.set (List.set x76 (Int.toNat x69) x77) (Int.toNat x68) x80)
 replace h := nm_at x81 rfl h
 obtain ⟨hg, h⟩ := gd h
 refine And.intro hg ?_
 obtain ⟨hg, h⟩ := gd h
 refine And.intro hg ?_
 let x82 : Int := (IntKind.wrap .u32 ((List.getD x81 (Int.toNat x67) 0) + (List.getD x81 (Int.toNat x68) 0)))
 replace h := nm_at x82 rfl h
 obtain ⟨hg, h⟩ := gd h
 refine And.intro hg ?_
 obtain ⟨hg, h⟩ := gd h
 refine And.intro hg ?_
 let x83 : Int := (List.getD (List.set x81 (Int.toNat x67) x82) (Int.toNat x70) 0)
 replace h := nm_at x83 rfl h
 obtain ⟨hg, h⟩ := gd h
 refine And.intro hg ?_
 let x84 : Int := (List.getD (List.set x81 (Int.toNat x67) x82) (Int.toNat x67) 0)
 replace h := nm_at x84 rfl h
 obtain ⟨x85, hc91, h⟩ := bnd h
 refine ⟨[], _, _, _, ⟨⟨_, fr06_turn_c er (bits .u32 .xor x83 x84) 8 x85 hc91, ⟨.inl rfl, .inl rfl, trivial⟩⟩, trivial, rfl⟩, ?_⟩
 obtain ⟨hg, h⟩ := gd h
 refine And.intro hg ?_
 let x86 : List Int := (List.set (List.set x81 (Int.toNat x67) x82) (Int.toNat x70) x85)
 replace h := nm_at x86 rfl h
 obtain ⟨hg, h⟩ := gd h
 refine And.intro hg ?_
 obtain ⟨hg, h⟩ := gd h
 refine And.intro hg ?_
 let x87 : Int := (IntKind.wrap .u32 ((List.getD x86 (Int.toNat x69) 0) + (List.getD x86 (Int.toNat x70) 0)))
 replace h := nm_at x87 rfl h
 obtain ⟨hg, h⟩ := gd h
 refine And.intro hg ?_
 obtain ⟨hg, h⟩ := gd h
 refine And.intro hg ?_
 let x88 : Int := (List.getD (List.set x86 (Int.toNat x69) x87) (Int.toNat x68) 0)
 replace h := nm_at x88 rfl h
 obtain ⟨hg, h⟩ := gd h
 refine And.intro hg ?_
 let x89 : Int := (List.getD (List.set x86 (Int.toNat x69) x87) (Int.toNat x69) 0)
 replace h := nm_at x89 rfl h
 obtain ⟨x90, hc91, h⟩ := bnd h
 refine ⟨[], _, _, _, ⟨⟨_, fr06_turn_c er (bits .u32 .xor x88 x89) 7 x90 hc91, ⟨.inl rfl, .inl rfl, trivial⟩⟩, trivial, rfl⟩, ?_⟩
 obtain ⟨hg, h⟩ := gd h
 refine And.intro hg ?_
 let x91 : List Int := (List.set (List.set x86 (Int.toNat x69) x87) (Int.toNat x68) x90)
 replace h := nm_at x91 rfl h
 obtain rfl := some_in h
 exact ⟨0, [], [], rfl, rfl, trivial⟩
theorem fr06_Block_c (k0 : Nat) (hn : [k0].Nodup) (x28 : List Int) (x29 : Int) (x30 : List Int) (res : (List Int)) (h : fr06_Block x28 x29 x30 = some res) :
  Fn Tryd.prog (GE er) 32 [(.dv (.ints .u8 32 x28)), (.int .u32 x29), (.dv (.roI .u8 x30))] [] (.sl k0 [] ly5 0 (List.length res)) [(k0, (.rowI .u8 res))] := by
 refine bE er Tryd.func32 rfl rfl [(6, k0)] [(.dv (.ints .u8 32 x28)), (.int .u32 x29), (.dv (.roI .u8 x30))] [] [6] (.sl 6 [] ly5 0 (List.length res)) [(.rowI .u8 res)] rfl rfl rfl rfl rfl rfl hn 3 ?_
 replace h := (show fr06_Block x28 x29 x30 = _ from h)
 unfold fr06_Block at h
 refine Or.inl ?_
 obtain ⟨r1_0_31, hl1_31, hr1_31⟩ := bnd h
 refine Or.inr ⟨[3, 14], {p : (List Int) // p = r1_0_31}, ⟨fun | ⟨x31, _⟩ => [(7, (.sl 1 [] ly39 0 (List.length x31)))], fun | ⟨x31, _⟩ => [(1, (.rowI .u32 x31))], fun _ => 0⟩, 0, ?_, ?_⟩
 ·rintro ⟨x31, hp⟩
  subst hp
  replace h := hr1_31
  obtain ⟨x35, hc53, h⟩ := bnd h
  refine ⟨[], _, _, _, ⟨⟨_, fr06_word_c er x30 0 x35 hc53, ⟨.inl rfl, .inl rfl, trivial⟩⟩, trivial, rfl⟩, ?_⟩
  obtain ⟨x36, hc53, h⟩ := bnd h
  refine ⟨[], _, _, _, ⟨⟨_, fr06_word_c er x30 1 x36 hc53, ⟨.inl rfl, .inl rfl, trivial⟩⟩, trivial, rfl⟩, ?_⟩
  obtain ⟨x37, hc53, h⟩ := bnd h
  refine ⟨[], _, _, _, ⟨⟨_, fr06_word_c er x30 2 x37 hc53, ⟨.inl rfl, .inl rfl, trivial⟩⟩, trivial, rfl⟩, ?_⟩
  refine Or.inl ?_
  obtain ⟨hg, h⟩ := gd h
  refine And.intro (le_of_ln2 (ln_full [x29, x35, x36, x37]) hg) ?_
  refine ⟨(x31 ++ [x29, x35, x36, x37]), app_cut (cut_full _) (cut_full [x29, x35, x36, x37]), 0, (List.length (x31 ++ [x29, x35, x36, x37])), ⟨rfl, app_ln (ln_full [x29, x35, x36, x37])⟩, ?_⟩
  refine Or.inl ?_
  refine Or.inl ?_
  obtain ⟨hg, h⟩ := gd h
  refine And.intro (le_of_ln2 (ln_full (x31 ++ [x29, x35, x36, x37])) hg) ?_
  refine ⟨(([] : List Int) ++ (x31 ++ [x29, x35, x36, x37])), app_cut (cut_full _) (cut_full (x31 ++ [x29, x35, x36, x37])), 0, (List.length (([] : List Int) ++ (x31 ++ [x29, x35, x36, x37]))), ⟨rfl, app_ln (ln_full (x31 ++ [x29, x35, x36, x37]))⟩, ?_⟩
  refine Or.inl ?_
  obtain ⟨r2_1_38, hl2_38, hr2_38⟩ := bnd h
  refine Or.inr ⟨[], {p : (List Int) // p = r2_1_38}, ⟨fun | ⟨x38, _⟩ => [], fun | ⟨x38, _⟩ => [(5, (.rowI .u32 x38))], fun _ => 0⟩, 0, ?_, ?_⟩
  ·rintro ⟨x38, hp⟩
   subst hp
   replace h := hr2_38
   refine Or.inl ?_
   obtain ⟨r3_2_49, hl3_49, hr3_49⟩ := bnd h
   refine Or.inr ⟨[58], {p : (List Int) // p = r3_2_49}, ⟨fun | ⟨x49, _⟩ => [(11, (.sl 6 [] ly5 0 (List.length x49)))], fun | ⟨x49, _⟩ => [(6, (.rowI .u8 x49))], fun _ => 0⟩, 0, ?_, ?_⟩
   ·rintro ⟨x49, hp⟩
    subst hp
    replace h := hr3_49
    obtain rfl := some_in h
    exact ⟨0, [], [], rfl, rfl, trivial⟩
   ·replace h := hl3_49
    refine Or.inl ?_
    refine ⟨[58], {x : Nat × Int × (List Int) // fr06_Block_l3 x29 x31 x35 x36 x37 x38 x.1 x.2.1 x.2.2 = some r3_2_49}, ⟨fun | ⟨(n3, x50, x51), _⟩ => [(11, (.sl 6 [] ly5 0 (List.length x51))), (12, (.int .i64 x50))], fun | ⟨(n3, x50, x51), _⟩ => [(6, (.rowI .u8 x51))], fun | ⟨(n3, x50, x51), _⟩ => n3⟩, [], [], ⟨(FUEL, 0, ([] : List Int)), h⟩, ⟨rfl, ⟨rfl, rfl, trivial⟩, ⟨rfl, trivial, rfl, rfl, trivial, rfl, rfl, trivial⟩, rfl⟩, ?_⟩
    rintro ⟨⟨n3, x50, x51⟩, h⟩
    cases n3 with
    | zero => exact no_none h
    | succ n3 =>
     replace h := (show fr06_Block_l3 x29 x31 x35 x36 x37 x38 (n3 + 1) x50 x51 = _ from h)
     replace h := (fr06_Block_l3.eq_2 .. ).symm.trans h
     refine And.intro (fun hb => ?_) (fun hb => ?_)
     ·replace h := cond_t h hb
      refine Or.inl ?_
      obtain ⟨hg, h⟩ := gd h
      refine And.intro hg ?_
      obtain ⟨hg, h⟩ := gd h
      refine And.intro hg ?_
      let x52 : Int := (IntKind.wrap .u32 ((List.getD x38 (Int.toNat x50) 0) + (List.getD (x31 ++ [x29, x35, x36, x37]) (Int.toNat x50) 0)))
      replace h := nm_at x52 rfl h
      refine And.intro (by decide) ?_
      refine And.intro (by decide) ?_
      refine And.intro (by decide) ?_
      refine Or.inl ?_
      let x53 : List Int := [(IntKind.wrap .u8 x52), (IntKind.wrap .u8 (Int.fdiv x52 (2 ^ 8))), (IntKind.wrap .u8 (Int.fdiv x52 (2 ^ 16))), (IntKind.wrap .u8 (Int.fdiv x52 (2 ^ 24)))]
      replace h := nm_at x53 rfl h
      obtain ⟨hg, h⟩ := gd h
      refine And.intro (le_of_ln2 (ln_full x53) hg) ?_
      refine ⟨(x51 ++ x53), app_cut (cut_full _) (cut_full x53), 0, (List.length (x51 ++ x53)), ⟨rfl, app_ln (ln_full x53)⟩, ?_⟩
      refine Or.inl ?_
      exact ⟨⟨(n3, (IntKind.wrap .i64 (x50 + 1)), (x51 ++ x53)), h⟩, [(6, 8)], ⟨rfl, ⟨rfl, rfl, trivial⟩, ⟨rfl, trivial, rfl, rfl, trivial, rfl, rfl, trivial⟩, rfl⟩, Nat.lt_succ_self _⟩
     ·replace h := cond_f h hb
      exact ⟨[], [], ⟨x51, some_in h⟩, [], rfl, ⟨rfl, trivial⟩, ⟨rfl, trivial, rfl, rfl, trivial, rfl, rfl, trivial⟩, rfl⟩
  ·replace h := hl2_38
   refine Or.inl ?_
   refine ⟨[], {x : Nat × Int × (List Int) // fr06_Block_l2 x29 x31 x35 x36 x37 x.1 x.2.1 x.2.2 = some r2_1_38}, ⟨fun | ⟨(n2, x39, x40), _⟩ => [(10, (.int .i64 x39))], fun | ⟨(n2, x39, x40), _⟩ => [(5, (.rowI .u32 x40))], fun | ⟨(n2, x39, x40), _⟩ => n2⟩, [], [], ⟨(FUEL, 0, (([] : List Int) ++ (x31 ++ [x29, x35, x36, x37]))), h⟩, ⟨rfl, ⟨rfl, trivial⟩, ⟨rfl, trivial, rfl, rfl, trivial, rfl, trivial⟩, rfl⟩, ?_⟩
   rintro ⟨⟨n2, x39, x40⟩, h⟩
   cases n2 with
   | zero => exact no_none h
   | succ n2 =>
    replace h := (show fr06_Block_l2 x29 x31 x35 x36 x37 (n2 + 1) x39 x40 = _ from h)
    replace h := (fr06_Block_l2.eq_2 .. ).symm.trans h
    refine And.intro (fun hb => ?_) (fun hb => ?_)
    ·replace h := cond_t h hb
     refine Or.inl ?_
     obtain ⟨x41, hc48, h⟩ := bnd h
     refine ⟨[], _, _, _, ⟨⟨_, fr06_Quarter_3_c er 5 (by decide) (List.length (([] : List Int) ++ (x31 ++ [x29, x35, x36, x37]))) 0 4 8 12 x40 x41 hc48, ⟨.inl rfl, .inl rfl, .inl rfl, .inl rfl, .inl rfl, trivial⟩⟩, ⟨⟨rfl, rfl⟩, trivial⟩, rfl⟩, ?_⟩
     obtain ⟨x42, hc48, h⟩ := bnd h
     refine ⟨[], _, _, _, ⟨⟨_, fr06_Quarter_3_c er 5 (by decide) (List.length (([] : List Int) ++ (x31 ++ [x29, x35, x36, x37]))) 1 5 9 13 x41 x42 hc48, ⟨.inl rfl, .inl rfl, .inl rfl, .inl rfl, .inl rfl, trivial⟩⟩, ⟨⟨rfl, rfl⟩, trivial⟩, rfl⟩, ?_⟩
     obtain ⟨x43, hc48, h⟩ := bnd h
     refine ⟨[], _, _, _, ⟨⟨_, fr06_Quarter_3_c er 5 (by decide) (List.length (([] : List Int) ++ (x31 ++ [x29, x35, x36, x37]))) 2 6 10 14 x42 x43 hc48, ⟨.inl rfl, .inl rfl, .inl rfl, .inl rfl, .inl rfl, trivial⟩⟩, ⟨⟨rfl, rfl⟩, trivial⟩, rfl⟩, ?_⟩
     obtain ⟨x44, hc48, h⟩ := bnd h
     refine ⟨[], _, _, _, ⟨⟨_, fr06_Quarter_3_c er 5 (by decide) (List.length (([] : List Int) ++ (x31 ++ [x29, x35, x36, x37]))) 3 7 11 15 x43 x44 hc48, ⟨.inl rfl, .inl rfl, .inl rfl, .inl rfl, .inl rfl, trivial⟩⟩, ⟨⟨rfl, rfl⟩, trivial⟩, rfl⟩, ?_⟩
     obtain ⟨x45, hc48, h⟩ := bnd h
     refine ⟨[], _, _, _, ⟨⟨_, fr06_Quarter_3_c er 5 (by decide) (List.length (([] : List Int) ++ (x31 ++ [x29, x35, x36, x37]))) 0 5 10 15 x44 x45 hc48, ⟨.inl rfl, .inl rfl, .inl rfl, .inl rfl, .inl rfl, trivial⟩⟩, ⟨⟨rfl, rfl⟩, trivial⟩, rfl⟩, ?_⟩
     obtain ⟨x46, hc48, h⟩ := bnd h
     refine ⟨[], _, _, _, ⟨⟨_, fr06_Quarter_3_c er 5 (by decide) (List.length (([] : List Int) ++ (x31 ++ [x29, x35, x36, x37]))) 1 6 11 12 x45 x46 hc48, ⟨.inl rfl, .inl rfl, .inl rfl, .inl rfl, .inl rfl, trivial⟩⟩, ⟨⟨rfl, rfl⟩, trivial⟩, rfl⟩, ?_⟩
     obtain ⟨x47, hc48, h⟩ := bnd h
     refine ⟨[], _, _, _, ⟨⟨_, fr06_Quarter_3_c er 5 (by decide) (List.length (([] : List Int) ++ (x31 ++ [x29, x35, x36, x37]))) 2 7 8 13 x46 x47 hc48, ⟨.inl rfl, .inl rfl, .inl rfl, .inl rfl, .inl rfl, trivial⟩⟩, ⟨⟨rfl, rfl⟩, trivial⟩, rfl⟩, ?_⟩
     obtain ⟨x48, hc48, h⟩ := bnd h
     refine ⟨[], _, _, _, ⟨⟨_, fr06_Quarter_3_c er 5 (by decide) (List.length (([] : List Int) ++ (x31 ++ [x29, x35, x36, x37]))) 3 4 9 14 x47 x48 hc48, ⟨.inl rfl, .inl rfl, .inl rfl, .inl rfl, .inl rfl, trivial⟩⟩, ⟨⟨rfl, rfl⟩, trivial⟩, rfl⟩, ?_⟩
     exact ⟨⟨(n2, (IntKind.wrap .i64 (x39 + 1)), x48), h⟩, [], ⟨rfl, ⟨rfl, trivial⟩, ⟨rfl, trivial, rfl, rfl, trivial, rfl, trivial⟩, rfl⟩, Nat.lt_succ_self _⟩
    ·replace h := cond_f h hb
     exact ⟨[], [], ⟨x40, some_in h⟩, [], rfl, trivial, ⟨rfl, trivial, rfl, rfl, trivial, rfl, trivial⟩, rfl⟩
 ·replace h := hl1_31
  refine Or.inl ?_
  refine ⟨[14], {x : Nat × Int × (List Int) // fr06_Block_l1 x28 x.1 x.2.1 x.2.2 = some r1_0_31}, ⟨fun | ⟨(n1, x32, x33), _⟩ => [(7, (.sl 1 [] ly39 0 (List.length x33))), (8, (.int .i64 x32))], fun | ⟨(n1, x32, x33), _⟩ => [(1, (.rowI .u32 x33))], fun | ⟨(n1, x32, x33), _⟩ => n1⟩, [], [], ⟨(FUEL, 0, [1634760805, 857760878, 2036477234, 1797285236]), h⟩, ⟨rfl, ⟨rfl, rfl, trivial⟩, ⟨rfl, rfl, trivial⟩, rfl⟩, ?_⟩
  rintro ⟨⟨n1, x32, x33⟩, h⟩
  cases n1 with
  | zero => exact no_none h
  | succ n1 =>
   replace h := (show fr06_Block_l1 x28 (n1 + 1) x32 x33 = _ from h)
   replace h := (fr06_Block_l1.eq_2 .. ).symm.trans h
   refine And.intro (fun hb => ?_) (fun hb => ?_)
   ·replace h := cond_t h hb
    refine Or.inl ?_
    refine Or.inl ?_
    refine And.intro (by omega) ?_
    refine ⟨0, 32, ⟨rfl, rfl⟩, ?_⟩
    obtain ⟨x34, hc34, h⟩ := bnd h
    refine ⟨[true, false], _, _, _, ⟨⟨_, fr06_word_c er (List.take 32 x28) x32 x34 hc34, ⟨.inl rfl, .inl rfl, trivial⟩⟩, trivial, rfl⟩, ?_⟩
    refine Or.inl ?_
    obtain ⟨hg, h⟩ := gd h
    refine And.intro (le_of_ln2 (ln_full [x34]) hg) ?_
    refine ⟨(x33 ++ [x34]), app_cut (cut_full _) (cut_full [x34]), 0, (List.length (x33 ++ [x34])), ⟨rfl, app_ln (ln_full [x34])⟩, ?_⟩
    refine Or.inl ?_
    exact ⟨⟨(n1, (IntKind.wrap .i64 (x32 + 1)), (x33 ++ [x34])), h⟩, [(1, 3)], ⟨rfl, ⟨rfl, rfl, trivial⟩, ⟨rfl, rfl, trivial⟩, rfl⟩, Nat.lt_succ_self _⟩
   ·replace h := cond_f h hb
    exact ⟨[], [], ⟨x33, some_in h⟩, [], rfl, ⟨rfl, trivial⟩, ⟨rfl, rfl, trivial⟩, rfl⟩
theorem fr06_Turn_c (k0 : Nat) (hn : [k0].Nodup) (x24 : List Int) (x25 : Int) (x26 : List Int) (x27 : List Int) (res : (List Int)) (h : fr06_Turn x24 x25 x26 x27 = some res) :
  Fn Tryd.prog (GE er) 16 [(.dv (.ints .u8 32 x24)), (.int .u32 x25), (.dv (.roI .u8 x26)), (.dv (.roI .u8 x27))] [] (.sl k0 [] ly5 0 (List.length res)) [(k0, (.rowI .u8 res))] := by
 refine bE er Tryd.func16 rfl rfl [(1, k0)] [(.dv (.ints .u8 32 x24)), (.int .u32 x25), (.dv (.roI .u8 x26)), (.dv (.roI .u8 x27))] [] [1] (.sl 1 [] ly5 0 (List.length res)) [(.rowI .u8 res)] rfl rfl rfl rfl rfl rfl hn 3 ?_
 replace h := (show fr06_Turn x24 x25 x26 x27 = _ from h)
 unfold fr06_Turn at h
 refine Or.inl ?_
 refine Or.inl ?_
 obtain ⟨r1_0_29, hl1_29, hr1_29⟩ := bnd h
 refine Or.inr ⟨[1, 2, 4, 13, 14, 16], (({p : Unit // (Sum.inl p) = r1_0_29}) ⊕ (({p : Unit // (Sum.inr (Sum.inl p)) = r1_0_29}) ⊕ ({p : (List Int) × (List Int) // (Sum.inr (Sum.inr p)) = r1_0_29}))), ⟨fun | (Sum.inl (⟨(), _⟩)) => [(9, (.sl 1 [] ly5 0 (List.length ([] : List Int)))), (13, (.sl 1 [] ly5 0 (List.length ([] : List Int)))), (14, (.sl 2 [] ly5 0 (List.length ([] : List Int))))] | (Sum.inr (Sum.inl (⟨(), _⟩))) => [(9, (.sl 1 [] ly5 0 (List.length ([] : List Int)))), (14, (.sl 2 [] ly5 0 (List.length ([] : List Int))))] | (Sum.inr (Sum.inr (⟨(x28, x29), _⟩))) => [(9, (.sl 1 [] ly5 0 (List.length x28)))], fun | (Sum.inl (⟨(), _⟩)) => [] | (Sum.inr (Sum.inl (⟨(), _⟩))) => [] | (Sum.inr (Sum.inr (⟨(x28, x29), _⟩))) => [(1, (.rowI .u8 x28)), (2, (.rowI .u8 x29))], fun _ => 0⟩, 0, ?_, ?_⟩
 ·rintro (⟨⟨⟩, hp⟩ | ⟨⟨⟩, hp⟩ | ⟨⟨x28, x29⟩, hp⟩)
  ·subst hp
   replace h := hr1_29
   obtain rfl := some_in h
   exact ⟨0, [], [], rfl, rfl, trivial⟩
  ·subst hp
   replace h := hr1_29
   obtain rfl := some_in h
   exact ⟨0, [], [], rfl, rfl, trivial⟩
  ·subst hp
   replace h := hr1_29
   obtain rfl := some_in h
   exact ⟨0, [], [], rfl, rfl, trivial⟩
 ·replace h := hl1_29
  refine Or.inl ?_
  refine ⟨[13, 14], {x : Nat × Int × (List Int) × (List Int) // fr06_Turn_l1 x24 x25 x26 x27 x.1 x.2.1 x.2.2.1 x.2.2.2 = some r1_0_29}, ⟨fun | ⟨(n1, x30, x31, x32), _⟩ => [(9, (.sl 1 [] ly5 0 (List.length x31))), (10, (.sl 2 [] ly5 0 (List.length x32))), (17, (.int .i64 x30))], fun | ⟨(n1, x30, x31, x32), _⟩ => [(1, (.rowI .u8 x31)), (2, (.rowI .u8 x32))], fun | ⟨(n1, x30, x31, x32), _⟩ => n1⟩, [], [], ⟨(FUEL, 0, ([] : List Int), ([] : List Int)), h⟩, ⟨rfl, ⟨rfl, rfl, rfl, trivial⟩, ⟨rfl, rfl, rfl, trivial⟩, rfl⟩, ?_⟩
  rintro ⟨⟨n1, x30, x31, x32⟩, h⟩
  cases n1 with
  | zero => exact no_none h
  | succ n1 =>
   replace h := (show fr06_Turn_l1 x24 x25 x26 x27 (n1 + 1) x30 x31 x32 = _ from h)
   replace h := (fr06_Turn_l1.eq_2 .. ).symm.trans h
   refine And.intro (fun hb => ?_) (fun hb => ?_)
   ·replace h := cond_t h hb
    obtain ⟨r2_0_35, hl2_35, hr2_35⟩ := bnd h
    refine Or.inr ⟨[], (({p : (List Int) × (List Int) // (Sum.inl p) = r2_0_35}) ⊕ ({p : (List Int) // (Sum.inr p) = r2_0_35})), ⟨fun | (Sum.inl (⟨(x33, x34), _⟩)) => [(9, (.sl 3 [] ly5 0 (List.length x33))), (10, (.sl 4 [] ly5 0 (List.length x34)))] | (Sum.inr (⟨x35, _⟩)) => [(9, (.sl 3 [] ly5 0 (List.length x35))), (10, (.sl 2 [] ly5 0 (List.length x32)))], fun | (Sum.inl (⟨(x33, x34), _⟩)) => [(1, .dead), (3, (.rowI .u8 x33)), (4, (.rowI .u8 x34))] | (Sum.inr (⟨x35, _⟩)) => [(1, .dead), (3, (.rowI .u8 x35))], fun _ => 0⟩, 2, ?_, ?_⟩
    ·rintro (⟨⟨x33, x34⟩, hp⟩ | ⟨x35, hp⟩)
     ·subst hp
      replace h := hr2_35
      exact ⟨⟨(n1, (IntKind.wrap .i64 (x30 + 1)), x33, x34), h⟩, [(1, 3), (2, 4)], ⟨rfl, ⟨rfl, rfl, rfl, trivial⟩, ⟨rfl, rfl, rfl, trivial⟩, rfl⟩, Nat.lt_succ_self _⟩
     ·subst hp
      replace h := hr2_35
      exact ⟨⟨(n1, (IntKind.wrap .i64 (x30 + 1)), x35, x32), h⟩, [(1, 3)], ⟨rfl, ⟨rfl, rfl, rfl, trivial⟩, ⟨rfl, rfl, rfl, trivial⟩, rfl⟩, Nat.lt_succ_self _⟩
    ·replace h := hl2_35
     obtain ⟨hg, h⟩ := gd h
     refine And.intro hg ?_
     refine And.intro (by decide) ?_
     obtain ⟨r3_0_36, hl3_36, hr3_36⟩ := bnd h
     refine Or.inr ⟨[], (({p : (List Int) // (Sum.inl p) = r3_0_36}) ⊕ ({p : Unit // (Sum.inr p) = r3_0_36})), ⟨fun | (Sum.inl (⟨x36, _⟩)) => [(10, (.sl 3 [] ly5 0 (List.length x36)))] | (Sum.inr (⟨(), _⟩)) => [(10, (.sl 2 [] ly5 0 (List.length x32)))], fun | (Sum.inl (⟨x36, _⟩)) => [(3, (.rowI .u8 x36))] | (Sum.inr (⟨(), _⟩)) => [], fun _ => 0⟩, 1, ?_, ?_⟩
     ·rintro (⟨x36, hp⟩ | ⟨⟨⟩, hp⟩)
      ·subst hp
       replace h := hr3_36
       refine And.intro (by decide) ?_
       obtain ⟨hg, h⟩ := gd h
       refine And.intro hg ?_
       let x39 : Int := (bits .u8 .xor (List.getD x27 (Int.toNat x30) 0) (List.getD x36 (Int.toNat (Int.tmod x30 64)) 0))
       replace h := nm_at x39 rfl h
       refine Or.inl ?_
       obtain ⟨hg, h⟩ := gd h
       refine And.intro (le_of_ln2 (ln_full [x39]) hg) ?_
       refine ⟨(x31 ++ [x39]), app_cut (cut_full _) (cut_full [x39]), 0, (List.length (x31 ++ [x39])), ⟨rfl, app_ln (ln_full [x39])⟩, ?_⟩
       refine Or.inl ?_
       exact ⟨[], [], (Sum.inl (⟨((x31 ++ [x39]), x36), some_in h⟩)), [(3, 5), (4, 3)], rfl, ⟨rfl, rfl, trivial⟩, ⟨rfl, trivial, rfl, rfl, rfl, trivial⟩, rfl⟩
      ·subst hp
       replace h := hr3_36
       refine And.intro (by decide) ?_
       obtain ⟨hg, h⟩ := gd h
       refine And.intro hg ?_
       let x40 : Int := (bits .u8 .xor (List.getD x27 (Int.toNat x30) 0) (List.getD x32 (Int.toNat (Int.tmod x30 64)) 0))
       replace h := nm_at x40 rfl h
       refine Or.inl ?_
       obtain ⟨hg, h⟩ := gd h
       refine And.intro (le_of_ln2 (ln_full [x40]) hg) ?_
       refine ⟨(x31 ++ [x40]), app_cut (cut_full _) (cut_full [x40]), 0, (List.length (x31 ++ [x40])), ⟨rfl, app_ln (ln_full [x40])⟩, ?_⟩
       refine Or.inl ?_
       exact ⟨[], [], (Sum.inr (⟨(x31 ++ [x40]), some_in h⟩)), [(3, 5)], rfl, ⟨rfl, rfl, trivial⟩, ⟨rfl, trivial, rfl, rfl, trivial, trivial⟩, rfl⟩
     ·replace h := hl3_36
      refine And.intro (fun hb => ?_) (fun hb => ?_)
      ·replace h := cond_t h hb
       refine And.intro (by decide) ?_
       let x37 : Int := (IntKind.wrap .u32 (x25 + (IntKind.wrap .u32 (IntKind.wrap .i64 (Int.tdiv x30 64)))))
       replace h := nm_at x37 rfl h
       obtain ⟨x38, hc38, h⟩ := bnd h
       refine ⟨[], _, _, _, ⟨⟨_, fr06_Block_c er 3 (by decide) x24 x37 x26 x38 hc38, ⟨.inl rfl, .inl rfl, .inl rfl, trivial⟩⟩, trivial, rfl⟩, ?_⟩
       refine Or.inl ?_
       exact ⟨[], [], (Sum.inl (⟨x38, some_in h⟩)), [], rfl, ⟨rfl, trivial⟩, ⟨rfl, rfl, rfl, rfl, trivial⟩, rfl⟩
      ·replace h := cond_f h hb
       exact ⟨[], [], (Sum.inr (⟨(), some_in h⟩)), [], rfl, ⟨rfl, trivial⟩, ⟨rfl, rfl, rfl, trivial, trivial⟩, rfl⟩
   ·replace h := cond_f h hb
    exact ⟨[], [], (Sum.inr (Sum.inr (⟨(x31, x32), some_in h⟩))), [], rfl, ⟨rfl, trivial⟩, ⟨rfl, rfl, rfl, trivial⟩, rfl⟩
theorem fr08_fill_c (k0 : Nat) (hn : [k0].Nodup) (x48 : List Int) (res : (List Int)) (h : fr08_fill x48 = some res) :
  Fn Tryd.prog (GE er) 33 [(.dv (.roI .u8 x48))] [] (.sl k0 [] ly5 0 (List.length res)) [(k0, (.rowI .u8 res))] := by
 refine bE er Tryd.func33 rfl rfl [(1, k0)] [(.dv (.roI .u8 x48))] [] [1] (.sl 1 [] ly5 0 (List.length res)) [(.rowI .u8 res)] rfl rfl rfl rfl rfl rfl hn 3 ?_
 replace h := (show fr08_fill x48 = _ from h)
 unfold fr08_fill at h
 refine Or.inl ?_
 obtain ⟨hg, h⟩ := gd h
 refine And.intro (hg) ?_
 refine ⟨(([] : List Int) ++ x48), app_cut (cut_full _) (rfl), 0, (List.length (([] : List Int) ++ x48)), ⟨rfl, app_ln (rfl)⟩, ?_⟩
 refine Or.inl ?_
 obtain ⟨r1_0_49, hl1_49, hr1_49⟩ := bnd h
 refine Or.inr ⟨[6], (({p : Unit // (Sum.inl p) = r1_0_49}) ⊕ ({p : (List Int) // (Sum.inr p) = r1_0_49})), ⟨fun | (Sum.inl (⟨(), _⟩)) => [(3, (.sl 1 [] ly5 0 (List.length (([] : List Int) ++ x48)))), (6, (.sl 1 [] ly5 0 (List.length (([] : List Int) ++ x48))))] | (Sum.inr (⟨x49, _⟩)) => [(3, (.sl 1 [] ly5 0 (List.length x49)))], fun | (Sum.inl (⟨(), _⟩)) => [] | (Sum.inr (⟨x49, _⟩)) => [(1, (.rowI .u8 x49))], fun _ => 0⟩, 0, ?_, ?_⟩
 ·rintro (⟨⟨⟩, hp⟩ | ⟨x49, hp⟩)
  ·subst hp
   replace h := hr1_49
   obtain rfl := some_in h
   exact ⟨0, [], [], rfl, rfl, trivial⟩
  ·subst hp
   replace h := hr1_49
   obtain rfl := some_in h
   exact ⟨0, [], [], rfl, rfl, trivial⟩
 ·replace h := hl1_49
  refine Or.inl ?_
  refine ⟨[6], {x : Nat × (List Int) // fr08_fill_l1 x.1 x.2 = some r1_0_49}, ⟨fun | ⟨(n1, x50), _⟩ => [(3, (.sl 1 [] ly5 0 (List.length x50)))], fun | ⟨(n1, x50), _⟩ => [(1, (.rowI .u8 x50))], fun | ⟨(n1, x50), _⟩ => n1⟩, [], [], ⟨(FUEL, (([] : List Int) ++ x48)), h⟩, ⟨rfl, ⟨rfl, trivial⟩, ⟨trivial, rfl, trivial⟩, rfl⟩, ?_⟩
  rintro ⟨⟨n1, x50⟩, h⟩
  cases n1 with
  | zero => exact no_none h
  | succ n1 =>
   replace h := (show fr08_fill_l1 (n1 + 1) x50 = _ from h)
   replace h := (fr08_fill_l1.eq_2 .. ).symm.trans h
   refine And.intro (by decide) ?_
   refine And.intro (fun hb => ?_) (fun hb => ?_)
   ·replace h := cond_t h hb
    refine Or.inl ?_
    refine Or.inl ?_
    obtain ⟨hg, h⟩ := gd h
    refine And.intro (le_of_ln2 (ln_full [0]) hg) ?_
    refine ⟨(x50 ++ [0]), app_cut (cut_full _) (cut_full [0]), 0, (List.length (x50 ++ [0])), ⟨rfl, app_ln (ln_full [0])⟩, ?_⟩
    refine Or.inl ?_
    exact ⟨⟨(n1, (x50 ++ [0])), h⟩, [(1, 3)], ⟨rfl, ⟨rfl, trivial⟩, ⟨trivial, rfl, trivial⟩, rfl⟩, Nat.lt_succ_self _⟩
   ·replace h := cond_f h hb
    exact ⟨[], [], (Sum.inr (⟨x50, some_in h⟩)), [], rfl, ⟨rfl, trivial⟩, ⟨trivial, rfl, trivial⟩, rfl⟩
theorem fr01_Little_c (k0 : Nat) (hn : [k0].Nodup) (x53 : Int) (x54 : Int) (res : (List Int)) (h : fr01_Little x53 x54 = some res) :
  Fn Tryd.prog (GE er) 34 [(.int .u64 x53), (.int .i64 x54)] [] (.sl k0 [] ly5 0 (List.length res)) [(k0, (.rowI .u8 res))] := by
 refine bE er Tryd.func34 rfl rfl [(0, k0)] [(.int .u64 x53), (.int .i64 x54)] [] [0] (.sl 0 [] ly5 0 (List.length res)) [(.rowI .u8 res)] rfl rfl rfl rfl rfl rfl hn 3 ?_
 replace h := (show fr01_Little x53 x54 = _ from h)
 unfold fr01_Little at h
 refine Or.inl ?_
 obtain ⟨r1_0_55, hl1_55, hr1_55⟩ := bnd h
 refine Or.inr ⟨[1, 7], (({p : Unit // (Sum.inl p) = r1_0_55}) ⊕ ({p : (List Int) // (Sum.inr p) = r1_0_55})), ⟨fun | (Sum.inl (⟨(), _⟩)) => [(5, (.sl 0 [] ly5 0 (List.length ([] : List Int)))), (7, (.sl 0 [] ly5 0 (List.length ([] : List Int))))] | (Sum.inr (⟨x55, _⟩)) => [(5, (.sl 0 [] ly5 0 (List.length x55)))], fun | (Sum.inl (⟨(), _⟩)) => [] | (Sum.inr (⟨x55, _⟩)) => [(0, (.rowI .u8 x55))], fun _ => 0⟩, 0, ?_, ?_⟩
 ·rintro (⟨⟨⟩, hp⟩ | ⟨x55, hp⟩)
  ·subst hp
   replace h := hr1_55
   obtain rfl := some_in h
   exact ⟨0, [], [], rfl, rfl, trivial⟩
  ·subst hp
   replace h := hr1_55
   obtain rfl := some_in h
   exact ⟨0, [], [], rfl, rfl, trivial⟩
 ·replace h := hl1_55
  refine Or.inl ?_
  refine ⟨[7], {x : Nat × Int × Int × (List Int) // fr01_Little_l1 x54 x.1 x.2.1 x.2.2.1 x.2.2.2 = some r1_0_55}, ⟨fun | ⟨(n1, x56, x57, x58), _⟩ => [(0, (.int .u64 x56)), (5, (.sl 0 [] ly5 0 (List.length x58))), (6, (.int .i64 x57))], fun | ⟨(n1, x56, x57, x58), _⟩ => [(0, (.rowI .u8 x58))], fun | ⟨(n1, x56, x57, x58), _⟩ => n1⟩, [], [], ⟨(FUEL, x53, 0, ([] : List Int)), h⟩, ⟨rfl, ⟨rfl, rfl, rfl, trivial⟩, ⟨rfl, trivial⟩, rfl⟩, ?_⟩
  rintro ⟨⟨n1, x56, x57, x58⟩, h⟩
  cases n1 with
  | zero => exact no_none h
  | succ n1 =>
   replace h := (show fr01_Little_l1 x54 (n1 + 1) x56 x57 x58 = _ from h)
   replace h := (fr01_Little_l1.eq_2 .. ).symm.trans h
   refine And.intro (fun hb => ?_) (fun hb => ?_)
   ·replace h := cond_t h hb
    refine Or.inl ?_
    refine And.intro (by decide) ?_
    refine Or.inl ?_
    obtain ⟨hg, h⟩ := gd h
    refine And.intro (le_of_ln2 (ln_full [(IntKind.wrap .u8 (Int.tmod x56 256))]) hg) ?_
    refine ⟨(x58 ++ [(IntKind.wrap .u8 (Int.tmod x56 256))]), app_cut (cut_full _) (cut_full [(IntKind.wrap .u8 (Int.tmod x56 256))]), 0, (List.length (x58 ++ [(IntKind.wrap .u8 (Int.tmod x56 256))])), ⟨rfl, app_ln (ln_full [(IntKind.wrap .u8 (Int.tmod x56 256))])⟩, ?_⟩
    refine Or.inl ?_
    refine And.intro (by decide) ?_
    exact ⟨⟨(n1, (IntKind.wrap .u64 (Int.tdiv x56 256)), (IntKind.wrap .i64 (x57 + 1)), (x58 ++ [(IntKind.wrap .u8 (Int.tmod x56 256))])), h⟩, [(0, 2)], ⟨rfl, ⟨rfl, rfl, rfl, trivial⟩, ⟨rfl, trivial⟩, rfl⟩, Nat.lt_succ_self _⟩
   ·replace h := cond_f h hb
    exact ⟨[], [], (Sum.inr (⟨x58, some_in h⟩)), [], rfl, ⟨rfl, trivial⟩, ⟨rfl, trivial⟩, rfl⟩
theorem fr07_trim_2_c (b0 : Nat) (hn : [b0].Nodup) (x72 : List Int) (res : Nat) (h : fr07_trim_2 x72 = some res) :
  Fn Tryd.prog (GE er) 55 [(.sl b0 [] ly3 0 (List.length x72))] [(b0, (.rowI .i64 x72))] (.sl b0 [] ly3 0 res) [(b0, (.rowI .i64 x72))] := by
 refine bE er Tryd.func55 rfl rfl [(0, b0)] [(.sl 0 [] ly3 0 (List.length x72))] [(.rowI .i64 x72)] [] (.sl 0 [] ly3 0 res) [(.rowI .i64 x72)] rfl rfl rfl rfl rfl rfl hn 3 ?_
 replace h := (show fr07_trim_2 x72 = _ from h)
 unfold fr07_trim_2 at h
 obtain ⟨r1_0_73, hl1_73, hr1_73⟩ := bnd h
 refine Or.inr ⟨[], {p : Nat // p = r1_0_73}, ⟨fun | ⟨x73, _⟩ => [(0, (.sl 0 [] ly3 0 x73))], fun | ⟨x73, _⟩ => [], fun _ => 0⟩, 0, ?_, ?_⟩
 ·rintro ⟨x73, hp⟩
  subst hp
  replace h := hr1_73
  obtain rfl := some_in h
  exact ⟨0, [], [], rfl, rfl, trivial⟩
 ·replace h := hl1_73
  refine Or.inl ?_
  refine ⟨[], {x : Nat × Nat // fr07_trim_2_l1 x72 x.1 x.2 = some r1_0_73}, ⟨fun | ⟨(n1, x74), _⟩ => [(0, (.sl 0 [] ly3 0 x74))], fun | ⟨(n1, x74), _⟩ => [], fun | ⟨(n1, x74), _⟩ => n1⟩, [], [], ⟨(FUEL, (List.length x72)), h⟩, ⟨rfl, ⟨rfl, trivial⟩, ⟨rfl, trivial⟩, rfl⟩, ?_⟩
  rintro ⟨⟨n1, x74⟩, h⟩
  cases n1 with
  | zero => exact no_none h
  | succ n1 =>
   replace h := (show fr07_trim_2_l1 x72 (n1 + 1) x74 = _ from h)
   replace h := (fr07_trim_2_l1.eq_2 .. ).symm.trans h
   refine And.intro (fun hb => ?_) (fun hb => ?_)
   ·replace h := cond_t h hb
    obtain ⟨hg, h⟩ := gd h
    refine And.intro hg ?_
    let x75 : Int := (List.getD x72 (Int.toNat (IntKind.wrap .i64 ((x74 : Int) - 1))) 0)
    replace h := nm_at x75 rfl h
    refine And.intro (fun hb => ?_) (fun hb => ?_)
    ·replace h := cond_t h hb
     refine Or.inl ?_
     obtain ⟨hg, h⟩ := gd h
     refine And.intro hg ?_
     obtain ⟨hg, h⟩ := gd h
     refine And.intro hg ?_
     refine ⟨0, (Int.toNat ((IntKind.wrap .i64 ((x74 : Int) - 1)) - 0)), ⟨by simp, rfl⟩, ?_⟩
     exact ⟨⟨(n1, (Int.toNat ((IntKind.wrap .i64 ((x74 : Int) - 1)) - 0))), h⟩, [], ⟨rfl, ⟨rfl, trivial⟩, ⟨rfl, trivial⟩, rfl⟩, Nat.lt_succ_self _⟩
    ·replace h := cond_f h hb
     exact ⟨[], [], ⟨x74, some_in h⟩, [], rfl, ⟨rfl, trivial⟩, ⟨rfl, trivial⟩, rfl⟩
   ·replace h := cond_f h hb
    exact ⟨[], [], ⟨x74, some_in h⟩, [], rfl, ⟨rfl, trivial⟩, ⟨rfl, trivial⟩, rfl⟩
theorem fr07_number_c (k0 : Nat) (hn : [k0].Nodup) (x65 : List Int) (res : Nat × (List Int)) (h : fr07_number x65 = some res) :
  Fn Tryd.prog (GE er) 48 [(.dv (.roI .u8 x65))] [] (.sl k0 [] ly3 0 res.1) [(k0, (.rowI .i64 res.2))] := by
 refine bE er Tryd.func48 rfl rfl [(0, k0)] [(.dv (.roI .u8 x65))] [] [0] (.sl 0 [] ly3 0 res.1) [(.rowI .i64 res.2)] rfl rfl rfl rfl rfl rfl hn 3 ?_
 replace h := (show fr07_number x65 = _ from h)
 unfold fr07_number at h
 refine Or.inl ?_
 obtain ⟨r1_0_66, hl1_66, hr1_66⟩ := bnd h
 refine Or.inr ⟨[6, 8], (({p : Unit // (Sum.inl p) = r1_0_66}) ⊕ ({p : (List Int) // (Sum.inr p) = r1_0_66})), ⟨fun | (Sum.inl (⟨(), _⟩)) => [(3, (.sl 0 [] ly3 0 (List.length ([] : List Int)))), (6, (.sl 0 [] ly3 0 (List.length ([] : List Int))))] | (Sum.inr (⟨x66, _⟩)) => [(3, (.sl 0 [] ly3 0 (List.length x66)))], fun | (Sum.inl (⟨(), _⟩)) => [] | (Sum.inr (⟨x66, _⟩)) => [(0, (.rowI .i64 x66))], fun _ => 0⟩, 0, ?_, ?_⟩
 ·rintro (⟨⟨⟩, hp⟩ | ⟨x66, hp⟩)
  ·subst hp
   replace h := hr1_66
   obtain ⟨x70, hc70, h⟩ := bnd h
   refine ⟨[], _, _, _, ⟨⟨_, fr07_trim_2_c er 0 (by decide) ([] : List Int) x70 hc70, ⟨.inl rfl, trivial⟩⟩, ⟨⟨rfl, rfl⟩, trivial⟩, rfl⟩, ?_⟩
   refine Or.inl ?_
   obtain rfl := some_in h
   exact ⟨0, [], [], rfl, rfl, trivial⟩
  ·subst hp
   replace h := hr1_66
   obtain ⟨x71, hc71, h⟩ := bnd h
   refine ⟨[], _, _, _, ⟨⟨_, fr07_trim_2_c er 0 (by decide) x66 x71 hc71, ⟨.inl rfl, trivial⟩⟩, ⟨⟨rfl, rfl⟩, trivial⟩, rfl⟩, ?_⟩
   refine Or.inl ?_
   obtain rfl := some_in h
   exact ⟨0, [], [], rfl, rfl, trivial⟩
 ·replace h := hl1_66
  refine Or.inl ?_
  refine ⟨[6], {x : Nat × Int × (List Int) // fr07_number_l1 x65 x.1 x.2.1 x.2.2 = some r1_0_66}, ⟨fun | ⟨(n1, x67, x68), _⟩ => [(3, (.sl 0 [] ly3 0 (List.length x68))), (9, (.int .i64 x67))], fun | ⟨(n1, x67, x68), _⟩ => [(0, (.rowI .i64 x68))], fun | ⟨(n1, x67, x68), _⟩ => n1⟩, [], [], ⟨(FUEL, 0, ([] : List Int)), h⟩, ⟨rfl, ⟨rfl, rfl, trivial⟩, ⟨rfl, trivial⟩, rfl⟩, ?_⟩
  rintro ⟨⟨n1, x67, x68⟩, h⟩
  cases n1 with
  | zero => exact no_none h
  | succ n1 =>
   replace h := (show fr07_number_l1 x65 (n1 + 1) x67 x68 = _ from h)
   replace h := (fr07_number_l1.eq_2 .. ).symm.trans h
   refine And.intro (fun hb => ?_) (fun hb => ?_)
   ·replace h := cond_t h hb
    refine Or.inl ?_
    obtain ⟨hg, h⟩ := gd h
    refine And.intro hg ?_
    refine Or.inl ?_
    obtain ⟨hg, h⟩ := gd h
    refine And.intro (le_of_ln2 (ln_full [(IntKind.wrap .i64 (List.getD x65 (Int.toNat x67) 0))]) hg) ?_
    refine ⟨(x68 ++ [(IntKind.wrap .i64 (List.getD x65 (Int.toNat x67) 0))]), app_cut (cut_full _) (cut_full [(IntKind.wrap .i64 (List.getD x65 (Int.toNat x67) 0))]), 0, (List.length (x68 ++ [(IntKind.wrap .i64 (List.getD x65 (Int.toNat x67) 0))])), ⟨rfl, app_ln (ln_full [(IntKind.wrap .i64 (List.getD x65 (Int.toNat x67) 0))])⟩, ?_⟩
    refine Or.inl ?_
    let x69 : List Int := (x68 ++ [(IntKind.wrap .i64 (List.getD x65 (Int.toNat x67) 0))])
    replace h := nm_at x69 rfl h
    exact ⟨⟨(n1, (IntKind.wrap .i64 (x67 + 1)), x69), h⟩, [(0, 2)], ⟨rfl, ⟨rfl, rfl, trivial⟩, ⟨rfl, trivial⟩, rfl⟩, Nat.lt_succ_self _⟩
   ·replace h := cond_f h hb
    exact ⟨[], [], (Sum.inr (⟨x68, some_in h⟩)), [], rfl, ⟨rfl, trivial⟩, ⟨rfl, trivial⟩, rfl⟩
theorem fr07_even_c (k0 : Nat) (hn : [k0].Nodup) (x83 : List Int) (res : Nat × (List Int)) (h : fr07_even x83 = some res) :
  Fn Tryd.prog (GE er) 57 [(.dv (.roI .i64 x83))] [] (.sl k0 [] ly3 0 res.1) [(k0, (.rowI .i64 res.2))] := by
 refine bE er Tryd.func57 rfl rfl [(0, k0)] [(.dv (.roI .i64 x83))] [] [0] (.sl 0 [] ly3 0 res.1) [(.rowI .i64 res.2)] rfl rfl rfl rfl rfl rfl hn 3 ?_
 replace h := (show fr07_even x83 = _ from h)
 unfold fr07_even at h
 refine Or.inl ?_
 obtain ⟨r1_0_84, hl1_84, hr1_84⟩ := bnd h
 refine Or.inr ⟨[0, 6], (({p : Unit // (Sum.inl p) = r1_0_84}) ⊕ ({p : (List Int) // (Sum.inr p) = r1_0_84})), ⟨fun | (Sum.inl (⟨(), _⟩)) => [(3, (.sl 0 [] ly3 0 (List.length ([] : List Int)))), (6, (.sl 0 [] ly3 0 (List.length ([] : List Int))))] | (Sum.inr (⟨x84, _⟩)) => [(3, (.sl 0 [] ly3 0 (List.length x84)))], fun | (Sum.inl (⟨(), _⟩)) => [] | (Sum.inr (⟨x84, _⟩)) => [(0, (.rowI .i64 x84))], fun _ => 0⟩, 0, ?_, ?_⟩
 ·rintro (⟨⟨⟩, hp⟩ | ⟨x84, hp⟩)
  ·subst hp
   replace h := hr1_84
   obtain ⟨x92, hc92, h⟩ := bnd h
   refine ⟨[], _, _, _, ⟨⟨_, fr07_trim_2_c er 0 (by decide) ([] : List Int) x92 hc92, ⟨.inl rfl, trivial⟩⟩, ⟨⟨rfl, rfl⟩, trivial⟩, rfl⟩, ?_⟩
   refine Or.inl ?_
   obtain rfl := some_in h
   exact ⟨0, [], [], rfl, rfl, trivial⟩
  ·subst hp
   replace h := hr1_84
   obtain ⟨x93, hc93, h⟩ := bnd h
   refine ⟨[], _, _, _, ⟨⟨_, fr07_trim_2_c er 0 (by decide) x84 x93 hc93, ⟨.inl rfl, trivial⟩⟩, ⟨⟨rfl, rfl⟩, trivial⟩, rfl⟩, ?_⟩
   refine Or.inl ?_
   obtain rfl := some_in h
   exact ⟨0, [], [], rfl, rfl, trivial⟩
 ·replace h := hl1_84
  refine Or.inl ?_
  refine ⟨[6], {x : Nat × Int × Int × (List Int) // fr07_even_l1 x83 x.1 x.2.1 x.2.2.1 x.2.2.2 = some r1_0_84}, ⟨fun | ⟨(n1, x85, x86, x87), _⟩ => [(3, (.sl 0 [] ly3 0 (List.length x87))), (4, (.int .i64 x85)), (5, (.int .i64 x86))], fun | ⟨(n1, x85, x86, x87), _⟩ => [(0, (.rowI .i64 x87))], fun | ⟨(n1, x85, x86, x87), _⟩ => n1⟩, [], [], ⟨(FUEL, 0, 0, ([] : List Int)), h⟩, ⟨rfl, ⟨rfl, rfl, rfl, trivial⟩, ⟨rfl, trivial⟩, rfl⟩, ?_⟩
  rintro ⟨⟨n1, x85, x86, x87⟩, h⟩
  cases n1 with
  | zero => exact no_none h
  | succ n1 =>
   replace h := (show fr07_even_l1 x83 (n1 + 1) x85 x86 x87 = _ from h)
   replace h := (fr07_even_l1.eq_2 .. ).symm.trans h
   refine And.intro (fun hb => ?_) (fun hb => ?_)
   ·replace h := cond_t h hb
    refine Or.inl ?_
    obtain ⟨r2_0_88, hl2_88, hr2_88⟩ := bnd h
    refine Or.inr ⟨[], {p : Int // p = r2_0_88}, ⟨fun | ⟨x88, _⟩ => [(4, (.int .i64 x88))], fun | ⟨x88, _⟩ => [], fun _ => 0⟩, 0, ?_, ?_⟩
    ·rintro ⟨x88, hp⟩
     subst hp
     replace h := hr2_88
     refine And.intro (by decide) ?_
     refine Or.inl ?_
     obtain ⟨hg, h⟩ := gd h
     refine And.intro (le_of_ln2 (ln_full [(Int.tmod x88 256)]) hg) ?_
     refine ⟨(x87 ++ [(Int.tmod x88 256)]), app_cut (cut_full _) (cut_full [(Int.tmod x88 256)]), 0, (List.length (x87 ++ [(Int.tmod x88 256)])), ⟨rfl, app_ln (ln_full [(Int.tmod x88 256)])⟩, ?_⟩
     refine Or.inl ?_
     refine And.intro (by decide) ?_
     exact ⟨⟨(n1, (IntKind.wrap .i64 (Int.tdiv x88 256)), (IntKind.wrap .i64 (x86 + 1)), (x87 ++ [(Int.tmod x88 256)])), h⟩, [(0, 2)], ⟨rfl, ⟨rfl, rfl, rfl, trivial⟩, ⟨rfl, trivial⟩, rfl⟩, Nat.lt_succ_self _⟩
    ·replace h := hl2_88
     refine And.intro (fun hb => ?_) (fun hb => ?_)
     ·replace h := cond_t h hb
      obtain ⟨hg, h⟩ := gd h
      refine And.intro hg ?_
      let x89 : Int := (IntKind.wrap .i64 (x85 + (List.getD x83 (Int.toNat x86) 0)))
      replace h := nm_at x89 rfl h
      exact ⟨[], [], ⟨x89, some_in h⟩, [], rfl, ⟨rfl, trivial⟩, ⟨rfl, trivial⟩, rfl⟩
     ·replace h := cond_f h hb
      exact ⟨[], [], ⟨x85, some_in h⟩, [], rfl, ⟨rfl, trivial⟩, ⟨rfl, trivial⟩, rfl⟩
   ·replace h := cond_f h hb
    refine And.intro (fun hb => ?_) (fun hb => ?_)
    ·replace h := cond_t h hb
     refine Or.inl ?_
     obtain ⟨r3_0_90, hl3_90, hr3_90⟩ := bnd h
     refine Or.inr ⟨[], {p : Int // p = r3_0_90}, ⟨fun | ⟨x90, _⟩ => [(4, (.int .i64 x90))], fun | ⟨x90, _⟩ => [], fun _ => 0⟩, 0, ?_, ?_⟩
     ·rintro ⟨x90, hp⟩
      subst hp
      replace h := hr3_90
      refine And.intro (by decide) ?_
      refine Or.inl ?_
      obtain ⟨hg, h⟩ := gd h
      refine And.intro (le_of_ln2 (ln_full [(Int.tmod x90 256)]) hg) ?_
      refine ⟨(x87 ++ [(Int.tmod x90 256)]), app_cut (cut_full _) (cut_full [(Int.tmod x90 256)]), 0, (List.length (x87 ++ [(Int.tmod x90 256)])), ⟨rfl, app_ln (ln_full [(Int.tmod x90 256)])⟩, ?_⟩
      refine Or.inl ?_
      refine And.intro (by decide) ?_
      exact ⟨⟨(n1, (IntKind.wrap .i64 (Int.tdiv x90 256)), (IntKind.wrap .i64 (x86 + 1)), (x87 ++ [(Int.tmod x90 256)])), h⟩, [(0, 2)], ⟨rfl, ⟨rfl, rfl, rfl, trivial⟩, ⟨rfl, trivial⟩, rfl⟩, Nat.lt_succ_self _⟩
     ·replace h := hl3_90
      refine And.intro (fun hb => ?_) (fun hb => ?_)
      ·replace h := cond_t h hb
       obtain ⟨hg, h⟩ := gd h
       refine And.intro hg ?_
       let x91 : Int := (IntKind.wrap .i64 (x85 + (List.getD x83 (Int.toNat x86) 0)))
       replace h := nm_at x91 rfl h
       exact ⟨[], [], ⟨x91, some_in h⟩, [], rfl, ⟨rfl, trivial⟩, ⟨rfl, trivial⟩, rfl⟩
      ·replace h := cond_f h hb
       exact ⟨[], [], ⟨x85, some_in h⟩, [], rfl, ⟨rfl, trivial⟩, ⟨rfl, trivial⟩, rfl⟩
    ·replace h := cond_f h hb
     exact ⟨[], [], (Sum.inr (⟨x87, some_in h⟩)), [], rfl, ⟨rfl, trivial⟩, ⟨rfl, trivial⟩, rfl⟩
theorem fr07_add_c (k0 : Nat) (hn : [k0].Nodup) (x78 : List Int) (x79 : List Int) (res : Nat × (List Int)) (h : fr07_add x78 x79 = some res) :
  Fn Tryd.prog (GE er) 51 [(.dv (.roI .i64 x78)), (.dv (.roI .i64 x79))] [] (.sl k0 [] ly3 0 res.1) [(k0, (.rowI .i64 res.2))] := by
 refine bE er Tryd.func51 rfl rfl [(1, k0)] [(.dv (.roI .i64 x78)), (.dv (.roI .i64 x79))] [] [1] (.sl 1 [] ly3 0 res.1) [(.rowI .i64 res.2)] rfl rfl rfl rfl rfl rfl hn 3 ?_
 replace h := (show fr07_add x78 x79 = _ from h)
 unfold fr07_add at h
 let x80 : Int := (IntKind.wrap .i64 ((List.length x78 : Int) + (List.length x79 : Int)))
 replace h := nm_at x80 rfl h
 obtain ⟨hg, h⟩ := gd h
 refine And.intro hg ?_
 refine Or.inl ?_
 refine ⟨(List.replicate (Int.toNat x80) (0 : Int)), rfl, 0, (List.length (List.replicate (Int.toNat x80) (0 : Int))), ⟨rfl, List.length_replicate ..⟩, ?_⟩
 refine Or.inl ?_
 obtain ⟨r1_0_81, hl1_81, hr1_81⟩ := bnd h
 refine Or.inr ⟨[17], {p : (List Int) // p = r1_0_81}, ⟨fun | ⟨x81, _⟩ => [], fun | ⟨x81, _⟩ => [(0, (.rowI .i64 x81))], fun _ => 0⟩, 0, ?_, ?_⟩
 ·rintro ⟨x81, hp⟩
  subst hp
  replace h := hr1_81
  obtain ⟨r2_1_85, hl2_85, hr2_85⟩ := bnd h
  refine Or.inr ⟨[32], {p : (List Int) // p = r2_1_85}, ⟨fun | ⟨x85, _⟩ => [], fun | ⟨x85, _⟩ => [(0, (.rowI .i64 x85))], fun _ => 0⟩, 0, ?_, ?_⟩
  ·rintro ⟨x85, hp⟩
   subst hp
   replace h := hr2_85
   obtain ⟨r90, hc90, h⟩ := bnd h
   obtain ⟨x89, x90⟩ := r90
   refine ⟨[true], _, _, _, ⟨⟨_, fr07_even_c er 1 (by decide) (List.take (List.length (List.replicate (Int.toNat x80) (0 : Int))) x85) (x89, x90) hc90, ⟨.inl rfl, trivial⟩⟩, trivial, rfl⟩, ?_⟩
   refine Or.inl ?_
   obtain rfl := some_in h
   exact ⟨0, [], [], rfl, rfl, trivial⟩
  ·replace h := hl2_85
   refine Or.inl ?_
   refine ⟨[], {x : Nat × Int × (List Int) // fr07_add_l2 x79 x80 x.1 x.2.1 x.2.2 = some r2_1_85}, ⟨fun | ⟨(n2, x86, x87), _⟩ => [(33, (.int .i64 x86))], fun | ⟨(n2, x86, x87), _⟩ => [(0, (.rowI .i64 x87))], fun | ⟨(n2, x86, x87), _⟩ => n2⟩, [], [], ⟨(FUEL, 0, x81), h⟩, ⟨rfl, ⟨rfl, trivial⟩, ⟨rfl, trivial⟩, rfl⟩, ?_⟩
   rintro ⟨⟨n2, x86, x87⟩, h⟩
   cases n2 with
   | zero => exact no_none h
   | succ n2 =>
    replace h := (show fr07_add_l2 x79 x80 (n2 + 1) x86 x87 = _ from h)
    replace h := (fr07_add_l2.eq_2 .. ).symm.trans h
    refine And.intro (fun hb => ?_) (fun hb => ?_)
    ·replace h := cond_t h hb
     refine Or.inl ?_
     obtain ⟨hg, h⟩ := gd h
     refine And.intro hg ?_
     obtain ⟨hg, h⟩ := gd h
     refine And.intro hg ?_
     let x88 : Int := (IntKind.wrap .i64 ((List.getD x87 (Int.toNat x86) 0) + (List.getD x79 (Int.toNat x86) 0)))
     replace h := nm_at x88 rfl h
     obtain ⟨hg, h⟩ := gd h
     refine And.intro hg ?_
     exact ⟨⟨(n2, (IntKind.wrap .i64 (x86 + 1)), (List.set x87 (Int.toNat x86) x88)), h⟩, [], ⟨rfl, ⟨rfl, trivial⟩, ⟨rfl, trivial⟩, rfl⟩, Nat.lt_succ_self _⟩
    ·replace h := cond_f h hb
     exact ⟨[], [], ⟨x87, some_in h⟩, [], rfl, trivial, ⟨rfl, trivial⟩, rfl⟩
 ·replace h := hl1_81
  refine Or.inl ?_
  refine ⟨[], {x : Nat × Int × (List Int) // fr07_add_l1 x78 x80 x.1 x.2.1 x.2.2 = some r1_0_81}, ⟨fun | ⟨(n1, x82, x83), _⟩ => [(18, (.int .i64 x82))], fun | ⟨(n1, x82, x83), _⟩ => [(0, (.rowI .i64 x83))], fun | ⟨(n1, x82, x83), _⟩ => n1⟩, [], [], ⟨(FUEL, 0, (List.replicate (Int.toNat x80) (0 : Int))), h⟩, ⟨rfl, ⟨rfl, trivial⟩, ⟨rfl, trivial⟩, rfl⟩, ?_⟩
  rintro ⟨⟨n1, x82, x83⟩, h⟩
  cases n1 with
  | zero => exact no_none h
  | succ n1 =>
   replace h := (show fr07_add_l1 x78 x80 (n1 + 1) x82 x83 = _ from h)
   replace h := (fr07_add_l1.eq_2 .. ).symm.trans h
   refine And.intro (fun hb => ?_) (fun hb => ?_)
   ·replace h := cond_t h hb
    refine Or.inl ?_
    obtain ⟨hg, h⟩ := gd h
    refine And.intro hg ?_
    obtain ⟨hg, h⟩ := gd h
    refine And.intro hg ?_
    let x84 : Int := (IntKind.wrap .i64 ((List.getD x83 (Int.toNat x82) 0) + (List.getD x78 (Int.toNat x82) 0)))
    replace h := nm_at x84 rfl h
    obtain ⟨hg, h⟩ := gd h
    refine And.intro hg ?_
    exact ⟨⟨(n1, (IntKind.wrap .i64 (x82 + 1)), (List.set x83 (Int.toNat x82) x84)), h⟩, [], ⟨rfl, ⟨rfl, trivial⟩, ⟨rfl, trivial⟩, rfl⟩, Nat.lt_succ_self _⟩
   ·replace h := cond_f h hb
    exact ⟨[], [], ⟨x83, some_in h⟩, [], rfl, trivial, ⟨rfl, trivial⟩, rfl⟩
theorem fr07_times_c (k0 : Nat) (hn : [k0].Nodup) (x93 : List Int) (x94 : List Int) (res : Nat × (List Int)) (h : fr07_times x93 x94 = some res) :
  Fn Tryd.prog (GE er) 50 [(.dv (.roI .i64 x93)), (.dv (.roI .i64 x94))] [] (.sl k0 [] ly3 0 res.1) [(k0, (.rowI .i64 res.2))] := by
 refine bE er Tryd.func50 rfl rfl [(1, k0)] [(.dv (.roI .i64 x93)), (.dv (.roI .i64 x94))] [] [1] (.sl 1 [] ly3 0 res.1) [(.rowI .i64 res.2)] rfl rfl rfl rfl rfl rfl hn 3 ?_
 replace h := (show fr07_times x93 x94 = _ from h)
 unfold fr07_times at h
 let x95 : Int := (IntKind.wrap .i64 ((List.length x93 : Int) + (List.length x94 : Int)))
 replace h := nm_at x95 rfl h
 obtain ⟨hg, h⟩ := gd h
 refine And.intro hg ?_
 refine Or.inl ?_
 refine ⟨(List.replicate (Int.toNat x95) (0 : Int)), rfl, 0, (List.length (List.replicate (Int.toNat x95) (0 : Int))), ⟨rfl, List.length_replicate ..⟩, ?_⟩
 refine Or.inl ?_
 obtain ⟨r1_0_96, hl1_96, hr1_96⟩ := bnd h
 refine Or.inr ⟨[17], {p : (List Int) // p = r1_0_96}, ⟨fun | ⟨x96, _⟩ => [], fun | ⟨x96, _⟩ => [(0, (.rowI .i64 x96))], fun _ => 0⟩, 0, ?_, ?_⟩
 ·rintro ⟨x96, hp⟩
  subst hp
  replace h := hr1_96
  obtain ⟨r106, hc106, h⟩ := bnd h
  obtain ⟨x105, x106⟩ := r106
  refine ⟨[true], _, _, _, ⟨⟨_, fr07_even_c er 1 (by decide) (List.take (List.length (List.replicate (Int.toNat x95) (0 : Int))) x96) (x105, x106) hc106, ⟨.inl rfl, trivial⟩⟩, trivial, rfl⟩, ?_⟩
  refine Or.inl ?_
  obtain rfl := some_in h
  exact ⟨0, [], [], rfl, rfl, trivial⟩
 ·replace h := hl1_96
  refine Or.inl ?_
  refine ⟨[], {x : Nat × Int × (List Int) // fr07_times_l1 x93 x94 x95 x.1 x.2.1 x.2.2 = some r1_0_96}, ⟨fun | ⟨(n1, x97, x98), _⟩ => [(18, (.int .i64 x97))], fun | ⟨(n1, x97, x98), _⟩ => [(0, (.rowI .i64 x98))], fun | ⟨(n1, x97, x98), _⟩ => n1⟩, [], [], ⟨(FUEL, 0, (List.replicate (Int.toNat x95) (0 : Int))), h⟩, ⟨rfl, ⟨rfl, trivial⟩, ⟨rfl, trivial⟩, rfl⟩, ?_⟩
  rintro ⟨⟨n1, x97, x98⟩, h⟩
  cases n1 with
  | zero => exact no_none h
  | succ n1 =>
   replace h := (show fr07_times_l1 x93 x94 x95 (n1 + 1) x97 x98 = _ from h)
   replace h := (fr07_times_l1.eq_2 .. ).symm.trans h
   refine And.intro (fun hb => ?_) (fun hb => ?_)
   ·replace h := cond_t h hb
    refine Or.inl ?_
    obtain ⟨hg, h⟩ := gd h
    refine And.intro hg ?_
    obtain ⟨r2_0_99, hl2_99, hr2_99⟩ := bnd h
    refine Or.inr ⟨[6, 7, 24], {p : (List Int) // p = r2_0_99}, ⟨fun | ⟨x99, _⟩ => [], fun | ⟨x99, _⟩ => [(0, (.rowI .i64 x99))], fun _ => 0⟩, 0, ?_, ?_⟩
    ·rintro ⟨x99, hp⟩
     subst hp
     replace h := hr2_99
     exact ⟨⟨(n1, (IntKind.wrap .i64 (x97 + 1)), x99), h⟩, [], ⟨rfl, ⟨rfl, trivial⟩, ⟨rfl, trivial⟩, rfl⟩, Nat.lt_succ_self _⟩
    ·replace h := hl2_99
     refine Or.inl ?_
     refine ⟨[], {x : Nat × Int × (List Int) // fr07_times_l2 x93 x94 x95 x97 x.1 x.2.1 x.2.2 = some r2_0_99}, ⟨fun | ⟨(n2, x100, x101), _⟩ => [(25, (.int .i64 x100))], fun | ⟨(n2, x100, x101), _⟩ => [(0, (.rowI .i64 x101))], fun | ⟨(n2, x100, x101), _⟩ => n2⟩, [], [], ⟨(FUEL, 0, x98), h⟩, ⟨rfl, ⟨rfl, trivial⟩, ⟨rfl, trivial⟩, rfl⟩, ?_⟩
     rintro ⟨⟨n2, x100, x101⟩, h⟩
     cases n2 with
     | zero => exact no_none h
     | succ n2 =>
      replace h := (show fr07_times_l2 x93 x94 x95 x97 (n2 + 1) x100 x101 = _ from h)
      replace h := (fr07_times_l2.eq_2 .. ).symm.trans h
      refine And.intro (fun hb => ?_) (fun hb => ?_)
      ·replace h := cond_t h hb
       refine Or.inl ?_
       obtain ⟨hg, h⟩ := gd h
       refine And.intro hg ?_
       obtain ⟨hg, h⟩ := gd h
       refine And.intro hg ?_
       let x102 : Int := (List.getD x101 (Int.toNat (IntKind.wrap .i64 (x97 + x100))) 0)
       replace h := nm_at x102 rfl h
       let x103 : Int := (IntKind.wrap .i64 ((List.getD x93 (Int.toNat x97) 0) * (List.getD x94 (Int.toNat x100) 0)))
       replace h := nm_at x103 rfl h
       obtain ⟨hg, h⟩ := gd h
       refine And.intro hg ?_
       let x104 : List Int := (List.set x101 (Int.toNat (IntKind.wrap .i64 (x97 + x100))) (IntKind.wrap .i64 (x102 + x103)))
       replace h := nm_at x104 rfl h
       exact ⟨⟨(n2, (IntKind.wrap .i64 (x100 + 1)), x104), h⟩, [], ⟨rfl, ⟨rfl, trivial⟩, ⟨rfl, trivial⟩, rfl⟩, Nat.lt_succ_self _⟩
      ·replace h := cond_f h hb
       exact ⟨[], [], ⟨x101, some_in h⟩, [], rfl, trivial, ⟨rfl, trivial⟩, rfl⟩
   ·replace h := cond_f h hb
    exact ⟨[], [], ⟨x98, some_in h⟩, [], rfl, trivial, ⟨rfl, trivial⟩, rfl⟩
theorem fr07_halved_c (k0 k1 : Nat) (hn : [k0, k1].Nodup) (x110 : List Int) (res : (Unit ⊕ (Nat × Nat × (List Int) × (List Int)))) (h : fr07_halved x110 = some res) :
  Fn Tryd.prog (GE er) 56 [(.dv (.roI .i64 x110))] [] (match res with | (Sum.inl _) => (.tup [(.dv (.sc (.slice none 0 0))), (.dv (.roI .i64 x110))]) | (Sum.inr (p0, p1, p2, p3)) => (.tup [(.sl k0 [] ly3 0 p0), (.sl k1 [] ly3 0 p1)])) (match res with | (Sum.inl _) => [] | (Sum.inr (p0, p1, p2, p3)) => [(k0, (.rowI .i64 p2)), (k1, (.rowI .i64 p3))]) := by
 refine bE er Tryd.func56 rfl rfl ((match res with | (Sum.inl _) => [] | (Sum.inr (p0, p1, p2, p3)) => [(2, k0), (1, k1)])) [(.dv (.roI .i64 x110))] [] (match res with | (Sum.inl _) => [] | (Sum.inr (p0, p1, p2, p3)) => [2, 1]) (match res with | (Sum.inl _) => (.tup [(.dv (.sc (.slice none 0 0))), (.dv (.roI .i64 x110))]) | (Sum.inr (p0, p1, p2, p3)) => (.tup [(.sl 2 [] ly3 0 p0), (.sl 1 [] ly3 0 p1)])) (match res with | (Sum.inl _) => [] | (Sum.inr (p0, p1, p2, p3)) => [(.rowI .i64 p2), (.rowI .i64 p3)]) rfl rfl (by rcases res with _ | _ <;> rfl) (by rcases res with _ | _ <;> rfl) (by rcases res with _ | _ <;> rfl) (by rcases res with _ | _ <;> rfl) (by rcases res with _ | _ <;> first | exact hn.sublist (.cons _ (.cons _ .slnil)) | exact hn.sublist (.cons_cons _ (.cons_cons _ .slnil))) 3 ?_
 replace h := (show fr07_halved x110 = _ from h)
 unfold fr07_halved at h
 refine And.intro (fun hb => ?_) (fun hb => ?_)
 ·replace h := cond_t h hb
  obtain rfl := some_in h
  exact ⟨0, [], [], rfl, trivial⟩
 ·replace h := cond_f h hb
  refine Or.inl ?_
  obtain ⟨hg, h⟩ := gd h
  refine And.intro hg ?_
  refine And.intro (by decide) ?_
  refine ⟨(List.take 17 x110), by first | rfl | simp, ?_⟩
  obtain ⟨hg, h⟩ := gd h
  refine And.intro (hg) ?_
  refine ⟨(([] : List Int) ++ (List.take 17 x110)), app_cut (cut_full _) (rfl), 0, (List.length (([] : List Int) ++ (List.take 17 x110))), ⟨rfl, app_ln (rfl)⟩, ?_⟩
  refine Or.inl ?_
  obtain ⟨hg, h⟩ := gd h
  refine And.intro hg ?_
  refine And.intro (by decide) ?_
  let x111 : Int := (Int.tmod (List.getD (([] : List Int) ++ (List.take 17 x110)) 16 0) 4)
  replace h := nm_at x111 rfl h
  obtain ⟨hg, h⟩ := gd h
  refine And.intro hg ?_
  refine Or.inl ?_
  obtain ⟨r1_0_112, hl1_112, hr1_112⟩ := bnd h
  refine Or.inr ⟨[22], (({p : Unit // (Sum.inl p) = r1_0_112}) ⊕ ({p : (List Int) // (Sum.inr p) = r1_0_112})), ⟨fun | (Sum.inl (⟨(), _⟩)) => [(5, (.sl 2 [] ly3 0 (List.length ([] : List Int)))), (22, (.sl 2 [] ly3 0 (List.length ([] : List Int))))] | (Sum.inr (⟨x112, _⟩)) => [(5, (.sl 2 [] ly3 0 (List.length x112)))], fun | (Sum.inl (⟨(), _⟩)) => [] | (Sum.inr (⟨x112, _⟩)) => [(2, (.rowI .i64 x112))], fun _ => 0⟩, 0, ?_, ?_⟩
  ·rintro (⟨⟨⟩, hp⟩ | ⟨x112, hp⟩)
   ·subst hp
    replace h := hr1_112
    obtain ⟨x120, hc121, h⟩ := bnd h
    refine ⟨[], _, _, _, ⟨⟨_, fr07_trim_2_c er 2 (by decide) ([] : List Int) x120 hc121, ⟨.inl rfl, trivial⟩⟩, ⟨⟨rfl, rfl⟩, trivial⟩, rfl⟩, ?_⟩
    refine Or.inl ?_
    obtain ⟨x121, hc121, h⟩ := bnd h
    refine ⟨[], _, _, _, ⟨⟨_, fr07_trim_2_c er 1 (by decide) (List.set (([] : List Int) ++ (List.take 17 x110)) 16 x111) x121 hc121, ⟨(.inl (show ((.sl 1 [] ly3 0 (List.length (List.set (([] : List Int) ++ (List.take 17 x110)) 16 x111))) : AV) = ((.sl 1 [] ly3 0 (List.length (([] : List Int) ++ (List.take 17 x110)))) : AV) by simp only [List.length_set])), trivial⟩⟩, ⟨⟨rfl, rfl⟩, trivial⟩, rfl⟩, ?_⟩
    refine Or.inl ?_
    obtain rfl := some_in h
    exact ⟨0, [], [], rfl, rfl, rfl, trivial⟩
   ·subst hp
    replace h := hr1_112
    obtain ⟨x122, hc123, h⟩ := bnd h
    refine ⟨[], _, _, _, ⟨⟨_, fr07_trim_2_c er 2 (by decide) x112 x122 hc123, ⟨.inl rfl, trivial⟩⟩, ⟨⟨rfl, rfl⟩, trivial⟩, rfl⟩, ?_⟩
    refine Or.inl ?_
    obtain ⟨x123, hc123, h⟩ := bnd h
    refine ⟨[], _, _, _, ⟨⟨_, fr07_trim_2_c er 1 (by decide) (List.set (([] : List Int) ++ (List.take 17 x110)) 16 x111) x123 hc123, ⟨(.inl (show ((.sl 1 [] ly3 0 (List.length (List.set (([] : List Int) ++ (List.take 17 x110)) 16 x111))) : AV) = ((.sl 1 [] ly3 0 (List.length (([] : List Int) ++ (List.take 17 x110)))) : AV) by simp only [List.length_set])), trivial⟩⟩, ⟨⟨rfl, rfl⟩, trivial⟩, rfl⟩, ?_⟩
    refine Or.inl ?_
    obtain rfl := some_in h
    exact ⟨0, [], [], rfl, rfl, rfl, trivial⟩
  ·replace h := hl1_112
   refine Or.inl ?_
   refine ⟨[22], {x : Nat × Int × (List Int) // fr07_halved_l1 x110 x.1 x.2.1 x.2.2 = some r1_0_112}, ⟨fun | ⟨(n1, x113, x114), _⟩ => [(5, (.sl 2 [] ly3 0 (List.length x114))), (6, (.int .i64 x113))], fun | ⟨(n1, x113, x114), _⟩ => [(2, (.rowI .i64 x114))], fun | ⟨(n1, x113, x114), _⟩ => n1⟩, [], [], ⟨(FUEL, 16, ([] : List Int)), h⟩, ⟨rfl, ⟨rfl, rfl, trivial⟩, ⟨trivial, rfl, rfl, trivial⟩, rfl⟩, ?_⟩
   rintro ⟨⟨n1, x113, x114⟩, h⟩
   cases n1 with
   | zero => exact no_none h
   | succ n1 =>
    replace h := (show fr07_halved_l1 x110 (n1 + 1) x113 x114 = _ from h)
    replace h := (fr07_halved_l1.eq_2 .. ).symm.trans h
    refine And.intro (fun hb => ?_) (fun hb => ?_)
    ·replace h := cond_t h hb
     refine Or.inl ?_
     let x115 : Bool := (decide ((IntKind.wrap .i64 (x113 + 1)) < (List.length x110 : Int)))
     replace h := nm_at x115 rfl h
     obtain ⟨r2_0_116, hl2_116, hr2_116⟩ := bnd h
     refine Or.inr ⟨[], {p : Int // p = r2_0_116}, ⟨fun | ⟨x116, _⟩ => [(7, (.int .i64 x116))], fun | ⟨x116, _⟩ => [], fun _ => 0⟩, 0, ?_, ?_⟩
     ·rintro ⟨x116, hp⟩
      subst hp
      replace h := hr2_116
      obtain ⟨hg, h⟩ := gd h
      refine And.intro hg ?_
      refine And.intro (by decide) ?_
      let x118 : Int := (IntKind.wrap .i64 (Int.tdiv (List.getD x110 (Int.toNat x113) 0) 4))
      replace h := nm_at x118 rfl h
      refine And.intro (by decide) ?_
      let x119 : Int := (IntKind.wrap .i64 (x118 + (IntKind.wrap .i64 ((Int.tmod x116 4) * 64))))
      replace h := nm_at x119 rfl h
      refine Or.inl ?_
      obtain ⟨hg, h⟩ := gd h
      refine And.intro (le_of_ln2 (ln_full [x119]) hg) ?_
      refine ⟨(x114 ++ [x119]), app_cut (cut_full _) (cut_full [x119]), 0, (List.length (x114 ++ [x119])), ⟨rfl, app_ln (ln_full [x119])⟩, ?_⟩
      refine Or.inl ?_
      exact ⟨⟨(n1, (IntKind.wrap .i64 (x113 + 1)), (x114 ++ [x119])), h⟩, [(2, 4)], ⟨rfl, ⟨rfl, rfl, trivial⟩, ⟨trivial, rfl, rfl, trivial⟩, rfl⟩, Nat.lt_succ_self _⟩
     ·replace h := hl2_116
      refine And.intro (fun hb => ?_) (fun hb => ?_)
      ·replace h := cond_t h hb
       obtain ⟨hg, h⟩ := gd h
       refine And.intro hg ?_
       let x117 : Int := (List.getD x110 (Int.toNat (IntKind.wrap .i64 (x113 + 1))) 0)
       replace h := nm_at x117 rfl h
       exact ⟨[], [], ⟨x117, some_in h⟩, [], rfl, ⟨rfl, trivial⟩, ⟨trivial, rfl, rfl, trivial⟩, rfl⟩
      ·replace h := cond_f h hb
       exact ⟨[], [], ⟨0, some_in h⟩, [], rfl, ⟨rfl, trivial⟩, ⟨trivial, rfl, rfl, trivial⟩, rfl⟩
    ·replace h := cond_f h hb
     exact ⟨[], [], (Sum.inr (⟨x114, some_in h⟩)), [], rfl, ⟨rfl, trivial⟩, ⟨trivial, rfl, rfl, trivial⟩, rfl⟩
theorem fr07_halved_2_c (b0 k0 k1 : Nat) (hn : [b0, k0, k1].Nodup) (x114 : Nat) (x115 : List Int) (res : (Unit ⊕ (Nat × Nat × (List Int) × (List Int)))) (h : fr07_halved_2 x114 x115 = some res) :
  Fn Tryd.prog (GE er) 56 [(.sl b0 [] ly3 0 x114)] [(b0, (.rowI .i64 x115))] (match res with | (Sum.inl _) => (.tup [(.dv (.sc (.slice none 0 0))), (.sl b0 [] ly3 0 x114)]) | (Sum.inr (p0, p1, p2, p3)) => (.tup [(.sl k0 [] ly3 0 p0), (.sl k1 [] ly3 0 p1)])) (match res with | (Sum.inl _) => [(b0, (.rowI .i64 x115))] | (Sum.inr (p0, p1, p2, p3)) => [(b0, (.rowI .i64 x115)), (k0, (.rowI .i64 p2)), (k1, (.rowI .i64 p3))]) := by
 refine bE er Tryd.func56 rfl rfl ((0, b0) :: (match res with | (Sum.inl _) => [] | (Sum.inr (p0, p1, p2, p3)) => [(3, k0), (2, k1)])) [(.sl 0 [] ly3 0 x114)] [(.rowI .i64 x115)] (match res with | (Sum.inl _) => [] | (Sum.inr (p0, p1, p2, p3)) => [3, 2]) (match res with | (Sum.inl _) => (.tup [(.dv (.sc (.slice none 0 0))), (.sl 0 [] ly3 0 x114)]) | (Sum.inr (p0, p1, p2, p3)) => (.tup [(.sl 3 [] ly3 0 p0), (.sl 2 [] ly3 0 p1)])) (match res with | (Sum.inl _) => [(.rowI .i64 x115)] | (Sum.inr (p0, p1, p2, p3)) => [(.rowI .i64 x115), (.rowI .i64 p2), (.rowI .i64 p3)]) rfl rfl (by rcases res with _ | _ <;> rfl) (by rcases res with _ | _ <;> rfl) (by rcases res with _ | _ <;> rfl) (by rcases res with _ | _ <;> rfl) (by rcases res with _ | _ <;> first | exact hn.sublist (.cons_cons _ (.cons _ (.cons _ .slnil))) | exact hn.sublist (.cons_cons _ (.cons_cons _ (.cons_cons _ .slnil)))) 3 ?_
 replace h := (show fr07_halved_2 x114 x115 = _ from h)
 unfold fr07_halved_2 at h
 refine And.intro (fun hb => ?_) (fun hb => ?_)
 ·replace h := cond_t h hb
  obtain rfl := some_in h
  exact ⟨0, [], [], rfl, rfl, trivial⟩
 ·replace h := cond_f h hb
  refine Or.inl ?_
  obtain ⟨hg, h⟩ := gd h
  refine And.intro hg ?_
  refine And.intro (by decide) ?_
  refine ⟨0, 17, ⟨by simp, rfl⟩, ?_⟩
  obtain ⟨hg, h⟩ := gd h
  refine And.intro (le_of_ln2 (ln_0 _ _) hg) ?_
  refine ⟨(([] : List Int) ++ (List.take 17 x115)), app_cut (cut_full _) (cut_0 _ _), 0, (List.length (([] : List Int) ++ (List.take 17 x115))), ⟨rfl, app_ln (ln_0 _ _)⟩, ?_⟩
  refine Or.inl ?_
  obtain ⟨hg, h⟩ := gd h
  refine And.intro hg ?_
  refine And.intro (by decide) ?_
  let x116 : Int := (Int.tmod (List.getD (([] : List Int) ++ (List.take 17 x115)) 16 0) 4)
  replace h := nm_at x116 rfl h
  obtain ⟨hg, h⟩ := gd h
  refine And.intro hg ?_
  refine Or.inl ?_
  obtain ⟨r1_0_117, hl1_117, hr1_117⟩ := bnd h
  refine Or.inr ⟨[22], (({p : Unit // (Sum.inl p) = r1_0_117}) ⊕ ({p : (List Int) // (Sum.inr p) = r1_0_117})), ⟨fun | (Sum.inl (⟨(), _⟩)) => [(5, (.sl 3 [] ly3 0 (List.length ([] : List Int)))), (22, (.sl 3 [] ly3 0 (List.length ([] : List Int))))] | (Sum.inr (⟨x117, _⟩)) => [(5, (.sl 3 [] ly3 0 (List.length x117)))], fun | (Sum.inl (⟨(), _⟩)) => [] | (Sum.inr (⟨x117, _⟩)) => [(3, (.rowI .i64 x117))], fun _ => 0⟩, 0, ?_, ?_⟩
  ·rintro (⟨⟨⟩, hp⟩ | ⟨x117, hp⟩)
   ·subst hp
    replace h := hr1_117
    obtain ⟨x124, hc125, h⟩ := bnd h
    refine ⟨[], _, _, _, ⟨⟨_, fr07_trim_2_c er 3 (by decide) ([] : List Int) x124 hc125, ⟨.inl rfl, trivial⟩⟩, ⟨⟨rfl, rfl⟩, trivial⟩, rfl⟩, ?_⟩
    refine Or.inl ?_
    obtain ⟨x125, hc125, h⟩ := bnd h
    refine ⟨[], _, _, _, ⟨⟨_, fr07_trim_2_c er 2 (by decide) (List.set (([] : List Int) ++ (List.take 17 x115)) 16 x116) x125 hc125, ⟨(.inl (show ((.sl 2 [] ly3 0 (List.length (List.set (([] : List Int) ++ (List.take 17 x115)) 16 x116))) : AV) = ((.sl 2 [] ly3 0 (List.length (([] : List Int) ++ (List.take 17 x115)))) : AV) by simp only [List.length_set])), trivial⟩⟩, ⟨⟨rfl, rfl⟩, trivial⟩, rfl⟩, ?_⟩
    refine Or.inl ?_
    obtain rfl := some_in h
    exact ⟨0, [], [], rfl, rfl, rfl, rfl, trivial⟩
   ·subst hp
    replace h := hr1_117
    obtain ⟨x126, hc127, h⟩ := bnd h
    refine ⟨[], _, _, _, ⟨⟨_, fr07_trim_2_c er 3 (by decide) x117 x126 hc127, ⟨.inl rfl, trivial⟩⟩, ⟨⟨rfl, rfl⟩, trivial⟩, rfl⟩, ?_⟩
    refine Or.inl ?_
    obtain ⟨x127, hc127, h⟩ := bnd h
    refine ⟨[], _, _, _, ⟨⟨_, fr07_trim_2_c er 2 (by decide) (List.set (([] : List Int) ++ (List.take 17 x115)) 16 x116) x127 hc127, ⟨(.inl (show ((.sl 2 [] ly3 0 (List.length (List.set (([] : List Int) ++ (List.take 17 x115)) 16 x116))) : AV) = ((.sl 2 [] ly3 0 (List.length (([] : List Int) ++ (List.take 17 x115)))) : AV) by simp only [List.length_set])), trivial⟩⟩, ⟨⟨rfl, rfl⟩, trivial⟩, rfl⟩, ?_⟩
    refine Or.inl ?_
    obtain rfl := some_in h
    exact ⟨0, [], [], rfl, rfl, rfl, rfl, trivial⟩
  ·replace h := hl1_117
   refine Or.inl ?_
   refine ⟨[22], {x : Nat × Int × (List Int) // fr07_halved_2_l1 x114 x115 x.1 x.2.1 x.2.2 = some r1_0_117}, ⟨fun | ⟨(n1, x118, x119), _⟩ => [(5, (.sl 3 [] ly3 0 (List.length x119))), (6, (.int .i64 x118))], fun | ⟨(n1, x118, x119), _⟩ => [(3, (.rowI .i64 x119))], fun | ⟨(n1, x118, x119), _⟩ => n1⟩, [], [], ⟨(FUEL, 16, ([] : List Int)), h⟩, ⟨rfl, ⟨rfl, rfl, trivial⟩, ⟨rfl, trivial, rfl, rfl, trivial⟩, rfl⟩, ?_⟩
   rintro ⟨⟨n1, x118, x119⟩, h⟩
   cases n1 with
   | zero => exact no_none h
   | succ n1 =>
    replace h := (show fr07_halved_2_l1 x114 x115 (n1 + 1) x118 x119 = _ from h)
    replace h := (fr07_halved_2_l1.eq_2 .. ).symm.trans h
    refine And.intro (fun hb => ?_) (fun hb => ?_)
    ·replace h := cond_t h hb
     refine Or.inl ?_
     obtain ⟨r2_0_120, hl2_120, hr2_120⟩ := bnd h
     refine Or.inr ⟨[], {p : Int // p = r2_0_120}, ⟨fun | ⟨x120, _⟩ => [(7, (.int .i64 x120))], fun | ⟨x120, _⟩ => [], fun _ => 0⟩, 0, ?_, ?_⟩
     ·rintro ⟨x120, hp⟩
      subst hp
      replace h := hr2_120
      obtain ⟨hg, h⟩ := gd h
      refine And.intro hg ?_
      refine And.intro (by decide) ?_
      let x122 : Int := (IntKind.wrap .i64 (Int.tdiv (List.getD x115 (Int.toNat x118) 0) 4))
      replace h := nm_at x122 rfl h
      refine And.intro (by decide) ?_
      let x123 : Int := (IntKind.wrap .i64 (x122 + (IntKind.wrap .i64 ((Int.tmod x120 4) * 64))))
      replace h := nm_at x123 rfl h
      refine Or.inl ?_
      obtain ⟨hg, h⟩ := gd h
      refine And.intro (le_of_ln2 (ln_full [x123]) hg) ?_
      refine ⟨(x119 ++ [x123]), app_cut (cut_full _) (cut_full [x123]), 0, (List.length (x119 ++ [x123])), ⟨rfl, app_ln (ln_full [x123])⟩, ?_⟩
      refine Or.inl ?_
      exact ⟨⟨(n1, (IntKind.wrap .i64 (x118 + 1)), (x119 ++ [x123])), h⟩, [(3, 5)], ⟨rfl, ⟨rfl, rfl, trivial⟩, ⟨rfl, trivial, rfl, rfl, trivial⟩, rfl⟩, Nat.lt_succ_self _⟩
     ·replace h := hl2_120
      refine And.intro (fun hb => ?_) (fun hb => ?_)
      ·replace h := cond_t h hb
       obtain ⟨hg, h⟩ := gd h
       refine And.intro hg ?_
       let x121 : Int := (List.getD x115 (Int.toNat (IntKind.wrap .i64 (x118 + 1))) 0)
       replace h := nm_at x121 rfl h
       exact ⟨[], [], ⟨x121, some_in h⟩, [], rfl, ⟨rfl, trivial⟩, ⟨rfl, trivial, rfl, rfl, trivial⟩, rfl⟩
      ·replace h := cond_f h hb
       exact ⟨[], [], ⟨0, some_in h⟩, [], rfl, ⟨rfl, trivial⟩, ⟨rfl, trivial, rfl, rfl, trivial⟩, rfl⟩
    ·replace h := cond_f h hb
     exact ⟨[], [], (Sum.inr (⟨x119, some_in h⟩)), [], rfl, ⟨rfl, trivial⟩, ⟨rfl, trivial, rfl, rfl, trivial⟩, rfl⟩
theorem fr07_Mod_c (k0 : Nat) (hn : [k0].Nodup) (x110 : List Int) (res : (((List Int)) ⊕ (Nat × (List Int)))) (h : fr07_Mod x110 = some res) :
  Fn Tryd.prog (GE er) 49 [(.dv (.roI .i64 x110))] [] (match res with | (Sum.inl p0) => (.dv (.roI .i64 p0)) | (Sum.inr (p0, p1)) => (.sl k0 [] ly3 0 p0)) (match res with | (Sum.inl p0) => [] | (Sum.inr (p0, p1)) => [(k0, (.rowI .i64 p1))]) := by
 refine bE er Tryd.func49 rfl rfl ((match res with | (Sum.inl p0) => [] | (Sum.inr (p0, p1)) => [(3, k0)])) [(.dv (.roI .i64 x110))] [] (match res with | (Sum.inl p0) => [] | (Sum.inr (p0, p1)) => [3]) (match res with | (Sum.inl p0) => (.dv (.roI .i64 p0)) | (Sum.inr (p0, p1)) => (.sl 3 [] ly3 0 p0)) (match res with | (Sum.inl p0) => [] | (Sum.inr (p0, p1)) => [(.rowI .i64 p1)]) rfl rfl (by rcases res with _ | _ <;> rfl) (by rcases res with _ | _ <;> rfl) (by rcases res with _ | _ <;> rfl) (by rcases res with _ | _ <;> rfl) (by rcases res with _ | _ <;> first | exact hn.sublist (.cons _ .slnil) | exact hn.sublist (.cons_cons _ .slnil)) 3 ?_
 replace h := (show fr07_Mod x110 = _ from h)
 unfold fr07_Mod at h
 obtain ⟨r1_0_111, hl1_111, hr1_111⟩ := bnd h
 refine Or.inr ⟨[], {p : (List Int) // p = r1_0_111}, ⟨fun | ⟨x111, _⟩ => [(0, (.dv (.roI .i64 x111)))], fun | ⟨x111, _⟩ => [], fun _ => 0⟩, 0, ?_, ?_⟩
 ·rintro ⟨x111, hp⟩
  subst hp
  replace h := hr1_111
  refine Or.inl ?_
  obtain ⟨r126, hc126, h⟩ := bnd h
  obtain ⟨x121, x122⟩ := r126
  refine ⟨[false, true], _, _, _, ⟨⟨_, fr07_add_c er 1 (by decide) x111 [5] (x121, x122) hc126, ⟨.inl rfl, ve_full _ _, trivial⟩⟩, trivial, rfl⟩, ?_⟩
  refine Or.inl ?_
  obtain ⟨r126, hc126, h⟩ := bnd h
  rcases r126 with ⟨⟩ | ⟨x123, x124, x125, x126⟩
  ·refine ⟨[], _, _, _, ⟨⟨_, fr07_halved_2_c er 1 2 3 (by decide) x121 x122 (Sum.inl ()) hc126, ⟨.inl rfl, trivial⟩⟩, ⟨⟨rfl, rfl⟩, trivial⟩, rfl⟩, ?_⟩
   refine Or.inl ?_
   refine And.intro (fun h0 => Bool.noConfusion h0) (fun _ => ?_)
   obtain rfl := some_in h
   exact ⟨0, [], [], rfl, trivial⟩
  ·refine ⟨[], _, _, _, ⟨⟨_, fr07_halved_2_c er 1 2 3 (by decide) x121 x122 (Sum.inr (x123, x124, x125, x126)) hc126, ⟨.inl rfl, trivial⟩⟩, ⟨⟨rfl, rfl⟩, trivial⟩, rfl⟩, ?_⟩
   refine Or.inl ?_
   refine Or.inl ?_
   refine And.intro (fun hb => ?_) (fun hb => ?_)
   ·replace h := cond_t h hb
    obtain rfl := some_in h
    exact ⟨0, [], [], rfl, rfl, trivial⟩
   ·replace h := cond_f h hb
    obtain rfl := some_in h
    exact ⟨0, [], [], rfl, trivial⟩
 ·replace h := hl1_111
  refine Or.inl ?_
  refine ⟨[], {x : Nat × (List Int) // fr07_Mod_l1 x.1 x.2 = some r1_0_111}, ⟨fun | ⟨(n1, x112), _⟩ => [(0, (.dv (.roI .i64 x112)))], fun | ⟨(n1, x112), _⟩ => [], fun | ⟨(n1, x112), _⟩ => n1⟩, [], [], ⟨(FUEL, x110), h⟩, ⟨rfl, ⟨rfl, trivial⟩, trivial, rfl⟩, ?_⟩
  rintro ⟨⟨n1, x112⟩, h⟩
  cases n1 with
  | zero => exact no_none h
  | succ n1 =>
   replace h := (show fr07_Mod_l1 (n1 + 1) x112 = _ from h)
   replace h := (fr07_Mod_l1.eq_2 .. ).symm.trans h
   refine Or.inl ?_
   obtain ⟨r120, hc120, h⟩ := bnd h
   rcases r120 with ⟨⟩ | ⟨x113, x114, x115, x116⟩
   ·refine ⟨[], _, _, _, ⟨⟨_, fr07_halved_c er 0 1 (by decide) x112 (Sum.inl ()) hc120, ⟨.inl rfl, trivial⟩⟩, trivial, rfl⟩, ?_⟩
    refine And.intro (fun _ => ?_) (fun h0 => Bool.noConfusion h0)
    exact ⟨[], [], ⟨x112, some_in h⟩, [], rfl, ⟨rfl, trivial⟩, trivial, rfl⟩
   ·refine ⟨[], _, _, _, ⟨⟨_, fr07_halved_c er 0 1 (by decide) x112 (Sum.inr (x113, x114, x115, x116)) hc120, ⟨.inl rfl, trivial⟩⟩, trivial, rfl⟩, ?_⟩
    refine Or.inl ?_
    refine Or.inl ?_
    refine And.intro (fun hb => ?_) (fun hb => ?_)
    ·replace h := cond_t h hb
     exact ⟨[], [], ⟨x112, some_in h⟩, [], rfl, ⟨rfl, trivial⟩, trivial, rfl⟩
    ·replace h := cond_f h hb
     refine Or.inl ?_
     obtain ⟨r120, hc120, h⟩ := bnd h
     obtain ⟨x117, x118⟩ := r120
     refine ⟨[true, true], _, _, _, ⟨⟨_, fr07_times_c er 3 (by decide) (List.take x113 x115) [5] (x117, x118) hc120, ⟨.inl rfl, ve_full _ _, trivial⟩⟩, trivial, rfl⟩, ?_⟩
     refine Or.inl ?_
     obtain ⟨r120, hc120, h⟩ := bnd h
     obtain ⟨x119, x120⟩ := r120
     refine ⟨[true, true], _, _, _, ⟨⟨_, fr07_add_c er 4 (by decide) (List.take x114 x116) (List.take x117 x118) (x119, x120) hc120, ⟨.inl rfl, .inl rfl, trivial⟩⟩, trivial, rfl⟩, ?_⟩
     refine Or.inr ?_
     refine ⟨(List.take x119 x120), by first | rfl | exact cut_full _ | simp, ?_⟩
     exact ⟨⟨(n1, (List.take x119 x120)), h⟩, [], ⟨rfl, ⟨rfl, trivial⟩, trivial, rfl⟩, Nat.lt_succ_self _⟩
theorem fr07_Sum_c (x67 : List Int) (x68 : List Int) (res : (List Int)) (h : fr07_Sum x67 x68 = some res) :
  Fn Tryd.prog (GE er) 35 [(.dv (.ints .u8 32 x67)), (.dv (.roI .u8 x68))] [] (.dv (.ints .u8 16 res)) [] := by
 refine bE er Tryd.func35 rfl rfl [] [(.dv (.ints .u8 32 x67)), (.dv (.roI .u8 x68))] [] [] (.dv (.ints .u8 16 res)) [] rfl rfl rfl rfl rfl rfl .nil 3 ?_
 replace h := (show fr07_Sum x67 x68 = _ from h)
 unfold fr07_Sum at h
 refine Or.inl ?_
 refine Or.inl ?_
 refine And.intro (by decide) ?_
 refine And.intro (by decide) ?_
 refine ⟨0, 16, ⟨rfl, rfl⟩, ?_⟩
 obtain ⟨hg, h⟩ := gd h
 refine And.intro (le_of_ln2 (ln_0 _ _) hg) ?_
 refine ⟨(([] : List Int) ++ (List.take 16 x67)), app_cut (cut_full _) (cut_0 _ _), 0, (List.length (([] : List Int) ++ (List.take 16 x67))), ⟨rfl, app_ln (ln_0 _ _)⟩, ?_⟩
 refine Or.inl ?_
 refine Or.inl ?_
 obtain ⟨r1_0_69, hl1_69, hr1_69⟩ := bnd h
 refine Or.inr ⟨[21], {p : (List Int) // p = r1_0_69}, ⟨fun | ⟨x69, _⟩ => [], fun | ⟨x69, _⟩ => [(3, (.rowI .u8 x69))], fun _ => 0⟩, 0, ?_, ?_⟩
 ·rintro ⟨x69, hp⟩
  subst hp
  replace h := hr1_69
  refine Or.inl ?_
  obtain ⟨r2_1_74, hl2_74, hr2_74⟩ := bnd h
  refine Or.inr ⟨[36], {p : (List Int) // p = r2_1_74}, ⟨fun | ⟨x74, _⟩ => [], fun | ⟨x74, _⟩ => [(3, (.rowI .u8 x74))], fun _ => 0⟩, 0, ?_, ?_⟩
  ·rintro ⟨x74, hp⟩
   subst hp
   replace h := hr2_74
   obtain ⟨r104, hc104, h⟩ := bnd h
   obtain ⟨x79, x80⟩ := r104
   refine ⟨[true], _, _, _, ⟨⟨_, fr07_number_c er 6 (by decide) (List.take (List.length (([] : List Int) ++ (List.take 16 x67))) x74) (x79, x80) hc104, ⟨.inl rfl, trivial⟩⟩, trivial, rfl⟩, ?_⟩
   refine Or.inl ?_
   refine Or.inr ?_
   refine ⟨([] : List Int), by first | rfl | exact cut_full _ | simp, ?_⟩
   obtain ⟨r3_2_81, hl3_81, hr3_81⟩ := bnd h
   refine Or.inr ⟨[1, 10], {p : (List Int) // p = r3_2_81}, ⟨fun | ⟨x81, _⟩ => [(11, (.dv (.roI .i64 x81)))], fun | ⟨x81, _⟩ => [], fun _ => 0⟩, 0, ?_, ?_⟩
   ·rintro ⟨x81, hp⟩
    subst hp
    replace h := hr3_81
    refine Or.inl ?_
    refine And.intro (by decide) ?_
    refine ⟨16, 16, ⟨rfl, rfl⟩, ?_⟩
    obtain ⟨r104, hc104, h⟩ := bnd h
    obtain ⟨x97, x98⟩ := r104
    refine ⟨[true], _, _, _, ⟨⟨_, fr07_number_c er 8 (by decide) (List.take 16 (List.drop 16 x67)) (x97, x98) hc104, ⟨.inl rfl, trivial⟩⟩, trivial, rfl⟩, ?_⟩
    refine Or.inl ?_
    obtain ⟨r104, hc104, h⟩ := bnd h
    obtain ⟨x99, x100⟩ := r104
    refine ⟨[false, true], _, _, _, ⟨⟨_, fr07_add_c er 9 (by decide) x81 (List.take x97 x98) (x99, x100) hc104, ⟨.inl rfl, .inl rfl, trivial⟩⟩, trivial, rfl⟩, ?_⟩
    refine Or.inl ?_
    obtain ⟨r6_3_101, hl6_101, hr6_101⟩ := bnd h
    refine Or.inr ⟨[14], {p : (List Int) // p = r6_3_101}, ⟨fun | ⟨x101, _⟩ => [], fun | ⟨x101, _⟩ => [(10, (.var (.dv (.ints .u8 16 x101))))], fun _ => 0⟩, 0, ?_, ?_⟩
    ·rintro ⟨x101, hp⟩
     subst hp
     replace h := hr6_101
     obtain rfl := some_in h
     exact ⟨0, [], [], rfl, trivial⟩
    ·replace h := hl6_101
     refine Or.inl ?_
     refine ⟨[], {x : Nat × Int × (List Int) // fr07_Sum_l4 x99 x100 x.1 x.2.1 x.2.2 = some r6_3_101}, ⟨fun | ⟨(n4, x102, x103), _⟩ => [(16, (.int .i64 x102))], fun | ⟨(n4, x102, x103), _⟩ => [(10, (.var (.dv (.ints .u8 16 x103))))], fun | ⟨(n4, x102, x103), _⟩ => n4⟩, [], [], ⟨(FUEL, 0, (List.replicate 16 (0 : Int))), h⟩, ⟨rfl, ⟨rfl, trivial⟩, ⟨rfl, rfl, trivial, rfl, rfl, rfl, rfl, rfl, rfl, rfl, rfl, trivial⟩, rfl⟩, ?_⟩
     rintro ⟨⟨n4, x102, x103⟩, h⟩
     cases n4 with
     | zero => exact no_none h
     | succ n4 =>
      replace h := (show fr07_Sum_l4 x99 x100 (n4 + 1) x102 x103 = _ from h)
      replace h := (fr07_Sum_l4.eq_2 .. ).symm.trans h
      refine And.intro (fun hb => ?_) (fun hb => ?_)
      ·replace h := cond_t h hb
       refine And.intro (fun hb => ?_) (fun hb => ?_)
       ·replace h := cond_t h hb
        refine Or.inl ?_
        obtain ⟨hg, h⟩ := gd h
        refine And.intro hg ?_
        obtain ⟨hg, h⟩ := gd h
        refine And.intro hg ?_
        let x104 : List Int := (List.set x103 (Int.toNat x102) (IntKind.wrap .u8 (List.getD x100 (Int.toNat x102) 0)))
        replace h := nm_at x104 rfl h
        exact ⟨⟨(n4, (IntKind.wrap .i64 (x102 + 1)), x104), h⟩, [], ⟨rfl, ⟨rfl, trivial⟩, ⟨rfl, rfl, trivial, rfl, rfl, rfl, rfl, rfl, rfl, rfl, rfl, trivial⟩, rfl⟩, Nat.lt_succ_self _⟩
       ·replace h := cond_f h hb
        exact ⟨[], [], ⟨x103, some_in h⟩, [], rfl, trivial, ⟨rfl, rfl, trivial, rfl, rfl, rfl, rfl, rfl, rfl, rfl, rfl, trivial⟩, rfl⟩
      ·replace h := cond_f h hb
       exact ⟨[], [], ⟨x103, some_in h⟩, [], rfl, trivial, ⟨rfl, rfl, trivial, rfl, rfl, rfl, rfl, rfl, rfl, rfl, rfl, trivial⟩, rfl⟩
   ·replace h := hl3_81
    refine Or.inl ?_
    refine ⟨[], {x : Nat × (List Int) × Int // fr07_Sum_l3 x68 x79 x80 x.1 x.2.1 x.2.2 = some r3_2_81}, ⟨fun | ⟨(n3, x82, x83), _⟩ => [(11, (.dv (.roI .i64 x82))), (12, (.int .i64 x83))], fun | ⟨(n3, x82, x83), _⟩ => [], fun | ⟨(n3, x82, x83), _⟩ => n3⟩, [], [], ⟨(FUEL, ([] : List Int), 0), h⟩, ⟨rfl, ⟨rfl, rfl, trivial⟩, ⟨rfl, rfl, trivial, rfl, rfl, rfl, rfl, rfl, trivial⟩, rfl⟩, ?_⟩
    rintro ⟨⟨n3, x82, x83⟩, h⟩
    cases n3 with
    | zero => exact no_none h
    | succ n3 =>
     replace h := (show fr07_Sum_l3 x68 x79 x80 (n3 + 1) x82 x83 = _ from h)
     replace h := (fr07_Sum_l3.eq_2 .. ).symm.trans h
     refine And.intro (fun hb => ?_) (fun hb => ?_)
     ·replace h := cond_t h hb
      obtain ⟨r4_2_84, hl4_84, hr4_84⟩ := bnd h
      refine Or.inr ⟨[], {p : (List Int) // p = r4_2_84}, ⟨fun | ⟨x84, _⟩ => [(11, (.dv (.roI .i64 x84)))], fun | ⟨x84, _⟩ => [], fun _ => 0⟩, 0, ?_, ?_⟩
      ·rintro ⟨x84, hp⟩
       subst hp
       replace h := hr4_84
       exact ⟨⟨(n3, x84, (IntKind.wrap .i64 (x83 + 16))), h⟩, [], ⟨rfl, ⟨rfl, rfl, trivial⟩, ⟨rfl, rfl, trivial, rfl, rfl, rfl, rfl, rfl, trivial⟩, rfl⟩, Nat.lt_succ_self _⟩
      ·replace h := hl4_84
       let x85 : Bool := (decide ((IntKind.wrap .i64 (x83 + 16)) > (List.length x68 : Int)))
       replace h := nm_at x85 rfl h
       obtain ⟨r5_2_86, hl5_86, hr5_86⟩ := bnd h
       refine Or.inr ⟨[], {p : Int // p = r5_2_86}, ⟨fun | ⟨x86, _⟩ => [(13, (.int .i64 x86))], fun | ⟨x86, _⟩ => [], fun _ => 0⟩, 0, ?_, ?_⟩
       ·rintro ⟨x86, hp⟩
        subst hp
        replace h := hr5_86
        refine Or.inl ?_
        obtain ⟨hg, h⟩ := gd h
        refine And.intro hg ?_
        obtain ⟨hg, h⟩ := gd h
        refine And.intro hg ?_
        refine ⟨(List.take (Int.toNat (x86 - x83)) (List.drop (Int.toNat x83) x68)), by first | rfl | simp, ?_⟩
        let x87 : List Int := (List.take (Int.toNat (x86 - x83)) (List.drop (Int.toNat x83) x68))
        replace h := nm_at x87 rfl h
        obtain ⟨hg, h⟩ := gd h
        refine And.intro (hg) ?_
        refine ⟨(([] : List Int) ++ x87), app_cut (cut_full _) (rfl), 0, (List.length (([] : List Int) ++ x87)), ⟨rfl, app_ln (rfl)⟩, ?_⟩
        refine Or.inl ?_
        refine Or.inl ?_
        obtain ⟨hg, h⟩ := gd h
        refine And.intro (le_of_ln2 (ln_full [1]) hg) ?_
        refine ⟨((([] : List Int) ++ x87) ++ [1]), app_cut (cut_full _) (cut_full [1]), 0, (List.length ((([] : List Int) ++ x87) ++ [1])), ⟨rfl, app_ln (ln_full [1])⟩, ?_⟩
        refine Or.inl ?_
        obtain ⟨r96, hc96, h⟩ := bnd h
        obtain ⟨x88, x89⟩ := r96
        refine ⟨[true], _, _, _, ⟨⟨_, fr07_number_c er 12 (by decide) ((([] : List Int) ++ x87) ++ [1]) (x88, x89) hc96, ⟨ve_full _ _, trivial⟩⟩, trivial, rfl⟩, ?_⟩
        refine Or.inl ?_
        obtain ⟨r96, hc96, h⟩ := bnd h
        obtain ⟨x90, x91⟩ := r96
        refine ⟨[false, true], _, _, _, ⟨⟨_, fr07_add_c er 13 (by decide) x82 (List.take x88 x89) (x90, x91) hc96, ⟨.inl rfl, .inl rfl, trivial⟩⟩, trivial, rfl⟩, ?_⟩
        refine Or.inl ?_
        obtain ⟨r96, hc96, h⟩ := bnd h
        obtain ⟨x92, x93⟩ := r96
        refine ⟨[true, true], _, _, _, ⟨⟨_, fr07_times_c er 14 (by decide) (List.take x90 x91) (List.take x79 x80) (x92, x93) hc96, ⟨.inl rfl, .inl rfl, trivial⟩⟩, trivial, rfl⟩, ?_⟩
        refine Or.inr ?_
        refine ⟨(List.take x92 x93), by first | rfl | exact cut_full _ | simp, ?_⟩
        obtain ⟨r96, hc96, h⟩ := bnd h
        rcases r96 with x94 | ⟨x95, x96⟩
        ·refine ⟨[], _, _, _, ⟨⟨_, fr07_Mod_c er 15 (by decide) (List.take x92 x93) (Sum.inl x94) hc96, ⟨.inl rfl, trivial⟩⟩, trivial, rfl⟩, ?_⟩
         exact ⟨[], [], ⟨x94, some_in h⟩, [], rfl, ⟨rfl, trivial⟩, ⟨rfl, rfl, trivial, rfl, rfl, rfl, rfl, rfl, trivial⟩, rfl⟩
        ·refine ⟨[], _, _, _, ⟨⟨_, fr07_Mod_c er 15 (by decide) (List.take x92 x93) (Sum.inr (x95, x96)) hc96, ⟨.inl rfl, trivial⟩⟩, trivial, rfl⟩, ?_⟩
         refine Or.inr ?_
         refine ⟨(List.take x95 x96), by first | rfl | exact cut_full _ | simp, ?_⟩
         exact ⟨[], [], ⟨(List.take x95 x96), some_in h⟩, [], rfl, ⟨rfl, trivial⟩, ⟨rfl, rfl, trivial, rfl, rfl, rfl, rfl, rfl, trivial⟩, rfl⟩
       ·replace h := hl5_86
        refine And.intro (fun hb => ?_) (fun hb => ?_)
        ·replace h := cond_t h hb
         exact ⟨[], [], ⟨(List.length x68 : Int), some_in h⟩, [], rfl, ⟨rfl, trivial⟩, ⟨rfl, rfl, trivial, rfl, rfl, rfl, rfl, rfl, trivial⟩, rfl⟩
        ·replace h := cond_f h hb
         exact ⟨[], [], ⟨(IntKind.wrap .i64 (x83 + 16)), some_in h⟩, [], rfl, ⟨rfl, trivial⟩, ⟨rfl, rfl, trivial, rfl, rfl, rfl, rfl, rfl, trivial⟩, rfl⟩
     ·replace h := cond_f h hb
      exact ⟨[], [], ⟨x82, some_in h⟩, [], rfl, ⟨rfl, trivial⟩, ⟨rfl, rfl, trivial, rfl, rfl, rfl, rfl, rfl, trivial⟩, rfl⟩
  ·replace h := hl2_74
   refine Or.inl ?_
   refine ⟨[], {x : Nat × Int × (List Int) // fr07_Sum_l2 x67 x.1 x.2.1 x.2.2 = some r2_1_74}, ⟨fun | ⟨(n2, x75, x76), _⟩ => [(37, (.int .i64 x75))], fun | ⟨(n2, x75, x76), _⟩ => [(3, (.rowI .u8 x76))], fun | ⟨(n2, x75, x76), _⟩ => n2⟩, [], [], ⟨(FUEL, 0, x69), h⟩, ⟨rfl, ⟨rfl, trivial⟩, ⟨rfl, rfl, trivial, rfl, rfl, rfl, trivial⟩, rfl⟩, ?_⟩
   rintro ⟨⟨n2, x75, x76⟩, h⟩
   cases n2 with
   | zero => exact no_none h
   | succ n2 =>
    replace h := (show fr07_Sum_l2 x67 (n2 + 1) x75 x76 = _ from h)
    replace h := (fr07_Sum_l2.eq_2 .. ).symm.trans h
    refine And.intro (fun hb => ?_) (fun hb => ?_)
    ·replace h := cond_t h hb
     refine Or.inl ?_
     obtain ⟨hg, h⟩ := gd h
     refine And.intro hg ?_
     obtain ⟨hg, h⟩ := gd h
     refine And.intro hg ?_
     let x77 : Int := (List.getD x76 (Int.toNat (List.getD [4, 8, 12] (Int.toNat x75) 0)) 0)
     replace h := nm_at x77 rfl h
     refine And.intro (by decide) ?_
     obtain ⟨hg, h⟩ := gd h
     refine And.intro hg ?_
     let x78 : List Int := (List.set x76 (Int.toNat (List.getD [4, 8, 12] (Int.toNat x75) 0)) (IntKind.wrap .u8 ((IntKind.wrap .u8 (Int.tdiv x77 4)) * 4)))
     replace h := nm_at x78 rfl h
     exact ⟨⟨(n2, (IntKind.wrap .i64 (x75 + 1)), x78), h⟩, [], ⟨rfl, ⟨rfl, trivial⟩, ⟨rfl, rfl, trivial, rfl, rfl, rfl, trivial⟩, rfl⟩, Nat.lt_succ_self _⟩
    ·replace h := cond_f h hb
     exact ⟨[], [], ⟨x76, some_in h⟩, [], rfl, trivial, ⟨rfl, rfl, trivial, rfl, rfl, rfl, trivial⟩, rfl⟩
 ·replace h := hl1_69
  refine Or.inl ?_
  refine ⟨[], {x : Nat × Int × (List Int) // fr07_Sum_l1 x67 x.1 x.2.1 x.2.2 = some r1_0_69}, ⟨fun | ⟨(n1, x70, x71), _⟩ => [(22, (.int .i64 x70))], fun | ⟨(n1, x70, x71), _⟩ => [(3, (.rowI .u8 x71))], fun | ⟨(n1, x70, x71), _⟩ => n1⟩, [], [], ⟨(FUEL, 0, (([] : List Int) ++ (List.take 16 x67))), h⟩, ⟨rfl, ⟨rfl, trivial⟩, ⟨rfl, rfl, trivial, rfl, rfl, trivial⟩, rfl⟩, ?_⟩
  rintro ⟨⟨n1, x70, x71⟩, h⟩
  cases n1 with
  | zero => exact no_none h
  | succ n1 =>
   replace h := (show fr07_Sum_l1 x67 (n1 + 1) x70 x71 = _ from h)
   replace h := (fr07_Sum_l1.eq_2 .. ).symm.trans h
   refine And.intro (fun hb => ?_) (fun hb => ?_)
   ·replace h := cond_t h hb
    refine Or.inl ?_
    obtain ⟨hg, h⟩ := gd h
    refine And.intro hg ?_
    obtain ⟨hg, h⟩ := gd h
    refine And.intro hg ?_
    let x72 : Int := (List.getD x71 (Int.toNat (List.getD [3, 7, 11, 15] (Int.toNat x70) 0)) 0)
    replace h := nm_at x72 rfl h
    refine And.intro (by decide) ?_
    obtain ⟨hg, h⟩ := gd h
    refine And.intro hg ?_
    let x73 : List Int := (List.set x71 (Int.toNat (List.getD [3, 7, 11, 15] (Int.toNat x70) 0)) (Int.tmod x72 16))
    replace h := nm_at x73 rfl h
    exact ⟨⟨(n1, (IntKind.wrap .i64 (x70 + 1)), x73), h⟩, [], ⟨rfl, ⟨rfl, trivial⟩, ⟨rfl, rfl, trivial, rfl, rfl, trivial⟩, rfl⟩, Nat.lt_succ_self _⟩
   ·replace h := cond_f h hb
    exact ⟨[], [], ⟨x71, some_in h⟩, [], rfl, trivial, ⟨rfl, rfl, trivial, rfl, rfl, trivial⟩, rfl⟩
theorem fr08_code_c (k0 : Nat) (hn : [k0].Nodup) (x42 : List Int) (x43 : List Int) (x44 : List Int) (x45 : List Int) (res : (List Int)) (h : fr08_code x42 x43 x44 x45 = some res) :
  Fn Tryd.prog (GE er) 17 [(.dv (.ints .u8 32 x42)), (.dv (.roI .u8 x43)), (.dv (.roI .u8 x44)), (.dv (.roI .u8 x45))] [] (.sl k0 [] ly5 0 16) [(k0, (.rowI .u8 res))] := by
 refine bE er Tryd.func17 rfl rfl [(10, k0)] [(.dv (.ints .u8 32 x42)), (.dv (.roI .u8 x43)), (.dv (.roI .u8 x44)), (.dv (.roI .u8 x45))] [] [10] (.sl 10 [] ly5 0 16) [(.rowI .u8 res)] rfl rfl rfl rfl rfl rfl hn 3 ?_
 replace h := (show fr08_code x42 x43 x44 x45 = _ from h)
 unfold fr08_code at h
 obtain ⟨x46, hc56, h⟩ := bnd h
 refine ⟨[], _, _, _, ⟨⟨_, fr06_Block_c er 2 (by decide) x42 0 x43 x46 hc56, ⟨.inl rfl, .inl rfl, .inl rfl, trivial⟩⟩, trivial, rfl⟩, ?_⟩
 refine Or.inl ?_
 obtain ⟨r1_0_47, hl1_47, hr1_47⟩ := bnd h
 refine Or.inr ⟨[18], {p : (List Int) // p = r1_0_47}, ⟨fun | ⟨x47, _⟩ => [], fun | ⟨x47, _⟩ => [(1, (.var (.dv (.ints .u8 32 x47))))], fun _ => 0⟩, 0, ?_, ?_⟩
 ·rintro ⟨x47, hp⟩
  subst hp
  replace h := hr1_47
  obtain ⟨x52, hc56, h⟩ := bnd h
  refine ⟨[], _, _, _, ⟨⟨_, fr08_fill_c er 3 (by decide) x44 x52 hc56, ⟨.inl rfl, trivial⟩⟩, trivial, rfl⟩, ?_⟩
  refine Or.inl ?_
  obtain ⟨x53, hc56, h⟩ := bnd h
  refine ⟨[], _, _, _, ⟨⟨_, fr08_fill_c er 4 (by decide) x45 x53 hc56, ⟨.inl rfl, trivial⟩⟩, trivial, rfl⟩, ?_⟩
  refine Or.inl ?_
  obtain ⟨hg, h⟩ := gd h
  refine And.intro (le_of_ln2 (ln_full x53) hg) ?_
  refine ⟨(x52 ++ x53), app_cut (cut_full _) (cut_full x53), 0, (List.length (x52 ++ x53)), ⟨rfl, app_ln (ln_full x53)⟩, ?_⟩
  refine Or.inl ?_
  obtain ⟨x54, hc56, h⟩ := bnd h
  refine ⟨[], _, _, _, ⟨⟨_, fr01_Little_c er 6 (by decide) (IntKind.wrap .u64 (List.length x44 : Int)) 8 x54 hc56, ⟨.inl rfl, .inl rfl, trivial⟩⟩, trivial, rfl⟩, ?_⟩
  refine Or.inl ?_
  obtain ⟨hg, h⟩ := gd h
  refine And.intro (le_of_ln2 (ln_full x54) hg) ?_
  refine ⟨((x52 ++ x53) ++ x54), app_cut (cut_full _) (cut_full x54), 0, (List.length ((x52 ++ x53) ++ x54)), ⟨rfl, app_ln (ln_full x54)⟩, ?_⟩
  refine Or.inl ?_
  obtain ⟨x55, hc56, h⟩ := bnd h
  refine ⟨[], _, _, _, ⟨⟨_, fr01_Little_c er 8 (by decide) (IntKind.wrap .u64 (List.length x45 : Int)) 8 x55 hc56, ⟨.inl rfl, .inl rfl, trivial⟩⟩, trivial, rfl⟩, ?_⟩
  refine Or.inl ?_
  obtain ⟨hg, h⟩ := gd h
  refine And.intro (le_of_ln2 (ln_full x55) hg) ?_
  refine ⟨(((x52 ++ x53) ++ x54) ++ x55), app_cut (cut_full _) (cut_full x55), 0, (List.length (((x52 ++ x53) ++ x54) ++ x55)), ⟨rfl, app_ln (ln_full x55)⟩, ?_⟩
  refine Or.inl ?_
  obtain ⟨x56, hc56, h⟩ := bnd h
  refine ⟨[false, true], _, _, _, ⟨⟨_, fr07_Sum_c er x47 (((x52 ++ x53) ++ x54) ++ x55) x56 hc56, ⟨.inl rfl, ve_full _ _, trivial⟩⟩, trivial, rfl⟩, ?_⟩
  refine Or.inr ?_
  refine And.intro (by omega) ?_
  refine ⟨x56, rfl, 0, 16, ⟨rfl, rfl⟩, ?_⟩
  obtain rfl := some_in h
  exact ⟨0, [], [], rfl, rfl, trivial⟩
 ·replace h := hl1_47
  refine Or.inl ?_
  refine ⟨[], {x : Nat × Int × (List Int) // fr08_code_l1 x46 x.1 x.2.1 x.2.2 = some r1_0_47}, ⟨fun | ⟨(n1, x48, x49), _⟩ => [(19, (.int .i64 x48))], fun | ⟨(n1, x48, x49), _⟩ => [(1, (.var (.dv (.ints .u8 32 x49))))], fun | ⟨(n1, x48, x49), _⟩ => n1⟩, [], [], ⟨(FUEL, 0, (List.replicate 32 (0 : Int))), h⟩, ⟨rfl, ⟨rfl, trivial⟩, ⟨rfl, rfl, rfl, trivial⟩, rfl⟩, ?_⟩
  rintro ⟨⟨n1, x48, x49⟩, h⟩
  cases n1 with
  | zero => exact no_none h
  | succ n1 =>
   replace h := (show fr08_code_l1 x46 (n1 + 1) x48 x49 = _ from h)
   replace h := (fr08_code_l1.eq_2 .. ).symm.trans h
   refine And.intro (fun hb => ?_) (fun hb => ?_)
   ·replace h := cond_t h hb
    refine Or.inl ?_
    obtain ⟨hg, h⟩ := gd h
    refine And.intro hg ?_
    obtain ⟨r2_0_50, hl2_50, hr2_50⟩ := bnd h
    refine Or.inr ⟨[11], {p : (List Int) // p = r2_0_50}, ⟨fun | ⟨x50, _⟩ => [], fun | ⟨x50, _⟩ => [(1, (.var (.dv (.ints .u8 32 x50))))], fun _ => 0⟩, 0, ?_, ?_⟩
    ·rintro ⟨x50, hp⟩
     subst hp
     replace h := hr2_50
     exact ⟨⟨(n1, (IntKind.wrap .i64 (x48 + 1)), x50), h⟩, [], ⟨rfl, ⟨rfl, trivial⟩, ⟨rfl, rfl, rfl, trivial⟩, rfl⟩, Nat.lt_succ_self _⟩
    ·replace h := hl2_50
     refine And.intro (fun hb => ?_) (fun hb => ?_)
     ·replace h := cond_t h hb
      obtain ⟨hg, h⟩ := gd h
      refine And.intro hg ?_
      let x51 : List Int := (List.set x49 (Int.toNat x48) (List.getD x46 (Int.toNat x48) 0))
      replace h := nm_at x51 rfl h
      exact ⟨[], [], ⟨x51, some_in h⟩, [], rfl, trivial, ⟨rfl, rfl, rfl, trivial⟩, rfl⟩
     ·replace h := cond_f h hb
      exact ⟨[], [], ⟨x49, some_in h⟩, [], rfl, trivial, ⟨rfl, rfl, rfl, trivial⟩, rfl⟩
   ·replace h := cond_f h hb
    exact ⟨[], [], ⟨x49, some_in h⟩, [], rfl, trivial, ⟨rfl, rfl, rfl, trivial⟩, rfl⟩
theorem fnum_Num_c (res : Unit) (h : fnum_Num = some res) :
  Fn Tryd.prog (GE er) 9 [(.dv (.sc .nilIface))] [] (.int .i64 0) [] := by
 refine bE er Tryd.func9 rfl rfl [] [(.dv (.sc .nilIface))] [] [] (.int .i64 0) [] rfl rfl rfl rfl rfl rfl .nil 3 ?_
 replace h := (show fnum_Num = _ from h)
 unfold fnum_Num at h
 refine And.intro (fun _ => ?_) (fun h0 => Bool.noConfusion h0)
 obtain rfl := some_in h
 exact ⟨0, [], [], rfl, trivial⟩
theorem fnum_Kept_2_c (b0 : Nat) (hn : [b0].Nodup) (x31 : Nat) (x32 : Nat) (x33 : Nat) (x34 : List Int) (x35 : List Int) (res : Bool) (h : fnum_Kept_2 x31 x32 x33 x34 x35 = some res) :
  Fn Tryd.prog (GE er) 10 [(.slc b0 x31 x32 x33), (.dv (.roI .u8 x34))] [(b0, (.rowI .u8 x35))] (.bl res) [(b0, (.rowI .u8 x35))] := by
 refine bE er Tryd.func10 rfl rfl [(0, b0)] [(.slc 0 x31 x32 x33), (.dv (.roI .u8 x34))] [(.rowI .u8 x35)] [] (.bl res) [(.rowI .u8 x35)] rfl rfl rfl rfl rfl rfl hn 3 ?_
 replace h := (show fnum_Kept_2 x31 x32 x33 x34 x35 = _ from h)
 unfold fnum_Kept_2 at h
 obtain ⟨hg, h⟩ := gd h
 refine And.intro hg ?_
 obtain ⟨hg, h⟩ := gd h
 refine And.intro hg ?_
 obtain ⟨hg, h⟩ := gd h
 refine And.intro hg ?_
 refine Or.inl ?_
 refine ⟨(x31 + 0), (Int.toNat ((x33 : Int) - 0)), ⟨rfl, rfl⟩, ?_⟩
 let x36 : Bool := (decide (((Int.toNat ((x33 : Int) - 0)) : Int) < (IntKind.wrap .i64 ((List.length x34 : Int) + 6))))
 replace h := nm_at x36 rfl h
 refine And.intro (fun hb => ?_) (fun hb => ?_)
 ·replace h := cond_t h hb
  obtain rfl := some_in h
  exact ⟨0, [], [], rfl, rfl, trivial⟩
 ·replace h := cond_f h hb
  obtain ⟨hg, h⟩ := gd h
  refine And.intro hg ?_
  obtain ⟨hg, h⟩ := gd h
  refine And.intro hg ?_
  refine ⟨(x31 + 0), (Int.toNat ((List.length x34 : Int) - 0)), ⟨rfl, rfl⟩, ?_⟩
  refine ⟨(List.map (fun q : Int => UInt8.ofNat q.toNat) (List.take (Int.toNat ((List.length x34 : Int) - 0)) (List.drop (x31 + 0) x35))), rfl, ?_⟩
  let x37 : List UInt8 := (List.map (fun q : Int => UInt8.ofNat q.toNat) (List.take (Int.toNat ((List.length x34 : Int) - 0)) (List.drop (x31 + 0) x35)))
  replace h := nm_at x37 rfl h
  refine ⟨(List.map (fun q : Int => UInt8.ofNat q.toNat) x34), rfl, ?_⟩
  let x38 : Bool := (!(x37 == (List.map (fun q : Int => UInt8.ofNat q.toNat) x34)))
  replace h := nm_at x38 rfl h
  refine And.intro (fun hb => ?_) (fun hb => ?_)
  ·replace h := cond_t h hb
   obtain rfl := some_in h
   exact ⟨0, [], [], rfl, rfl, trivial⟩
  ·replace h := cond_f h hb
   obtain ⟨r1_0_38, hl1_38, hr1_38⟩ := bnd h
   refine Or.inr ⟨[], {p : Unit // (Sum.inl p) = r1_0_38}, ⟨fun | ⟨(), _⟩ => [(4, (.dv (.sc (.bool false))))], fun | ⟨(), _⟩ => [], fun _ => 0⟩, 0, ?_, ?_⟩
   ·rintro ⟨⟨⟩, hp⟩
    subst hp
    replace h := hr1_38
    obtain rfl := some_in h
    exact ⟨0, [], [], rfl, rfl, trivial⟩
   ·replace h := hl1_38
    refine Or.inl ?_
    refine ⟨[], {x : Nat × Int // fnum_Kept_2_l1 x31 x33 x34 x35 x.1 x.2 = some r1_0_38}, ⟨fun | ⟨(n1, x39), _⟩ => [(4, (.dv (.sc (.bool false)))), (6, (.int .i64 x39))], fun | ⟨(n1, x39), _⟩ => [], fun | ⟨(n1, x39), _⟩ => n1⟩, [], [], ⟨(FUEL, 0), h⟩, ⟨rfl, ⟨rfl, rfl, trivial⟩, ⟨rfl, trivial⟩, rfl⟩, ?_⟩
    rintro ⟨⟨n1, x39⟩, h⟩
    cases n1 with
    | zero => exact no_none h
    | succ n1 =>
     replace h := (show fnum_Kept_2_l1 x31 x33 x34 x35 (n1 + 1) x39 = _ from h)
     replace h := (fnum_Kept_2_l1.eq_2 .. ).symm.trans h
     refine And.intro (fun hb => ?_) (fun hb => ?_)
     ·replace h := cond_t h hb
      refine Or.inl ?_
      obtain ⟨hg, h⟩ := gd h
      refine And.intro hg ?_
      let x40 : Nat := (addO (x31 + 0) (Int.toNat (IntKind.wrap .i64 ((List.length x34 : Int) + x39))))
      replace h := nm_at x40 rfl h
      let x41 : Bool := (!((List.getD x35 x40 0) == (IntKind.wrap .u8 (IntKind.wrap .i64 (201 + x39)))))
      replace h := nm_at x41 rfl h
      refine And.intro (fun hb => ?_) (fun hb => ?_)
      ·replace h := cond_t h hb
       obtain rfl := some_in h
       replace h := hr1_38
       obtain rfl := some_in h
       exact ⟨0, [], [], rfl, rfl, trivial⟩
      ·replace h := cond_f h hb
       exact ⟨⟨(n1, (IntKind.wrap .i64 (x39 + 1))), h⟩, [], ⟨rfl, ⟨rfl, rfl, trivial⟩, ⟨rfl, trivial⟩, rfl⟩, Nat.lt_succ_self _⟩
     ·replace h := cond_f h hb
      exact ⟨[], [], ⟨(), some_in h⟩, [], rfl, ⟨rfl, trivial⟩, ⟨rfl, trivial⟩, rfl⟩
end
end Go.Eng
