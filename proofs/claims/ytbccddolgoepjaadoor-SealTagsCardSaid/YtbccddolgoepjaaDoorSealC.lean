/-
  Part of a proof: SealC.
-/
import Derived.Test.YtbccddolgoepjaaDoorIss
set_option linter.unusedVariables false
set_option linter.unusedSimpArgs false
namespace Go.Eng
open Go.Proofs
set_option maxRecDepth 100000
set_option maxHeartbeats 4000000
/-- The package-level errors, by their numbers. -/
def GEv (er : Nat → ErrV) : Nat → AV
  | 0 => .rp (.sc (.iface (er 4).1 (er 4).2))
  | 1 => .rp (.sc (.iface (er 3).1 (er 3).2))
  | 2 => .rp (.sc (.iface (er 1).1 (er 1).2))
  | 3 => .rp (.sc (.iface (er 2).1 (er 2).2))
  | 4 => .rp (.sc (.iface (er 5).1 (er 5).2))
  | 5 => .rp (.sc (.iface (er 6).1 (er 6).2))
  | 6 => .rp (.sc (.iface (er 7).1 (er 7).2))
  | 7 => .rp (.sc (.iface (er 8).1 (er 8).2))
  | 8 => .rp (.sc (.iface (er 9).1 (er 9).2))
  | 9 => .rp (.sc (.iface (er 10).1 (er 10).2))
  | 10 => .rp (.sc (.iface (er 11).1 (er 11).2))
  | 11 => .rp (.sc (.iface (er 12).1 (er 12).2))
  | 12 => .rp (.sc (.iface (er 13).1 (er 13).2))
  | 13 => .rp (.sc (.iface (er 14).1 (er 14).2))
  | 14 => .rp (.sc (.iface (er 15).1 (er 15).2))
  | 15 => .rp (.sc (.iface (er 16).1 (er 16).2))
  | 16 => .rp (.sc (.iface (er 17).1 (er 17).2))
  | 17 => .rp (.sc (.iface (er 18).1 (er 18).2))
  | 18 => .rp (.sc (.iface (er 19).1 (er 19).2))
  | _ => .any
def errI : List Nat := [4, 3, 1, 2, 5, 6, 7, 8, 9, 10, 11, 12, 13, 14, 15, 16, 17, 18, 19]
def GE (er : Nat → ErrV) : Glob := ⟨GEv er, ErrsOK 223 er errI⟩
theorem GE_plain (er : Nat → ErrV) : GPlain (GE er) := fun g => by show (GEv er g).inB _ = true; unfold GEv; split <;> rfl
section
variable (er : Nat → ErrV)
structure T_fellowshiplaw08_Case where
  fKey : List Int
  fNonce : List Int
  fWith : List Int
  deriving DecidableEq
def T_fellowshiplaw08_Case.dv (x : T_fellowshiplaw08_Case) : DV := (.cons (.ints .u8 32 x.fKey) (.cons (.roI .u8 x.fNonce) (.cons (.roI .u8 x.fWith) .nil)))
def T_fellowshiplaw08_Case.z : T_fellowshiplaw08_Case := ⟨(List.replicate 32 (0 : Int)), [], []⟩
/- slices.Chunk[[]byte,byte] ; not told: op makeInterface -/
def slices_Chunk_byte_byte (x12 : List Int) (x13 : Int) : Option Unit :=
  cond (decide (x13 < 1))
    (none)
    (some ())
theorem slices_Chunk_byte_byte_c (k0 k1 : Nat) (hn : [k0, k1].Nodup) (x12 : List Int) (x13 : Int) (res : Unit) (h : slices_Chunk_byte_byte x12 x13 = some res) :
    Fn Tryd.prog (GE er) 61 [(.dv (.roI .u8 x12)), (.int .i64 x13)] [] (.fn 118 [(.ptr k0 [] ly24), (.ptr k1 [] ly3)]) [(k0, (.var (.dv (.roI .u8 x12)))), (k1, (.var (.int .i64 x13)))] := by
  refine Fn.bodyE (fn := Tryd.f61) (c := _) tabOK mixed (GE_plain er) Tryd.func61 rfl rfl [(0, k0), (1, k1)] [(.dv (.roI .u8 x12)), (.int .i64 x13)] [] [0, 1] (.fn 118 [(.ptr 0 [] ly24), (.ptr 1 [] ly3)]) [(.var (.dv (.roI .u8 x12))), (.var (.int .i64 x13))] rfl rfl rfl rfl rfl rfl hn 3 ?_
  replace h := (show slices_Chunk_byte_byte x12 x13 = _ from h)
  unfold slices_Chunk_byte_byte at h
  refine Or.inl ?_
  refine And.intro (fun hb => ?_) (fun hb => ?_)
  · replace h := cond_t h hb
    exact no_none h
  · replace h := cond_f h hb
    obtain rfl := some_in h
    exact ⟨0, [], [], rfl, rfl, rfl, trivial⟩
/- fellowship/stream.word -/
def stream_word (x23 : List Int) : Option Int :=
  if (0 : Int) < (List.length x23 : Int) then
    if (1 : Int) < (List.length x23 : Int) then
      nm ((IntKind.wrap .u32 ((IntKind.wrap .u32 (List.getD x23 1 0)) * 2 ^ 8)) : Int) fun x24 =>
      if (2 : Int) < (List.length x23 : Int) then
        nm ((IntKind.wrap .u32 ((IntKind.wrap .u32 (List.getD x23 2 0)) * 2 ^ 16)) : Int) fun x25 =>
        nm ((bits .u32 .or (bits .u32 .or (IntKind.wrap .u32 (List.getD x23 0 0)) x24) x25) : Int) fun x26 =>
        if (3 : Int) < (List.length x23 : Int) then
          nm ((IntKind.wrap .u32 ((IntKind.wrap .u32 (List.getD x23 3 0)) * 2 ^ 24)) : Int) fun x27 =>
          some (bits .u32 .or x26 x27)
        else none
      else none
    else none
  else none
theorem stream_word_c (x23 : List Int) (res : Int) (h : stream_word x23 = some res) :
    Fn Tryd.prog (GE er) 151 [(.dv (.roI .u8 x23))] [] (.int .u32 res) [] := by
  refine Fn.bodyE (fn := Tryd.f151) (c := _) tabOK mixed (GE_plain er) Tryd.func151 rfl rfl [] [(.dv (.roI .u8 x23))] [] [] (.int .u32 res) [] rfl rfl rfl rfl rfl rfl .nil 3 ?_
  replace h := (show stream_word x23 = _ from h)
  unfold stream_word at h
  obtain ⟨hg, h⟩ := gd h
  refine And.intro hg ?_
  obtain ⟨hg, h⟩ := gd h
  refine And.intro hg ?_
  refine And.intro (by decide) ?_
  let x24 : Int := (IntKind.wrap .u32 ((IntKind.wrap .u32 (List.getD x23 1 0)) * 2 ^ 8))
  replace h := nm_at x24 rfl h
  obtain ⟨hg, h⟩ := gd h
  refine And.intro hg ?_
  refine And.intro (by decide) ?_
  let x25 : Int := (IntKind.wrap .u32 ((IntKind.wrap .u32 (List.getD x23 2 0)) * 2 ^ 16))
  replace h := nm_at x25 rfl h
  let x26 : Int := (bits .u32 .or (bits .u32 .or (IntKind.wrap .u32 (List.getD x23 0 0)) x24) x25)
  replace h := nm_at x26 rfl h
  obtain ⟨hg, h⟩ := gd h
  refine And.intro hg ?_
  refine And.intro (by decide) ?_
  let x27 : Int := (IntKind.wrap .u32 ((IntKind.wrap .u32 (List.getD x23 3 0)) * 2 ^ 24))
  replace h := nm_at x27 rfl h
  obtain rfl := some_in h
  exact ⟨0, [], [], rfl, trivial⟩
/- fellowship/stream.begin -/
def stream_begin_l1 (x19 : List Int) : Nat → Int → (List Int) → Option ((List Int))
  | 0, _, _ => none
  | n1 + 1, x24, x25 =>
    cond (decide (x24 < 8))
      (if 0 ≤ (IntKind.wrap .i64 (4 * x24)) ∧ (IntKind.wrap .i64 (4 * x24)) ≤ 32 then
        (stream_word (List.take (Int.toNat (32 - (IntKind.wrap .i64 (4 * x24)))) (List.drop (Int.toNat (IntKind.wrap .i64 (4 * x24))) x19))).bind fun x26 =>
          if (0 : Int) ≤ (IntKind.wrap .i64 (4 + x24)) ∧ (IntKind.wrap .i64 (4 + x24)) < 16 then
            stream_begin_l1 x19 n1 (IntKind.wrap .i64 (x24 + 1)) (List.set x25 (Int.toNat (IntKind.wrap .i64 (4 + x24))) x26)
          else none
      else none)
      (some x25)
def stream_begin_l2 (x21 : List Int) : Nat → Int → (List Int) → Option ((List Int))
  | 0, _, _ => none
  | n2 + 1, x28, x29 =>
    cond (decide (x28 < 3))
      (if 0 ≤ (IntKind.wrap .i64 (4 * x28)) ∧ (IntKind.wrap .i64 (4 * x28)) ≤ (List.length x21 : Int) then
        nm ((List.take (Int.toNat ((List.length x21 : Int) - (IntKind.wrap .i64 (4 * x28)))) (List.drop (Int.toNat (IntKind.wrap .i64 (4 * x28))) x21)) : List Int) fun x30 =>
        (stream_word x30).bind fun x31 =>
          if (0 : Int) ≤ (IntKind.wrap .i64 (13 + x28)) ∧ (IntKind.wrap .i64 (13 + x28)) < 16 then
            nm ((List.set x29 (Int.toNat (IntKind.wrap .i64 (13 + x28))) x31) : List Int) fun x32 =>
            stream_begin_l2 x21 n2 (IntKind.wrap .i64 (x28 + 1)) x32
          else none
      else none)
      (some x29)
def stream_begin (x19 : List Int) (x20 : Int) (x21 : List Int) : Option ((List Int)) :=
  nm ((List.set (List.set (List.set (List.set (List.replicate 16 (0 : Int)) 0 1634760805) 1 857760878) 2 2036477234) 3 1797285236) : List Int) fun x22 =>
  ((stream_begin_l1 x19 FUEL 0 x22 : Option ((List Int)))).bind fun x23 =>
    ((stream_begin_l2 x21 FUEL 0 (List.set x23 12 x20) : Option ((List Int)))).bind fun x27 =>
      some x27
theorem stream_begin_c (x19 : List Int) (x20 : Int) (x21 : List Int) (res : (List Int)) (h : stream_begin x19 x20 x21 = some res) :
    Fn Tryd.prog (GE er) 119 [(.dv (.ints .u8 32 x19)), (.int .u32 x20), (.dv (.roI .u8 x21))] [] (.dv (.ints .u32 16 res)) [] := by
  refine Fn.bodyE (fn := Tryd.f119) (c := _) tabOK mixed (GE_plain er) Tryd.func119 rfl rfl [] [(.dv (.ints .u8 32 x19)), (.int .u32 x20), (.dv (.roI .u8 x21))] [] [] (.dv (.ints .u32 16 res)) [] rfl rfl rfl rfl rfl rfl .nil 3 ?_
  replace h := (show stream_begin x19 x20 x21 = _ from h)
  unfold stream_begin at h
  let x22 : List Int := (List.set (List.set (List.set (List.set (List.replicate 16 (0 : Int)) 0 1634760805) 1 857760878) 2 2036477234) 3 1797285236)
  replace h := nm_at x22 rfl h
  obtain ⟨r1_0_23, hl1_23, hr1_23⟩ := bnd h
  refine Or.inr ⟨[3], {p : (List Int) // p = r1_0_23}, ⟨fun | ⟨x23, _⟩ => [], fun | ⟨x23, _⟩ => [(2, (.var (.dv (.ints .u32 16 x23))))], fun _ => 0⟩, 0, ?_, ?_⟩
  · rintro ⟨x23, hp⟩
    subst hp
    replace h := hr1_23
    refine And.intro (by decide) ?_
    obtain ⟨r2_1_27, hl2_27, hr2_27⟩ := bnd h
    refine Or.inr ⟨[2], {p : (List Int) // p = r2_1_27}, ⟨fun | ⟨x27, _⟩ => [], fun | ⟨x27, _⟩ => [(2, (.var (.dv (.ints .u32 16 x27))))], fun _ => 0⟩, 0, ?_, ?_⟩
    · rintro ⟨x27, hp⟩
      subst hp
      replace h := hr2_27
      obtain rfl := some_in h
      exact ⟨0, [], [], rfl, trivial⟩
    · replace h := hl2_27
      refine Or.inl ?_
      refine ⟨[], {x : Nat × Int × (List Int) // stream_begin_l2 x21 x.1 x.2.1 x.2.2 = some r2_1_27}, ⟨fun | ⟨(n2, x28, x29), _⟩ => [(24, (.int .i64 x28))], fun | ⟨(n2, x28, x29), _⟩ => [(2, (.var (.dv (.ints .u32 16 x29))))], fun | ⟨(n2, x28, x29), _⟩ => n2⟩, [], [], ⟨(FUEL, 0, (List.set x23 12 x20)), h⟩, ⟨rfl, ⟨rfl, trivial⟩, ⟨rfl, rfl, rfl, trivial⟩, rfl⟩, ?_⟩
      rintro ⟨⟨n2, x28, x29⟩, h⟩
      cases n2 with
      | zero => exact no_none h
      | succ n2 =>
        replace h := (show stream_begin_l2 x21 (n2 + 1) x28 x29 = _ from h)
        replace h := (stream_begin_l2.eq_2 .. ).symm.trans h
        refine And.intro (fun hb => ?_) (fun hb => ?_)
        · replace h := cond_t h hb
          refine Or.inl ?_
          obtain ⟨hg, h⟩ := gd h
          refine And.intro hg ?_
          refine ⟨(List.take (Int.toNat ((List.length x21 : Int) - (IntKind.wrap .i64 (4 * x28)))) (List.drop (Int.toNat (IntKind.wrap .i64 (4 * x28))) x21)), by first | rfl | simp, ?_⟩
          let x30 : List Int := (List.take (Int.toNat ((List.length x21 : Int) - (IntKind.wrap .i64 (4 * x28)))) (List.drop (Int.toNat (IntKind.wrap .i64 (4 * x28))) x21))
          replace h := nm_at x30 rfl h
          obtain ⟨x31, hc32, h⟩ := bnd h
          refine ⟨[], _, _, _, ⟨⟨_, stream_word_c er x30 x31 hc32, ⟨.inl rfl, trivial⟩⟩, trivial, rfl⟩, ?_⟩
          obtain ⟨hg, h⟩ := gd h
          refine And.intro hg ?_
          let x32 : List Int := (List.set x29 (Int.toNat (IntKind.wrap .i64 (13 + x28))) x31)
          replace h := nm_at x32 rfl h
          exact ⟨⟨(n2, (IntKind.wrap .i64 (x28 + 1)), x32), h⟩, [], ⟨rfl, ⟨rfl, trivial⟩, ⟨rfl, rfl, rfl, trivial⟩, rfl⟩, Nat.lt_succ_self _⟩
        · replace h := cond_f h hb
          exact ⟨[], [], ⟨x29, some_in h⟩, [], rfl, trivial, ⟨rfl, rfl, rfl, trivial⟩, rfl⟩
  · replace h := hl1_23
    refine Or.inl ?_
    refine ⟨[], {x : Nat × Int × (List Int) // stream_begin_l1 x19 x.1 x.2.1 x.2.2 = some r1_0_23}, ⟨fun | ⟨(n1, x24, x25), _⟩ => [(11, (.int .i64 x24))], fun | ⟨(n1, x24, x25), _⟩ => [(2, (.var (.dv (.ints .u32 16 x25))))], fun | ⟨(n1, x24, x25), _⟩ => n1⟩, [], [], ⟨(FUEL, 0, x22), h⟩, ⟨rfl, ⟨rfl, trivial⟩, ⟨rfl, rfl, rfl, trivial⟩, rfl⟩, ?_⟩
    rintro ⟨⟨n1, x24, x25⟩, h⟩
    cases n1 with
    | zero => exact no_none h
    | succ n1 =>
      replace h := (show stream_begin_l1 x19 (n1 + 1) x24 x25 = _ from h)
      replace h := (stream_begin_l1.eq_2 .. ).symm.trans h
      refine And.intro (fun hb => ?_) (fun hb => ?_)
      · replace h := cond_t h hb
        refine Or.inl ?_
        obtain ⟨hg, h⟩ := gd h
        refine And.intro hg ?_
        refine ⟨(Int.toNat (IntKind.wrap .i64 (4 * x24))), (Int.toNat (32 - (IntKind.wrap .i64 (4 * x24)))), ⟨rfl, rfl⟩, ?_⟩
        obtain ⟨x26, hc26, h⟩ := bnd h
        refine ⟨[true], _, _, _, ⟨⟨_, stream_word_c er (List.take (Int.toNat (32 - (IntKind.wrap .i64 (4 * x24)))) (List.drop (Int.toNat (IntKind.wrap .i64 (4 * x24))) x19)) x26 hc26, ⟨.inl rfl, trivial⟩⟩, trivial, rfl⟩, ?_⟩
        obtain ⟨hg, h⟩ := gd h
        refine And.intro hg ?_
        exact ⟨⟨(n1, (IntKind.wrap .i64 (x24 + 1)), (List.set x25 (Int.toNat (IntKind.wrap .i64 (4 + x24))) x26)), h⟩, [], ⟨rfl, ⟨rfl, trivial⟩, ⟨rfl, rfl, rfl, trivial⟩, rfl⟩, Nat.lt_succ_self _⟩
      · replace h := cond_f h hb
        exact ⟨[], [], ⟨x25, some_in h⟩, [], rfl, trivial, ⟨rfl, rfl, rfl, trivial⟩, rfl⟩
/- fellowship/words.Left -/
def words_Left (x44 : Int) (x45 : Int) : Option Int :=
  if 0 ≤ (Int.tmod (IntKind.wrap .u64 x45) 32) then
    nm ((IntKind.wrap .u32 (x44 * 2 ^ (min (Int.toNat (Int.tmod (IntKind.wrap .u64 x45) 32)) (IntKind.bits .u32)))) : Int) fun x46 =>
    nm ((IntKind.wrap .u64 (32 - (Int.tmod (IntKind.wrap .u64 x45) 32))) : Int) fun x47 =>
    if 0 ≤ x47 then
      nm ((Int.fdiv x44 (2 ^ (min (Int.toNat x47) (IntKind.bits .u32)))) : Int) fun x48 =>
      some (bits .u32 .or x46 x48)
    else none
  else none
theorem words_Left_c (x44 : Int) (x45 : Int) (res : Int) (h : words_Left x44 x45 = some res) :
    Fn Tryd.prog (GE er) 179 [(.int .u32 x44), (.int .i64 x45)] [] (.int .u32 res) [] := by
  refine Fn.bodyE (fn := Tryd.f179) (c := _) tabOK mixed (GE_plain er) Tryd.func179 rfl rfl [] [(.int .u32 x44), (.int .i64 x45)] [] [] (.int .u32 res) [] rfl rfl rfl rfl rfl rfl .nil 3 ?_
  replace h := (show words_Left x44 x45 = _ from h)
  unfold words_Left at h
  refine And.intro (by decide) ?_
  obtain ⟨hg, h⟩ := gd h
  refine And.intro hg ?_
  let x46 : Int := (IntKind.wrap .u32 (x44 * 2 ^ (min (Int.toNat (Int.tmod (IntKind.wrap .u64 x45) 32)) (IntKind.bits .u32))))
  replace h := nm_at x46 rfl h
  let x47 : Int := (IntKind.wrap .u64 (32 - (Int.tmod (IntKind.wrap .u64 x45) 32)))
  replace h := nm_at x47 rfl h
  obtain ⟨hg, h⟩ := gd h
  refine And.intro hg ?_
  let x48 : Int := (Int.fdiv x44 (2 ^ (min (Int.toNat x47) (IntKind.bits .u32))))
  replace h := nm_at x48 rfl h
  obtain rfl := some_in h
  exact ⟨0, [], [], rfl, trivial⟩
/- fellowship/stream.Quarter -/
def stream_Quarter (x40 : Int) (x41 : Int) (x42 : Int) (x43 : Int) : Option (Int × Int × Int × Int) :=
  (words_Left (bits .u32 .xor x43 (IntKind.wrap .u32 (x40 + x41))) 16).bind fun x44 =>
    (words_Left (bits .u32 .xor x41 (IntKind.wrap .u32 (x42 + x44))) 12).bind fun x45 =>
      nm ((bits .u32 .xor x44 (IntKind.wrap .u32 ((IntKind.wrap .u32 (x40 + x41)) + x45))) : Int) fun x46 =>
      (words_Left x46 8).bind fun x47 =>
        nm ((bits .u32 .xor x45 (IntKind.wrap .u32 ((IntKind.wrap .u32 (x42 + x44)) + x47))) : Int) fun x48 =>
        (words_Left x48 7).bind fun x49 =>
          some ((IntKind.wrap .u32 ((IntKind.wrap .u32 (x40 + x41)) + x45)), x49, (IntKind.wrap .u32 ((IntKind.wrap .u32 (x42 + x44)) + x47)), x47)
theorem stream_Quarter_c (x40 : Int) (x41 : Int) (x42 : Int) (x43 : Int) (res : Int × Int × Int × Int) (h : stream_Quarter x40 x41 x42 x43 = some res) :
    Fn Tryd.prog (GE er) 173 [(.int .u32 x40), (.int .u32 x41), (.int .u32 x42), (.int .u32 x43)] [] (.tup [(.int .u32 res.1), (.int .u32 res.2.1), (.int .u32 res.2.2.1), (.int .u32 res.2.2.2)]) [] := by
  refine Fn.bodyE (fn := Tryd.f173) (c := _) tabOK mixed (GE_plain er) Tryd.func173 rfl rfl [] [(.int .u32 x40), (.int .u32 x41), (.int .u32 x42), (.int .u32 x43)] [] [] (.tup [(.int .u32 res.1), (.int .u32 res.2.1), (.int .u32 res.2.2.1), (.int .u32 res.2.2.2)]) [] rfl rfl rfl rfl rfl rfl .nil 3 ?_
  replace h := (show stream_Quarter x40 x41 x42 x43 = _ from h)
  unfold stream_Quarter at h
  obtain ⟨x44, hc49, h⟩ := bnd h
  refine ⟨[], _, _, _, ⟨⟨_, words_Left_c er (bits .u32 .xor x43 (IntKind.wrap .u32 (x40 + x41))) 16 x44 hc49, ⟨.inl rfl, .inl rfl, trivial⟩⟩, trivial, rfl⟩, ?_⟩
  obtain ⟨x45, hc49, h⟩ := bnd h
  refine ⟨[], _, _, _, ⟨⟨_, words_Left_c er (bits .u32 .xor x41 (IntKind.wrap .u32 (x42 + x44))) 12 x45 hc49, ⟨.inl rfl, .inl rfl, trivial⟩⟩, trivial, rfl⟩, ?_⟩
  let x46 : Int := (bits .u32 .xor x44 (IntKind.wrap .u32 ((IntKind.wrap .u32 (x40 + x41)) + x45)))
  replace h := nm_at x46 rfl h
  obtain ⟨x47, hc49, h⟩ := bnd h
  refine ⟨[], _, _, _, ⟨⟨_, words_Left_c er x46 8 x47 hc49, ⟨.inl rfl, .inl rfl, trivial⟩⟩, trivial, rfl⟩, ?_⟩
  let x48 : Int := (bits .u32 .xor x45 (IntKind.wrap .u32 ((IntKind.wrap .u32 (x42 + x44)) + x47)))
  replace h := nm_at x48 rfl h
  obtain ⟨x49, hc49, h⟩ := bnd h
  refine ⟨[], _, _, _, ⟨⟨_, words_Left_c er x48 7 x49 hc49, ⟨.inl rfl, .inl rfl, trivial⟩⟩, trivial, rfl⟩, ?_⟩
  obtain rfl := some_in h
  exact ⟨0, [], [], rfl, trivial⟩
/- (*fellowship/stream.state).quarter -/
def stream_state_quarter_2 (x36 : Int) (x37 : Int) (x38 : Int) (x39 : Int) (x40 : List Int) : Option ((List Int)) :=
  if (0 : Int) ≤ x36 ∧ x36 < 16 then
    if (0 : Int) ≤ x37 ∧ x37 < 16 then
      if (0 : Int) ≤ x38 ∧ x38 < 16 then
        if (0 : Int) ≤ x39 ∧ x39 < 16 then
          (stream_Quarter (List.getD x40 (Int.toNat x36) 0) (List.getD x40 (Int.toNat x37) 0) (List.getD x40 (Int.toNat x38) 0) (List.getD x40 (Int.toNat x39) 0)).bind fun r46 => match r46 with
          | (x41, x42, x43, x44) =>
              if (0 : Int) ≤ x36 ∧ x36 < 16 then
                if (0 : Int) ≤ x37 ∧ x37 < 16 then
                  nm ((List.set (List.set x40 (Int.toNat x36) x41) (Int.toNat x37) x42) : List Int) fun x45 =>
                  if (0 : Int) ≤ x38 ∧ x38 < 16 then
                    if (0 : Int) ≤ x39 ∧ x39 < 16 then
                      nm ((List.set (List.set x45 (Int.toNat x38) x43) (Int.toNat x39) x44) : List Int) fun x46 =>
                      some x46
                    else none
                  else none
                else none
              else none
        else none
      else none
    else none
  else none
theorem stream_state_quarter_2_c (b0 : Nat) (hn : [b0].Nodup) (x36 : Int) (x37 : Int) (x38 : Int) (x39 : Int) (x40 : List Int) (res : (List Int)) (h : stream_state_quarter_2 x36 x37 x38 x39 x40 = some res) :
    Fn Tryd.prog (GE er) 152 [(.ptr b0 [] ly150), (.int .i64 x36), (.int .i64 x37), (.int .i64 x38), (.int .i64 x39)] [(b0, (.var (.dv (.ints .u32 16 x40))))] (.tup []) [(b0, (.var (.dv (.ints .u32 16 res))))] := by
  refine Fn.bodyE (fn := Tryd.f152) (c := _) tabOK mixed (GE_plain er) Tryd.func152 rfl rfl [(0, b0)] [(.ptr 0 [] ly150), (.int .i64 x36), (.int .i64 x37), (.int .i64 x38), (.int .i64 x39)] [(.var (.dv (.ints .u32 16 x40)))] [] (.tup []) [(.var (.dv (.ints .u32 16 res)))] rfl rfl rfl rfl rfl rfl hn 3 ?_
  replace h := (show stream_state_quarter_2 x36 x37 x38 x39 x40 = _ from h)
  unfold stream_state_quarter_2 at h
  obtain ⟨hg, h⟩ := gd h
  refine And.intro hg ?_
  obtain ⟨hg, h⟩ := gd h
  refine And.intro hg ?_
  obtain ⟨hg, h⟩ := gd h
  refine And.intro hg ?_
  obtain ⟨hg, h⟩ := gd h
  refine And.intro hg ?_
  obtain ⟨r46, hc46, h⟩ := bnd h
  obtain ⟨x41, x42, x43, x44⟩ := r46
  refine ⟨[], _, _, _, ⟨⟨_, stream_Quarter_c er (List.getD x40 (Int.toNat x36) 0) (List.getD x40 (Int.toNat x37) 0) (List.getD x40 (Int.toNat x38) 0) (List.getD x40 (Int.toNat x39) 0) (x41, x42, x43, x44) hc46, ⟨.inl rfl, .inl rfl, .inl rfl, .inl rfl, trivial⟩⟩, trivial, rfl⟩, ?_⟩
  obtain ⟨hg, h⟩ := gd h
  refine And.intro hg ?_
  obtain ⟨hg, h⟩ := gd h
  refine And.intro hg ?_
  let x45 : List Int := (List.set (List.set x40 (Int.toNat x36) x41) (Int.toNat x37) x42)
  replace h := nm_at x45 rfl h
  obtain ⟨hg, h⟩ := gd h
  refine And.intro hg ?_
  obtain ⟨hg, h⟩ := gd h
  refine And.intro hg ?_
  let x46 : List Int := (List.set (List.set x45 (Int.toNat x38) x43) (Int.toNat x39) x44)
  replace h := nm_at x46 rfl h
  obtain rfl := some_in h
  exact ⟨0, [], [], rfl, rfl, trivial⟩
/- (*fellowship/stream.state).double -/
def stream_state_double_2_l1 : Nat → Int → (List Int) → Option ((List Int))
  | 0, _, _ => none
  | n1 + 1, x37, x38 =>
    cond (decide (x37 < 4))
      ((stream_state_quarter_2 x37 (IntKind.wrap .i64 (4 + x37)) (IntKind.wrap .i64 (8 + x37)) (IntKind.wrap .i64 (12 + x37)) x38).bind fun x39 =>
        stream_state_double_2_l1 n1 (IntKind.wrap .i64 (x37 + 1)) x39)
      (some x38)
def stream_state_double_2_l2 : Nat → Int → (List Int) → Option ((List Int))
  | 0, _, _ => none
  | n2 + 1, x41, x42 =>
    cond (decide (x41 < 4))
      (nm ((IntKind.wrap .i64 (4 + (Int.tmod (IntKind.wrap .i64 (x41 + 1)) 4))) : Int) fun x43 =>
      nm ((IntKind.wrap .i64 (8 + (Int.tmod (IntKind.wrap .i64 (x41 + 2)) 4))) : Int) fun x44 =>
      nm ((IntKind.wrap .i64 (12 + (Int.tmod (IntKind.wrap .i64 (x41 + 3)) 4))) : Int) fun x45 =>
      (stream_state_quarter_2 x41 x43 x44 x45 x42).bind fun x46 =>
        stream_state_double_2_l2 n2 (IntKind.wrap .i64 (x41 + 1)) x46)
      (some x42)
def stream_state_double_2 (x35 : List Int) : Option ((List Int)) :=
  ((stream_state_double_2_l1 FUEL 0 x35 : Option ((List Int)))).bind fun x36 =>
    ((stream_state_double_2_l2 FUEL 0 x36 : Option ((List Int)))).bind fun x40 =>
      some x40
theorem stream_state_double_2_c (b0 : Nat) (hn : [b0].Nodup) (x35 : List Int) (res : (List Int)) (h : stream_state_double_2 x35 = some res) :
    Fn Tryd.prog (GE er) 120 [(.ptr b0 [] ly150)] [(b0, (.var (.dv (.ints .u32 16 x35))))] (.tup []) [(b0, (.var (.dv (.ints .u32 16 res))))] := by
  refine Fn.bodyE (fn := Tryd.f120) (c := _) tabOK mixed (GE_plain er) Tryd.func120 rfl rfl [(0, b0)] [(.ptr 0 [] ly150)] [(.var (.dv (.ints .u32 16 x35)))] [] (.tup []) [(.var (.dv (.ints .u32 16 res)))] rfl rfl rfl rfl rfl rfl hn 3 ?_
  replace h := (show stream_state_double_2 x35 = _ from h)
  unfold stream_state_double_2 at h
  obtain ⟨r1_0_36, hl1_36, hr1_36⟩ := bnd h
  refine Or.inr ⟨[], {p : (List Int) // p = r1_0_36}, ⟨fun | ⟨x36, _⟩ => [], fun | ⟨x36, _⟩ => [(0, (.var (.dv (.ints .u32 16 x36))))], fun _ => 0⟩, 0, ?_, ?_⟩
  · rintro ⟨x36, hp⟩
    subst hp
    replace h := hr1_36
    obtain ⟨r2_1_40, hl2_40, hr2_40⟩ := bnd h
    refine Or.inr ⟨[], {p : (List Int) // p = r2_1_40}, ⟨fun | ⟨x40, _⟩ => [], fun | ⟨x40, _⟩ => [(0, (.var (.dv (.ints .u32 16 x40))))], fun _ => 0⟩, 0, ?_, ?_⟩
    · rintro ⟨x40, hp⟩
      subst hp
      replace h := hr2_40
      obtain rfl := some_in h
      exact ⟨0, [], [], rfl, rfl, trivial⟩
    · replace h := hl2_40
      refine Or.inl ?_
      refine ⟨[], {x : Nat × Int × (List Int) // stream_state_double_2_l2 x.1 x.2.1 x.2.2 = some r2_1_40}, ⟨fun | ⟨(n2, x41, x42), _⟩ => [(17, (.int .i64 x41))], fun | ⟨(n2, x41, x42), _⟩ => [(0, (.var (.dv (.ints .u32 16 x42))))], fun | ⟨(n2, x41, x42), _⟩ => n2⟩, [], [], ⟨(FUEL, 0, x36), h⟩, ⟨rfl, ⟨rfl, trivial⟩, ⟨rfl, trivial⟩, rfl⟩, ?_⟩
      rintro ⟨⟨n2, x41, x42⟩, h⟩
      cases n2 with
      | zero => exact no_none h
      | succ n2 =>
        replace h := (show stream_state_double_2_l2 (n2 + 1) x41 x42 = _ from h)
        replace h := (stream_state_double_2_l2.eq_2 .. ).symm.trans h
        refine And.intro (fun hb => ?_) (fun hb => ?_)
        · replace h := cond_t h hb
          refine Or.inl ?_
          refine And.intro (by decide) ?_
          let x43 : Int := (IntKind.wrap .i64 (4 + (Int.tmod (IntKind.wrap .i64 (x41 + 1)) 4)))
          replace h := nm_at x43 rfl h
          refine And.intro (by decide) ?_
          let x44 : Int := (IntKind.wrap .i64 (8 + (Int.tmod (IntKind.wrap .i64 (x41 + 2)) 4)))
          replace h := nm_at x44 rfl h
          refine And.intro (by decide) ?_
          let x45 : Int := (IntKind.wrap .i64 (12 + (Int.tmod (IntKind.wrap .i64 (x41 + 3)) 4)))
          replace h := nm_at x45 rfl h
          obtain ⟨x46, hc46, h⟩ := bnd h
          refine ⟨[], _, _, _, ⟨⟨_, stream_state_quarter_2_c er 0 (by decide) x41 x43 x44 x45 x42 x46 hc46, ⟨.inl rfl, .inl rfl, .inl rfl, .inl rfl, .inl rfl, trivial⟩⟩, ⟨⟨rfl, rfl⟩, trivial⟩, rfl⟩, ?_⟩
          exact ⟨⟨(n2, (IntKind.wrap .i64 (x41 + 1)), x46), h⟩, [], ⟨rfl, ⟨rfl, trivial⟩, ⟨rfl, trivial⟩, rfl⟩, Nat.lt_succ_self _⟩
        · replace h := cond_f h hb
          exact ⟨[], [], ⟨x42, some_in h⟩, [], rfl, trivial, ⟨rfl, trivial⟩, rfl⟩
  · replace h := hl1_36
    refine Or.inl ?_
    refine ⟨[], {x : Nat × Int × (List Int) // stream_state_double_2_l1 x.1 x.2.1 x.2.2 = some r1_0_36}, ⟨fun | ⟨(n1, x37, x38), _⟩ => [(4, (.int .i64 x37))], fun | ⟨(n1, x37, x38), _⟩ => [(0, (.var (.dv (.ints .u32 16 x38))))], fun | ⟨(n1, x37, x38), _⟩ => n1⟩, [], [], ⟨(FUEL, 0, x35), h⟩, ⟨rfl, ⟨rfl, trivial⟩, ⟨rfl, trivial⟩, rfl⟩, ?_⟩
    rintro ⟨⟨n1, x37, x38⟩, h⟩
    cases n1 with
    | zero => exact no_none h
    | succ n1 =>
      replace h := (show stream_state_double_2_l1 (n1 + 1) x37 x38 = _ from h)
      replace h := (stream_state_double_2_l1.eq_2 .. ).symm.trans h
      refine And.intro (fun hb => ?_) (fun hb => ?_)
      · replace h := cond_t h hb
        refine Or.inl ?_
        obtain ⟨x39, hc39, h⟩ := bnd h
        refine ⟨[], _, _, _, ⟨⟨_, stream_state_quarter_2_c er 0 (by decide) x37 (IntKind.wrap .i64 (4 + x37)) (IntKind.wrap .i64 (8 + x37)) (IntKind.wrap .i64 (12 + x37)) x38 x39 hc39, ⟨.inl rfl, .inl rfl, .inl rfl, .inl rfl, .inl rfl, trivial⟩⟩, ⟨⟨rfl, rfl⟩, trivial⟩, rfl⟩, ?_⟩
        exact ⟨⟨(n1, (IntKind.wrap .i64 (x37 + 1)), x39), h⟩, [], ⟨rfl, ⟨rfl, trivial⟩, ⟨rfl, trivial⟩, rfl⟩, Nat.lt_succ_self _⟩
      · replace h := cond_f h hb
        exact ⟨[], [], ⟨x38, some_in h⟩, [], rfl, trivial, ⟨rfl, trivial⟩, rfl⟩
/- fellowship/stream.Block -/
def stream_Block_l2 (x19 : List Int) (x22 : List Int) : Nat → Int → (List Int) → Option (Int × (List Int))
  | 0, _, _ => none
  | n2 + 1, x26, x27 =>
    cond (decide (x26 < 16))
      (if (0 : Int) ≤ x26 ∧ x26 < 16 then
        if (0 : Int) ≤ x26 ∧ x26 < 16 then
          nm ((IntKind.wrap .u32 ((List.getD x22 (Int.toNat x26) 0) + (List.getD x19 (Int.toNat x26) 0))) : Int) fun x28 =>
          nm ([(IntKind.wrap .u8 x28), (IntKind.wrap .u8 (Int.fdiv x28 (2 ^ 8))), (IntKind.wrap .u8 (Int.fdiv x28 (2 ^ 16))), (IntKind.wrap .u8 (Int.fdiv x28 (2 ^ 24)))] : List Int) fun x29 =>
          if (((List.length x27) : Int) + (List.length x29)) * 1 ≤ 140737488355328 then
            stream_Block_l2 x19 x22 n2 (IntKind.wrap .i64 (x26 + 1)) (x27 ++ x29)
          else none
        else none
      else none)
      (some (x26, x27))
def stream_Block_l1 (x19 : List Int) : Nat → Int → (List Int) → Option ((((List Int)) ⊕ Unit))
  | 0, _, _ => none
  | n1 + 1, x21, x22 =>
    cond (decide (x21 < 10))
      ((stream_state_double_2 x22).bind fun x23 =>
        stream_Block_l1 x19 n1 (IntKind.wrap .i64 (x21 + 1)) x23)
      (((stream_Block_l2 x19 x22 FUEL 0 ([] : List Int) : Option (Int × (List Int)))).bind fun r1_0_25 => match r1_0_25 with
      | (x24, x25) =>
          some (Sum.inl x25))
def stream_Block (x16 : List Int) (x17 : Int) (x18 : List Int) : Option ((((List Int)) ⊕ Unit)) :=
  cond (!((List.length x18 : Int) == 12))
    (some (Sum.inr ()))
    ((stream_begin x16 x17 x18).bind fun x19 =>
      (stream_state_double_2 x19).bind fun x20 =>
        stream_Block_l1 x19 FUEL 1 x20)
theorem stream_Block_c (k0 : Nat) (hn : [k0].Nodup) (x16 : List Int) (x17 : Int) (x18 : List Int) (res : (((List Int)) ⊕ Unit)) (h : stream_Block x16 x17 x18 = some res) :
    Fn Tryd.prog (GE er) 62 [(.dv (.ints .u8 32 x16)), (.int .u32 x17), (.dv (.roI .u8 x18))] [] (match res with | (Sum.inl p0) => (.tup [(.sl k0 [] ly5 0 (List.length p0)), (.dv (.sc .nilIface))]) | (Sum.inr _) => (.tup [(.dv (.sc (.slice none 0 0))), (errA er 4)])) (match res with | (Sum.inl p0) => [(k0, (.rowI .u8 p0))] | (Sum.inr _) => []) := by
  refine Fn.bodyE (fn := Tryd.f62) (c := _) tabOK mixed (GE_plain er) Tryd.func62 rfl rfl ((match res with | (Sum.inl p0) => [(3, k0)] | (Sum.inr _) => [])) [(.dv (.ints .u8 32 x16)), (.int .u32 x17), (.dv (.roI .u8 x18))] [] (match res with | (Sum.inl p0) => [3] | (Sum.inr _) => []) (match res with | (Sum.inl p0) => (.tup [(.sl 3 [] ly5 0 (List.length p0)), (.dv (.sc .nilIface))]) | (Sum.inr _) => (.tup [(.dv (.sc (.slice none 0 0))), (errA er 4)])) (match res with | (Sum.inl p0) => [(.rowI .u8 p0)] | (Sum.inr _) => []) rfl rfl (by rcases res with _ | _ <;> rfl) (by rcases res with _ | _ <;> rfl) (by rcases res with _ | _ <;> rfl) (by rcases res with _ | _ <;> rfl) (by rcases res with _ | _ <;> first | exact hn.sublist (.cons_cons _ .slnil) | exact hn.sublist (.cons _ .slnil)) 3 ?_
  replace h := (show stream_Block x16 x17 x18 = _ from h)
  unfold stream_Block at h
  refine And.intro (fun hb => ?_) (fun hb => ?_)
  · replace h := cond_t h hb
    obtain rfl := some_in h
    exact ⟨0, [], [], rfl, trivial⟩
  · replace h := cond_f h hb
    obtain ⟨x19, hc29, h⟩ := bnd h
    refine ⟨[], _, _, _, ⟨⟨_, stream_begin_c er x16 x17 x18 x19 hc29, ⟨.inl rfl, .inl rfl, .inl rfl, trivial⟩⟩, trivial, rfl⟩, ?_⟩
    refine And.intro (fun _ => ?_) (fun h0 => Bool.noConfusion h0)
    obtain ⟨x20, hc29, h⟩ := bnd h
    refine ⟨[], _, _, _, ⟨⟨_, stream_state_double_2_c er 1 (by decide) x19 x20 hc29, ⟨.inl rfl, trivial⟩⟩, ⟨⟨rfl, rfl⟩, trivial⟩, rfl⟩, ?_⟩
    refine Or.inr ⟨[1, 2, 3], {x : Nat × Int × (List Int) // stream_Block_l1 x19 x.1 x.2.1 x.2.2 = some res}, ⟨fun | ⟨(n1, x21, x22), _⟩ => [(6, (.dv (.sc (.slice none 0 0)))), (7, (.dv (.sc .nilIface))), (8, (.ptr 1 [] ly150)), (9, (.ptr 2 [] ly150)), (10, (.int .i64 x21))], fun | ⟨(n1, x21, x22), _⟩ => [(1, (.var (.dv (.ints .u32 16 x22))))], fun | ⟨(n1, x21, x22), _⟩ => n1⟩, [], [], ⟨(FUEL, 1, x20), h⟩, ⟨rfl, ⟨rfl, rfl, rfl, rfl, rfl, trivial⟩, ⟨rfl, rfl, rfl, trivial⟩, rfl⟩, ?_⟩
    rintro ⟨⟨n1, x21, x22⟩, h⟩
    cases n1 with
    | zero => exact no_none h
    | succ n1 =>
      replace h := (show stream_Block_l1 x19 (n1 + 1) x21 x22 = _ from h)
      replace h := (stream_Block_l1.eq_2 .. ).symm.trans h
      refine And.intro (fun hb => ?_) (fun hb => ?_)
      · replace h := cond_t h hb
        obtain ⟨x23, hc23, h⟩ := bnd h
        refine ⟨[], _, _, _, ⟨⟨_, stream_state_double_2_c er 1 (by decide) x22 x23 hc23, ⟨.inl rfl, trivial⟩⟩, ⟨⟨rfl, rfl⟩, trivial⟩, rfl⟩, ?_⟩
        exact ⟨⟨(n1, (IntKind.wrap .i64 (x21 + 1)), x23), h⟩, [], ⟨rfl, ⟨rfl, rfl, rfl, rfl, rfl, trivial⟩, ⟨rfl, rfl, rfl, trivial⟩, rfl⟩, Nat.lt_succ_self _⟩
      · replace h := cond_f h hb
        obtain ⟨r1_0_25, hl1_25, hr1_25⟩ := bnd h
        refine Or.inr ⟨[], {p : Int × (List Int) // p = r1_0_25}, ⟨fun | ⟨(x24, x25), _⟩ => [(11, (.sl 3 [] ly5 0 (List.length x25))), (29, (.int .i64 x24)), (30, (.dv (.sc (.bool false))))], fun | ⟨(x24, x25), _⟩ => [(3, (.rowI .u8 x25))], fun _ => 0⟩, 1, ?_, ?_⟩
        · rintro ⟨⟨x24, x25⟩, hp⟩
          subst hp
          replace h := hr1_25
          obtain rfl := some_in h
          exact ⟨0, [], [], rfl, rfl, trivial⟩
        · replace h := hl1_25
          refine Or.inl ?_
          refine ⟨[], {x : Nat × Int × (List Int) // stream_Block_l2 x19 x22 x.1 x.2.1 x.2.2 = some r1_0_25}, ⟨fun | ⟨(n2, x26, x27), _⟩ => [(11, (.sl 3 [] ly5 0 (List.length x27))), (29, (.int .i64 x26))], fun | ⟨(n2, x26, x27), _⟩ => [(3, (.rowI .u8 x27))], fun | ⟨(n2, x26, x27), _⟩ => n2⟩, [(11, .rowI .u8 [])], [], ⟨(FUEL, 0, ([] : List Int)), h⟩, ⟨rfl, ⟨rfl, rfl, trivial⟩, ⟨rfl, rfl, rfl, rfl, trivial⟩, rfl⟩, ?_⟩
          rintro ⟨⟨n2, x26, x27⟩, h⟩
          cases n2 with
          | zero => exact no_none h
          | succ n2 =>
            replace h := (show stream_Block_l2 x19 x22 (n2 + 1) x26 x27 = _ from h)
            replace h := (stream_Block_l2.eq_2 .. ).symm.trans h
            refine And.intro (fun hb => ?_) (fun hb => ?_)
            · replace h := cond_t h hb
              refine Or.inl ?_
              obtain ⟨hg, h⟩ := gd h
              refine And.intro hg ?_
              obtain ⟨hg, h⟩ := gd h
              refine And.intro hg ?_
              let x28 : Int := (IntKind.wrap .u32 ((List.getD x22 (Int.toNat x26) 0) + (List.getD x19 (Int.toNat x26) 0)))
              replace h := nm_at x28 rfl h
              refine And.intro (by decide) ?_
              refine And.intro (by decide) ?_
              refine And.intro (by decide) ?_
              let x29 : List Int := [(IntKind.wrap .u8 x28), (IntKind.wrap .u8 (Int.fdiv x28 (2 ^ 8))), (IntKind.wrap .u8 (Int.fdiv x28 (2 ^ 16))), (IntKind.wrap .u8 (Int.fdiv x28 (2 ^ 24)))]
              replace h := nm_at x29 rfl h
              obtain ⟨hg, h⟩ := gd h
              refine And.intro (le_of_ln2 (ln_full x29) hg) ?_
              refine ⟨(x27 ++ x29), app_cut (cut_full _) (cut_full x29), 0, (List.length (x27 ++ x29)), ⟨rfl, app_ln (ln_full x29)⟩, ?_⟩
              exact ⟨⟨(n2, (IntKind.wrap .i64 (x26 + 1)), (x27 ++ x29)), h⟩, [(3, 5)], ⟨rfl, ⟨rfl, rfl, trivial⟩, ⟨rfl, rfl, rfl, rfl, trivial⟩, rfl⟩, Nat.lt_succ_self _⟩
            · replace h := cond_f h hb
              exact ⟨[], [], ⟨(x26, x27), some_in h⟩, [], rfl, ⟨rfl, rfl, rfl, trivial⟩, ⟨rfl, rfl, rfl, rfl, trivial⟩, rfl⟩
/- slices.Clone[[]byte,byte] -/
def slices_Clone_byte_byte (x33 : List Int) : Option ((List Int)) :=
  if (((List.length ([] : List Int)) : Int) + (List.length x33)) * 1 ≤ 140737488355328 then
    some (([] : List Int) ++ x33)
  else none
theorem slices_Clone_byte_byte_c (k0 : Nat) (hn : [k0].Nodup) (x33 : List Int) (res : (List Int)) (h : slices_Clone_byte_byte x33 = some res) :
    Fn Tryd.prog (GE er) 68 [(.dv (.roI .u8 x33))] [] (.sl k0 [] ly5 0 (List.length res)) [(k0, (.rowI .u8 res))] := by
  refine Fn.bodyE (fn := Tryd.f68) (c := _) tabOK mixed (GE_plain er) Tryd.func68 rfl rfl [(1, k0)] [(.dv (.roI .u8 x33))] [] [1] (.sl 1 [] ly5 0 (List.length res)) [(.rowI .u8 res)] rfl rfl rfl rfl rfl rfl hn 3 ?_
  replace h := (show slices_Clone_byte_byte x33 = _ from h)
  unfold slices_Clone_byte_byte at h
  refine And.intro ?_ ?_
  · intro hnil
    replace hnil : x33 = [] := List.eq_nil_of_length_eq_zero hnil
    replace h : (some ([] : List Int)) = some res := by simpa [hnil] using h
    obtain rfl := some_in h
    exact ⟨1, [(2, (.rowI .u8 ([] : List Int)))], [], rfl, rfl, trivial⟩
  · obtain ⟨hg, h⟩ := gd h
    refine And.intro (hg) ?_
    refine ⟨(([] : List Int) ++ x33), app_cut (cut_full _) (rfl), 0, (List.length (([] : List Int) ++ x33)), ⟨rfl, app_ln (rfl)⟩, ?_⟩
    obtain rfl := some_in h
    exact ⟨0, [], [], rfl, rfl, trivial⟩
/- fellowship/words.Mix -/
def words_Mix_l1 (x32 : List Int) (x33 : List Int) : Nat → Int → (List Int) → Option ((List Int))
  | 0, _, _ => none
  | n1 + 1, x35, x36 =>
    cond (decide (x35 < ((List.length x33) : Int)))
      (if (0 : Int) ≤ x35 ∧ x35 < ((List.length x36) : Int) then
        if (0 : Int) ≤ x35 ∧ x35 < (List.length x32 : Int) then
          nm ((bits .u8 .xor (List.getD x36 (Int.toNat x35) 0) (List.getD x32 (Int.toNat x35) 0)) : Int) fun x37 =>
          if (0 : Int) ≤ x35 ∧ x35 < ((List.length x36) : Int) then
            words_Mix_l1 x32 x33 n1 (IntKind.wrap .i64 (x35 + 1)) (List.set x36 (Int.toNat x35) x37)
          else none
        else none
      else none)
      (some x36)
def words_Mix (x31 : List Int) (x32 : List Int) : Option ((((List Int)) ⊕ Unit)) :=
  cond (!((List.length x31 : Int) == (List.length x32 : Int)))
    (some (Sum.inr ()))
    ((slices_Clone_byte_byte x31).bind fun x33 =>
      ((words_Mix_l1 x32 x33 FUEL 0 x33 : Option ((List Int)))).bind fun x34 =>
        some (Sum.inl x34))
theorem words_Mix_c (k0 : Nat) (hn : [k0].Nodup) (x31 : List Int) (x32 : List Int) (res : (((List Int)) ⊕ Unit)) (h : words_Mix x31 x32 = some res) :
    Fn Tryd.prog (GE er) 63 [(.dv (.roI .u8 x31)), (.dv (.roI .u8 x32))] [] (match res with | (Sum.inl p0) => (.tup [(.sl k0 [] ly5 0 (List.length p0)), (.dv (.sc .nilIface))]) | (Sum.inr _) => (.tup [(.dv (.sc (.slice none 0 0))), (errA er 4)])) (match res with | (Sum.inl p0) => [(k0, (.rowI .u8 p0))] | (Sum.inr _) => []) := by
  refine Fn.bodyE (fn := Tryd.f63) (c := _) tabOK mixed (GE_plain er) Tryd.func63 rfl rfl ((match res with | (Sum.inl p0) => [(0, k0)] | (Sum.inr _) => [])) [(.dv (.roI .u8 x31)), (.dv (.roI .u8 x32))] [] (match res with | (Sum.inl p0) => [0] | (Sum.inr _) => []) (match res with | (Sum.inl p0) => (.tup [(.sl 0 [] ly5 0 (List.length p0)), (.dv (.sc .nilIface))]) | (Sum.inr _) => (.tup [(.dv (.sc (.slice none 0 0))), (errA er 4)])) (match res with | (Sum.inl p0) => [(.rowI .u8 p0)] | (Sum.inr _) => []) rfl rfl (by rcases res with _ | _ <;> rfl) (by rcases res with _ | _ <;> rfl) (by rcases res with _ | _ <;> rfl) (by rcases res with _ | _ <;> rfl) (by rcases res with _ | _ <;> first | exact hn.sublist (.cons_cons _ .slnil) | exact hn.sublist (.cons _ .slnil)) 3 ?_
  replace h := (show words_Mix x31 x32 = _ from h)
  unfold words_Mix at h
  refine And.intro (fun hb => ?_) (fun hb => ?_)
  · replace h := cond_t h hb
    obtain rfl := some_in h
    exact ⟨0, [], [], rfl, trivial⟩
  · replace h := cond_f h hb
    obtain ⟨x33, hc37, h⟩ := bnd h
    refine ⟨[], _, _, _, ⟨⟨_, slices_Clone_byte_byte_c er 0 (by decide) x31 x33 hc37, ⟨.inl rfl, trivial⟩⟩, trivial, rfl⟩, ?_⟩
    obtain ⟨r1_0_34, hl1_34, hr1_34⟩ := bnd h
    refine Or.inr ⟨[6, 15, 16, 17], {p : (List Int) // p = r1_0_34}, ⟨fun | ⟨x34, _⟩ => [(6, (.sl 0 [] ly5 0 (List.length x34))), (15, (.sl 0 [] ly5 0 (List.length x34))), (16, (.sl 0 [] ly5 0 (List.length x34)))], fun | ⟨x34, _⟩ => [(0, (.rowI .u8 x34))], fun _ => 0⟩, 0, ?_, ?_⟩
    · rintro ⟨x34, hp⟩
      subst hp
      replace h := hr1_34
      obtain rfl := some_in h
      exact ⟨0, [], [], rfl, rfl, trivial⟩
    · replace h := hl1_34
      refine Or.inl ?_
      refine ⟨[6, 15, 16], {x : Nat × Int × (List Int) // words_Mix_l1 x32 x33 x.1 x.2.1 x.2.2 = some r1_0_34}, ⟨fun | ⟨(n1, x35, x36), _⟩ => [(6, (.sl 0 [] ly5 0 (List.length x36))), (15, (.sl 0 [] ly5 0 (List.length x36))), (16, (.sl 0 [] ly5 0 (List.length x36))), (18, (.int .i64 x35))], fun | ⟨(n1, x35, x36), _⟩ => [(0, (.rowI .u8 x36))], fun | ⟨(n1, x35, x36), _⟩ => n1⟩, [], [], ⟨(FUEL, 0, x33), h⟩, ⟨rfl, ⟨rfl, rfl, rfl, rfl, trivial⟩, ⟨rfl, trivial⟩, rfl⟩, ?_⟩
      rintro ⟨⟨n1, x35, x36⟩, h⟩
      cases n1 with
      | zero => exact no_none h
      | succ n1 =>
        replace h := (show words_Mix_l1 x32 x33 (n1 + 1) x35 x36 = _ from h)
        replace h := (words_Mix_l1.eq_2 .. ).symm.trans h
        refine And.intro (fun hb => ?_) (fun hb => ?_)
        · replace h := cond_t h hb
          refine Or.inl ?_
          obtain ⟨hg, h⟩ := gd h
          refine And.intro hg ?_
          obtain ⟨hg, h⟩ := gd h
          refine And.intro hg ?_
          let x37 : Int := (bits .u8 .xor (List.getD x36 (Int.toNat x35) 0) (List.getD x32 (Int.toNat x35) 0))
          replace h := nm_at x37 rfl h
          obtain ⟨hg, h⟩ := gd h
          refine And.intro hg ?_
          exact ⟨⟨(n1, (IntKind.wrap .i64 (x35 + 1)), (List.set x36 (Int.toNat x35) x37)), h⟩, [], ⟨rfl, ⟨(show ((.sl 0 [] ly5 0 (List.length x36)) : AV) = ((.sl 0 [] ly5 0 (List.length (List.set x36 (Int.toNat x35) x37))) : AV) by simp only [List.length_set]), (show ((.sl 0 [] ly5 0 (List.length x36)) : AV) = ((.sl 0 [] ly5 0 (List.length (List.set x36 (Int.toNat x35) x37))) : AV) by simp only [List.length_set]), (show ((.sl 0 [] ly5 0 (List.length x36)) : AV) = ((.sl 0 [] ly5 0 (List.length (List.set x36 (Int.toNat x35) x37))) : AV) by simp only [List.length_set]), rfl, trivial⟩, ⟨rfl, trivial⟩, rfl⟩, Nat.lt_succ_self _⟩
        · replace h := cond_f h hb
          exact ⟨[], [], ⟨x36, some_in h⟩, [], rfl, ⟨rfl, rfl, rfl, trivial⟩, ⟨rfl, trivial⟩, rfl⟩
/- fellowship/stream.Turn -/
def stream_Turn_l1 (x8 : List Int) (x10 : List Int) (x11 : List Int) : Nat → Int → Int → (List Int) → Option (((Int × (List Int)) ⊕ (Unit ⊕ (Int × (List Int)))))
  | 0, _, _, _ => none
  | n1 + 1, x20, x21, x22 =>
    cond (decide (x20 < (List.length x11 : Int)))
      (if 0 ≤ x20 ∧ x20 ≤ (List.length x11 : Int) then
        nm ((List.take (Int.toNat ((List.length x11 : Int) - x20)) (List.drop (Int.toNat x20) x11)) : List Int) fun x23 =>
        nm ((if (List.length x23 : Int) < 64 then (List.length x23 : Int) else 64) : Int) fun x24 =>
        if 0 ≤ x20 ∧ x20 ≤ (IntKind.wrap .i64 (x20 + x24)) ∧ (IntKind.wrap .i64 (x20 + x24)) ≤ (IntKind.wrap .i64 (x20 + x24)) then
          if (IntKind.wrap .i64 (x20 + x24)) ≤ (List.length x11 : Int) then
            nm ((List.take (Int.toNat ((IntKind.wrap .i64 (x20 + x24)) - x20)) (List.drop (Int.toNat x20) x11)) : List Int) fun x25 =>
            (stream_Block x8 x21 x10).bind fun r27 => match r27 with
            | (Sum.inl x26) =>
                if (List.length x25 : Int) ≤ ((List.length x26) : Int) then
                  if 0 ≤ (List.length x25 : Int) then
                    (words_Mix x25 (List.take (Int.toNat ((List.length x25 : Int) - 0)) x26)).bind fun r27 => match r27 with
                    | (Sum.inl x27) =>
                        if (((List.length x22) : Int) + (List.length x27)) * 1 ≤ 140737488355328 then
                          stream_Turn_l1 x8 x10 x11 n1 (IntKind.wrap .i64 (x20 + 64)) (IntKind.wrap .u32 (x21 + 1)) (x22 ++ x27)
                        else none
                    | (Sum.inr ()) =>
                        some (Sum.inr (Sum.inr (x21, x22)))
                  else none
                else none
            | (Sum.inr ()) =>
                some (Sum.inr (Sum.inr (x21, x22)))
          else none
        else none
      else none)
      (some (Sum.inl (x21, x22)))
def stream_Turn (x8 : List Int) (x9 : Int) (x10 : List Int) (x11 : List Int) : Option ((((List Int)) ⊕ Nat)) :=
  cond (!((List.length x10 : Int) == 12))
    (some (Sum.inr 4))
    (cond (decide ((List.length x11 : Int) > 65536))
      (some (Sum.inr 3))
      ((slices_Chunk_byte_byte x11 64).bind fun _ =>
        ((((stream_Turn_l1 x8 x10 x11 FUEL 0 x9 ([] : List Int) : Option (((Int × (List Int)) ⊕ (Unit ⊕ (Int × (List Int))))))).bind fun r2_0_19 => match r2_0_19 with
        | (Sum.inl (x16, x17)) =>
            some (Sum.inl (x16, x17))
        | (Sum.inr (Sum.inl ())) =>
            some (Sum.inr (Sum.inl ()))
        | (Sum.inr (Sum.inr (x18, x19))) =>
            some (Sum.inr (Sum.inr (x18, x19))) : Option (((Int × (List Int)) ⊕ (Unit ⊕ (Int × (List Int))))))).bind fun r1_0_15 => match r1_0_15 with
        | (Sum.inl (x12, x13)) =>
            some (Sum.inl x13)
        | (Sum.inr (Sum.inl ())) =>
            some (Sum.inr 4)
        | (Sum.inr (Sum.inr (x14, x15))) =>
            some (Sum.inr 4)))
theorem stream_Turn_c (k0 : Nat) (hn : [k0].Nodup) (x8 : List Int) (x9 : Int) (x10 : List Int) (x11 : List Int) (res : (((List Int)) ⊕ Nat)) (h : stream_Turn x8 x9 x10 x11 = some res) :
    Fn Tryd.prog (GE er) 30 [(.dv (.ints .u8 32 x8)), (.int .u32 x9), (.dv (.roI .u8 x10)), (.dv (.roI .u8 x11))] [] (match res with | (Sum.inl p0) => (.tup [(.sl k0 [] ly5 0 (List.length p0)), (.dv (.sc .nilIface))]) | (Sum.inr p0) => (.tup [(.dv (.sc (.slice none 0 0))), (errA er p0)])) (match res with | (Sum.inl p0) => [(k0, (.rowI .u8 p0))] | (Sum.inr p0) => []) := by
  refine Fn.bodyE (fn := Tryd.f30) (c := _) tabOK mixed (GE_plain er) Tryd.func30 rfl rfl ((match res with | (Sum.inl p0) => [(8, k0)] | (Sum.inr p0) => [])) [(.dv (.ints .u8 32 x8)), (.int .u32 x9), (.dv (.roI .u8 x10)), (.dv (.roI .u8 x11))] [] (match res with | (Sum.inl p0) => [8] | (Sum.inr p0) => []) (match res with | (Sum.inl p0) => (.tup [(.sl 8 [] ly5 0 (List.length p0)), (.dv (.sc .nilIface))]) | (Sum.inr p0) => (.tup [(.dv (.sc (.slice none 0 0))), (errA er p0)])) (match res with | (Sum.inl p0) => [(.rowI .u8 p0)] | (Sum.inr p0) => []) rfl rfl (by rcases res with _ | _ <;> rfl) (by rcases res with _ | _ <;> rfl) (by rcases res with _ | _ <;> rfl) (by rcases res with _ | _ <;> rfl) (by rcases res with _ | _ <;> first | exact hn.sublist (.cons_cons _ .slnil) | exact hn.sublist (.cons _ .slnil)) 3 ?_
  replace h := (show stream_Turn x8 x9 x10 x11 = _ from h)
  unfold stream_Turn at h
  refine Or.inl ?_
  refine And.intro (fun hb => ?_) (fun hb => ?_)
  · replace h := cond_t h hb
    obtain rfl := some_in h
    exact ⟨0, [], [], rfl, trivial⟩
  · replace h := cond_f h hb
    refine And.intro (fun hb => ?_) (fun hb => ?_)
    · replace h := cond_t h hb
      obtain rfl := some_in h
      exact ⟨0, [], [], rfl, trivial⟩
    · replace h := cond_f h hb
      obtain ⟨r27, hc27, h⟩ := bnd h
      refine ⟨[], _, _, _, ⟨⟨_, slices_Chunk_byte_byte_c er 6 7 (by decide) x11 64 r27 hc27, ⟨.inl rfl, .inl rfl, trivial⟩⟩, trivial, rfl⟩, ?_⟩
      obtain ⟨r1_0_15, hl1_15, hr1_15⟩ := bnd h
      refine Or.inr ⟨[4, 5, 26], {p : Int × (List Int) // (Sum.inl p) = r1_0_15}, ⟨fun | ⟨(x12, x13), _⟩ => [], fun | ⟨(x12, x13), _⟩ => [(1, (.var (.int .u32 x12))), (5, (.var (.sl 8 [] ly5 0 (List.length x13)))), (8, (.rowI .u8 x13))], fun _ => 0⟩, 1, ?_, ?_⟩
      · rintro ⟨⟨x12, x13⟩, hp⟩
        subst hp
        replace h := hr1_15
        obtain rfl := some_in h
        exact ⟨0, [], [], rfl, rfl, trivial⟩
      · replace h := hl1_15
        intro L3
        refine ⟨Tryd.f118, _, ⟨Tryd.func118, rfl, rfl, rfl⟩, ?_⟩
        obtain ⟨r2_0_19, hl2_19, hr2_19⟩ := bnd h
        refine Or.inr ⟨[0, 1, 2], {p : Int × (List Int) // (Sum.inl p) = r2_0_19}, ⟨fun | ⟨(x16, x17), _⟩ => [], fun | ⟨(x16, x17), _⟩ => [(1, (.var (.int .u32 x16))), (5, (.var (.sl 10 [] ly5 0 (List.length x17)))), (10, (.rowI .u8 x17))], fun _ => 0⟩, 1, ?_, ?_⟩
        · rintro ⟨⟨x16, x17⟩, hp⟩
          subst hp
          replace h := hr2_19
          exact ⟨[], [], ⟨(x16, x17), some_in h⟩, [(8, 10)], rfl, trivial, ⟨rfl, rfl, rfl, rfl, rfl, rfl, rfl, rfl, rfl, trivial⟩, rfl⟩
        · replace h := hl2_19
          refine Or.inl ?_
          refine ⟨[], {x : Nat × Int × Int × (List Int) // stream_Turn_l1 x8 x10 x11 x.1 x.2.1 x.2.2.1 x.2.2.2 = some r2_0_19}, ⟨fun | ⟨(n1, x20, x21, x22), _⟩ => [(4, (.int .i64 x20))], fun | ⟨(n1, x20, x21, x22), _⟩ => [(1, (.var (.int .u32 x21))), (5, (.var (.sl 10 [] ly5 0 (List.length x22)))), (10, (.rowI .u8 x22))], fun | ⟨(n1, x20, x21, x22), _⟩ => n1⟩, [], [(5, [], .rowI .u8 [])], ⟨(FUEL, 0, x9, ([] : List Int)), h⟩, ⟨rfl, ⟨rfl, trivial⟩, ⟨rfl, rfl, rfl, rfl, rfl, rfl, rfl, rfl, trivial, rfl, rfl, trivial⟩, rfl⟩, ?_⟩
          rintro ⟨⟨n1, x20, x21, x22⟩, h⟩
          cases n1 with
          | zero => exact no_none h
          | succ n1 =>
            replace h := (show stream_Turn_l1 x8 x10 x11 (n1 + 1) x20 x21 x22 = _ from h)
            replace h := (stream_Turn_l1.eq_2 .. ).symm.trans h
            refine And.intro (fun hb => ?_) (fun hb => ?_)
            · replace h := cond_t h hb
              refine Or.inl ?_
              obtain ⟨hg, h⟩ := gd h
              refine And.intro hg ?_
              refine ⟨(List.take (Int.toNat ((List.length x11 : Int) - x20)) (List.drop (Int.toNat x20) x11)), by first | rfl | simp, ?_⟩
              let x23 : List Int := (List.take (Int.toNat ((List.length x11 : Int) - x20)) (List.drop (Int.toNat x20) x11))
              replace h := nm_at x23 rfl h
              let x24 : Int := (if (List.length x23 : Int) < 64 then (List.length x23 : Int) else 64)
              replace h := nm_at x24 rfl h
              obtain ⟨hg, h⟩ := gd h
              refine And.intro hg ?_
              obtain ⟨hg, h⟩ := gd h
              refine And.intro hg ?_
              refine ⟨(List.take (Int.toNat ((IntKind.wrap .i64 (x20 + x24)) - x20)) (List.drop (Int.toNat x20) x11)), by first | rfl | simp, ?_⟩
              let x25 : List Int := (List.take (Int.toNat ((IntKind.wrap .i64 (x20 + x24)) - x20)) (List.drop (Int.toNat x20) x11))
              replace h := nm_at x25 rfl h
              refine ⟨rfl, ?_⟩
              refine Or.inl ?_
              obtain ⟨r27, hc27, h⟩ := bnd h
              rcases r27 with x26 | ⟨⟩
              · refine ⟨[], _, _, _, ⟨⟨_, stream_Block_c er 11 (by decide) x8 x21 x10 (Sum.inl x26) hc27, ⟨.inl rfl, .inl rfl, .inl rfl, trivial⟩⟩, trivial, rfl⟩, ?_⟩
                refine And.intro (fun h0 => Bool.noConfusion h0) (fun _ => ?_)
                obtain ⟨hg, h⟩ := gd h
                refine And.intro hg ?_
                obtain ⟨hg, h⟩ := gd h
                refine And.intro hg ?_
                refine ⟨0, (Int.toNat ((List.length x25 : Int) - 0)), ⟨by simp, rfl⟩, ?_⟩
                obtain ⟨r27, hc27, h⟩ := bnd h
                rcases r27 with x27 | ⟨⟩
                · refine ⟨[false, true], _, _, _, ⟨⟨_, words_Mix_c er 12 (by decide) x25 (List.take (Int.toNat ((List.length x25 : Int) - 0)) x26) (Sum.inl x27) hc27, ⟨.inl rfl, .inl rfl, trivial⟩⟩, trivial, rfl⟩, ?_⟩
                  refine And.intro (fun h0 => Bool.noConfusion h0) (fun _ => ?_)
                  obtain ⟨hg, h⟩ := gd h
                  refine And.intro (le_of_ln2 (ln_full x27) hg) ?_
                  refine ⟨(x22 ++ x27), app_cut (cut_full _) (cut_full x27), 0, (List.length (x22 ++ x27)), ⟨rfl, app_ln (ln_full x27)⟩, ?_⟩
                  exact ⟨⟨(n1, (IntKind.wrap .i64 (x20 + 64)), (IntKind.wrap .u32 (x21 + 1)), (x22 ++ x27)), h⟩, [(10, 13)], ⟨rfl, ⟨rfl, trivial⟩, ⟨rfl, rfl, rfl, rfl, rfl, rfl, rfl, rfl, trivial, rfl, rfl, trivial⟩, rfl⟩, Nat.lt_succ_self _⟩
                · refine ⟨[false, true], _, _, _, ⟨⟨_, words_Mix_c er 12 (by decide) x25 (List.take (Int.toNat ((List.length x25 : Int) - 0)) x26) (Sum.inr ()) hc27, ⟨.inl rfl, .inl rfl, trivial⟩⟩, trivial, rfl⟩, ?_⟩
                  refine And.intro (fun _ => ?_) (fun h0 => Bool.noConfusion h0)
                  obtain rfl := some_in h
                  replace h := hr2_19
                  obtain rfl := some_in h
                  replace h := hr1_15
                  obtain rfl := some_in h
                  exact ⟨0, [], [], rfl, trivial⟩
              · refine ⟨[], _, _, _, ⟨⟨_, stream_Block_c er 11 (by decide) x8 x21 x10 (Sum.inr ()) hc27, ⟨.inl rfl, .inl rfl, .inl rfl, trivial⟩⟩, trivial, rfl⟩, ?_⟩
                refine And.intro (fun _ => ?_) (fun h0 => Bool.noConfusion h0)
                obtain rfl := some_in h
                replace h := hr2_19
                obtain rfl := some_in h
                replace h := hr1_15
                obtain rfl := some_in h
                exact ⟨0, [], [], rfl, trivial⟩
            · replace h := cond_f h hb
              exact ⟨[], [], ⟨(x21, x22), some_in h⟩, [], rfl, trivial, ⟨rfl, rfl, rfl, rfl, rfl, rfl, rfl, rfl, trivial, rfl, rfl, trivial⟩, rfl⟩
/- fellowship/seal.filled -/
def seal_filled (x36 : List Int) : Option ((List Int)) :=
  nm ((IntKind.wrap .i64 (16 - (Int.tmod (List.length x36 : Int) 16))) : Int) fun x37 =>
  if 0 ≤ (Int.tmod x37 16) ∧ (Int.tmod x37 16) ≤ (Int.tmod x37 16) ∧ (Int.tmod x37 16) ≤ 9223372036854775807 ∧ (Int.tmod x37 16) * 1 ≤ 140737488355328 then
    some (List.replicate (Int.toNat (Int.tmod x37 16)) (0 : Int))
  else none
theorem seal_filled_c (k0 : Nat) (hn : [k0].Nodup) (x36 : List Int) (res : (List Int)) (h : seal_filled x36 = some res) :
    Fn Tryd.prog (GE er) 64 [(.dv (.roI .u8 x36))] [] (.sl k0 [] ly5 0 (List.length res)) [(k0, (.rowI .u8 res))] := by
  refine Fn.bodyE (fn := Tryd.f64) (c := _) tabOK mixed (GE_plain er) Tryd.func64 rfl rfl [(0, k0)] [(.dv (.roI .u8 x36))] [] [0] (.sl 0 [] ly5 0 (List.length res)) [(.rowI .u8 res)] rfl rfl rfl rfl rfl rfl hn 3 ?_
  replace h := (show seal_filled x36 = _ from h)
  unfold seal_filled at h
  refine And.intro (by decide) ?_
  let x37 : Int := (IntKind.wrap .i64 (16 - (Int.tmod (List.length x36 : Int) 16)))
  replace h := nm_at x37 rfl h
  refine And.intro (by decide) ?_
  obtain ⟨hg, h⟩ := gd h
  refine And.intro hg ?_
  refine ⟨(List.replicate (Int.toNat (Int.tmod x37 16)) (0 : Int)), rfl, 0, (List.length (List.replicate (Int.toNat (Int.tmod x37 16)) (0 : Int))), ⟨rfl, List.length_replicate ..⟩, ?_⟩
  obtain rfl := some_in h
  exact ⟨0, [], [], rfl, rfl, trivial⟩
/- fellowship/words.PutLittle -/
def words_PutLittle_l1 (x42 : Int) : Nat → Int → Int → (List Int) → Option ((((List Int)) ⊕ Unit))
  | 0, _, _, _ => none
  | n1 + 1, x44, x45, x46 =>
    cond (decide (x45 < x42))
      (if (0 : Int) ≤ x45 ∧ x45 < ((List.length (List.replicate (Int.toNat x42) (0 : Int))) : Int) then
        words_PutLittle_l1 x42 n1 (Int.fdiv x44 (2 ^ 8)) (IntKind.wrap .i64 (x45 + 1)) (List.set x46 (Int.toNat x45) (IntKind.wrap .u8 x44))
      else none)
      (some (Sum.inl x46))
def words_PutLittle (x41 : Int) (x42 : Int) : Option ((((List Int)) ⊕ Unit)) :=
  cond (decide (x42 < 0))
    (some (Sum.inr ()))
    (cond (decide (x42 > 8))
      (some (Sum.inr ()))
      (if 0 ≤ x42 ∧ x42 ≤ x42 ∧ x42 ≤ 9223372036854775807 ∧ x42 * 1 ≤ 140737488355328 then
        cond (decide (0 < x42))
          (if (0 : Int) ≤ 0 ∧ 0 < ((List.length (List.replicate (Int.toNat x42) (0 : Int))) : Int) then
            nm ((List.set (List.replicate (Int.toNat x42) (0 : Int)) (Int.toNat 0) (IntKind.wrap .u8 x41)) : List Int) fun x43 =>
            words_PutLittle_l1 x42 FUEL (Int.fdiv x41 (2 ^ 8)) 1 x43
          else none)
          (some (Sum.inl (List.replicate (Int.toNat x42) (0 : Int))))
      else none))
theorem words_PutLittle_c (k0 : Nat) (hn : [k0].Nodup) (x41 : Int) (x42 : Int) (res : (((List Int)) ⊕ Unit)) (h : words_PutLittle x41 x42 = some res) :
    Fn Tryd.prog (GE er) 121 [(.int .u64 x41), (.int .i64 x42)] [] (match res with | (Sum.inl p0) => (.tup [(.sl k0 [] ly5 0 (List.length (List.replicate (Int.toNat x42) (0 : Int)))), (.dv (.sc .nilIface))]) | (Sum.inr _) => (.tup [(.dv (.sc (.slice none 0 0))), (errA er 1)])) (match res with | (Sum.inl p0) => [(k0, (.rowI .u8 p0))] | (Sum.inr _) => []) := by
  refine Fn.bodyE (fn := Tryd.f121) (c := _) tabOK mixed (GE_plain er) Tryd.func121 rfl rfl ((match res with | (Sum.inl p0) => [(0, k0)] | (Sum.inr _) => [])) [(.int .u64 x41), (.int .i64 x42)] [] (match res with | (Sum.inl p0) => [0] | (Sum.inr _) => []) (match res with | (Sum.inl p0) => (.tup [(.sl 0 [] ly5 0 (List.length (List.replicate (Int.toNat x42) (0 : Int)))), (.dv (.sc .nilIface))]) | (Sum.inr _) => (.tup [(.dv (.sc (.slice none 0 0))), (errA er 1)])) (match res with | (Sum.inl p0) => [(.rowI .u8 p0)] | (Sum.inr _) => []) rfl rfl (by rcases res with _ | _ <;> rfl) (by rcases res with _ | _ <;> rfl) (by rcases res with _ | _ <;> rfl) (by rcases res with _ | _ <;> rfl) (by rcases res with _ | _ <;> first | exact hn.sublist (.cons_cons _ .slnil) | exact hn.sublist (.cons _ .slnil)) 3 ?_
  replace h := (show words_PutLittle x41 x42 = _ from h)
  unfold words_PutLittle at h
  refine And.intro (fun hb => ?_) (fun hb => ?_)
  · replace h := cond_t h hb
    obtain rfl := some_in h
    exact ⟨0, [], [], rfl, trivial⟩
  · replace h := cond_f h hb
    refine And.intro (fun hb => ?_) (fun hb => ?_)
    · replace h := cond_t h hb
      obtain rfl := some_in h
      exact ⟨0, [], [], rfl, trivial⟩
    · replace h := cond_f h hb
      obtain ⟨hg, h⟩ := gd h
      refine And.intro hg ?_
      refine ⟨(List.replicate (Int.toNat x42) (0 : Int)), rfl, 0, (List.length (List.replicate (Int.toNat x42) (0 : Int))), ⟨rfl, List.length_replicate ..⟩, ?_⟩
      refine And.intro (fun hb => ?_) (fun hb => ?_)
      · replace h := cond_t h hb
        obtain ⟨hg, h⟩ := gd h
        refine And.intro hg ?_
        let x43 : List Int := (List.set (List.replicate (Int.toNat x42) (0 : Int)) (Int.toNat 0) (IntKind.wrap .u8 x41))
        replace h := nm_at x43 rfl h
        refine And.intro (by decide) ?_
        refine Or.inr ⟨[], {x : Nat × Int × Int × (List Int) // words_PutLittle_l1 x42 x.1 x.2.1 x.2.2.1 x.2.2.2 = some res}, ⟨fun | ⟨(n1, x44, x45, x46), _⟩ => [(0, (.int .u64 x44)), (4, (.dv (.sc (.slice none 0 0)))), (5, (.dv (.sc .nilIface))), (6, (.sl 0 [] ly5 0 (List.length (List.replicate (Int.toNat x42) (0 : Int))))), (7, (.int .i64 x45))], fun | ⟨(n1, x44, x45, x46), _⟩ => [(0, (.rowI .u8 x46))], fun | ⟨(n1, x44, x45, x46), _⟩ => n1⟩, [], [], ⟨(FUEL, (Int.fdiv x41 (2 ^ 8)), 1, x43), h⟩, ⟨rfl, ⟨rfl, rfl, rfl, rfl, rfl, trivial⟩, ⟨rfl, trivial⟩, rfl⟩, ?_⟩
        rintro ⟨⟨n1, x44, x45, x46⟩, h⟩
        cases n1 with
        | zero => exact no_none h
        | succ n1 =>
          replace h := (show words_PutLittle_l1 x42 (n1 + 1) x44 x45 x46 = _ from h)
          replace h := (words_PutLittle_l1.eq_2 .. ).symm.trans h
          refine And.intro (fun hb => ?_) (fun hb => ?_)
          · replace h := cond_t h hb
            obtain ⟨hg, h⟩ := gd h
            refine And.intro hg ?_
            refine And.intro (by decide) ?_
            exact ⟨⟨(n1, (Int.fdiv x44 (2 ^ 8)), (IntKind.wrap .i64 (x45 + 1)), (List.set x46 (Int.toNat x45) (IntKind.wrap .u8 x44))), h⟩, [], ⟨rfl, ⟨rfl, rfl, rfl, rfl, rfl, trivial⟩, ⟨rfl, trivial⟩, rfl⟩, Nat.lt_succ_self _⟩
          · replace h := cond_f h hb
            obtain rfl := some_in h
            exact ⟨0, [], [], rfl, rfl, trivial⟩
      · replace h := cond_f h hb
        obtain rfl := some_in h
        exact ⟨0, [], [], rfl, rfl, trivial⟩
/- fellowship/seal.count -/
def seal_count (x40 : List Int) : Option (Nat × (List Int)) :=
  (words_PutLittle (IntKind.wrap .u64 (List.length x40 : Int)) 8).bind fun r41 => match r41 with
  | (Sum.inl x41) =>
      some ((List.length (List.replicate (Int.toNat 8) (0 : Int))), x41)
  | (Sum.inr ()) =>
      some ((List.length ([] : List Int)), ([] : List Int))
theorem seal_count_c (k0 : Nat) (hn : [k0].Nodup) (x40 : List Int) (res : Nat × (List Int)) (h : seal_count x40 = some res) :
    Fn Tryd.prog (GE er) 65 [(.dv (.roI .u8 x40))] [] (.sl k0 [] ly5 0 res.1) [(k0, (.rowI .u8 res.2))] := by
  refine Fn.bodyE (fn := Tryd.f65) (c := _) tabOK mixed (GE_plain er) Tryd.func65 rfl rfl [(0, k0)] [(.dv (.roI .u8 x40))] [] [0] (.sl 0 [] ly5 0 res.1) [(.rowI .u8 res.2)] rfl rfl rfl rfl rfl rfl hn 3 ?_
  replace h := (show seal_count x40 = _ from h)
  unfold seal_count at h
  obtain ⟨r41, hc41, h⟩ := bnd h
  rcases r41 with x41 | ⟨⟩
  · refine ⟨[], _, _, _, ⟨⟨_, words_PutLittle_c er 0 (by decide) (IntKind.wrap .u64 (List.length x40 : Int)) 8 (Sum.inl x41) hc41, ⟨.inl rfl, .inl rfl, trivial⟩⟩, trivial, rfl⟩, ?_⟩
    refine And.intro (fun h0 => Bool.noConfusion h0) (fun _ => ?_)
    obtain rfl := some_in h
    exact ⟨0, [], [], rfl, rfl, trivial⟩
  · refine ⟨[], _, _, _, ⟨⟨_, words_PutLittle_c er 0 (by decide) (IntKind.wrap .u64 (List.length x40 : Int)) 8 (Sum.inr ()) hc41, ⟨.inl rfl, .inl rfl, trivial⟩⟩, trivial, rfl⟩, ?_⟩
    refine And.intro (fun _ => ?_) (fun h0 => Bool.noConfusion h0)
    obtain rfl := some_in h
    exact ⟨0, [(2, (.rowI .u8 ([] : List Int)))], [], rfl, rfl, trivial⟩
/- fellowship/seal.code -/
def seal_code (x29 : List Int) (x30 : List Int) (x31 : List Int) (x32 : List Int) : Option ((((List Int) × Nat × Nat × Nat × Nat × (List Int) × (List Int) × (List Int) × (List Int)) ⊕ ((List Int) × Nat × Nat × Nat × Nat × (List Int) × (List Int) × (List Int) × (List Int)))) :=
  (stream_Block x29 0 x30).bind fun r48 => match r48 with
  | (Sum.inl x33) =>
      nm ((over (List.replicate 32 (0 : Int)) 0 (List.take 32 (List.take (List.length x33) x33))) : List Int) fun x34 =>
      nm ((min (List.length (List.take (List.length x33) x33)) 32 : Nat) : Int) fun x35 =>
      (seal_filled x31).bind fun x36 =>
        (seal_filled x32).bind fun x37 =>
          (seal_count x31).bind fun r41 => match r41 with
          | (x38, x39) =>
              (seal_count x32).bind fun r41 => match r41 with
              | (x40, x41) =>
                  some (Sum.inl (x34, (List.length x36), (List.length x37), x38, x40, x36, x37, x39, x41))
  | (Sum.inr ()) =>
      nm ((over (List.replicate 32 (0 : Int)) 0 (List.take 32 ([] : List Int))) : List Int) fun x42 =>
      (seal_filled x31).bind fun x43 =>
        (seal_filled x32).bind fun x44 =>
          (seal_count x31).bind fun r48 => match r48 with
          | (x45, x46) =>
              (seal_count x32).bind fun r48 => match r48 with
              | (x47, x48) =>
                  some (Sum.inr (x42, (List.length x43), (List.length x44), x45, x47, x43, x44, x46, x48))
theorem seal_code_c (k0 k1 k2 k3 k4 : Nat) (hn : [k0, k1, k2, k3, k4].Nodup) (x29 : List Int) (x30 : List Int) (x31 : List Int) (x32 : List Int) (res : (((List Int) × Nat × Nat × Nat × Nat × (List Int) × (List Int) × (List Int) × (List Int)) ⊕ ((List Int) × Nat × Nat × Nat × Nat × (List Int) × (List Int) × (List Int) × (List Int)))) (h : seal_code x29 x30 x31 x32 = some res) :
    Fn Tryd.prog (GE er) 31 [(.dv (.ints .u8 32 x29)), (.dv (.roI .u8 x30)), (.dv (.roI .u8 x31)), (.dv (.roI .u8 x32))] [] (match res with | (Sum.inl (p0, p1, p2, p3, p4, p5, p6, p7, p8)) => (.tup [(.dv (.ints .u8 32 p0)), (.vs k0 0 6), (.dv (.sc .nilIface))]) | (Sum.inr (p0, p1, p2, p3, p4, p5, p6, p7, p8)) => (.tup [(.dv (.ints .u8 32 p0)), (.vs k0 0 6), (errA er 4)])) (match res with | (Sum.inl (p0, p1, p2, p3, p4, p5, p6, p7, p8)) => [(k0, (.var (.cons (.dv (.roI .u8 x31)) (.cons (.sl k1 [] ly5 0 p1) (.cons (.dv (.roI .u8 x32)) (.cons (.sl k2 [] ly5 0 p2) (.cons (.sl k3 [] ly5 0 p3) (.cons (.sl k4 [] ly5 0 p4) (.dv .nil))))))))), (k1, (.rowI .u8 p5)), (k2, (.rowI .u8 p6)), (k3, (.rowI .u8 p7)), (k4, (.rowI .u8 p8))] | (Sum.inr (p0, p1, p2, p3, p4, p5, p6, p7, p8)) => [(k0, (.var (.cons (.dv (.roI .u8 x31)) (.cons (.sl k1 [] ly5 0 p1) (.cons (.dv (.roI .u8 x32)) (.cons (.sl k2 [] ly5 0 p2) (.cons (.sl k3 [] ly5 0 p3) (.cons (.sl k4 [] ly5 0 p4) (.dv .nil))))))))), (k1, (.rowI .u8 p5)), (k2, (.rowI .u8 p6)), (k3, (.rowI .u8 p7)), (k4, (.rowI .u8 p8))]) := by
  refine Fn.bodyE (fn := Tryd.f31) (c := _) tabOK mixed (GE_plain er) Tryd.func31 rfl rfl ((match res with | (Sum.inl (p0, p1, p2, p3, p4, p5, p6, p7, p8)) => [(8, k0), (4, k1), (5, k2), (6, k3), (7, k4)] | (Sum.inr (p0, p1, p2, p3, p4, p5, p6, p7, p8)) => [(7, k0), (3, k1), (4, k2), (5, k3), (6, k4)])) [(.dv (.ints .u8 32 x29)), (.dv (.roI .u8 x30)), (.dv (.roI .u8 x31)), (.dv (.roI .u8 x32))] [] (match res with | (Sum.inl (p0, p1, p2, p3, p4, p5, p6, p7, p8)) => [8, 4, 5, 6, 7] | (Sum.inr (p0, p1, p2, p3, p4, p5, p6, p7, p8)) => [7, 3, 4, 5, 6]) (match res with | (Sum.inl (p0, p1, p2, p3, p4, p5, p6, p7, p8)) => (.tup [(.dv (.ints .u8 32 p0)), (.vs 8 0 6), (.dv (.sc .nilIface))]) | (Sum.inr (p0, p1, p2, p3, p4, p5, p6, p7, p8)) => (.tup [(.dv (.ints .u8 32 p0)), (.vs 7 0 6), (errA er 4)])) (match res with | (Sum.inl (p0, p1, p2, p3, p4, p5, p6, p7, p8)) => [(.var (.cons (.dv (.roI .u8 x31)) (.cons (.sl 4 [] ly5 0 p1) (.cons (.dv (.roI .u8 x32)) (.cons (.sl 5 [] ly5 0 p2) (.cons (.sl 6 [] ly5 0 p3) (.cons (.sl 7 [] ly5 0 p4) (.dv .nil)))))))), (.rowI .u8 p5), (.rowI .u8 p6), (.rowI .u8 p7), (.rowI .u8 p8)] | (Sum.inr (p0, p1, p2, p3, p4, p5, p6, p7, p8)) => [(.var (.cons (.dv (.roI .u8 x31)) (.cons (.sl 3 [] ly5 0 p1) (.cons (.dv (.roI .u8 x32)) (.cons (.sl 4 [] ly5 0 p2) (.cons (.sl 5 [] ly5 0 p3) (.cons (.sl 6 [] ly5 0 p4) (.dv .nil)))))))), (.rowI .u8 p5), (.rowI .u8 p6), (.rowI .u8 p7), (.rowI .u8 p8)]) rfl rfl (by rcases res with _ | _ <;> rfl) (by rcases res with _ | _ <;> rfl) (by rcases res with _ | _ <;> rfl) (by rcases res with _ | _ <;> rfl) (by rcases res with _ | _ <;> exact hn) 3 ?_
  replace h := (show seal_code x29 x30 x31 x32 = _ from h)
  unfold seal_code at h
  obtain ⟨r48, hc48, h⟩ := bnd h
  rcases r48 with x33 | ⟨⟩
  · refine ⟨[], _, _, _, ⟨⟨_, stream_Block_c er 3 (by decide) x29 0 x30 (Sum.inl x33) hc48, ⟨.inl rfl, .inl rfl, .inl rfl, trivial⟩⟩, trivial, rfl⟩, ?_⟩
    refine And.intro (by omega) ?_
    refine ⟨0, 32, ⟨rfl, rfl⟩, ?_⟩
    let x34 : List Int := (over (List.replicate 32 (0 : Int)) 0 (List.take 32 (List.take (List.length x33) x33)))
    replace h := nm_at x34 rfl h
    let x35 : Int := (min (List.length (List.take (List.length x33) x33)) 32 : Nat)
    replace h := nm_at x35 rfl h
    obtain ⟨x36, hc41, h⟩ := bnd h
    refine ⟨[], _, _, _, ⟨⟨_, seal_filled_c er 4 (by decide) x31 x36 hc41, ⟨.inl rfl, trivial⟩⟩, trivial, rfl⟩, ?_⟩
    obtain ⟨x37, hc41, h⟩ := bnd h
    refine ⟨[], _, _, _, ⟨⟨_, seal_filled_c er 5 (by decide) x32 x37 hc41, ⟨.inl rfl, trivial⟩⟩, trivial, rfl⟩, ?_⟩
    obtain ⟨r41, hc41, h⟩ := bnd h
    obtain ⟨x38, x39⟩ := r41
    refine ⟨[], _, _, _, ⟨⟨_, seal_count_c er 6 (by decide) x31 (x38, x39) hc41, ⟨.inl rfl, trivial⟩⟩, trivial, rfl⟩, ?_⟩
    obtain ⟨r41, hc41, h⟩ := bnd h
    obtain ⟨x40, x41⟩ := r41
    refine ⟨[], _, _, _, ⟨⟨_, seal_count_c er 7 (by decide) x32 (x40, x41) hc41, ⟨.inl rfl, trivial⟩⟩, trivial, rfl⟩, ?_⟩
    refine Or.inr ?_
    obtain rfl := some_in h
    exact ⟨0, [], [], rfl, rfl, rfl, rfl, rfl, rfl, trivial⟩
  · refine ⟨[], _, _, _, ⟨⟨_, stream_Block_c er 3 (by decide) x29 0 x30 (Sum.inr ()) hc48, ⟨.inl rfl, .inl rfl, .inl rfl, trivial⟩⟩, trivial, rfl⟩, ?_⟩
    refine And.intro (by omega) ?_
    refine ⟨0, 32, ⟨rfl, rfl⟩, ?_⟩
    let x42 : List Int := (over (List.replicate 32 (0 : Int)) 0 (List.take 32 ([] : List Int)))
    replace h := nm_at x42 rfl h
    obtain ⟨x43, hc48, h⟩ := bnd h
    refine ⟨[], _, _, _, ⟨⟨_, seal_filled_c er 3 (by decide) x31 x43 hc48, ⟨.inl rfl, trivial⟩⟩, trivial, rfl⟩, ?_⟩
    obtain ⟨x44, hc48, h⟩ := bnd h
    refine ⟨[], _, _, _, ⟨⟨_, seal_filled_c er 4 (by decide) x32 x44 hc48, ⟨.inl rfl, trivial⟩⟩, trivial, rfl⟩, ?_⟩
    obtain ⟨r48, hc48, h⟩ := bnd h
    obtain ⟨x45, x46⟩ := r48
    refine ⟨[], _, _, _, ⟨⟨_, seal_count_c er 5 (by decide) x31 (x45, x46) hc48, ⟨.inl rfl, trivial⟩⟩, trivial, rfl⟩, ?_⟩
    obtain ⟨r48, hc48, h⟩ := bnd h
    obtain ⟨x47, x48⟩ := r48
    refine ⟨[], _, _, _, ⟨⟨_, seal_count_c er 6 (by decide) x32 (x47, x48) hc48, ⟨.inl rfl, trivial⟩⟩, trivial, rfl⟩, ?_⟩
    refine Or.inr ?_
    obtain rfl := some_in h
    exact ⟨0, [], [], rfl, rfl, rfl, rfl, rfl, rfl, trivial⟩
/- fellowship/seal.code -/
def seal_code_2 (x49 : List Int) (x50 : List Int) (x51 : List Int) (x52 : List Int) : Option ((((List Int) × Nat × Nat × Nat × Nat × (List Int) × (List Int) × (List Int) × (List Int)) ⊕ ((List Int) × Nat × Nat × Nat × Nat × (List Int) × (List Int) × (List Int) × (List Int)))) :=
  (stream_Block x49 0 x50).bind fun r68 => match r68 with
  | (Sum.inl x53) =>
      nm ((over (List.replicate 32 (0 : Int)) 0 (List.take 32 (List.take (List.length x53) x53))) : List Int) fun x54 =>
      nm ((min (List.length (List.take (List.length x53) x53)) 32 : Nat) : Int) fun x55 =>
      (seal_filled x51).bind fun x56 =>
        (seal_filled x52).bind fun x57 =>
          (seal_count x51).bind fun r61 => match r61 with
          | (x58, x59) =>
              (seal_count x52).bind fun r61 => match r61 with
              | (x60, x61) =>
                  some (Sum.inl (x54, (List.length x56), (List.length x57), x58, x60, x56, x57, x59, x61))
  | (Sum.inr ()) =>
      nm ((over (List.replicate 32 (0 : Int)) 0 (List.take 32 ([] : List Int))) : List Int) fun x62 =>
      (seal_filled x51).bind fun x63 =>
        (seal_filled x52).bind fun x64 =>
          (seal_count x51).bind fun r68 => match r68 with
          | (x65, x66) =>
              (seal_count x52).bind fun r68 => match r68 with
              | (x67, x68) =>
                  some (Sum.inr (x62, (List.length x63), (List.length x64), x65, x67, x63, x64, x66, x68))
theorem seal_code_2_c (b0 k0 k1 k2 k3 k4 : Nat) (hn : [b0, k0, k1, k2, k3, k4].Nodup) (x49 : List Int) (x50 : List Int) (x51 : List Int) (x52 : List Int) (res : (((List Int) × Nat × Nat × Nat × Nat × (List Int) × (List Int) × (List Int) × (List Int)) ⊕ ((List Int) × Nat × Nat × Nat × Nat × (List Int) × (List Int) × (List Int) × (List Int)))) (h : seal_code_2 x49 x50 x51 x52 = some res) :
    Fn Tryd.prog (GE er) 31 [(.dv (.ints .u8 32 x49)), (.dv (.roI .u8 x50)), (.dv (.roI .u8 x51)), (.sl b0 [] ly5 0 (List.length x52))] [(b0, (.rowI .u8 x52))] (match res with | (Sum.inl (p0, p1, p2, p3, p4, p5, p6, p7, p8)) => (.tup [(.dv (.ints .u8 32 p0)), (.vs k0 0 6), (.dv (.sc .nilIface))]) | (Sum.inr (p0, p1, p2, p3, p4, p5, p6, p7, p8)) => (.tup [(.dv (.ints .u8 32 p0)), (.vs k0 0 6), (errA er 4)])) (match res with | (Sum.inl (p0, p1, p2, p3, p4, p5, p6, p7, p8)) => [(b0, (.rowI .u8 x52)), (k0, (.var (.cons (.dv (.roI .u8 x51)) (.cons (.sl k1 [] ly5 0 p1) (.cons (.sl b0 [] ly5 0 (List.length x52)) (.cons (.sl k2 [] ly5 0 p2) (.cons (.sl k3 [] ly5 0 p3) (.cons (.sl k4 [] ly5 0 p4) (.dv .nil))))))))), (k1, (.rowI .u8 p5)), (k2, (.rowI .u8 p6)), (k3, (.rowI .u8 p7)), (k4, (.rowI .u8 p8))] | (Sum.inr (p0, p1, p2, p3, p4, p5, p6, p7, p8)) => [(b0, (.rowI .u8 x52)), (k0, (.var (.cons (.dv (.roI .u8 x51)) (.cons (.sl k1 [] ly5 0 p1) (.cons (.sl b0 [] ly5 0 (List.length x52)) (.cons (.sl k2 [] ly5 0 p2) (.cons (.sl k3 [] ly5 0 p3) (.cons (.sl k4 [] ly5 0 p4) (.dv .nil))))))))), (k1, (.rowI .u8 p5)), (k2, (.rowI .u8 p6)), (k3, (.rowI .u8 p7)), (k4, (.rowI .u8 p8))]) := by
  refine Fn.bodyE (fn := Tryd.f31) (c := _) tabOK mixed (GE_plain er) Tryd.func31 rfl rfl ((0, b0) :: (match res with | (Sum.inl (p0, p1, p2, p3, p4, p5, p6, p7, p8)) => [(9, k0), (5, k1), (6, k2), (7, k3), (8, k4)] | (Sum.inr (p0, p1, p2, p3, p4, p5, p6, p7, p8)) => [(8, k0), (4, k1), (5, k2), (6, k3), (7, k4)])) [(.dv (.ints .u8 32 x49)), (.dv (.roI .u8 x50)), (.dv (.roI .u8 x51)), (.sl 0 [] ly5 0 (List.length x52))] [(.rowI .u8 x52)] (match res with | (Sum.inl (p0, p1, p2, p3, p4, p5, p6, p7, p8)) => [9, 5, 6, 7, 8] | (Sum.inr (p0, p1, p2, p3, p4, p5, p6, p7, p8)) => [8, 4, 5, 6, 7]) (match res with | (Sum.inl (p0, p1, p2, p3, p4, p5, p6, p7, p8)) => (.tup [(.dv (.ints .u8 32 p0)), (.vs 9 0 6), (.dv (.sc .nilIface))]) | (Sum.inr (p0, p1, p2, p3, p4, p5, p6, p7, p8)) => (.tup [(.dv (.ints .u8 32 p0)), (.vs 8 0 6), (errA er 4)])) (match res with | (Sum.inl (p0, p1, p2, p3, p4, p5, p6, p7, p8)) => [(.rowI .u8 x52), (.var (.cons (.dv (.roI .u8 x51)) (.cons (.sl 5 [] ly5 0 p1) (.cons (.sl 0 [] ly5 0 (List.length x52)) (.cons (.sl 6 [] ly5 0 p2) (.cons (.sl 7 [] ly5 0 p3) (.cons (.sl 8 [] ly5 0 p4) (.dv .nil)))))))), (.rowI .u8 p5), (.rowI .u8 p6), (.rowI .u8 p7), (.rowI .u8 p8)] | (Sum.inr (p0, p1, p2, p3, p4, p5, p6, p7, p8)) => [(.rowI .u8 x52), (.var (.cons (.dv (.roI .u8 x51)) (.cons (.sl 4 [] ly5 0 p1) (.cons (.sl 0 [] ly5 0 (List.length x52)) (.cons (.sl 5 [] ly5 0 p2) (.cons (.sl 6 [] ly5 0 p3) (.cons (.sl 7 [] ly5 0 p4) (.dv .nil)))))))), (.rowI .u8 p5), (.rowI .u8 p6), (.rowI .u8 p7), (.rowI .u8 p8)]) rfl rfl (by rcases res with _ | _ <;> rfl) (by rcases res with _ | _ <;> rfl) (by rcases res with _ | _ <;> rfl) (by rcases res with _ | _ <;> rfl) (by rcases res with _ | _ <;> exact hn) 3 ?_
  replace h := (show seal_code_2 x49 x50 x51 x52 = _ from h)
  unfold seal_code_2 at h
  obtain ⟨r68, hc68, h⟩ := bnd h
  rcases r68 with x53 | ⟨⟩
  · refine ⟨[], _, _, _, ⟨⟨_, stream_Block_c er 4 (by decide) x49 0 x50 (Sum.inl x53) hc68, ⟨.inl rfl, .inl rfl, .inl rfl, trivial⟩⟩, trivial, rfl⟩, ?_⟩
    refine And.intro (by omega) ?_
    refine ⟨0, 32, ⟨rfl, rfl⟩, ?_⟩
    let x54 : List Int := (over (List.replicate 32 (0 : Int)) 0 (List.take 32 (List.take (List.length x53) x53)))
    replace h := nm_at x54 rfl h
    let x55 : Int := (min (List.length (List.take (List.length x53) x53)) 32 : Nat)
    replace h := nm_at x55 rfl h
    obtain ⟨x56, hc61, h⟩ := bnd h
    refine ⟨[], _, _, _, ⟨⟨_, seal_filled_c er 5 (by decide) x51 x56 hc61, ⟨.inl rfl, trivial⟩⟩, trivial, rfl⟩, ?_⟩
    obtain ⟨x57, hc61, h⟩ := bnd h
    refine ⟨[true], _, _, _, ⟨⟨_, seal_filled_c er 6 (by decide) x52 x57 hc61, ⟨ve_full _ _, trivial⟩⟩, trivial, rfl⟩, ?_⟩
    obtain ⟨r61, hc61, h⟩ := bnd h
    obtain ⟨x58, x59⟩ := r61
    refine ⟨[], _, _, _, ⟨⟨_, seal_count_c er 7 (by decide) x51 (x58, x59) hc61, ⟨.inl rfl, trivial⟩⟩, trivial, rfl⟩, ?_⟩
    obtain ⟨r61, hc61, h⟩ := bnd h
    obtain ⟨x60, x61⟩ := r61
    refine ⟨[true], _, _, _, ⟨⟨_, seal_count_c er 8 (by decide) x52 (x60, x61) hc61, ⟨ve_full _ _, trivial⟩⟩, trivial, rfl⟩, ?_⟩
    refine Or.inr ?_
    obtain rfl := some_in h
    exact ⟨0, [], [], rfl, rfl, rfl, rfl, rfl, rfl, rfl, trivial⟩
  · refine ⟨[], _, _, _, ⟨⟨_, stream_Block_c er 4 (by decide) x49 0 x50 (Sum.inr ()) hc68, ⟨.inl rfl, .inl rfl, .inl rfl, trivial⟩⟩, trivial, rfl⟩, ?_⟩
    refine And.intro (by omega) ?_
    refine ⟨0, 32, ⟨rfl, rfl⟩, ?_⟩
    let x62 : List Int := (over (List.replicate 32 (0 : Int)) 0 (List.take 32 ([] : List Int)))
    replace h := nm_at x62 rfl h
    obtain ⟨x63, hc68, h⟩ := bnd h
    refine ⟨[], _, _, _, ⟨⟨_, seal_filled_c er 4 (by decide) x51 x63 hc68, ⟨.inl rfl, trivial⟩⟩, trivial, rfl⟩, ?_⟩
    obtain ⟨x64, hc68, h⟩ := bnd h
    refine ⟨[true], _, _, _, ⟨⟨_, seal_filled_c er 5 (by decide) x52 x64 hc68, ⟨ve_full _ _, trivial⟩⟩, trivial, rfl⟩, ?_⟩
    obtain ⟨r68, hc68, h⟩ := bnd h
    obtain ⟨x65, x66⟩ := r68
    refine ⟨[], _, _, _, ⟨⟨_, seal_count_c er 6 (by decide) x51 (x65, x66) hc68, ⟨.inl rfl, trivial⟩⟩, trivial, rfl⟩, ?_⟩
    obtain ⟨r68, hc68, h⟩ := bnd h
    obtain ⟨x67, x68⟩ := r68
    refine ⟨[true], _, _, _, ⟨⟨_, seal_count_c er 7 (by decide) x52 (x67, x68) hc68, ⟨ve_full _ _, trivial⟩⟩, trivial, rfl⟩, ?_⟩
    refine Or.inr ?_
    obtain rfl := some_in h
    exact ⟨0, [], [], rfl, rfl, rfl, rfl, rfl, rfl, rfl, trivial⟩
/- fellowship/onetime.read -/
def onetime_read_l2 (x95 : List Int) (x98 : Int) : Nat → Int → Int → Option Int
  | 0, _, _ => none
  | n2 + 1, x101, x102 =>
    cond (decide (x102 ≥ 0))
      (nm ((IntKind.wrap .i64 (Int.tdiv (IntKind.wrap .i64 (26 * x98)) 8)) : Int) fun x103 =>
      if (0 : Int) ≤ (IntKind.wrap .i64 (x103 + x102)) ∧ (IntKind.wrap .i64 (x103 + x102)) < ((List.length (List.replicate 32 (0 : Int))) : Int) then
        nm ((List.getD x95 (Int.toNat (IntKind.wrap .i64 (x103 + x102))) 0) : Int) fun x104 =>
        nm ((bits .u64 .or (IntKind.wrap .u64 (x101 * 2 ^ 8)) (IntKind.wrap .u64 x104)) : Int) fun x105 =>
        onetime_read_l2 x95 x98 n2 x105 (IntKind.wrap .i64 (x102 - 1))
      else none)
      (some x101)
def onetime_read_l1 (x95 : List Int) : Nat → Int → (List Int) → Option ((List Int))
  | 0, _, _ => none
  | n1 + 1, x98, x99 =>
    cond (decide (x98 < 5))
      (((onetime_read_l2 x95 x98 FUEL 0 4 : Option Int)).bind fun x100 =>
        if 0 ≤ (Int.tmod (IntKind.wrap .i64 (26 * x98)) 8) then
          nm ((Int.fdiv x100 (2 ^ (min (Int.toNat (Int.tmod (IntKind.wrap .i64 (26 * x98)) 8)) (IntKind.bits .u64)))) : Int) fun x106 =>
          if (0 : Int) ≤ x98 ∧ x98 < 5 then
            nm ((List.set x99 (Int.toNat x98) (bits .u64 .and x106 67108863)) : List Int) fun x107 =>
            onetime_read_l1 x95 n1 (IntKind.wrap .i64 (x98 + 1)) x107
          else none
        else none)
      (some x99)
def onetime_read (x94 : List Int) : Option ((List Int)) :=
  nm ((over (List.replicate 32 (0 : Int)) 0 (List.take (List.length (List.replicate 32 (0 : Int))) x94)) : List Int) fun x95 =>
  nm ((min (List.length x94) (List.length (List.replicate 32 (0 : Int))) : Nat) : Int) fun x96 =>
  ((onetime_read_l1 x95 FUEL 0 (List.replicate 5 (0 : Int)) : Option ((List Int)))).bind fun x97 =>
    some x97
theorem onetime_read_c (x94 : List Int) (res : (List Int)) (h : onetime_read x94 = some res) :
    Fn Tryd.prog (GE er) 67 [(.dv (.roI .u8 x94))] [] (.dv (.ints .u64 5 res)) [] := by
  refine Fn.bodyE (fn := Tryd.f67) (c := _) tabOK mixed (GE_plain er) Tryd.func67 rfl rfl [] [(.dv (.roI .u8 x94))] [] [] (.dv (.ints .u64 5 res)) [] rfl rfl rfl rfl rfl rfl .nil 3 ?_
  replace h := (show onetime_read x94 = _ from h)
  unfold onetime_read at h
  refine And.intro (by decide) ?_
  refine ⟨(List.replicate 32 (0 : Int)), rfl, 0, (List.length (List.replicate 32 (0 : Int))), ⟨rfl, List.length_replicate ..⟩, ?_⟩
  refine ⟨(over (List.replicate 32 (0 : Int)) 0 (List.take (List.length (List.replicate 32 (0 : Int))) x94)), rfl, ?_⟩
  let x95 : List Int := (over (List.replicate 32 (0 : Int)) 0 (List.take (List.length (List.replicate 32 (0 : Int))) x94))
  replace h := nm_at x95 rfl h
  let x96 : Int := (min (List.length x94) (List.length (List.replicate 32 (0 : Int))) : Nat)
  replace h := nm_at x96 rfl h
  obtain ⟨r1_0_97, hl1_97, hr1_97⟩ := bnd h
  refine Or.inr ⟨[12], {p : (List Int) // p = r1_0_97}, ⟨fun | ⟨x97, _⟩ => [], fun | ⟨x97, _⟩ => [(2, (.var (.dv (.ints .u64 5 x97))))], fun _ => 0⟩, 0, ?_, ?_⟩
  · rintro ⟨x97, hp⟩
    subst hp
    replace h := hr1_97
    obtain rfl := some_in h
    exact ⟨0, [], [], rfl, trivial⟩
  · replace h := hl1_97
    refine Or.inl ?_
    refine ⟨[12], {x : Nat × Int × (List Int) // onetime_read_l1 x95 x.1 x.2.1 x.2.2 = some r1_0_97}, ⟨fun | ⟨(n1, x98, x99), _⟩ => [(13, (.int .i64 x98))], fun | ⟨(n1, x98, x99), _⟩ => [(2, (.var (.dv (.ints .u64 5 x99))))], fun | ⟨(n1, x98, x99), _⟩ => n1⟩, [], [], ⟨(FUEL, 0, (List.replicate 5 (0 : Int))), h⟩, ⟨rfl, ⟨rfl, trivial⟩, ⟨rfl, rfl, rfl, trivial⟩, rfl⟩, ?_⟩
    rintro ⟨⟨n1, x98, x99⟩, h⟩
    cases n1 with
    | zero => exact no_none h
    | succ n1 =>
      replace h := (show onetime_read_l1 x95 (n1 + 1) x98 x99 = _ from h)
      replace h := (onetime_read_l1.eq_2 .. ).symm.trans h
      refine And.intro (fun hb => ?_) (fun hb => ?_)
      · replace h := cond_t h hb
        refine Or.inl ?_
        obtain ⟨r2_0_100, hl2_100, hr2_100⟩ := bnd h
        refine Or.inr ⟨[], {p : Int // p = r2_0_100}, ⟨fun | ⟨x100, _⟩ => [(7, (.int .u64 x100))], fun | ⟨x100, _⟩ => [], fun _ => 0⟩, 0, ?_, ?_⟩
        · rintro ⟨x100, hp⟩
          subst hp
          replace h := hr2_100
          refine And.intro (by decide) ?_
          obtain ⟨hg, h⟩ := gd h
          refine And.intro hg ?_
          let x106 : Int := (Int.fdiv x100 (2 ^ (min (Int.toNat (Int.tmod (IntKind.wrap .i64 (26 * x98)) 8)) (IntKind.bits .u64))))
          replace h := nm_at x106 rfl h
          obtain ⟨hg, h⟩ := gd h
          refine And.intro hg ?_
          let x107 : List Int := (List.set x99 (Int.toNat x98) (bits .u64 .and x106 67108863))
          replace h := nm_at x107 rfl h
          exact ⟨⟨(n1, (IntKind.wrap .i64 (x98 + 1)), x107), h⟩, [], ⟨rfl, ⟨rfl, trivial⟩, ⟨rfl, rfl, rfl, trivial⟩, rfl⟩, Nat.lt_succ_self _⟩
        · replace h := hl2_100
          refine Or.inl ?_
          refine ⟨[], {x : Nat × Int × Int // onetime_read_l2 x95 x98 x.1 x.2.1 x.2.2 = some r2_0_100}, ⟨fun | ⟨(n2, x101, x102), _⟩ => [(7, (.int .u64 x101)), (8, (.int .i64 x102))], fun | ⟨(n2, x101, x102), _⟩ => [], fun | ⟨(n2, x101, x102), _⟩ => n2⟩, [], [], ⟨(FUEL, 0, 4), h⟩, ⟨rfl, ⟨rfl, rfl, trivial⟩, ⟨rfl, rfl, rfl, trivial⟩, rfl⟩, ?_⟩
          rintro ⟨⟨n2, x101, x102⟩, h⟩
          cases n2 with
          | zero => exact no_none h
          | succ n2 =>
            replace h := (show onetime_read_l2 x95 x98 (n2 + 1) x101 x102 = _ from h)
            replace h := (onetime_read_l2.eq_2 .. ).symm.trans h
            refine And.intro (fun hb => ?_) (fun hb => ?_)
            · replace h := cond_t h hb
              refine Or.inl ?_
              refine And.intro (by decide) ?_
              refine And.intro (by decide) ?_
              let x103 : Int := (IntKind.wrap .i64 (Int.tdiv (IntKind.wrap .i64 (26 * x98)) 8))
              replace h := nm_at x103 rfl h
              obtain ⟨hg, h⟩ := gd h
              refine And.intro hg ?_
              let x104 : Int := (List.getD x95 (Int.toNat (IntKind.wrap .i64 (x103 + x102))) 0)
              replace h := nm_at x104 rfl h
              let x105 : Int := (bits .u64 .or (IntKind.wrap .u64 (x101 * 2 ^ 8)) (IntKind.wrap .u64 x104))
              replace h := nm_at x105 rfl h
              exact ⟨⟨(n2, x105, (IntKind.wrap .i64 (x102 - 1))), h⟩, [], ⟨rfl, ⟨rfl, rfl, trivial⟩, ⟨rfl, rfl, rfl, trivial⟩, rfl⟩, Nat.lt_succ_self _⟩
            · replace h := cond_f h hb
              exact ⟨[], [], ⟨x101, some_in h⟩, [], rfl, ⟨rfl, trivial⟩, ⟨rfl, rfl, rfl, trivial⟩, rfl⟩
      · replace h := cond_f h hb
        exact ⟨[], [], ⟨x99, some_in h⟩, [], rfl, trivial, ⟨rfl, rfl, rfl, trivial⟩, rfl⟩
/- fellowship/onetime.clamped -/
def onetime_clamped_l1 (x91 : List Int) : Nat → Int → (List Int) → Option ((List Int))
  | 0, _, _ => none
  | n1 + 1, x93, x94 =>
    cond (decide (x93 < ((List.length [3, 7, 11, 15]) : Int)))
      (if (0 : Int) ≤ x93 ∧ x93 < ((List.length [3, 7, 11, 15]) : Int) then
        if (0 : Int) ≤ (List.getD [3, 7, 11, 15] (Int.toNat x93) 0) ∧ (List.getD [3, 7, 11, 15] (Int.toNat x93) 0) < ((List.length x91) : Int) then
          nm ((List.getD x94 (Int.toNat (List.getD [3, 7, 11, 15] (Int.toNat x93) 0)) 0) : Int) fun x95 =>
          if (0 : Int) ≤ (List.getD [3, 7, 11, 15] (Int.toNat x93) 0) ∧ (List.getD [3, 7, 11, 15] (Int.toNat x93) 0) < ((List.length x91) : Int) then
            nm ((List.set x94 (Int.toNat (List.getD [3, 7, 11, 15] (Int.toNat x93) 0)) (bits .u8 .and x95 15)) : List Int) fun x96 =>
            onetime_clamped_l1 x91 n1 (IntKind.wrap .i64 (x93 + 1)) x96
          else none
        else none
      else none)
      (some x94)
def onetime_clamped_l2 (x91 : List Int) : Nat → Int → (List Int) → Option ((List Int))
  | 0, _, _ => none
  | n2 + 1, x98, x99 =>
    cond (decide (x98 < ((List.length [4, 8, 12]) : Int)))
      (if (0 : Int) ≤ x98 ∧ x98 < ((List.length [4, 8, 12]) : Int) then
        if (0 : Int) ≤ (List.getD [4, 8, 12] (Int.toNat x98) 0) ∧ (List.getD [4, 8, 12] (Int.toNat x98) 0) < ((List.length x91) : Int) then
          nm ((List.getD x99 (Int.toNat (List.getD [4, 8, 12] (Int.toNat x98) 0)) 0) : Int) fun x100 =>
          if (0 : Int) ≤ (List.getD [4, 8, 12] (Int.toNat x98) 0) ∧ (List.getD [4, 8, 12] (Int.toNat x98) 0) < ((List.length x91) : Int) then
            nm ((List.set x99 (Int.toNat (List.getD [4, 8, 12] (Int.toNat x98) 0)) (bits .u8 .and x100 252)) : List Int) fun x101 =>
            onetime_clamped_l2 x91 n2 (IntKind.wrap .i64 (x98 + 1)) x101
          else none
        else none
      else none)
      (some x99)
def onetime_clamped (x90 : List Int) : Option ((List Int)) :=
  (slices_Clone_byte_byte (List.take 16 x90)).bind fun x91 =>
    ((onetime_clamped_l1 x91 FUEL 0 x91 : Option ((List Int)))).bind fun x92 =>
      ((onetime_clamped_l2 x91 FUEL 0 x92 : Option ((List Int)))).bind fun x97 =>
        (onetime_read (List.take (List.length x91) x97)).bind fun x102 =>
          some x102
theorem onetime_clamped_c (x90 : List Int) (res : (List Int)) (h : onetime_clamped x90 = some res) :
    Fn Tryd.prog (GE er) 66 [(.dv (.ints .u8 32 x90))] [] (.dv (.ints .u64 5 res)) [] := by
  refine Fn.bodyE (fn := Tryd.f66) (c := _) tabOK mixed (GE_plain er) Tryd.func66 rfl rfl [] [(.dv (.ints .u8 32 x90))] [] [] (.dv (.ints .u64 5 res)) [] rfl rfl rfl rfl rfl rfl .nil 3 ?_
  replace h := (show onetime_clamped x90 = _ from h)
  unfold onetime_clamped at h
  refine And.intro (by decide) ?_
  refine And.intro (by decide) ?_
  refine ⟨0, 16, ⟨rfl, rfl⟩, ?_⟩
  obtain ⟨x91, hc102, h⟩ := bnd h
  refine ⟨[true], _, _, _, ⟨⟨_, slices_Clone_byte_byte_c er 2 (by decide) (List.take 16 x90) x91 hc102, ⟨.inl rfl, trivial⟩⟩, trivial, rfl⟩, ?_⟩
  obtain ⟨r1_0_92, hl1_92, hr1_92⟩ := bnd h
  refine Or.inr ⟨[11], {p : (List Int) // p = r1_0_92}, ⟨fun | ⟨x92, _⟩ => [], fun | ⟨x92, _⟩ => [(2, (.rowI .u8 x92))], fun _ => 0⟩, 0, ?_, ?_⟩
  · rintro ⟨x92, hp⟩
    subst hp
    replace h := hr1_92
    obtain ⟨r2_1_97, hl2_97, hr2_97⟩ := bnd h
    refine Or.inr ⟨[24], {p : (List Int) // p = r2_1_97}, ⟨fun | ⟨x97, _⟩ => [], fun | ⟨x97, _⟩ => [(2, (.rowI .u8 x97))], fun _ => 0⟩, 0, ?_, ?_⟩
    · rintro ⟨x97, hp⟩
      subst hp
      replace h := hr2_97
      obtain ⟨x102, hc102, h⟩ := bnd h
      refine ⟨[true], _, _, _, ⟨⟨_, onetime_read_c er (List.take (List.length x91) x97) x102 hc102, ⟨.inl rfl, trivial⟩⟩, trivial, rfl⟩, ?_⟩
      obtain rfl := some_in h
      exact ⟨0, [], [], rfl, trivial⟩
    · replace h := hl2_97
      refine Or.inl ?_
      refine ⟨[], {x : Nat × Int × (List Int) // onetime_clamped_l2 x91 x.1 x.2.1 x.2.2 = some r2_1_97}, ⟨fun | ⟨(n2, x98, x99), _⟩ => [(25, (.int .i64 x98))], fun | ⟨(n2, x98, x99), _⟩ => [(2, (.rowI .u8 x99))], fun | ⟨(n2, x98, x99), _⟩ => n2⟩, [], [], ⟨(FUEL, 0, x92), h⟩, ⟨rfl, ⟨rfl, trivial⟩, ⟨rfl, rfl, rfl, rfl, rfl, trivial⟩, rfl⟩, ?_⟩
      rintro ⟨⟨n2, x98, x99⟩, h⟩
      cases n2 with
      | zero => exact no_none h
      | succ n2 =>
        replace h := (show onetime_clamped_l2 x91 (n2 + 1) x98 x99 = _ from h)
        replace h := (onetime_clamped_l2.eq_2 .. ).symm.trans h
        refine And.intro (fun hb => ?_) (fun hb => ?_)
        · replace h := cond_t h hb
          refine Or.inl ?_
          obtain ⟨hg, h⟩ := gd h
          refine And.intro hg ?_
          obtain ⟨hg, h⟩ := gd h
          refine And.intro hg ?_
          let x100 : Int := (List.getD x99 (Int.toNat (List.getD [4, 8, 12] (Int.toNat x98) 0)) 0)
          replace h := nm_at x100 rfl h
          obtain ⟨hg, h⟩ := gd h
          refine And.intro hg ?_
          let x101 : List Int := (List.set x99 (Int.toNat (List.getD [4, 8, 12] (Int.toNat x98) 0)) (bits .u8 .and x100 252))
          replace h := nm_at x101 rfl h
          exact ⟨⟨(n2, (IntKind.wrap .i64 (x98 + 1)), x101), h⟩, [], ⟨rfl, ⟨rfl, trivial⟩, ⟨rfl, rfl, rfl, rfl, rfl, trivial⟩, rfl⟩, Nat.lt_succ_self _⟩
        · replace h := cond_f h hb
          exact ⟨[], [], ⟨x99, some_in h⟩, [], rfl, trivial, ⟨rfl, rfl, rfl, rfl, rfl, trivial⟩, rfl⟩
  · replace h := hl1_92
    refine Or.inl ?_
    refine ⟨[], {x : Nat × Int × (List Int) // onetime_clamped_l1 x91 x.1 x.2.1 x.2.2 = some r1_0_92}, ⟨fun | ⟨(n1, x93, x94), _⟩ => [(12, (.int .i64 x93))], fun | ⟨(n1, x93, x94), _⟩ => [(2, (.rowI .u8 x94))], fun | ⟨(n1, x93, x94), _⟩ => n1⟩, [], [], ⟨(FUEL, 0, x91), h⟩, ⟨rfl, ⟨rfl, trivial⟩, ⟨rfl, rfl, rfl, rfl, trivial⟩, rfl⟩, ?_⟩
    rintro ⟨⟨n1, x93, x94⟩, h⟩
    cases n1 with
    | zero => exact no_none h
    | succ n1 =>
      replace h := (show onetime_clamped_l1 x91 (n1 + 1) x93 x94 = _ from h)
      replace h := (onetime_clamped_l1.eq_2 .. ).symm.trans h
      refine And.intro (fun hb => ?_) (fun hb => ?_)
      · replace h := cond_t h hb
        refine Or.inl ?_
        obtain ⟨hg, h⟩ := gd h
        refine And.intro hg ?_
        obtain ⟨hg, h⟩ := gd h
        refine And.intro hg ?_
        let x95 : Int := (List.getD x94 (Int.toNat (List.getD [3, 7, 11, 15] (Int.toNat x93) 0)) 0)
        replace h := nm_at x95 rfl h
        obtain ⟨hg, h⟩ := gd h
        refine And.intro hg ?_
        let x96 : List Int := (List.set x94 (Int.toNat (List.getD [3, 7, 11, 15] (Int.toNat x93) 0)) (bits .u8 .and x95 15))
        replace h := nm_at x96 rfl h
        exact ⟨⟨(n1, (IntKind.wrap .i64 (x93 + 1)), x96), h⟩, [], ⟨rfl, ⟨rfl, trivial⟩, ⟨rfl, rfl, rfl, rfl, trivial⟩, rfl⟩, Nat.lt_succ_self _⟩
      · replace h := cond_f h hb
        exact ⟨[], [], ⟨x94, some_in h⟩, [], rfl, trivial, ⟨rfl, rfl, rfl, rfl, trivial⟩, rfl⟩
/- slices.Grow[[]byte,byte] ; not told: op makeInterface -/
def slices_Grow_byte_byte_2 (x118 : Int) : Option (Nat × (List Int)) :=
  cond (decide (x118 < 0))
    (none)
    (((cond (decide ((IntKind.wrap .i64 (x118 - 0)) > 0))
      (if 0 ≤ (IntKind.wrap .i64 (x118 - 0)) ∧ (IntKind.wrap .i64 (x118 - 0)) * 1 ≤ 140737488355328 then
        nm ((List.replicate (Int.toNat (IntKind.wrap .i64 (x118 - 0))) (0 : Int)) : List Int) fun x121 =>
        if 0 ≤ ((List.length x121) : Int) then
          some (0, x121)
        else none
      else none)
      (some ((List.length ([] : List Int)), ([] : List Int))) : Option (Nat × (List Int)))).bind fun r1_0_120 => match r1_0_120 with
    | (x119, x120) =>
        some (x119, x120))
theorem slices_Grow_byte_byte_2_c (k0 : Nat) (hn : [k0].Nodup) (x118 : Int) (res : Nat × (List Int)) (h : slices_Grow_byte_byte_2 x118 = some res) :
    Fn Tryd.prog (GE er) 105 [(.dv (.sc (.slice none 0 0))), (.int .i64 x118)] [] (.sl k0 [] ly5 0 res.1) [(k0, (.rowI .u8 res.2))] := by
  refine Fn.bodyE (fn := Tryd.f105) (c := _) tabOK mixed (GE_plain er) Tryd.func105 rfl rfl [(0, k0)] [(.dv (.sc (.slice none 0 0))), (.int .i64 x118)] [] [0] (.sl 0 [] ly5 0 res.1) [(.rowI .u8 res.2)] rfl rfl rfl rfl rfl rfl hn 3 ?_
  replace h := (show slices_Grow_byte_byte_2 x118 = _ from h)
  unfold slices_Grow_byte_byte_2 at h
  refine Or.inl ?_
  refine And.intro (fun hb => ?_) (fun hb => ?_)
  · replace h := cond_t h hb
    exact no_none h
  · replace h := cond_f h hb
    obtain ⟨r1_0_120, hl1_120, hr1_120⟩ := bnd h
    refine Or.inr ⟨[], {p : Nat × (List Int) // p = r1_0_120}, ⟨fun | ⟨(x119, x120), _⟩ => [(0, (.sl 0 [] ly5 0 x119))], fun | ⟨(x119, x120), _⟩ => [(0, (.rowI .u8 x120))], fun _ => 0⟩, 1, ?_, ?_⟩
    · rintro ⟨⟨x119, x120⟩, hp⟩
      subst hp
      replace h := hr1_120
      obtain rfl := some_in h
      exact ⟨0, [], [], rfl, rfl, trivial⟩
    · replace h := hl1_120
      refine And.intro (fun hb => ?_) (fun hb => ?_)
      · replace h := cond_t h hb
        refine And.intro (by decide) ?_
        refine And.intro (by decide) ?_
        obtain ⟨hg, h⟩ := gd h
        refine And.intro hg ?_
        refine ⟨(List.replicate (Int.toNat (IntKind.wrap .i64 (x118 - 0))) (0 : Int)), rfl, 0, (List.length (List.replicate (Int.toNat (IntKind.wrap .i64 (x118 - 0))) (0 : Int))), ⟨rfl, List.length_replicate ..⟩, ?_⟩
        let x121 : List Int := (List.replicate (Int.toNat (IntKind.wrap .i64 (x118 - 0))) (0 : Int))
        replace h := nm_at x121 rfl h
        obtain ⟨hg, h⟩ := gd h
        refine And.intro hg ?_
        refine And.intro (by decide) ?_
        refine ⟨0, 0, ⟨by simp, rfl⟩, ?_⟩
        exact ⟨[], [], ⟨(0, x121), some_in h⟩, [], rfl, ⟨rfl, trivial⟩, ⟨rfl, trivial⟩, rfl⟩
      · replace h := cond_f h hb
        exact ⟨[(0, .rowI .u8 [])], [], ⟨((List.length ([] : List Int)), ([] : List Int)), some_in h⟩, [], rfl, ⟨rfl, trivial⟩, ⟨rfl, trivial⟩, rfl⟩
/- slices.Concat[[]byte,byte] ; not told: op makeInterface -/
def slices_Concat_byte_byte (x104 : List Int) (x105 : Nat) (x106 : Nat) (x107 : Nat) (x108 : Nat) (x109 : Nat) (x110 : List Int) (x111 : List Int) (x112 : List Int) (x113 : List Int) (x114 : List Int) : Option ((List Int)) :=
  ((nm ((decide ((IntKind.wrap .i64 (0 + (List.length x104 : Int))) < 0)) : Bool) fun x116 =>
  cond x116
    (none)
    (nm ((IntKind.wrap .i64 ((IntKind.wrap .i64 (0 + (List.length x104 : Int))) + (x105 : Int))) : Int) fun x117 =>
    cond (decide (x117 < 0))
      (none)
      (cond (decide ((IntKind.wrap .i64 (x117 + (x106 : Int))) < 0))
        (none)
        (nm ((IntKind.wrap .i64 ((IntKind.wrap .i64 (x117 + (x106 : Int))) + (x107 : Int))) : Int) fun x118 =>
        cond (decide (x118 < 0))
          (none)
          (cond (decide ((IntKind.wrap .i64 (x118 + (x108 : Int))) < 0))
            (none)
            (nm ((IntKind.wrap .i64 ((IntKind.wrap .i64 (x118 + (x108 : Int))) + (x109 : Int))) : Int) fun x119 =>
            cond (decide (x119 < 0))
              (none)
              (some x119)))))) : Option Int)).bind fun x115 =>
    (slices_Grow_byte_byte_2 x115).bind fun r124 => match r124 with
    | (x120, x121) =>
        ((if ((x120 : Int) + (List.length x104)) * 1 ≤ 140737488355328 then
          if x120 ≤ (List.length x121) then
            if (((List.length ((List.take x120 x121) ++ x104)) : Int) + (List.length (List.take x105 x110))) * 1 ≤ 140737488355328 then
              if (((List.length (((List.take x120 x121) ++ x104) ++ (List.take x105 x110))) : Int) + (List.length (List.take x106 x111))) * 1 ≤ 140737488355328 then
                nm (((((List.take x120 x121) ++ x104) ++ (List.take x105 x110)) ++ (List.take x106 x111)) : List Int) fun x123 =>
                if (((List.length x123) : Int) + (List.length (List.take x107 x112))) * 1 ≤ 140737488355328 then
                  if (((List.length (x123 ++ (List.take x107 x112))) : Int) + (List.length (List.take x108 x113))) * 1 ≤ 140737488355328 then
                    if (((List.length ((x123 ++ (List.take x107 x112)) ++ (List.take x108 x113))) : Int) + (List.length (List.take x109 x114))) * 1 ≤ 140737488355328 then
                      nm ((((x123 ++ (List.take x107 x112)) ++ (List.take x108 x113)) ++ (List.take x109 x114)) : List Int) fun x124 =>
                      some x124
                    else none
                  else none
                else none
              else none
            else none
          else none
        else none : Option ((List Int)))).bind fun x122 =>
          some x122
theorem slices_Concat_byte_byte_c (b0 b1 b2 b3 b4 b5 k0 : Nat) (hn : [b0, b1, b2, b3, b4, b5, k0].Nodup) (x104 : List Int) (x105 : Nat) (x106 : Nat) (x107 : Nat) (x108 : Nat) (x109 : Nat) (x110 : List Int) (x111 : List Int) (x112 : List Int) (x113 : List Int) (x114 : List Int) (res : (List Int)) (h : slices_Concat_byte_byte x104 x105 x106 x107 x108 x109 x110 x111 x112 x113 x114 = some res) :
    Fn Tryd.prog (GE er) 52 [(.vs b0 0 6)] [(b0, (.var (.cons (.dv (.roI .u8 x104)) (.cons (.sl b1 [] ly5 0 x105) (.cons (.sl b2 [] ly5 0 x106) (.cons (.sl b3 [] ly5 0 x107) (.cons (.sl b4 [] ly5 0 x108) (.cons (.sl b5 [] ly5 0 x109) (.dv .nil))))))))), (b1, (.rowI .u8 x110)), (b2, (.rowI .u8 x111)), (b3, (.rowI .u8 x112)), (b4, (.rowI .u8 x113)), (b5, (.rowI .u8 x114))] (.sl k0 [] ly5 0 (List.length res)) [(b0, (.var (.cons (.dv (.roI .u8 x104)) (.cons (.sl b1 [] ly5 0 x105) (.cons (.sl b2 [] ly5 0 x106) (.cons (.sl b3 [] ly5 0 x107) (.cons (.sl b4 [] ly5 0 x108) (.cons (.sl b5 [] ly5 0 x109) (.dv .nil))))))))), (b1, (.rowI .u8 x110)), (b2, (.rowI .u8 x111)), (b3, (.rowI .u8 x112)), (b4, (.rowI .u8 x113)), (b5, (.rowI .u8 x114)), (k0, (.rowI .u8 res))] := by
  refine Fn.bodyE (fn := Tryd.f52) (c := _) tabOK mixed (GE_plain er) Tryd.func52 rfl rfl [(0, b0), (1, b1), (2, b2), (3, b3), (4, b4), (5, b5), (7, k0)] [(.vs 0 0 6)] [(.var (.cons (.dv (.roI .u8 x104)) (.cons (.sl 1 [] ly5 0 x105) (.cons (.sl 2 [] ly5 0 x106) (.cons (.sl 3 [] ly5 0 x107) (.cons (.sl 4 [] ly5 0 x108) (.cons (.sl 5 [] ly5 0 x109) (.dv .nil)))))))), (.rowI .u8 x110), (.rowI .u8 x111), (.rowI .u8 x112), (.rowI .u8 x113), (.rowI .u8 x114)] [7] (.sl 7 [] ly5 0 (List.length res)) [(.var (.cons (.dv (.roI .u8 x104)) (.cons (.sl 1 [] ly5 0 x105) (.cons (.sl 2 [] ly5 0 x106) (.cons (.sl 3 [] ly5 0 x107) (.cons (.sl 4 [] ly5 0 x108) (.cons (.sl 5 [] ly5 0 x109) (.dv .nil)))))))), (.rowI .u8 x110), (.rowI .u8 x111), (.rowI .u8 x112), (.rowI .u8 x113), (.rowI .u8 x114), (.rowI .u8 res)] rfl rfl rfl rfl rfl rfl hn 3 ?_
  replace h := (show slices_Concat_byte_byte x104 x105 x106 x107 x108 x109 x110 x111 x112 x113 x114 = _ from h)
  unfold slices_Concat_byte_byte at h
  obtain ⟨r1_0_115, hl1_115, hr1_115⟩ := bnd h
  refine Or.inr ⟨[10], {p : Int // p = r1_0_115}, ⟨fun | ⟨x115, _⟩ => [(3, (.int .i64 x115))], fun | ⟨x115, _⟩ => [], fun _ => 0⟩, 0, ?_, ?_⟩
  · rintro ⟨x115, hp⟩
    subst hp
    replace h := hr1_115
    obtain ⟨r124, hc124, h⟩ := bnd h
    obtain ⟨x120, x121⟩ := r124
    refine ⟨[], _, _, _, ⟨⟨_, slices_Grow_byte_byte_2_c er 6 (by decide) x115 (x120, x121) hc124, ⟨.inl rfl, .inl rfl, trivial⟩⟩, trivial, rfl⟩, ?_⟩
    obtain ⟨r2_0_122, hl2_122, hr2_122⟩ := bnd h
    refine Or.inr ⟨[24, 26], {p : (List Int) // p = r2_0_122}, ⟨fun | ⟨x122, _⟩ => [(6, (.sl 7 [] ly5 0 (List.length x122)))], fun | ⟨x122, _⟩ => [(6, .dead), (7, (.rowI .u8 x122))], fun _ => 0⟩, 1, ?_, ?_⟩
    · rintro ⟨x122, hp⟩
      subst hp
      replace h := hr2_122
      obtain rfl := some_in h
      exact ⟨0, [], [], rfl, rfl, rfl, rfl, rfl, rfl, rfl, rfl, trivial⟩
    · replace h := hl2_122
      refine Or.inr ⟨30, ?_⟩
      refine And.intro (fun _ => ?_) (fun h0 => Bool.noConfusion h0)
      refine Or.inl ?_
      refine And.intro (by decide) ?_
      obtain ⟨hg, h⟩ := gd h
      refine And.intro (hg) ?_
      obtain ⟨hg2, h⟩ := gd h
      refine ⟨((List.take x120 x121) ++ x104), app_cut (cut_0 _ _) (rfl), 0, (List.length ((List.take x120 x121) ++ x104)), ⟨rfl, cut_ln hg2 (rfl)⟩, ?_⟩
      refine And.intro (fun _ => ?_) (fun h0 => Bool.noConfusion h0)
      refine Or.inl ?_
      refine And.intro (by decide) ?_
      obtain ⟨hg, h⟩ := gd h
      refine And.intro (le_of_ln2 (ln_0 _ _) hg) ?_
      refine ⟨(((List.take x120 x121) ++ x104) ++ (List.take x105 x110)), app_cut (cut_full _) (cut_0 _ _), 0, (List.length (((List.take x120 x121) ++ x104) ++ (List.take x105 x110))), ⟨rfl, app_ln (ln_0 _ _)⟩, ?_⟩
      refine And.intro (fun _ => ?_) (fun h0 => Bool.noConfusion h0)
      refine Or.inl ?_
      refine And.intro (by decide) ?_
      obtain ⟨hg, h⟩ := gd h
      refine And.intro (le_of_ln2 (ln_0 _ _) hg) ?_
      refine ⟨((((List.take x120 x121) ++ x104) ++ (List.take x105 x110)) ++ (List.take x106 x111)), app_cut (cut_full _) (cut_0 _ _), 0, (List.length ((((List.take x120 x121) ++ x104) ++ (List.take x105 x110)) ++ (List.take x106 x111))), ⟨rfl, app_ln (ln_0 _ _)⟩, ?_⟩
      let x123 : List Int := ((((List.take x120 x121) ++ x104) ++ (List.take x105 x110)) ++ (List.take x106 x111))
      replace h := nm_at x123 rfl h
      refine And.intro (fun _ => ?_) (fun h0 => Bool.noConfusion h0)
      refine Or.inl ?_
      refine And.intro (by decide) ?_
      obtain ⟨hg, h⟩ := gd h
      refine And.intro (le_of_ln2 (ln_0 _ _) hg) ?_
      refine ⟨(x123 ++ (List.take x107 x112)), app_cut (cut_full _) (cut_0 _ _), 0, (List.length (x123 ++ (List.take x107 x112))), ⟨rfl, app_ln (ln_0 _ _)⟩, ?_⟩
      refine And.intro (fun _ => ?_) (fun h0 => Bool.noConfusion h0)
      refine Or.inl ?_
      refine And.intro (by decide) ?_
      obtain ⟨hg, h⟩ := gd h
      refine And.intro (le_of_ln2 (ln_0 _ _) hg) ?_
      refine ⟨((x123 ++ (List.take x107 x112)) ++ (List.take x108 x113)), app_cut (cut_full _) (cut_0 _ _), 0, (List.length ((x123 ++ (List.take x107 x112)) ++ (List.take x108 x113))), ⟨rfl, app_ln (ln_0 _ _)⟩, ?_⟩
      refine And.intro (fun _ => ?_) (fun h0 => Bool.noConfusion h0)
      refine Or.inl ?_
      refine And.intro (by decide) ?_
      obtain ⟨hg, h⟩ := gd h
      refine And.intro (le_of_ln2 (ln_0 _ _) hg) ?_
      refine ⟨(((x123 ++ (List.take x107 x112)) ++ (List.take x108 x113)) ++ (List.take x109 x114)), app_cut (cut_full _) (cut_0 _ _), 0, (List.length (((x123 ++ (List.take x107 x112)) ++ (List.take x108 x113)) ++ (List.take x109 x114))), ⟨rfl, app_ln (ln_0 _ _)⟩, ?_⟩
      let x124 : List Int := (((x123 ++ (List.take x107 x112)) ++ (List.take x108 x113)) ++ (List.take x109 x114))
      replace h := nm_at x124 rfl h
      refine And.intro (fun h0 => Bool.noConfusion h0) (fun _ => ?_)
      exact ⟨[], [], ⟨x124, some_in h⟩, [(7, 12)], rfl, ⟨rfl, trivial⟩, ⟨rfl, rfl, rfl, rfl, rfl, rfl, trivial, rfl, trivial⟩, rfl⟩
  · replace h := hl1_115
    refine Or.inr ⟨30, ?_⟩
    refine And.intro (fun _ => ?_) (fun h0 => Bool.noConfusion h0)
    refine Or.inl ?_
    refine And.intro (by decide) ?_
    let x116 : Bool := (decide ((IntKind.wrap .i64 (0 + (List.length x104 : Int))) < 0))
    replace h := nm_at x116 rfl h
    refine Or.inl ?_
    refine And.intro (fun hb => ?_) (fun hb => ?_)
    · replace h := cond_t h hb
      exact no_none h
    · replace h := cond_f h hb
      refine And.intro (fun _ => ?_) (fun h0 => Bool.noConfusion h0)
      refine Or.inl ?_
      refine And.intro (by decide) ?_
      let x117 : Int := (IntKind.wrap .i64 ((IntKind.wrap .i64 (0 + (List.length x104 : Int))) + (x105 : Int)))
      replace h := nm_at x117 rfl h
      refine Or.inl ?_
      refine And.intro (fun hb => ?_) (fun hb => ?_)
      · replace h := cond_t h hb
        exact no_none h
      · replace h := cond_f h hb
        refine And.intro (fun _ => ?_) (fun h0 => Bool.noConfusion h0)
        refine Or.inl ?_
        refine And.intro (by decide) ?_
        refine Or.inl ?_
        refine And.intro (fun hb => ?_) (fun hb => ?_)
        · replace h := cond_t h hb
          exact no_none h
        · replace h := cond_f h hb
          refine And.intro (fun _ => ?_) (fun h0 => Bool.noConfusion h0)
          refine Or.inl ?_
          refine And.intro (by decide) ?_
          let x118 : Int := (IntKind.wrap .i64 ((IntKind.wrap .i64 (x117 + (x106 : Int))) + (x107 : Int)))
          replace h := nm_at x118 rfl h
          refine Or.inl ?_
          refine And.intro (fun hb => ?_) (fun hb => ?_)
          · replace h := cond_t h hb
            exact no_none h
          · replace h := cond_f h hb
            refine And.intro (fun _ => ?_) (fun h0 => Bool.noConfusion h0)
            refine Or.inl ?_
            refine And.intro (by decide) ?_
            refine Or.inl ?_
            refine And.intro (fun hb => ?_) (fun hb => ?_)
            · replace h := cond_t h hb
              exact no_none h
            · replace h := cond_f h hb
              refine And.intro (fun _ => ?_) (fun h0 => Bool.noConfusion h0)
              refine Or.inl ?_
              refine And.intro (by decide) ?_
              let x119 : Int := (IntKind.wrap .i64 ((IntKind.wrap .i64 (x118 + (x108 : Int))) + (x109 : Int)))
              replace h := nm_at x119 rfl h
              refine Or.inl ?_
              refine And.intro (fun hb => ?_) (fun hb => ?_)
              · replace h := cond_t h hb
                exact no_none h
              · replace h := cond_f h hb
                refine And.intro (fun h0 => Bool.noConfusion h0) (fun _ => ?_)
                exact ⟨[], [], ⟨x119, some_in h⟩, [], rfl, ⟨rfl, trivial⟩, ⟨rfl, rfl, rfl, rfl, rfl, rfl, trivial⟩, rfl⟩
/- slices.Chunk[[]byte,byte] ; not told: op makeInterface -/
def slices_Chunk_byte_byte_2 (x126 : Int) (x127 : List Int) : Option Unit :=
  cond (decide (x126 < 1))
    (none)
    (some ())
theorem slices_Chunk_byte_byte_2_c (b0 k0 k1 : Nat) (hn : [b0, k0, k1].Nodup) (x126 : Int) (x127 : List Int) (res : Unit) (h : slices_Chunk_byte_byte_2 x126 x127 = some res) :
    Fn Tryd.prog (GE er) 61 [(.sl b0 [] ly5 0 (List.length x127)), (.int .i64 x126)] [(b0, (.rowI .u8 x127))] (.fn 118 [(.ptr k0 [] ly24), (.ptr k1 [] ly3)]) [(b0, (.rowI .u8 x127)), (k0, (.var (.sl b0 [] ly5 0 (List.length x127)))), (k1, (.var (.int .i64 x126)))] := by
  refine Fn.bodyE (fn := Tryd.f61) (c := _) tabOK mixed (GE_plain er) Tryd.func61 rfl rfl [(0, b0), (1, k0), (2, k1)] [(.sl 0 [] ly5 0 (List.length x127)), (.int .i64 x126)] [(.rowI .u8 x127)] [1, 2] (.fn 118 [(.ptr 1 [] ly24), (.ptr 2 [] ly3)]) [(.rowI .u8 x127), (.var (.sl 0 [] ly5 0 (List.length x127))), (.var (.int .i64 x126))] rfl rfl rfl rfl rfl rfl hn 3 ?_
  replace h := (show slices_Chunk_byte_byte_2 x126 x127 = _ from h)
  unfold slices_Chunk_byte_byte_2 at h
  refine Or.inl ?_
  refine And.intro (fun hb => ?_) (fun hb => ?_)
  · replace h := cond_t h hb
    exact no_none h
  · replace h := cond_f h hb
    obtain rfl := some_in h
    exact ⟨0, [], [], rfl, rfl, rfl, rfl, trivial⟩
/- (*fellowship/onetime.number).carry -/
def onetime_number_carry_2_l2 : Nat → Int → Int → (List Int) → Option (Int × (List Int))
  | 0, _, _, _ => none
  | n2 + 1, x142, x143, x144 =>
    cond (decide (x143 < 5))
      (if (0 : Int) ≤ x143 ∧ x143 < 5 then
        nm ((IntKind.wrap .u64 ((List.getD x144 (Int.toNat x143) 0) + x142)) : Int) fun x145 =>
        if (0 : Int) ≤ x143 ∧ x143 < 5 then
          if (0 : Int) ≤ x143 ∧ x143 < 5 then
            nm ((List.getD (List.set x144 (Int.toNat x143) x145) (Int.toNat x143) 0) : Int) fun x146 =>
            if (0 : Int) ≤ x143 ∧ x143 < 5 then
              nm ((List.getD (List.set x144 (Int.toNat x143) x145) (Int.toNat x143) 0) : Int) fun x147 =>
              if (0 : Int) ≤ x143 ∧ x143 < 5 then
                nm ((List.set (List.set x144 (Int.toNat x143) x145) (Int.toNat x143) (bits .u64 .and x147 67108863)) : List Int) fun x148 =>
                onetime_number_carry_2_l2 n2 (Int.fdiv x146 (2 ^ 26)) (IntKind.wrap .i64 (x143 + 1)) x148
              else none
            else none
          else none
        else none
      else none)
      (some (x142, x144))
def onetime_number_carry_2_l1 : Nat → Int → (List Int) → Option ((List Int))
  | 0, _, _ => none
  | n1 + 1, x138, x139 =>
    cond (decide (x138 < 2))
      (((onetime_number_carry_2_l2 FUEL 0 0 x139 : Option (Int × (List Int)))).bind fun r2_0_141 => match r2_0_141 with
      | (x140, x141) =>
          nm ((IntKind.wrap .u64 ((List.getD x141 0 0) + (IntKind.wrap .u64 (5 * x140)))) : Int) fun x149 =>
          onetime_number_carry_2_l1 n1 (IntKind.wrap .i64 (x138 + 1)) (List.set x141 0 x149))
      (some x139)
def onetime_number_carry_2 (x136 : List Int) : Option ((List Int)) :=
  ((onetime_number_carry_2_l1 FUEL 0 x136 : Option ((List Int)))).bind fun x137 =>
    some x137
theorem onetime_number_carry_2_c (b0 : Nat) (hn : [b0].Nodup) (x136 : List Int) (res : (List Int)) (h : onetime_number_carry_2 x136 = some res) :
    Fn Tryd.prog (GE er) 122 [(.ptr b0 [] ly108)] [(b0, (.var (.dv (.ints .u64 5 x136))))] (.tup []) [(b0, (.var (.dv (.ints .u64 5 res))))] := by
  refine Fn.bodyE (fn := Tryd.f122) (c := _) tabOK mixed (GE_plain er) Tryd.func122 rfl rfl [(0, b0)] [(.ptr 0 [] ly108)] [(.var (.dv (.ints .u64 5 x136)))] [] (.tup []) [(.var (.dv (.ints .u64 5 res)))] rfl rfl rfl rfl rfl rfl hn 3 ?_
  replace h := (show onetime_number_carry_2 x136 = _ from h)
  unfold onetime_number_carry_2 at h
  obtain ⟨r1_0_137, hl1_137, hr1_137⟩ := bnd h
  refine Or.inr ⟨[0], {p : (List Int) // p = r1_0_137}, ⟨fun | ⟨x137, _⟩ => [], fun | ⟨x137, _⟩ => [(0, (.var (.dv (.ints .u64 5 x137))))], fun _ => 0⟩, 0, ?_, ?_⟩
  · rintro ⟨x137, hp⟩
    subst hp
    replace h := hr1_137
    obtain rfl := some_in h
    exact ⟨0, [], [], rfl, rfl, trivial⟩
  · replace h := hl1_137
    refine Or.inl ?_
    refine ⟨[], {x : Nat × Int × (List Int) // onetime_number_carry_2_l1 x.1 x.2.1 x.2.2 = some r1_0_137}, ⟨fun | ⟨(n1, x138, x139), _⟩ => [(4, (.int .i64 x138))], fun | ⟨(n1, x138, x139), _⟩ => [(0, (.var (.dv (.ints .u64 5 x139))))], fun | ⟨(n1, x138, x139), _⟩ => n1⟩, [], [], ⟨(FUEL, 0, x136), h⟩, ⟨rfl, ⟨rfl, trivial⟩, ⟨rfl, trivial⟩, rfl⟩, ?_⟩
    rintro ⟨⟨n1, x138, x139⟩, h⟩
    cases n1 with
    | zero => exact no_none h
    | succ n1 =>
      replace h := (show onetime_number_carry_2_l1 (n1 + 1) x138 x139 = _ from h)
      replace h := (onetime_number_carry_2_l1.eq_2 .. ).symm.trans h
      refine And.intro (fun hb => ?_) (fun hb => ?_)
      · replace h := cond_t h hb
        refine Or.inl ?_
        obtain ⟨r2_0_141, hl2_141, hr2_141⟩ := bnd h
        refine Or.inr ⟨[], {p : Int × (List Int) // p = r2_0_141}, ⟨fun | ⟨(x140, x141), _⟩ => [(2, (.int .u64 x140))], fun | ⟨(x140, x141), _⟩ => [(0, (.var (.dv (.ints .u64 5 x141))))], fun _ => 0⟩, 0, ?_, ?_⟩
        · rintro ⟨⟨x140, x141⟩, hp⟩
          subst hp
          replace h := hr2_141
          refine And.intro (by decide) ?_
          let x149 : Int := (IntKind.wrap .u64 ((List.getD x141 0 0) + (IntKind.wrap .u64 (5 * x140))))
          replace h := nm_at x149 rfl h
          refine And.intro (by decide) ?_
          exact ⟨⟨(n1, (IntKind.wrap .i64 (x138 + 1)), (List.set x141 0 x149)), h⟩, [], ⟨rfl, ⟨rfl, trivial⟩, ⟨rfl, trivial⟩, rfl⟩, Nat.lt_succ_self _⟩
        · replace h := hl2_141
          refine Or.inl ?_
          refine ⟨[], {x : Nat × Int × Int × (List Int) // onetime_number_carry_2_l2 x.1 x.2.1 x.2.2.1 x.2.2.2 = some r2_0_141}, ⟨fun | ⟨(n2, x142, x143, x144), _⟩ => [(2, (.int .u64 x142)), (6, (.int .i64 x143))], fun | ⟨(n2, x142, x143, x144), _⟩ => [(0, (.var (.dv (.ints .u64 5 x144))))], fun | ⟨(n2, x142, x143, x144), _⟩ => n2⟩, [], [], ⟨(FUEL, 0, 0, x139), h⟩, ⟨rfl, ⟨rfl, rfl, trivial⟩, ⟨rfl, trivial⟩, rfl⟩, ?_⟩
          rintro ⟨⟨n2, x142, x143, x144⟩, h⟩
          cases n2 with
          | zero => exact no_none h
          | succ n2 =>
            replace h := (show onetime_number_carry_2_l2 (n2 + 1) x142 x143 x144 = _ from h)
            replace h := (onetime_number_carry_2_l2.eq_2 .. ).symm.trans h
            refine And.intro (fun hb => ?_) (fun hb => ?_)
            · replace h := cond_t h hb
              refine Or.inl ?_
              obtain ⟨hg, h⟩ := gd h
              refine And.intro hg ?_
              let x145 : Int := (IntKind.wrap .u64 ((List.getD x144 (Int.toNat x143) 0) + x142))
              replace h := nm_at x145 rfl h
              obtain ⟨hg, h⟩ := gd h
              refine And.intro hg ?_
              obtain ⟨hg, h⟩ := gd h
              refine And.intro hg ?_
              let x146 : Int := (List.getD (List.set x144 (Int.toNat x143) x145) (Int.toNat x143) 0)
              replace h := nm_at x146 rfl h
              refine And.intro (by decide) ?_
              obtain ⟨hg, h⟩ := gd h
              refine And.intro hg ?_
              let x147 : Int := (List.getD (List.set x144 (Int.toNat x143) x145) (Int.toNat x143) 0)
              replace h := nm_at x147 rfl h
              obtain ⟨hg, h⟩ := gd h
              refine And.intro hg ?_
              let x148 : List Int := (List.set (List.set x144 (Int.toNat x143) x145) (Int.toNat x143) (bits .u64 .and x147 67108863))
              replace h := nm_at x148 rfl h
              exact ⟨⟨(n2, (Int.fdiv x146 (2 ^ 26)), (IntKind.wrap .i64 (x143 + 1)), x148), h⟩, [], ⟨rfl, ⟨rfl, rfl, trivial⟩, ⟨rfl, trivial⟩, rfl⟩, Nat.lt_succ_self _⟩
            · replace h := cond_f h hb
              exact ⟨[], [], ⟨(x142, x144), some_in h⟩, [], rfl, ⟨rfl, trivial⟩, ⟨rfl, trivial⟩, rfl⟩
      · replace h := cond_f h hb
        exact ⟨[], [], ⟨x139, some_in h⟩, [], rfl, trivial, ⟨rfl, trivial⟩, rfl⟩
/- fellowship/onetime.times -/
def onetime_times_l2 (x132 : List Int) (x133 : List Int) (x135 : Int) : Nat → Int → (List Int) → Option ((List Int))
  | 0, _, _ => none
  | n2 + 1, x138, x139 =>
    cond (decide (x138 < 5))
      (if (0 : Int) ≤ x138 ∧ x138 < 5 then
        nm ((IntKind.wrap .u64 ((List.getD x132 (Int.toNat x135) 0) * (List.getD x133 (Int.toNat x138) 0))) : Int) fun x140 =>
        ((cond (decide ((IntKind.wrap .i64 (x135 + x138)) ≥ 5))
          (some (IntKind.wrap .u64 (x140 * 5)))
          (some x140) : Option Int)).bind fun x141 =>
          if (0 : Int) ≤ (Int.tmod (IntKind.wrap .i64 (x135 + x138)) 5) ∧ (Int.tmod (IntKind.wrap .i64 (x135 + x138)) 5) < 5 then
            nm ((List.getD x139 (Int.toNat (Int.tmod (IntKind.wrap .i64 (x135 + x138)) 5)) 0) : Int) fun x142 =>
            if (0 : Int) ≤ (Int.tmod (IntKind.wrap .i64 (x135 + x138)) 5) ∧ (Int.tmod (IntKind.wrap .i64 (x135 + x138)) 5) < 5 then
              nm ((List.set x139 (Int.toNat (Int.tmod (IntKind.wrap .i64 (x135 + x138)) 5)) (IntKind.wrap .u64 (x142 + x141))) : List Int) fun x143 =>
              onetime_times_l2 x132 x133 x135 n2 (IntKind.wrap .i64 (x138 + 1)) x143
            else none
          else none
      else none)
      (some x139)
def onetime_times_l1 (x132 : List Int) (x133 : List Int) : Nat → Int → (List Int) → Option ((List Int))
  | 0, _, _ => none
  | n1 + 1, x135, x136 =>
    cond (decide (x135 < 5))
      (if (0 : Int) ≤ x135 ∧ x135 < 5 then
        ((onetime_times_l2 x132 x133 x135 FUEL 0 x136 : Option ((List Int)))).bind fun x137 =>
          onetime_times_l1 x132 x133 n1 (IntKind.wrap .i64 (x135 + 1)) x137
      else none)
      (some x136)
def onetime_times (x132 : List Int) (x133 : List Int) : Option ((List Int)) :=
  ((onetime_times_l1 x132 x133 FUEL 0 (List.replicate 5 (0 : Int)) : Option ((List Int)))).bind fun x134 =>
    (onetime_number_carry_2 x134).bind fun x144 =>
      some x144
theorem onetime_times_c (x132 : List Int) (x133 : List Int) (res : (List Int)) (h : onetime_times x132 x133 = some res) :
    Fn Tryd.prog (GE er) 69 [(.dv (.ints .u64 5 x132)), (.dv (.ints .u64 5 x133))] [] (.dv (.ints .u64 5 res)) [] := by
  refine Fn.bodyE (fn := Tryd.f69) (c := _) tabOK mixed (GE_plain er) Tryd.func69 rfl rfl [] [(.dv (.ints .u64 5 x132)), (.dv (.ints .u64 5 x133))] [] [] (.dv (.ints .u64 5 res)) [] rfl rfl rfl rfl rfl rfl .nil 3 ?_
  replace h := (show onetime_times x132 x133 = _ from h)
  unfold onetime_times at h
  obtain ⟨r1_0_134, hl1_134, hr1_134⟩ := bnd h
  refine Or.inr ⟨[3, 11], {p : (List Int) // p = r1_0_134}, ⟨fun | ⟨x134, _⟩ => [], fun | ⟨x134, _⟩ => [(3, (.var (.dv (.ints .u64 5 x134))))], fun _ => 0⟩, 0, ?_, ?_⟩
  · rintro ⟨x134, hp⟩
    subst hp
    replace h := hr1_134
    obtain ⟨x144, hc144, h⟩ := bnd h
    refine ⟨[], _, _, _, ⟨⟨_, onetime_number_carry_2_c er 3 (by decide) x134 x144 hc144, ⟨.inl rfl, trivial⟩⟩, ⟨⟨rfl, rfl⟩, trivial⟩, rfl⟩, ?_⟩
    obtain rfl := some_in h
    exact ⟨0, [], [], rfl, trivial⟩
  · replace h := hl1_134
    refine Or.inl ?_
    refine ⟨[], {x : Nat × Int × (List Int) // onetime_times_l1 x132 x133 x.1 x.2.1 x.2.2 = some r1_0_134}, ⟨fun | ⟨(n1, x135, x136), _⟩ => [(12, (.int .i64 x135))], fun | ⟨(n1, x135, x136), _⟩ => [(3, (.var (.dv (.ints .u64 5 x136))))], fun | ⟨(n1, x135, x136), _⟩ => n1⟩, [], [], ⟨(FUEL, 0, (List.replicate 5 (0 : Int))), h⟩, ⟨rfl, ⟨rfl, trivial⟩, ⟨rfl, rfl, rfl, rfl, trivial⟩, rfl⟩, ?_⟩
    rintro ⟨⟨n1, x135, x136⟩, h⟩
    cases n1 with
    | zero => exact no_none h
    | succ n1 =>
      replace h := (show onetime_times_l1 x132 x133 (n1 + 1) x135 x136 = _ from h)
      replace h := (onetime_times_l1.eq_2 .. ).symm.trans h
      refine And.intro (fun hb => ?_) (fun hb => ?_)
      · replace h := cond_t h hb
        refine Or.inl ?_
        obtain ⟨hg, h⟩ := gd h
        refine And.intro hg ?_
        obtain ⟨r2_0_137, hl2_137, hr2_137⟩ := bnd h
        refine Or.inr ⟨[6, 7, 16], {p : (List Int) // p = r2_0_137}, ⟨fun | ⟨x137, _⟩ => [], fun | ⟨x137, _⟩ => [(3, (.var (.dv (.ints .u64 5 x137))))], fun _ => 0⟩, 0, ?_, ?_⟩
        · rintro ⟨x137, hp⟩
          subst hp
          replace h := hr2_137
          exact ⟨⟨(n1, (IntKind.wrap .i64 (x135 + 1)), x137), h⟩, [], ⟨rfl, ⟨rfl, trivial⟩, ⟨rfl, rfl, rfl, rfl, trivial⟩, rfl⟩, Nat.lt_succ_self _⟩
        · replace h := hl2_137
          refine Or.inl ?_
          refine ⟨[], {x : Nat × Int × (List Int) // onetime_times_l2 x132 x133 x135 x.1 x.2.1 x.2.2 = some r2_0_137}, ⟨fun | ⟨(n2, x138, x139), _⟩ => [(17, (.int .i64 x138))], fun | ⟨(n2, x138, x139), _⟩ => [(3, (.var (.dv (.ints .u64 5 x139))))], fun | ⟨(n2, x138, x139), _⟩ => n2⟩, [], [], ⟨(FUEL, 0, x136), h⟩, ⟨rfl, ⟨rfl, trivial⟩, ⟨rfl, rfl, rfl, rfl, trivial⟩, rfl⟩, ?_⟩
          rintro ⟨⟨n2, x138, x139⟩, h⟩
          cases n2 with
          | zero => exact no_none h
          | succ n2 =>
            replace h := (show onetime_times_l2 x132 x133 x135 (n2 + 1) x138 x139 = _ from h)
            replace h := (onetime_times_l2.eq_2 .. ).symm.trans h
            refine And.intro (fun hb => ?_) (fun hb => ?_)
            · replace h := cond_t h hb
              refine Or.inl ?_
              obtain ⟨hg, h⟩ := gd h
              refine And.intro hg ?_
              let x140 : Int := (IntKind.wrap .u64 ((List.getD x132 (Int.toNat x135) 0) * (List.getD x133 (Int.toNat x138) 0)))
              replace h := nm_at x140 rfl h
              obtain ⟨r3_0_141, hl3_141, hr3_141⟩ := bnd h
              refine Or.inr ⟨[], {p : Int // p = r3_0_141}, ⟨fun | ⟨x141, _⟩ => [(10, (.int .u64 x141))], fun | ⟨x141, _⟩ => [], fun _ => 0⟩, 0, ?_, ?_⟩
              · rintro ⟨x141, hp⟩
                subst hp
                replace h := hr3_141
                refine And.intro (by decide) ?_
                obtain ⟨hg, h⟩ := gd h
                refine And.intro hg ?_
                let x142 : Int := (List.getD x139 (Int.toNat (Int.tmod (IntKind.wrap .i64 (x135 + x138)) 5)) 0)
                replace h := nm_at x142 rfl h
                obtain ⟨hg, h⟩ := gd h
                refine And.intro hg ?_
                let x143 : List Int := (List.set x139 (Int.toNat (Int.tmod (IntKind.wrap .i64 (x135 + x138)) 5)) (IntKind.wrap .u64 (x142 + x141)))
                replace h := nm_at x143 rfl h
                exact ⟨⟨(n2, (IntKind.wrap .i64 (x138 + 1)), x143), h⟩, [], ⟨rfl, ⟨rfl, trivial⟩, ⟨rfl, rfl, rfl, rfl, trivial⟩, rfl⟩, Nat.lt_succ_self _⟩
              · replace h := hl3_141
                refine And.intro (fun hb => ?_) (fun hb => ?_)
                · replace h := cond_t h hb
                  exact ⟨[], [], ⟨(IntKind.wrap .u64 (x140 * 5)), some_in h⟩, [], rfl, ⟨rfl, trivial⟩, ⟨rfl, rfl, rfl, rfl, trivial⟩, rfl⟩
                · replace h := cond_f h hb
                  exact ⟨[], [], ⟨x140, some_in h⟩, [], rfl, ⟨rfl, trivial⟩, ⟨rfl, rfl, rfl, rfl, trivial⟩, rfl⟩
            · replace h := cond_f h hb
              exact ⟨[], [], ⟨x139, some_in h⟩, [], rfl, trivial, ⟨rfl, rfl, rfl, rfl, trivial⟩, rfl⟩
      · replace h := cond_f h hb
        exact ⟨[], [], ⟨x136, some_in h⟩, [], rfl, trivial, ⟨rfl, rfl, rfl, rfl, trivial⟩, rfl⟩
/- fellowship/words.Pick -/
def words_Pick (x135 : Bool) (x136 : Int) (x137 : Int) : Option Int :=
  ((cond x135
    (some 18446744073709551615)
    (some 0) : Option Int)).bind fun x138 =>
    nm ((bits .u64 .or (bits .u64 .and x136 x138) (bits .u64 .andNot x137 x138)) : Int) fun x139 =>
    some x139
theorem words_Pick_c (x135 : Bool) (x136 : Int) (x137 : Int) (res : Int) (h : words_Pick x135 x136 x137 = some res) :
    Fn Tryd.prog (GE er) 123 [(.bl x135), (.int .u64 x136), (.int .u64 x137)] [] (.int .u64 res) [] := by
  refine Fn.bodyE (fn := Tryd.f123) (c := _) tabOK mixed (GE_plain er) Tryd.func123 rfl rfl [] [(.bl x135), (.int .u64 x136), (.int .u64 x137)] [] [] (.int .u64 res) [] rfl rfl rfl rfl rfl rfl .nil 3 ?_
  replace h := (show words_Pick x135 x136 x137 = _ from h)
  unfold words_Pick at h
  obtain ⟨r1_0_138, hl1_138, hr1_138⟩ := bnd h
  refine Or.inr ⟨[], {p : Int // p = r1_0_138}, ⟨fun | ⟨x138, _⟩ => [(7, (.int .u64 x138))], fun | ⟨x138, _⟩ => [], fun _ => 0⟩, 0, ?_, ?_⟩
  · rintro ⟨x138, hp⟩
    subst hp
    replace h := hr1_138
    let x139 : Int := (bits .u64 .or (bits .u64 .and x136 x138) (bits .u64 .andNot x137 x138))
    replace h := nm_at x139 rfl h
    obtain rfl := some_in h
    exact ⟨0, [], [], rfl, trivial⟩
  · replace h := hl1_138
    refine And.intro (fun hb => ?_) (fun hb => ?_)
    · replace h := cond_t h hb
      exact ⟨[], [], ⟨18446744073709551615, some_in h⟩, [], rfl, ⟨rfl, trivial⟩, trivial, rfl⟩
    · replace h := cond_f h hb
      exact ⟨[], [], ⟨0, some_in h⟩, [], rfl, ⟨rfl, trivial⟩, trivial, rfl⟩
/- (fellowship/onetime.number).least -/
def onetime_number_least_l1 : Nat → Int → (List Int) → Option ((List Int))
  | 0, _, _ => none
  | n1 + 1, x134, x135 =>
    cond (decide (x134 < 4))
      (if (0 : Int) ≤ (IntKind.wrap .i64 (x134 + 1)) ∧ (IntKind.wrap .i64 (x134 + 1)) < 5 then
        nm ((List.getD x135 (Int.toNat (IntKind.wrap .i64 (x134 + 1))) 0) : Int) fun x136 =>
        if (0 : Int) ≤ x134 ∧ x134 < 5 then
          nm ((IntKind.wrap .u64 (x136 + (Int.fdiv (List.getD x135 (Int.toNat x134) 0) (2 ^ 26)))) : Int) fun x137 =>
          if (0 : Int) ≤ (IntKind.wrap .i64 (x134 + 1)) ∧ (IntKind.wrap .i64 (x134 + 1)) < 5 then
            nm ((List.set x135 (Int.toNat (IntKind.wrap .i64 (x134 + 1))) x137) : List Int) fun x138 =>
            if (0 : Int) ≤ x134 ∧ x134 < 5 then
              nm ((bits .u64 .and (List.getD x138 (Int.toNat x134) 0) 67108863) : Int) fun x139 =>
              if (0 : Int) ≤ x134 ∧ x134 < 5 then
                onetime_number_least_l1 n1 (IntKind.wrap .i64 (x134 + 1)) (List.set x138 (Int.toNat x134) x139)
              else none
            else none
          else none
        else none
      else none)
      (some x135)
def onetime_number_least_l2 (x133 : List Int) (x140 : List Int) : Nat → Int → (List Int) → Option ((List Int))
  | 0, _, _ => none
  | n2 + 1, x142, x143 =>
    cond (decide (x142 < 5))
      (if (0 : Int) ≤ x142 ∧ x142 < 5 then
        if (0 : Int) ≤ x142 ∧ x142 < 5 then
          (words_Pick (!((Int.fdiv (List.getD x133 4 0) (2 ^ 26)) == 0)) (List.getD x140 (Int.toNat x142) 0) (List.getD x143 (Int.toNat x142) 0)).bind fun x144 =>
            if (0 : Int) ≤ x142 ∧ x142 < 5 then
              onetime_number_least_l2 x133 x140 n2 (IntKind.wrap .i64 (x142 + 1)) (List.set x143 (Int.toNat x142) x144)
            else none
        else none
      else none)
      (some x143)
def onetime_number_least (x129 : List Int) : Option ((List Int)) :=
  (onetime_number_carry_2 x129).bind fun x130 =>
    (onetime_number_carry_2 x130).bind fun x131 =>
      nm ((List.set x131 0 (IntKind.wrap .u64 ((List.getD x131 0 0) + 5))) : List Int) fun x132 =>
      ((onetime_number_least_l1 FUEL 0 x132 : Option ((List Int)))).bind fun x133 =>
        nm ((List.set x133 4 (bits .u64 .and (List.getD x133 4 0) 67108863)) : List Int) fun x140 =>
        ((onetime_number_least_l2 x133 x140 FUEL 0 x131 : Option ((List Int)))).bind fun x141 =>
          some x141
theorem onetime_number_least_c (x129 : List Int) (res : (List Int)) (h : onetime_number_least x129 = some res) :
    Fn Tryd.prog (GE er) 70 [(.dv (.ints .u64 5 x129))] [] (.dv (.ints .u64 5 res)) [] := by
  refine Fn.bodyE (fn := Tryd.f70) (c := _) tabOK mixed (GE_plain er) Tryd.func70 rfl rfl [] [(.dv (.ints .u64 5 x129))] [] [] (.dv (.ints .u64 5 res)) [] rfl rfl rfl rfl rfl rfl .nil 3 ?_
  replace h := (show onetime_number_least x129 = _ from h)
  unfold onetime_number_least at h
  obtain ⟨x130, hc144, h⟩ := bnd h
  refine ⟨[], _, _, _, ⟨⟨_, onetime_number_carry_2_c er 0 (by decide) x129 x130 hc144, ⟨.inl rfl, trivial⟩⟩, ⟨⟨rfl, rfl⟩, trivial⟩, rfl⟩, ?_⟩
  obtain ⟨x131, hc144, h⟩ := bnd h
  refine ⟨[], _, _, _, ⟨⟨_, onetime_number_carry_2_c er 0 (by decide) x130 x131 hc144, ⟨.inl rfl, trivial⟩⟩, ⟨⟨rfl, rfl⟩, trivial⟩, rfl⟩, ?_⟩
  refine And.intro (by decide) ?_
  refine And.intro (by decide) ?_
  let x132 : List Int := (List.set x131 0 (IntKind.wrap .u64 ((List.getD x131 0 0) + 5)))
  replace h := nm_at x132 rfl h
  obtain ⟨r1_0_133, hl1_133, hr1_133⟩ := bnd h
  refine Or.inr ⟨[7, 8], {p : (List Int) // p = r1_0_133}, ⟨fun | ⟨x133, _⟩ => [], fun | ⟨x133, _⟩ => [(2, (.var (.dv (.ints .u64 5 x133))))], fun _ => 0⟩, 0, ?_, ?_⟩
  · rintro ⟨x133, hp⟩
    subst hp
    replace h := hr1_133
    refine And.intro (by decide) ?_
    refine And.intro (by decide) ?_
    refine And.intro (by decide) ?_
    refine And.intro (by decide) ?_
    let x140 : List Int := (List.set x133 4 (bits .u64 .and (List.getD x133 4 0) 67108863))
    replace h := nm_at x140 rfl h
    obtain ⟨r2_1_141, hl2_141, hr2_141⟩ := bnd h
    refine Or.inr ⟨[5], {p : (List Int) // p = r2_1_141}, ⟨fun | ⟨x141, _⟩ => [], fun | ⟨x141, _⟩ => [(0, (.var (.dv (.ints .u64 5 x141))))], fun _ => 0⟩, 0, ?_, ?_⟩
    · rintro ⟨x141, hp⟩
      subst hp
      replace h := hr2_141
      obtain rfl := some_in h
      exact ⟨0, [], [], rfl, trivial⟩
    · replace h := hl2_141
      refine Or.inl ?_
      refine ⟨[], {x : Nat × Int × (List Int) // onetime_number_least_l2 x133 x140 x.1 x.2.1 x.2.2 = some r2_1_141}, ⟨fun | ⟨(n2, x142, x143), _⟩ => [(41, (.int .i64 x142))], fun | ⟨(n2, x142, x143), _⟩ => [(0, (.var (.dv (.ints .u64 5 x143))))], fun | ⟨(n2, x142, x143), _⟩ => n2⟩, [], [], ⟨(FUEL, 0, x131), h⟩, ⟨rfl, ⟨rfl, trivial⟩, ⟨rfl, rfl, rfl, trivial⟩, rfl⟩, ?_⟩
      rintro ⟨⟨n2, x142, x143⟩, h⟩
      cases n2 with
      | zero => exact no_none h
      | succ n2 =>
        replace h := (show onetime_number_least_l2 x133 x140 (n2 + 1) x142 x143 = _ from h)
        replace h := (onetime_number_least_l2.eq_2 .. ).symm.trans h
        refine And.intro (fun hb => ?_) (fun hb => ?_)
        · replace h := cond_t h hb
          refine Or.inl ?_
          obtain ⟨hg, h⟩ := gd h
          refine And.intro hg ?_
          obtain ⟨hg, h⟩ := gd h
          refine And.intro hg ?_
          obtain ⟨x144, hc144, h⟩ := bnd h
          refine ⟨[], _, _, _, ⟨⟨_, words_Pick_c er (!((Int.fdiv (List.getD x133 4 0) (2 ^ 26)) == 0)) (List.getD x140 (Int.toNat x142) 0) (List.getD x143 (Int.toNat x142) 0) x144 hc144, ⟨.inl rfl, .inl rfl, .inl rfl, trivial⟩⟩, trivial, rfl⟩, ?_⟩
          obtain ⟨hg, h⟩ := gd h
          refine And.intro hg ?_
          exact ⟨⟨(n2, (IntKind.wrap .i64 (x142 + 1)), (List.set x143 (Int.toNat x142) x144)), h⟩, [], ⟨rfl, ⟨rfl, trivial⟩, ⟨rfl, rfl, rfl, trivial⟩, rfl⟩, Nat.lt_succ_self _⟩
        · replace h := cond_f h hb
          exact ⟨[], [], ⟨x143, some_in h⟩, [], rfl, trivial, ⟨rfl, rfl, rfl, trivial⟩, rfl⟩
  · replace h := hl1_133
    refine Or.inl ?_
    refine ⟨[7, 8], {x : Nat × Int × (List Int) // onetime_number_least_l1 x.1 x.2.1 x.2.2 = some r1_0_133}, ⟨fun | ⟨(n1, x134, x135), _⟩ => [(14, (.int .i64 x134))], fun | ⟨(n1, x134, x135), _⟩ => [(2, (.var (.dv (.ints .u64 5 x135))))], fun | ⟨(n1, x134, x135), _⟩ => n1⟩, [], [], ⟨(FUEL, 0, x132), h⟩, ⟨rfl, ⟨rfl, trivial⟩, ⟨rfl, rfl, rfl, trivial⟩, rfl⟩, ?_⟩
    rintro ⟨⟨n1, x134, x135⟩, h⟩
    cases n1 with
    | zero => exact no_none h
    | succ n1 =>
      replace h := (show onetime_number_least_l1 (n1 + 1) x134 x135 = _ from h)
      replace h := (onetime_number_least_l1.eq_2 .. ).symm.trans h
      refine And.intro (fun hb => ?_) (fun hb => ?_)
      · replace h := cond_t h hb
        refine Or.inl ?_
        obtain ⟨hg, h⟩ := gd h
        refine And.intro hg ?_
        let x136 : Int := (List.getD x135 (Int.toNat (IntKind.wrap .i64 (x134 + 1))) 0)
        replace h := nm_at x136 rfl h
        obtain ⟨hg, h⟩ := gd h
        refine And.intro hg ?_
        refine And.intro (by decide) ?_
        let x137 : Int := (IntKind.wrap .u64 (x136 + (Int.fdiv (List.getD x135 (Int.toNat x134) 0) (2 ^ 26))))
        replace h := nm_at x137 rfl h
        obtain ⟨hg, h⟩ := gd h
        refine And.intro hg ?_
        let x138 : List Int := (List.set x135 (Int.toNat (IntKind.wrap .i64 (x134 + 1))) x137)
        replace h := nm_at x138 rfl h
        obtain ⟨hg, h⟩ := gd h
        refine And.intro hg ?_
        let x139 : Int := (bits .u64 .and (List.getD x138 (Int.toNat x134) 0) 67108863)
        replace h := nm_at x139 rfl h
        obtain ⟨hg, h⟩ := gd h
        refine And.intro hg ?_
        exact ⟨⟨(n1, (IntKind.wrap .i64 (x134 + 1)), (List.set x138 (Int.toNat x134) x139)), h⟩, [], ⟨rfl, ⟨rfl, trivial⟩, ⟨rfl, rfl, rfl, trivial⟩, rfl⟩, Nat.lt_succ_self _⟩
      · replace h := cond_f h hb
        exact ⟨[], [], ⟨x135, some_in h⟩, [], rfl, trivial, ⟨rfl, rfl, rfl, trivial⟩, rfl⟩
/- (fellowship/onetime.number).low -/
def onetime_number_low_l2 (x146 : List Int) (x148 : Int) : Nat → Int → Int → Option Int
  | 0, _, _ => none
  | n2 + 1, x151, x152 =>
    cond (decide (x152 < 8))
      (nm ((IntKind.wrap .i64 (Int.tdiv (IntKind.wrap .i64 ((IntKind.wrap .i64 (8 * x148)) + x152)) 26)) : Int) fun x153 =>
      if (0 : Int) ≤ x153 ∧ x153 < 5 then
        nm ((Int.tmod (IntKind.wrap .i64 ((IntKind.wrap .i64 (8 * x148)) + x152)) 26) : Int) fun x154 =>
        if 0 ≤ x154 then
          nm ((Int.fdiv (List.getD x146 (Int.toNat x153) 0) (2 ^ (min (Int.toNat x154) (IntKind.bits .u64)))) : Int) fun x155 =>
          if 0 ≤ x152 then
            nm ((IntKind.wrap .u64 ((bits .u64 .and x155 1) * 2 ^ (min (Int.toNat x152) (IntKind.bits .u64)))) : Int) fun x156 =>
            onetime_number_low_l2 x146 x148 n2 (bits .u64 .or x151 x156) (IntKind.wrap .i64 (x152 + 1))
          else none
        else none
      else none)
      (some x151)
def onetime_number_low_l1 (x146 : List Int) : Nat → Int → (List Int) → Option ((List Int))
  | 0, _, _ => none
  | n1 + 1, x148, x149 =>
    cond (decide (x148 < 16))
      (((onetime_number_low_l2 x146 x148 FUEL 0 0 : Option Int)).bind fun x150 =>
        if (0 : Int) ≤ x148 ∧ x148 < 16 then
          onetime_number_low_l1 x146 n1 (IntKind.wrap .i64 (x148 + 1)) (List.set x149 (Int.toNat x148) (IntKind.wrap .u8 x150))
        else none)
      (some x149)
def onetime_number_low (x146 : List Int) : Option ((List Int)) :=
  ((onetime_number_low_l1 x146 FUEL 0 (List.replicate 16 (0 : Int)) : Option ((List Int)))).bind fun x147 =>
    some x147
theorem onetime_number_low_c (x146 : List Int) (res : (List Int)) (h : onetime_number_low x146 = some res) :
    Fn Tryd.prog (GE er) 71 [(.dv (.ints .u64 5 x146))] [] (.dv (.ints .u8 16 res)) [] := by
  refine Fn.bodyE (fn := Tryd.f71) (c := _) tabOK mixed (GE_plain er) Tryd.func71 rfl rfl [] [(.dv (.ints .u64 5 x146))] [] [] (.dv (.ints .u8 16 res)) [] rfl rfl rfl rfl rfl rfl .nil 3 ?_
  replace h := (show onetime_number_low x146 = _ from h)
  unfold onetime_number_low at h
  obtain ⟨r1_0_147, hl1_147, hr1_147⟩ := bnd h
  refine Or.inr ⟨[1], {p : (List Int) // p = r1_0_147}, ⟨fun | ⟨x147, _⟩ => [], fun | ⟨x147, _⟩ => [(2, (.var (.dv (.ints .u8 16 x147))))], fun _ => 0⟩, 0, ?_, ?_⟩
  · rintro ⟨x147, hp⟩
    subst hp
    replace h := hr1_147
    obtain rfl := some_in h
    exact ⟨0, [], [], rfl, trivial⟩
  · replace h := hl1_147
    refine Or.inl ?_
    refine ⟨[], {x : Nat × Int × (List Int) // onetime_number_low_l1 x146 x.1 x.2.1 x.2.2 = some r1_0_147}, ⟨fun | ⟨(n1, x148, x149), _⟩ => [(8, (.int .i64 x148))], fun | ⟨(n1, x148, x149), _⟩ => [(2, (.var (.dv (.ints .u8 16 x149))))], fun | ⟨(n1, x148, x149), _⟩ => n1⟩, [], [], ⟨(FUEL, 0, (List.replicate 16 (0 : Int))), h⟩, ⟨rfl, ⟨rfl, trivial⟩, ⟨rfl, rfl, rfl, trivial⟩, rfl⟩, ?_⟩
    rintro ⟨⟨n1, x148, x149⟩, h⟩
    cases n1 with
    | zero => exact no_none h
    | succ n1 =>
      replace h := (show onetime_number_low_l1 x146 (n1 + 1) x148 x149 = _ from h)
      replace h := (onetime_number_low_l1.eq_2 .. ).symm.trans h
      refine And.intro (fun hb => ?_) (fun hb => ?_)
      · replace h := cond_t h hb
        refine Or.inl ?_
        obtain ⟨r2_0_150, hl2_150, hr2_150⟩ := bnd h
        refine Or.inr ⟨[], {p : Int // p = r2_0_150}, ⟨fun | ⟨x150, _⟩ => [(5, (.int .u64 x150))], fun | ⟨x150, _⟩ => [], fun _ => 0⟩, 0, ?_, ?_⟩
        · rintro ⟨x150, hp⟩
          subst hp
          replace h := hr2_150
          obtain ⟨hg, h⟩ := gd h
          refine And.intro hg ?_
          exact ⟨⟨(n1, (IntKind.wrap .i64 (x148 + 1)), (List.set x149 (Int.toNat x148) (IntKind.wrap .u8 x150))), h⟩, [], ⟨rfl, ⟨rfl, trivial⟩, ⟨rfl, rfl, rfl, trivial⟩, rfl⟩, Nat.lt_succ_self _⟩
        · replace h := hl2_150
          refine Or.inl ?_
          refine ⟨[], {x : Nat × Int × Int // onetime_number_low_l2 x146 x148 x.1 x.2.1 x.2.2 = some r2_0_150}, ⟨fun | ⟨(n2, x151, x152), _⟩ => [(5, (.int .u64 x151)), (11, (.int .i64 x152))], fun | ⟨(n2, x151, x152), _⟩ => [], fun | ⟨(n2, x151, x152), _⟩ => n2⟩, [], [], ⟨(FUEL, 0, 0), h⟩, ⟨rfl, ⟨rfl, rfl, trivial⟩, ⟨rfl, rfl, rfl, trivial⟩, rfl⟩, ?_⟩
          rintro ⟨⟨n2, x151, x152⟩, h⟩
          cases n2 with
          | zero => exact no_none h
          | succ n2 =>
            replace h := (show onetime_number_low_l2 x146 x148 (n2 + 1) x151 x152 = _ from h)
            replace h := (onetime_number_low_l2.eq_2 .. ).symm.trans h
            refine And.intro (fun hb => ?_) (fun hb => ?_)
            · replace h := cond_t h hb
              refine Or.inl ?_
              refine And.intro (by decide) ?_
              let x153 : Int := (IntKind.wrap .i64 (Int.tdiv (IntKind.wrap .i64 ((IntKind.wrap .i64 (8 * x148)) + x152)) 26))
              replace h := nm_at x153 rfl h
              obtain ⟨hg, h⟩ := gd h
              refine And.intro hg ?_
              refine And.intro (by decide) ?_
              let x154 : Int := (Int.tmod (IntKind.wrap .i64 ((IntKind.wrap .i64 (8 * x148)) + x152)) 26)
              replace h := nm_at x154 rfl h
              obtain ⟨hg, h⟩ := gd h
              refine And.intro hg ?_
              let x155 : Int := (Int.fdiv (List.getD x146 (Int.toNat x153) 0) (2 ^ (min (Int.toNat x154) (IntKind.bits .u64))))
              replace h := nm_at x155 rfl h
              obtain ⟨hg, h⟩ := gd h
              refine And.intro hg ?_
              let x156 : Int := (IntKind.wrap .u64 ((bits .u64 .and x155 1) * 2 ^ (min (Int.toNat x152) (IntKind.bits .u64))))
              replace h := nm_at x156 rfl h
              exact ⟨⟨(n2, (bits .u64 .or x151 x156), (IntKind.wrap .i64 (x152 + 1))), h⟩, [], ⟨rfl, ⟨rfl, rfl, trivial⟩, ⟨rfl, rfl, rfl, trivial⟩, rfl⟩, Nat.lt_succ_self _⟩
            · replace h := cond_f h hb
              exact ⟨[], [], ⟨x151, some_in h⟩, [], rfl, ⟨rfl, trivial⟩, ⟨rfl, rfl, rfl, trivial⟩, rfl⟩
      · replace h := cond_f h hb
        exact ⟨[], [], ⟨x149, some_in h⟩, [], rfl, trivial, ⟨rfl, rfl, rfl, trivial⟩, rfl⟩
/- fellowship/onetime.Sum -/
def onetime_Sum_l2 (x98 : List Int) : Nat → Int → (List Int) → Option ((List Int))
  | 0, _, _ => none
  | n2 + 1, x100, x101 =>
    cond (decide (x100 < 5))
      (if (0 : Int) ≤ x100 ∧ x100 < 5 then
        if (0 : Int) ≤ x100 ∧ x100 < 5 then
          nm ((IntKind.wrap .u64 ((List.getD x101 (Int.toNat x100) 0) + (List.getD x98 (Int.toNat x100) 0))) : Int) fun x102 =>
          if (0 : Int) ≤ x100 ∧ x100 < 5 then
            onetime_Sum_l2 x98 n2 (IntKind.wrap .i64 (x100 + 1)) (List.set x101 (Int.toNat x100) x102)
          else none
        else none
      else none)
      (some x101)
def onetime_Sum_l1 (x90 : List Int) (x91 : List Int) : Nat → Int → (List Int) → Option ((List Int))
  | 0, _, _ => none
  | n1 + 1, x94, x95 =>
    cond (decide (x94 < ((List.length x91) : Int)))
      (if 0 ≤ x94 ∧ x94 ≤ ((List.length x91) : Int) then
        nm ((if ((Int.toNat (((List.length x91) : Int) - x94)) : Int) < 16 then ((Int.toNat (((List.length x91) : Int) - x94)) : Int) else 16) : Int) fun x96 =>
        if 0 ≤ x94 ∧ x94 ≤ (IntKind.wrap .i64 (x94 + x96)) ∧ (IntKind.wrap .i64 (x94 + x96)) ≤ (IntKind.wrap .i64 (x94 + x96)) then
          if (IntKind.wrap .i64 (x94 + x96)) ≤ ((List.length x91) : Int) then
            (slices_Clone_byte_byte (List.take (Int.toNat ((IntKind.wrap .i64 (x94 + x96)) - x94)) (List.drop (Int.toNat x94) x91))).bind fun x97 =>
              if (((List.length x97) : Int) + (List.length [1])) * 1 ≤ 140737488355328 then
                (onetime_read (x97 ++ [1])).bind fun x98 =>
                  ((onetime_Sum_l2 x98 FUEL 0 x95 : Option ((List Int)))).bind fun x99 =>
                    (onetime_times x99 x90).bind fun x103 =>
                      onetime_Sum_l1 x90 x91 n1 (IntKind.wrap .i64 (x94 + 16)) x103
              else none
          else none
        else none
      else none)
      (some x95)
def onetime_Sum_l3 (x78 : List Int) : Nat → Int → Int → (List Int) → Option ((List Int))
  | 0, _, _, _ => none
  | n3 + 1, x107, x108, x109 =>
    cond (decide (x108 < 16))
      (if (0 : Int) ≤ x108 ∧ x108 < 16 then
        if (0 : Int) ≤ (IntKind.wrap .i64 (16 + x108)) ∧ (IntKind.wrap .i64 (16 + x108)) < 32 then
          nm ((List.getD x78 (Int.toNat (IntKind.wrap .i64 (16 + x108))) 0) : Int) fun x110 =>
          nm ((IntKind.wrap .i64 ((IntKind.wrap .i64 (List.getD x109 (Int.toNat x108) 0)) + (IntKind.wrap .i64 x110))) : Int) fun x111 =>
          if (0 : Int) ≤ x108 ∧ x108 < 16 then
            nm ((List.set x109 (Int.toNat x108) (IntKind.wrap .u8 (IntKind.wrap .i64 (x107 + x111)))) : List Int) fun x112 =>
            onetime_Sum_l3 x78 n3 (Int.fdiv (IntKind.wrap .i64 (x107 + x111)) (2 ^ 8)) (IntKind.wrap .i64 (x108 + 1)) x112
          else none
        else none
      else none)
      (some x109)
def onetime_Sum (x78 : List Int) (x79 : List Int) (x80 : Nat) (x81 : Nat) (x82 : Nat) (x83 : Nat) (x84 : Nat) (x85 : List Int) (x86 : List Int) (x87 : List Int) (x88 : List Int) (x89 : List Int) : Option ((List Int)) :=
  (onetime_clamped x78).bind fun x90 =>
    (slices_Concat_byte_byte x79 x80 x81 x82 x83 x84 x85 x86 x87 x88 x89).bind fun x91 =>
      (slices_Chunk_byte_byte_2 16 x91).bind fun _ =>
        ((((onetime_Sum_l1 x90 x91 FUEL 0 (List.replicate 5 (0 : Int)) : Option ((List Int)))).bind fun x93 =>
          some x93 : Option ((List Int)))).bind fun x92 =>
          (onetime_number_least x92).bind fun x104 =>
            (onetime_number_low x104).bind fun x105 =>
              ((onetime_Sum_l3 x78 FUEL 0 0 x105 : Option ((List Int)))).bind fun x106 =>
                some x106
theorem onetime_Sum_c (b0 b1 b2 b3 b4 b5 : Nat) (hn : [b0, b1, b2, b3, b4, b5].Nodup) (x78 : List Int) (x79 : List Int) (x80 : Nat) (x81 : Nat) (x82 : Nat) (x83 : Nat) (x84 : Nat) (x85 : List Int) (x86 : List Int) (x87 : List Int) (x88 : List Int) (x89 : List Int) (res : (List Int)) (h : onetime_Sum x78 x79 x80 x81 x82 x83 x84 x85 x86 x87 x88 x89 = some res) :
    Fn Tryd.prog (GE er) 32 [(.dv (.ints .u8 32 x78)), (.vs b0 0 6)] [(b0, (.var (.cons (.dv (.roI .u8 x79)) (.cons (.sl b1 [] ly5 0 x80) (.cons (.sl b2 [] ly5 0 x81) (.cons (.sl b3 [] ly5 0 x82) (.cons (.sl b4 [] ly5 0 x83) (.cons (.sl b5 [] ly5 0 x84) (.dv .nil))))))))), (b1, (.rowI .u8 x85)), (b2, (.rowI .u8 x86)), (b3, (.rowI .u8 x87)), (b4, (.rowI .u8 x88)), (b5, (.rowI .u8 x89))] (.dv (.ints .u8 16 res)) [(b0, (.var (.cons (.dv (.roI .u8 x79)) (.cons (.sl b1 [] ly5 0 x80) (.cons (.sl b2 [] ly5 0 x81) (.cons (.sl b3 [] ly5 0 x82) (.cons (.sl b4 [] ly5 0 x83) (.cons (.sl b5 [] ly5 0 x84) (.dv .nil))))))))), (b1, (.rowI .u8 x85)), (b2, (.rowI .u8 x86)), (b3, (.rowI .u8 x87)), (b4, (.rowI .u8 x88)), (b5, (.rowI .u8 x89))] := by
  refine Fn.bodyE (fn := Tryd.f32) (c := _) tabOK mixed (GE_plain er) Tryd.func32 rfl rfl [(0, b0), (1, b1), (2, b2), (3, b3), (4, b4), (5, b5)] [(.dv (.ints .u8 32 x78)), (.vs 0 0 6)] [(.var (.cons (.dv (.roI .u8 x79)) (.cons (.sl 1 [] ly5 0 x80) (.cons (.sl 2 [] ly5 0 x81) (.cons (.sl 3 [] ly5 0 x82) (.cons (.sl 4 [] ly5 0 x83) (.cons (.sl 5 [] ly5 0 x84) (.dv .nil)))))))), (.rowI .u8 x85), (.rowI .u8 x86), (.rowI .u8 x87), (.rowI .u8 x88), (.rowI .u8 x89)] [] (.dv (.ints .u8 16 res)) [(.var (.cons (.dv (.roI .u8 x79)) (.cons (.sl 1 [] ly5 0 x80) (.cons (.sl 2 [] ly5 0 x81) (.cons (.sl 3 [] ly5 0 x82) (.cons (.sl 4 [] ly5 0 x83) (.cons (.sl 5 [] ly5 0 x84) (.dv .nil)))))))), (.rowI .u8 x85), (.rowI .u8 x86), (.rowI .u8 x87), (.rowI .u8 x88), (.rowI .u8 x89)] rfl rfl rfl rfl rfl rfl hn 3 ?_
  replace h := (show onetime_Sum x78 x79 x80 x81 x82 x83 x84 x85 x86 x87 x88 x89 = _ from h)
  unfold onetime_Sum at h
  obtain ⟨x90, hc112, h⟩ := bnd h
  refine ⟨[], _, _, _, ⟨⟨_, onetime_clamped_c er x78 x90 hc112, ⟨.inl rfl, trivial⟩⟩, trivial, rfl⟩, ?_⟩
  obtain ⟨x91, hc112, h⟩ := bnd h
  refine ⟨[], _, _, _, ⟨⟨_, slices_Concat_byte_byte_c er 0 1 2 3 4 5 10 (by decide) x79 x80 x81 x82 x83 x84 x85 x86 x87 x88 x89 x91 hc112, ⟨.inl rfl, trivial⟩⟩, ⟨⟨rfl, rfl⟩, ⟨rfl, rfl⟩, ⟨rfl, rfl⟩, ⟨rfl, rfl⟩, ⟨rfl, rfl⟩, ⟨rfl, rfl⟩, trivial⟩, rfl⟩, ?_⟩
  obtain ⟨r112, hc112, h⟩ := bnd h
  refine ⟨[], _, _, _, ⟨⟨_, slices_Chunk_byte_byte_2_c er 10 11 12 (by decide) 16 x91 r112 hc112, ⟨.inl rfl, .inl rfl, trivial⟩⟩, ⟨⟨rfl, rfl⟩, trivial⟩, rfl⟩, ?_⟩
  obtain ⟨r1_0_92, hl1_92, hr1_92⟩ := bnd h
  refine Or.inr ⟨[17], {p : (List Int) // p = r1_0_92}, ⟨fun | ⟨x92, _⟩ => [], fun | ⟨x92, _⟩ => [(9, (.var (.dv (.ints .u64 5 x92))))], fun _ => 0⟩, 0, ?_, ?_⟩
  · rintro ⟨x92, hp⟩
    subst hp
    replace h := hr1_92
    obtain ⟨x104, hc112, h⟩ := bnd h
    refine ⟨[], _, _, _, ⟨⟨_, onetime_number_least_c er x92 x104 hc112, ⟨.inl rfl, trivial⟩⟩, trivial, rfl⟩, ?_⟩
    obtain ⟨x105, hc112, h⟩ := bnd h
    refine ⟨[], _, _, _, ⟨⟨_, onetime_number_low_c er x104 x105 hc112, ⟨.inl rfl, trivial⟩⟩, trivial, rfl⟩, ?_⟩
    obtain ⟨r4_2_106, hl4_106, hr4_106⟩ := bnd h
    refine Or.inr ⟨[], {p : (List Int) // p = r4_2_106}, ⟨fun | ⟨x106, _⟩ => [], fun | ⟨x106, _⟩ => [(13, (.var (.dv (.ints .u8 16 x106))))], fun _ => 0⟩, 0, ?_, ?_⟩
    · rintro ⟨x106, hp⟩
      subst hp
      replace h := hr4_106
      obtain rfl := some_in h
      exact ⟨0, [], [], rfl, rfl, rfl, rfl, rfl, rfl, rfl, trivial⟩
    · replace h := hl4_106
      refine Or.inl ?_
      refine ⟨[], {x : Nat × Int × Int × (List Int) // onetime_Sum_l3 x78 x.1 x.2.1 x.2.2.1 x.2.2.2 = some r4_2_106}, ⟨fun | ⟨(n3, x107, x108, x109), _⟩ => [(11, (.int .i64 x107)), (42, (.int .i64 x108))], fun | ⟨(n3, x107, x108, x109), _⟩ => [(13, (.var (.dv (.ints .u8 16 x109))))], fun | ⟨(n3, x107, x108, x109), _⟩ => n3⟩, [], [], ⟨(FUEL, 0, 0, x105), h⟩, ⟨rfl, ⟨rfl, rfl, trivial⟩, ⟨rfl, rfl, rfl, rfl, rfl, rfl, rfl, rfl, rfl, rfl, rfl, rfl, rfl, rfl, trivial⟩, rfl⟩, ?_⟩
      rintro ⟨⟨n3, x107, x108, x109⟩, h⟩
      cases n3 with
      | zero => exact no_none h
      | succ n3 =>
        replace h := (show onetime_Sum_l3 x78 (n3 + 1) x107 x108 x109 = _ from h)
        replace h := (onetime_Sum_l3.eq_2 .. ).symm.trans h
        refine And.intro (fun hb => ?_) (fun hb => ?_)
        · replace h := cond_t h hb
          refine Or.inl ?_
          obtain ⟨hg, h⟩ := gd h
          refine And.intro hg ?_
          obtain ⟨hg, h⟩ := gd h
          refine And.intro hg ?_
          let x110 : Int := (List.getD x78 (Int.toNat (IntKind.wrap .i64 (16 + x108))) 0)
          replace h := nm_at x110 rfl h
          let x111 : Int := (IntKind.wrap .i64 ((IntKind.wrap .i64 (List.getD x109 (Int.toNat x108) 0)) + (IntKind.wrap .i64 x110)))
          replace h := nm_at x111 rfl h
          obtain ⟨hg, h⟩ := gd h
          refine And.intro hg ?_
          let x112 : List Int := (List.set x109 (Int.toNat x108) (IntKind.wrap .u8 (IntKind.wrap .i64 (x107 + x111))))
          replace h := nm_at x112 rfl h
          refine And.intro (by decide) ?_
          exact ⟨⟨(n3, (Int.fdiv (IntKind.wrap .i64 (x107 + x111)) (2 ^ 8)), (IntKind.wrap .i64 (x108 + 1)), x112), h⟩, [], ⟨rfl, ⟨rfl, rfl, trivial⟩, ⟨rfl, rfl, rfl, rfl, rfl, rfl, rfl, rfl, rfl, rfl, rfl, rfl, rfl, rfl, trivial⟩, rfl⟩, Nat.lt_succ_self _⟩
        · replace h := cond_f h hb
          exact ⟨[], [], ⟨x109, some_in h⟩, [], rfl, trivial, ⟨rfl, rfl, rfl, rfl, rfl, rfl, rfl, rfl, rfl, rfl, rfl, rfl, rfl, rfl, trivial⟩, rfl⟩
  · replace h := hl1_92
    intro L3
    refine ⟨Tryd.f118, _, ⟨Tryd.func118, rfl, rfl, rfl⟩, ?_⟩
    obtain ⟨r2_0_93, hl2_93, hr2_93⟩ := bnd h
    refine Or.inr ⟨[0, 1, 2], {p : (List Int) // p = r2_0_93}, ⟨fun | ⟨x93, _⟩ => [], fun | ⟨x93, _⟩ => [(9, (.var (.dv (.ints .u64 5 x93))))], fun _ => 0⟩, 0, ?_, ?_⟩
    · rintro ⟨x93, hp⟩
      subst hp
      replace h := hr2_93
      exact ⟨[], [], ⟨x93, some_in h⟩, [], rfl, trivial, ⟨rfl, rfl, rfl, rfl, rfl, rfl, rfl, rfl, rfl, rfl, rfl, rfl, rfl, trivial⟩, rfl⟩
    · replace h := hl2_93
      refine Or.inl ?_
      refine ⟨[], {x : Nat × Int × (List Int) // onetime_Sum_l1 x90 x91 x.1 x.2.1 x.2.2 = some r2_0_93}, ⟨fun | ⟨(n1, x94, x95), _⟩ => [(4, (.int .i64 x94))], fun | ⟨(n1, x94, x95), _⟩ => [(9, (.var (.dv (.ints .u64 5 x95))))], fun | ⟨(n1, x94, x95), _⟩ => n1⟩, [], [], ⟨(FUEL, 0, (List.replicate 5 (0 : Int))), h⟩, ⟨rfl, ⟨rfl, trivial⟩, ⟨rfl, rfl, rfl, rfl, rfl, rfl, rfl, rfl, rfl, rfl, rfl, rfl, rfl, trivial, rfl, trivial⟩, rfl⟩, ?_⟩
      rintro ⟨⟨n1, x94, x95⟩, h⟩
      cases n1 with
      | zero => exact no_none h
      | succ n1 =>
        replace h := (show onetime_Sum_l1 x90 x91 (n1 + 1) x94 x95 = _ from h)
        replace h := (onetime_Sum_l1.eq_2 .. ).symm.trans h
        refine And.intro (fun hb => ?_) (fun hb => ?_)
        · replace h := cond_t h hb
          refine Or.inl ?_
          obtain ⟨hg, h⟩ := gd h
          refine And.intro hg ?_
          refine ⟨(Int.toNat x94), (Int.toNat (((List.length x91) : Int) - x94)), ⟨by simp, rfl⟩, ?_⟩
          let x96 : Int := (if ((Int.toNat (((List.length x91) : Int) - x94)) : Int) < 16 then ((Int.toNat (((List.length x91) : Int) - x94)) : Int) else 16)
          replace h := nm_at x96 rfl h
          obtain ⟨hg, h⟩ := gd h
          refine And.intro hg ?_
          obtain ⟨hg, h⟩ := gd h
          refine And.intro hg ?_
          refine ⟨(Int.toNat x94), (Int.toNat ((IntKind.wrap .i64 (x94 + x96)) - x94)), ⟨by simp, rfl⟩, ?_⟩
          refine ⟨rfl, ?_⟩
          refine Or.inl ?_
          obtain ⟨x97, hc103, h⟩ := bnd h
          refine ⟨[true], _, _, _, ⟨⟨_, slices_Clone_byte_byte_c er 15 (by decide) (List.take (Int.toNat ((IntKind.wrap .i64 (x94 + x96)) - x94)) (List.drop (Int.toNat x94) x91)) x97 hc103, ⟨.inl rfl, trivial⟩⟩, trivial, rfl⟩, ?_⟩
          obtain ⟨hg, h⟩ := gd h
          refine And.intro (le_of_ln2 (ln_full [1]) hg) ?_
          refine ⟨(x97 ++ [1]), app_cut (cut_full _) (cut_full [1]), 0, (List.length (x97 ++ [1])), ⟨rfl, app_ln (ln_full [1])⟩, ?_⟩
          obtain ⟨x98, hc103, h⟩ := bnd h
          refine ⟨[true], _, _, _, ⟨⟨_, onetime_read_c er (x97 ++ [1]) x98 hc103, ⟨ve_full _ _, trivial⟩⟩, trivial, rfl⟩, ?_⟩
          obtain ⟨r3_0_99, hl3_99, hr3_99⟩ := bnd h
          refine Or.inr ⟨[], {p : (List Int) // p = r3_0_99}, ⟨fun | ⟨x99, _⟩ => [], fun | ⟨x99, _⟩ => [(9, (.var (.dv (.ints .u64 5 x99))))], fun _ => 0⟩, 0, ?_, ?_⟩
          · rintro ⟨x99, hp⟩
            subst hp
            replace h := hr3_99
            obtain ⟨x103, hc103, h⟩ := bnd h
            refine ⟨[], _, _, _, ⟨⟨_, onetime_times_c er x99 x90 x103 hc103, ⟨.inl rfl, .inl rfl, trivial⟩⟩, trivial, rfl⟩, ?_⟩
            exact ⟨⟨(n1, (IntKind.wrap .i64 (x94 + 16)), x103), h⟩, [], ⟨rfl, ⟨rfl, trivial⟩, ⟨rfl, rfl, rfl, rfl, rfl, rfl, rfl, rfl, rfl, rfl, rfl, rfl, rfl, trivial, rfl, trivial⟩, rfl⟩, Nat.lt_succ_self _⟩
          · replace h := hl3_99
            refine Or.inl ?_
            refine ⟨[], {x : Nat × Int × (List Int) // onetime_Sum_l2 x98 x.1 x.2.1 x.2.2 = some r3_0_99}, ⟨fun | ⟨(n2, x100, x101), _⟩ => [(24, (.int .i64 x100))], fun | ⟨(n2, x100, x101), _⟩ => [(9, (.var (.dv (.ints .u64 5 x101))))], fun | ⟨(n2, x100, x101), _⟩ => n2⟩, [], [], ⟨(FUEL, 0, x95), h⟩, ⟨rfl, ⟨rfl, trivial⟩, ⟨rfl, rfl, rfl, rfl, rfl, rfl, rfl, rfl, rfl, rfl, rfl, rfl, rfl, trivial, rfl, trivial, rfl, rfl, rfl, trivial⟩, rfl⟩, ?_⟩
            rintro ⟨⟨n2, x100, x101⟩, h⟩
            cases n2 with
            | zero => exact no_none h
            | succ n2 =>
              replace h := (show onetime_Sum_l2 x98 (n2 + 1) x100 x101 = _ from h)
              replace h := (onetime_Sum_l2.eq_2 .. ).symm.trans h
              refine And.intro (fun hb => ?_) (fun hb => ?_)
              · replace h := cond_t h hb
                refine Or.inl ?_
                obtain ⟨hg, h⟩ := gd h
                refine And.intro hg ?_
                obtain ⟨hg, h⟩ := gd h
                refine And.intro hg ?_
                let x102 : Int := (IntKind.wrap .u64 ((List.getD x101 (Int.toNat x100) 0) + (List.getD x98 (Int.toNat x100) 0)))
                replace h := nm_at x102 rfl h
                obtain ⟨hg, h⟩ := gd h
                refine And.intro hg ?_
                exact ⟨⟨(n2, (IntKind.wrap .i64 (x100 + 1)), (List.set x101 (Int.toNat x100) x102)), h⟩, [], ⟨rfl, ⟨rfl, trivial⟩, ⟨rfl, rfl, rfl, rfl, rfl, rfl, rfl, rfl, rfl, rfl, rfl, rfl, rfl, trivial, rfl, trivial, rfl, rfl, rfl, trivial⟩, rfl⟩, Nat.lt_succ_self _⟩
              · replace h := cond_f h hb
                exact ⟨[], [], ⟨x101, some_in h⟩, [], rfl, trivial, ⟨rfl, rfl, rfl, rfl, rfl, rfl, rfl, rfl, rfl, rfl, rfl, rfl, rfl, trivial, rfl, trivial, rfl, rfl, rfl, trivial⟩, rfl⟩
        · replace h := cond_f h hb
          exact ⟨[], [], ⟨x95, some_in h⟩, [], rfl, trivial, ⟨rfl, rfl, rfl, rfl, rfl, rfl, rfl, rfl, rfl, rfl, rfl, rfl, rfl, trivial, rfl, trivial⟩, rfl⟩
/- fellowship/seal.Seal -/
def seal_Seal (x4 : List Int) (x5 : List Int) (x6 : List Int) (x7 : List Int) : Option ((((List Int)) ⊕ Nat)) :=
  cond (!((List.length x5 : Int) == 12))
    (some (Sum.inr 4))
    (cond (decide ((List.length x6 : Int) > 16384))
      (some (Sum.inr 3))
      (cond (decide ((List.length x7 : Int) > 16384))
        (some (Sum.inr 3))
        ((stream_Turn x4 1 x5 x7).bind fun r28 => match r28 with
        | (Sum.inl x8) =>
            (seal_code_2 x4 x5 x6 x8).bind fun r27 => match r27 with
            | (Sum.inl (x9, x10, x11, x12, x13, x14, x15, x16, x17)) =>
                (onetime_Sum x9 x6 x10 (List.length x8) x11 x12 x13 x14 x8 x15 x16 x17).bind fun x18 =>
                  if (((List.length x8) : Int) + (List.length (List.take 16 x18))) * 1 ≤ 140737488355328 then
                    some (Sum.inl (x8 ++ (List.take 16 x18)))
                  else none
            | (Sum.inr (x19, x20, x21, x22, x23, x24, x25, x26, x27)) =>
                some (Sum.inr 4)
        | (Sum.inr x28) =>
            some (Sum.inr x28))))
theorem seal_Seal_c (k0 : Nat) (hn : [k0].Nodup) (x4 : List Int) (x5 : List Int) (x6 : List Int) (x7 : List Int) (res : (((List Int)) ⊕ Nat)) (h : seal_Seal x4 x5 x6 x7 = some res) :
    Fn Tryd.prog (GE er) 13 [(.dv (.ints .u8 32 x4)), (.dv (.roI .u8 x5)), (.dv (.roI .u8 x6)), (.dv (.roI .u8 x7))] [] (match res with | (Sum.inl p0) => (.tup [(.sl k0 [] ly5 0 (List.length p0)), (.dv (.sc .nilIface))]) | (Sum.inr p0) => (.tup [(.dv (.sc (.slice none 0 0))), (errA er p0)])) (match res with | (Sum.inl p0) => [(k0, (.rowI .u8 p0))] | (Sum.inr p0) => []) := by
  refine Fn.bodyE (fn := Tryd.f13) (c := _) tabOK mixed (GE_plain er) Tryd.func13 rfl rfl ((match res with | (Sum.inl p0) => [(9, k0)] | (Sum.inr p0) => [])) [(.dv (.ints .u8 32 x4)), (.dv (.roI .u8 x5)), (.dv (.roI .u8 x6)), (.dv (.roI .u8 x7))] [] (match res with | (Sum.inl p0) => [9] | (Sum.inr p0) => []) (match res with | (Sum.inl p0) => (.tup [(.sl 9 [] ly5 0 (List.length p0)), (.dv (.sc .nilIface))]) | (Sum.inr p0) => (.tup [(.dv (.sc (.slice none 0 0))), (errA er p0)])) (match res with | (Sum.inl p0) => [(.rowI .u8 p0)] | (Sum.inr p0) => []) rfl rfl (by rcases res with _ | _ <;> rfl) (by rcases res with _ | _ <;> rfl) (by rcases res with _ | _ <;> rfl) (by rcases res with _ | _ <;> rfl) (by rcases res with _ | _ <;> first | exact hn.sublist (.cons_cons _ .slnil) | exact hn.sublist (.cons _ .slnil)) 3 ?_
  replace h := (show seal_Seal x4 x5 x6 x7 = _ from h)
  unfold seal_Seal at h
  refine Or.inl ?_
  refine And.intro (fun hb => ?_) (fun hb => ?_)
  · replace h := cond_t h hb
    obtain rfl := some_in h
    exact ⟨0, [], [], rfl, trivial⟩
  · replace h := cond_f h hb
    refine And.intro (fun hb => ?_) (fun hb => ?_)
    · replace h := cond_t h hb
      obtain rfl := some_in h
      exact ⟨0, [], [], rfl, trivial⟩
    · replace h := cond_f h hb
      refine And.intro (fun hb => ?_) (fun hb => ?_)
      · replace h := cond_t h hb
        obtain rfl := some_in h
        exact ⟨0, [], [], rfl, trivial⟩
      · replace h := cond_f h hb
        obtain ⟨r28, hc28, h⟩ := bnd h
        rcases r28 with x8 | x28
        · refine ⟨[], _, _, _, ⟨⟨_, stream_Turn_c er 1 (by decide) x4 1 x5 x7 (Sum.inl x8) hc28, ⟨.inl rfl, .inl rfl, .inl rfl, .inl rfl, trivial⟩⟩, trivial, rfl⟩, ?_⟩
          refine And.intro (fun h0 => Bool.noConfusion h0) (fun _ => ?_)
          obtain ⟨r27, hc27, h⟩ := bnd h
          rcases r27 with ⟨x9, x10, x11, x12, x13, x14, x15, x16, x17⟩ | ⟨x19, x20, x21, x22, x23, x24, x25, x26, x27⟩
          · refine ⟨[], _, _, _, ⟨⟨_, seal_code_2_c er 1 2 3 4 5 6 (by decide) x4 x5 x6 x8 (Sum.inl (x9, x10, x11, x12, x13, x14, x15, x16, x17)) hc27, ⟨.inl rfl, .inl rfl, .inl rfl, .inl rfl, trivial⟩⟩, ⟨⟨rfl, rfl⟩, trivial⟩, rfl⟩, ?_⟩
            refine And.intro (fun h0 => Bool.noConfusion h0) (fun _ => ?_)
            obtain ⟨x18, hc18, h⟩ := bnd h
            refine ⟨[], _, _, _, ⟨⟨_, onetime_Sum_c er 2 3 1 4 5 6 (by decide) x9 x6 x10 (List.length x8) x11 x12 x13 x14 x8 x15 x16 x17 x18 hc18, ⟨.inl rfl, .inl rfl, trivial⟩⟩, ⟨⟨rfl, rfl⟩, ⟨rfl, rfl⟩, ⟨rfl, rfl⟩, ⟨rfl, rfl⟩, ⟨rfl, rfl⟩, ⟨rfl, rfl⟩, trivial⟩, rfl⟩, ?_⟩
            refine And.intro (by omega) ?_
            refine ⟨0, 16, ⟨rfl, rfl⟩, ?_⟩
            obtain ⟨hg, h⟩ := gd h
            refine And.intro (le_of_ln2 (ln_0 _ _) hg) ?_
            refine ⟨(x8 ++ (List.take 16 x18)), app_cut (cut_full _) (cut_0 _ _), 0, (List.length (x8 ++ (List.take 16 x18))), ⟨rfl, app_ln (ln_0 _ _)⟩, ?_⟩
            obtain rfl := some_in h
            exact ⟨0, [], [], rfl, rfl, trivial⟩
          · refine ⟨[], _, _, _, ⟨⟨_, seal_code_2_c er 1 2 3 4 5 6 (by decide) x4 x5 x6 x8 (Sum.inr (x19, x20, x21, x22, x23, x24, x25, x26, x27)) hc27, ⟨.inl rfl, .inl rfl, .inl rfl, .inl rfl, trivial⟩⟩, ⟨⟨rfl, rfl⟩, trivial⟩, rfl⟩, ?_⟩
            refine And.intro (fun _ => ?_) (fun h0 => Bool.noConfusion h0)
            obtain rfl := some_in h
            exact ⟨0, [], [], rfl, trivial⟩
        · refine ⟨[], _, _, _, ⟨⟨_, stream_Turn_c er 1 (by decide) x4 1 x5 x7 (Sum.inr x28) hc28, ⟨.inl rfl, .inl rfl, .inl rfl, .inl rfl, trivial⟩⟩, trivial, rfl⟩, ?_⟩
          refine And.intro (fun _ => ?_) (fun h0 => Bool.noConfusion h0)
          obtain rfl := some_in h
          exact ⟨0, [], [], rfl, trivial⟩
/- slices.Concat[[]byte,byte] ; not told: op makeInterface -/
def slices_Concat_byte_byte_2 (x72 : List Int) (x73 : Nat) (x74 : List Int) (x75 : Nat) (x76 : Nat) (x77 : Nat) (x78 : List Int) (x79 : List Int) (x80 : List Int) (x81 : List Int) : Option ((List Int)) :=
  ((nm ((decide ((IntKind.wrap .i64 (0 + (List.length x72 : Int))) < 0)) : Bool) fun x83 =>
  cond x83
    (none)
    (nm ((IntKind.wrap .i64 ((IntKind.wrap .i64 (0 + (List.length x72 : Int))) + (x73 : Int))) : Int) fun x84 =>
    cond (decide (x84 < 0))
      (none)
      (nm ((decide ((IntKind.wrap .i64 (x84 + (List.length x74 : Int))) < 0)) : Bool) fun x85 =>
      cond x85
        (none)
        (nm ((IntKind.wrap .i64 ((IntKind.wrap .i64 (x84 + (List.length x74 : Int))) + (x75 : Int))) : Int) fun x86 =>
        cond (decide (x86 < 0))
          (none)
          (cond (decide ((IntKind.wrap .i64 (x86 + (x76 : Int))) < 0))
            (none)
            (nm ((IntKind.wrap .i64 ((IntKind.wrap .i64 (x86 + (x76 : Int))) + (x77 : Int))) : Int) fun x87 =>
            cond (decide (x87 < 0))
              (none)
              (some x87)))))) : Option Int)).bind fun x82 =>
    (slices_Grow_byte_byte_2 x82).bind fun r92 => match r92 with
    | (x88, x89) =>
        ((if ((x88 : Int) + (List.length x72)) * 1 ≤ 140737488355328 then
          if x88 ≤ (List.length x89) then
            if (((List.length ((List.take x88 x89) ++ x72)) : Int) + (List.length (List.take x73 x78))) * 1 ≤ 140737488355328 then
              if (((List.length (((List.take x88 x89) ++ x72) ++ (List.take x73 x78))) : Int) + (List.length x74)) * 1 ≤ 140737488355328 then
                nm (((((List.take x88 x89) ++ x72) ++ (List.take x73 x78)) ++ x74) : List Int) fun x91 =>
                if (((List.length x91) : Int) + (List.length (List.take x75 x79))) * 1 ≤ 140737488355328 then
                  if (((List.length (x91 ++ (List.take x75 x79))) : Int) + (List.length (List.take x76 x80))) * 1 ≤ 140737488355328 then
                    if (((List.length ((x91 ++ (List.take x75 x79)) ++ (List.take x76 x80))) : Int) + (List.length (List.take x77 x81))) * 1 ≤ 140737488355328 then
                      nm ((((x91 ++ (List.take x75 x79)) ++ (List.take x76 x80)) ++ (List.take x77 x81)) : List Int) fun x92 =>
                      some x92
                    else none
                  else none
                else none
              else none
            else none
          else none
        else none : Option ((List Int)))).bind fun x90 =>
          some x90
theorem slices_Concat_byte_byte_2_c (b0 b1 b2 b3 b4 k0 : Nat) (hn : [b0, b1, b2, b3, b4, k0].Nodup) (x72 : List Int) (x73 : Nat) (x74 : List Int) (x75 : Nat) (x76 : Nat) (x77 : Nat) (x78 : List Int) (x79 : List Int) (x80 : List Int) (x81 : List Int) (res : (List Int)) (h : slices_Concat_byte_byte_2 x72 x73 x74 x75 x76 x77 x78 x79 x80 x81 = some res) :
    Fn Tryd.prog (GE er) 52 [(.vs b0 0 6)] [(b0, (.var (.cons (.dv (.roI .u8 x72)) (.cons (.sl b1 [] ly5 0 x73) (.cons (.dv (.roI .u8 x74)) (.cons (.sl b2 [] ly5 0 x75) (.cons (.sl b3 [] ly5 0 x76) (.cons (.sl b4 [] ly5 0 x77) (.dv .nil))))))))), (b1, (.rowI .u8 x78)), (b2, (.rowI .u8 x79)), (b3, (.rowI .u8 x80)), (b4, (.rowI .u8 x81))] (.sl k0 [] ly5 0 (List.length res)) [(b0, (.var (.cons (.dv (.roI .u8 x72)) (.cons (.sl b1 [] ly5 0 x73) (.cons (.dv (.roI .u8 x74)) (.cons (.sl b2 [] ly5 0 x75) (.cons (.sl b3 [] ly5 0 x76) (.cons (.sl b4 [] ly5 0 x77) (.dv .nil))))))))), (b1, (.rowI .u8 x78)), (b2, (.rowI .u8 x79)), (b3, (.rowI .u8 x80)), (b4, (.rowI .u8 x81)), (k0, (.rowI .u8 res))] := by
  refine Fn.bodyE (fn := Tryd.f52) (c := _) tabOK mixed (GE_plain er) Tryd.func52 rfl rfl [(0, b0), (1, b1), (2, b2), (3, b3), (4, b4), (6, k0)] [(.vs 0 0 6)] [(.var (.cons (.dv (.roI .u8 x72)) (.cons (.sl 1 [] ly5 0 x73) (.cons (.dv (.roI .u8 x74)) (.cons (.sl 2 [] ly5 0 x75) (.cons (.sl 3 [] ly5 0 x76) (.cons (.sl 4 [] ly5 0 x77) (.dv .nil)))))))), (.rowI .u8 x78), (.rowI .u8 x79), (.rowI .u8 x80), (.rowI .u8 x81)] [6] (.sl 6 [] ly5 0 (List.length res)) [(.var (.cons (.dv (.roI .u8 x72)) (.cons (.sl 1 [] ly5 0 x73) (.cons (.dv (.roI .u8 x74)) (.cons (.sl 2 [] ly5 0 x75) (.cons (.sl 3 [] ly5 0 x76) (.cons (.sl 4 [] ly5 0 x77) (.dv .nil)))))))), (.rowI .u8 x78), (.rowI .u8 x79), (.rowI .u8 x80), (.rowI .u8 x81), (.rowI .u8 res)] rfl rfl rfl rfl rfl rfl hn 3 ?_
  replace h := (show slices_Concat_byte_byte_2 x72 x73 x74 x75 x76 x77 x78 x79 x80 x81 = _ from h)
  unfold slices_Concat_byte_byte_2 at h
  obtain ⟨r1_0_82, hl1_82, hr1_82⟩ := bnd h
  refine Or.inr ⟨[10], {p : Int // p = r1_0_82}, ⟨fun | ⟨x82, _⟩ => [(3, (.int .i64 x82))], fun | ⟨x82, _⟩ => [], fun _ => 0⟩, 0, ?_, ?_⟩
  · rintro ⟨x82, hp⟩
    subst hp
    replace h := hr1_82
    obtain ⟨r92, hc92, h⟩ := bnd h
    obtain ⟨x88, x89⟩ := r92
    refine ⟨[], _, _, _, ⟨⟨_, slices_Grow_byte_byte_2_c er 5 (by decide) x82 (x88, x89) hc92, ⟨.inl rfl, .inl rfl, trivial⟩⟩, trivial, rfl⟩, ?_⟩
    obtain ⟨r2_0_90, hl2_90, hr2_90⟩ := bnd h
    refine Or.inr ⟨[24, 26], {p : (List Int) // p = r2_0_90}, ⟨fun | ⟨x90, _⟩ => [(6, (.sl 6 [] ly5 0 (List.length x90)))], fun | ⟨x90, _⟩ => [(5, .dead), (6, (.rowI .u8 x90))], fun _ => 0⟩, 1, ?_, ?_⟩
    · rintro ⟨x90, hp⟩
      subst hp
      replace h := hr2_90
      obtain rfl := some_in h
      exact ⟨0, [], [], rfl, rfl, rfl, rfl, rfl, rfl, rfl, trivial⟩
    · replace h := hl2_90
      refine Or.inr ⟨30, ?_⟩
      refine And.intro (fun _ => ?_) (fun h0 => Bool.noConfusion h0)
      refine Or.inl ?_
      refine And.intro (by decide) ?_
      obtain ⟨hg, h⟩ := gd h
      refine And.intro (hg) ?_
      obtain ⟨hg2, h⟩ := gd h
      refine ⟨((List.take x88 x89) ++ x72), app_cut (cut_0 _ _) (rfl), 0, (List.length ((List.take x88 x89) ++ x72)), ⟨rfl, cut_ln hg2 (rfl)⟩, ?_⟩
      refine And.intro (fun _ => ?_) (fun h0 => Bool.noConfusion h0)
      refine Or.inl ?_
      refine And.intro (by decide) ?_
      obtain ⟨hg, h⟩ := gd h
      refine And.intro (le_of_ln2 (ln_0 _ _) hg) ?_
      refine ⟨(((List.take x88 x89) ++ x72) ++ (List.take x73 x78)), app_cut (cut_full _) (cut_0 _ _), 0, (List.length (((List.take x88 x89) ++ x72) ++ (List.take x73 x78))), ⟨rfl, app_ln (ln_0 _ _)⟩, ?_⟩
      refine And.intro (fun _ => ?_) (fun h0 => Bool.noConfusion h0)
      refine Or.inl ?_
      refine And.intro (by decide) ?_
      obtain ⟨hg, h⟩ := gd h
      refine And.intro (hg) ?_
      refine ⟨((((List.take x88 x89) ++ x72) ++ (List.take x73 x78)) ++ x74), app_cut (cut_full _) (rfl), 0, (List.length ((((List.take x88 x89) ++ x72) ++ (List.take x73 x78)) ++ x74)), ⟨rfl, app_ln (rfl)⟩, ?_⟩
      let x91 : List Int := ((((List.take x88 x89) ++ x72) ++ (List.take x73 x78)) ++ x74)
      replace h := nm_at x91 rfl h
      refine And.intro (fun _ => ?_) (fun h0 => Bool.noConfusion h0)
      refine Or.inl ?_
      refine And.intro (by decide) ?_
      obtain ⟨hg, h⟩ := gd h
      refine And.intro (le_of_ln2 (ln_0 _ _) hg) ?_
      refine ⟨(x91 ++ (List.take x75 x79)), app_cut (cut_full _) (cut_0 _ _), 0, (List.length (x91 ++ (List.take x75 x79))), ⟨rfl, app_ln (ln_0 _ _)⟩, ?_⟩
      refine And.intro (fun _ => ?_) (fun h0 => Bool.noConfusion h0)
      refine Or.inl ?_
      refine And.intro (by decide) ?_
      obtain ⟨hg, h⟩ := gd h
      refine And.intro (le_of_ln2 (ln_0 _ _) hg) ?_
      refine ⟨((x91 ++ (List.take x75 x79)) ++ (List.take x76 x80)), app_cut (cut_full _) (cut_0 _ _), 0, (List.length ((x91 ++ (List.take x75 x79)) ++ (List.take x76 x80))), ⟨rfl, app_ln (ln_0 _ _)⟩, ?_⟩
      refine And.intro (fun _ => ?_) (fun h0 => Bool.noConfusion h0)
      refine Or.inl ?_
      refine And.intro (by decide) ?_
      obtain ⟨hg, h⟩ := gd h
      refine And.intro (le_of_ln2 (ln_0 _ _) hg) ?_
      refine ⟨(((x91 ++ (List.take x75 x79)) ++ (List.take x76 x80)) ++ (List.take x77 x81)), app_cut (cut_full _) (cut_0 _ _), 0, (List.length (((x91 ++ (List.take x75 x79)) ++ (List.take x76 x80)) ++ (List.take x77 x81))), ⟨rfl, app_ln (ln_0 _ _)⟩, ?_⟩
      let x92 : List Int := (((x91 ++ (List.take x75 x79)) ++ (List.take x76 x80)) ++ (List.take x77 x81))
      replace h := nm_at x92 rfl h
      refine And.intro (fun h0 => Bool.noConfusion h0) (fun _ => ?_)
      exact ⟨[], [], ⟨x92, some_in h⟩, [(6, 11)], rfl, ⟨rfl, trivial⟩, ⟨rfl, rfl, rfl, rfl, rfl, trivial, rfl, trivial⟩, rfl⟩
  · replace h := hl1_82
    refine Or.inr ⟨30, ?_⟩
    refine And.intro (fun _ => ?_) (fun h0 => Bool.noConfusion h0)
    refine Or.inl ?_
    refine And.intro (by decide) ?_
    let x83 : Bool := (decide ((IntKind.wrap .i64 (0 + (List.length x72 : Int))) < 0))
    replace h := nm_at x83 rfl h
    refine Or.inl ?_
    refine And.intro (fun hb => ?_) (fun hb => ?_)
    · replace h := cond_t h hb
      exact no_none h
    · replace h := cond_f h hb
      refine And.intro (fun _ => ?_) (fun h0 => Bool.noConfusion h0)
      refine Or.inl ?_
      refine And.intro (by decide) ?_
      let x84 : Int := (IntKind.wrap .i64 ((IntKind.wrap .i64 (0 + (List.length x72 : Int))) + (x73 : Int)))
      replace h := nm_at x84 rfl h
      refine Or.inl ?_
      refine And.intro (fun hb => ?_) (fun hb => ?_)
      · replace h := cond_t h hb
        exact no_none h
      · replace h := cond_f h hb
        refine And.intro (fun _ => ?_) (fun h0 => Bool.noConfusion h0)
        refine Or.inl ?_
        refine And.intro (by decide) ?_
        let x85 : Bool := (decide ((IntKind.wrap .i64 (x84 + (List.length x74 : Int))) < 0))
        replace h := nm_at x85 rfl h
        refine Or.inl ?_
        refine And.intro (fun hb => ?_) (fun hb => ?_)
        · replace h := cond_t h hb
          exact no_none h
        · replace h := cond_f h hb
          refine And.intro (fun _ => ?_) (fun h0 => Bool.noConfusion h0)
          refine Or.inl ?_
          refine And.intro (by decide) ?_
          let x86 : Int := (IntKind.wrap .i64 ((IntKind.wrap .i64 (x84 + (List.length x74 : Int))) + (x75 : Int)))
          replace h := nm_at x86 rfl h
          refine Or.inl ?_
          refine And.intro (fun hb => ?_) (fun hb => ?_)
          · replace h := cond_t h hb
            exact no_none h
          · replace h := cond_f h hb
            refine And.intro (fun _ => ?_) (fun h0 => Bool.noConfusion h0)
            refine Or.inl ?_
            refine And.intro (by decide) ?_
            refine Or.inl ?_
            refine And.intro (fun hb => ?_) (fun hb => ?_)
            · replace h := cond_t h hb
              exact no_none h
            · replace h := cond_f h hb
              refine And.intro (fun _ => ?_) (fun h0 => Bool.noConfusion h0)
              refine Or.inl ?_
              refine And.intro (by decide) ?_
              let x87 : Int := (IntKind.wrap .i64 ((IntKind.wrap .i64 (x86 + (x76 : Int))) + (x77 : Int)))
              replace h := nm_at x87 rfl h
              refine Or.inl ?_
              refine And.intro (fun hb => ?_) (fun hb => ?_)
              · replace h := cond_t h hb
                exact no_none h
              · replace h := cond_f h hb
                refine And.intro (fun h0 => Bool.noConfusion h0) (fun _ => ?_)
                exact ⟨[], [], ⟨x87, some_in h⟩, [], rfl, ⟨rfl, trivial⟩, ⟨rfl, rfl, rfl, rfl, rfl, trivial⟩, rfl⟩
/- fellowship/onetime.Sum -/
def onetime_Sum_2_l2 (x79 : List Int) : Nat → Int → (List Int) → Option ((List Int))
  | 0, _, _ => none
  | n2 + 1, x81, x82 =>
    cond (decide (x81 < 5))
      (if (0 : Int) ≤ x81 ∧ x81 < 5 then
        if (0 : Int) ≤ x81 ∧ x81 < 5 then
          nm ((IntKind.wrap .u64 ((List.getD x82 (Int.toNat x81) 0) + (List.getD x79 (Int.toNat x81) 0))) : Int) fun x83 =>
          if (0 : Int) ≤ x81 ∧ x81 < 5 then
            onetime_Sum_2_l2 x79 n2 (IntKind.wrap .i64 (x81 + 1)) (List.set x82 (Int.toNat x81) x83)
          else none
        else none
      else none)
      (some x82)
def onetime_Sum_2_l1 (x71 : List Int) (x72 : List Int) : Nat → Int → (List Int) → Option ((List Int))
  | 0, _, _ => none
  | n1 + 1, x75, x76 =>
    cond (decide (x75 < ((List.length x72) : Int)))
      (if 0 ≤ x75 ∧ x75 ≤ ((List.length x72) : Int) then
        nm ((if ((Int.toNat (((List.length x72) : Int) - x75)) : Int) < 16 then ((Int.toNat (((List.length x72) : Int) - x75)) : Int) else 16) : Int) fun x77 =>
        if 0 ≤ x75 ∧ x75 ≤ (IntKind.wrap .i64 (x75 + x77)) ∧ (IntKind.wrap .i64 (x75 + x77)) ≤ (IntKind.wrap .i64 (x75 + x77)) then
          if (IntKind.wrap .i64 (x75 + x77)) ≤ ((List.length x72) : Int) then
            (slices_Clone_byte_byte (List.take (Int.toNat ((IntKind.wrap .i64 (x75 + x77)) - x75)) (List.drop (Int.toNat x75) x72))).bind fun x78 =>
              if (((List.length x78) : Int) + (List.length [1])) * 1 ≤ 140737488355328 then
                (onetime_read (x78 ++ [1])).bind fun x79 =>
                  ((onetime_Sum_2_l2 x79 FUEL 0 x76 : Option ((List Int)))).bind fun x80 =>
                    (onetime_times x80 x71).bind fun x84 =>
                      onetime_Sum_2_l1 x71 x72 n1 (IntKind.wrap .i64 (x75 + 16)) x84
              else none
          else none
        else none
      else none)
      (some x76)
def onetime_Sum_2_l3 (x60 : List Int) : Nat → Int → Int → (List Int) → Option ((List Int))
  | 0, _, _, _ => none
  | n3 + 1, x88, x89, x90 =>
    cond (decide (x89 < 16))
      (if (0 : Int) ≤ x89 ∧ x89 < 16 then
        if (0 : Int) ≤ (IntKind.wrap .i64 (16 + x89)) ∧ (IntKind.wrap .i64 (16 + x89)) < 32 then
          nm ((IntKind.wrap .i64 (List.getD x60 (Int.toNat (IntKind.wrap .i64 (16 + x89))) 0)) : Int) fun x91 =>
          nm ((IntKind.wrap .i64 ((IntKind.wrap .i64 (List.getD x90 (Int.toNat x89) 0)) + x91)) : Int) fun x92 =>
          if (0 : Int) ≤ x89 ∧ x89 < 16 then
            nm ((List.set x90 (Int.toNat x89) (IntKind.wrap .u8 (IntKind.wrap .i64 (x88 + x92)))) : List Int) fun x93 =>
            onetime_Sum_2_l3 x60 n3 (Int.fdiv (IntKind.wrap .i64 (x88 + x92)) (2 ^ 8)) (IntKind.wrap .i64 (x89 + 1)) x93
          else none
        else none
      else none)
      (some x90)
def onetime_Sum_2 (x60 : List Int) (x61 : List Int) (x62 : Nat) (x63 : List Int) (x64 : Nat) (x65 : Nat) (x66 : Nat) (x67 : List Int) (x68 : List Int) (x69 : List Int) (x70 : List Int) : Option ((List Int)) :=
  (onetime_clamped x60).bind fun x71 =>
    (slices_Concat_byte_byte_2 x61 x62 x63 x64 x65 x66 x67 x68 x69 x70).bind fun x72 =>
      (slices_Chunk_byte_byte_2 16 x72).bind fun _ =>
        ((((onetime_Sum_2_l1 x71 x72 FUEL 0 (List.replicate 5 (0 : Int)) : Option ((List Int)))).bind fun x74 =>
          some x74 : Option ((List Int)))).bind fun x73 =>
          (onetime_number_least x73).bind fun x85 =>
            (onetime_number_low x85).bind fun x86 =>
              ((onetime_Sum_2_l3 x60 FUEL 0 0 x86 : Option ((List Int)))).bind fun x87 =>
                some x87
theorem onetime_Sum_2_c (b0 b1 b2 b3 b4 : Nat) (hn : [b0, b1, b2, b3, b4].Nodup) (x60 : List Int) (x61 : List Int) (x62 : Nat) (x63 : List Int) (x64 : Nat) (x65 : Nat) (x66 : Nat) (x67 : List Int) (x68 : List Int) (x69 : List Int) (x70 : List Int) (res : (List Int)) (h : onetime_Sum_2 x60 x61 x62 x63 x64 x65 x66 x67 x68 x69 x70 = some res) :
    Fn Tryd.prog (GE er) 32 [(.dv (.ints .u8 32 x60)), (.vs b0 0 6)] [(b0, (.var (.cons (.dv (.roI .u8 x61)) (.cons (.sl b1 [] ly5 0 x62) (.cons (.dv (.roI .u8 x63)) (.cons (.sl b2 [] ly5 0 x64) (.cons (.sl b3 [] ly5 0 x65) (.cons (.sl b4 [] ly5 0 x66) (.dv .nil))))))))), (b1, (.rowI .u8 x67)), (b2, (.rowI .u8 x68)), (b3, (.rowI .u8 x69)), (b4, (.rowI .u8 x70))] (.dv (.ints .u8 16 res)) [(b0, (.var (.cons (.dv (.roI .u8 x61)) (.cons (.sl b1 [] ly5 0 x62) (.cons (.dv (.roI .u8 x63)) (.cons (.sl b2 [] ly5 0 x64) (.cons (.sl b3 [] ly5 0 x65) (.cons (.sl b4 [] ly5 0 x66) (.dv .nil))))))))), (b1, (.rowI .u8 x67)), (b2, (.rowI .u8 x68)), (b3, (.rowI .u8 x69)), (b4, (.rowI .u8 x70))] := by
  refine Fn.bodyE (fn := Tryd.f32) (c := _) tabOK mixed (GE_plain er) Tryd.func32 rfl rfl [(0, b0), (1, b1), (2, b2), (3, b3), (4, b4)] [(.dv (.ints .u8 32 x60)), (.vs 0 0 6)] [(.var (.cons (.dv (.roI .u8 x61)) (.cons (.sl 1 [] ly5 0 x62) (.cons (.dv (.roI .u8 x63)) (.cons (.sl 2 [] ly5 0 x64) (.cons (.sl 3 [] ly5 0 x65) (.cons (.sl 4 [] ly5 0 x66) (.dv .nil)))))))), (.rowI .u8 x67), (.rowI .u8 x68), (.rowI .u8 x69), (.rowI .u8 x70)] [] (.dv (.ints .u8 16 res)) [(.var (.cons (.dv (.roI .u8 x61)) (.cons (.sl 1 [] ly5 0 x62) (.cons (.dv (.roI .u8 x63)) (.cons (.sl 2 [] ly5 0 x64) (.cons (.sl 3 [] ly5 0 x65) (.cons (.sl 4 [] ly5 0 x66) (.dv .nil)))))))), (.rowI .u8 x67), (.rowI .u8 x68), (.rowI .u8 x69), (.rowI .u8 x70)] rfl rfl rfl rfl rfl rfl hn 3 ?_
  replace h := (show onetime_Sum_2 x60 x61 x62 x63 x64 x65 x66 x67 x68 x69 x70 = _ from h)
  unfold onetime_Sum_2 at h
  obtain ⟨x71, hc93, h⟩ := bnd h
  refine ⟨[], _, _, _, ⟨⟨_, onetime_clamped_c er x60 x71 hc93, ⟨.inl rfl, trivial⟩⟩, trivial, rfl⟩, ?_⟩
  obtain ⟨x72, hc93, h⟩ := bnd h
  refine ⟨[], _, _, _, ⟨⟨_, slices_Concat_byte_byte_2_c er 0 1 2 3 4 9 (by decide) x61 x62 x63 x64 x65 x66 x67 x68 x69 x70 x72 hc93, ⟨.inl rfl, trivial⟩⟩, ⟨⟨rfl, rfl⟩, ⟨rfl, rfl⟩, ⟨rfl, rfl⟩, ⟨rfl, rfl⟩, ⟨rfl, rfl⟩, trivial⟩, rfl⟩, ?_⟩
  obtain ⟨r93, hc93, h⟩ := bnd h
  refine ⟨[], _, _, _, ⟨⟨_, slices_Chunk_byte_byte_2_c er 9 10 11 (by decide) 16 x72 r93 hc93, ⟨.inl rfl, .inl rfl, trivial⟩⟩, ⟨⟨rfl, rfl⟩, trivial⟩, rfl⟩, ?_⟩
  obtain ⟨r1_0_73, hl1_73, hr1_73⟩ := bnd h
  refine Or.inr ⟨[17], {p : (List Int) // p = r1_0_73}, ⟨fun | ⟨x73, _⟩ => [], fun | ⟨x73, _⟩ => [(8, (.var (.dv (.ints .u64 5 x73))))], fun _ => 0⟩, 0, ?_, ?_⟩
  · rintro ⟨x73, hp⟩
    subst hp
    replace h := hr1_73
    obtain ⟨x85, hc93, h⟩ := bnd h
    refine ⟨[], _, _, _, ⟨⟨_, onetime_number_least_c er x73 x85 hc93, ⟨.inl rfl, trivial⟩⟩, trivial, rfl⟩, ?_⟩
    obtain ⟨x86, hc93, h⟩ := bnd h
    refine ⟨[], _, _, _, ⟨⟨_, onetime_number_low_c er x85 x86 hc93, ⟨.inl rfl, trivial⟩⟩, trivial, rfl⟩, ?_⟩
    obtain ⟨r4_2_87, hl4_87, hr4_87⟩ := bnd h
    refine Or.inr ⟨[], {p : (List Int) // p = r4_2_87}, ⟨fun | ⟨x87, _⟩ => [], fun | ⟨x87, _⟩ => [(12, (.var (.dv (.ints .u8 16 x87))))], fun _ => 0⟩, 0, ?_, ?_⟩
    · rintro ⟨x87, hp⟩
      subst hp
      replace h := hr4_87
      obtain rfl := some_in h
      exact ⟨0, [], [], rfl, rfl, rfl, rfl, rfl, rfl, trivial⟩
    · replace h := hl4_87
      refine Or.inl ?_
      refine ⟨[], {x : Nat × Int × Int × (List Int) // onetime_Sum_2_l3 x60 x.1 x.2.1 x.2.2.1 x.2.2.2 = some r4_2_87}, ⟨fun | ⟨(n3, x88, x89, x90), _⟩ => [(11, (.int .i64 x88)), (42, (.int .i64 x89))], fun | ⟨(n3, x88, x89, x90), _⟩ => [(12, (.var (.dv (.ints .u8 16 x90))))], fun | ⟨(n3, x88, x89, x90), _⟩ => n3⟩, [], [], ⟨(FUEL, 0, 0, x86), h⟩, ⟨rfl, ⟨rfl, rfl, trivial⟩, ⟨rfl, rfl, rfl, rfl, rfl, rfl, rfl, rfl, rfl, rfl, rfl, rfl, rfl, trivial⟩, rfl⟩, ?_⟩
      rintro ⟨⟨n3, x88, x89, x90⟩, h⟩
      cases n3 with
      | zero => exact no_none h
      | succ n3 =>
        replace h := (show onetime_Sum_2_l3 x60 (n3 + 1) x88 x89 x90 = _ from h)
        replace h := (onetime_Sum_2_l3.eq_2 .. ).symm.trans h
        refine And.intro (fun hb => ?_) (fun hb => ?_)
        · replace h := cond_t h hb
          refine Or.inl ?_
          obtain ⟨hg, h⟩ := gd h
          refine And.intro hg ?_
          obtain ⟨hg, h⟩ := gd h
          refine And.intro hg ?_
          let x91 : Int := (IntKind.wrap .i64 (List.getD x60 (Int.toNat (IntKind.wrap .i64 (16 + x89))) 0))
          replace h := nm_at x91 rfl h
          let x92 : Int := (IntKind.wrap .i64 ((IntKind.wrap .i64 (List.getD x90 (Int.toNat x89) 0)) + x91))
          replace h := nm_at x92 rfl h
          obtain ⟨hg, h⟩ := gd h
          refine And.intro hg ?_
          let x93 : List Int := (List.set x90 (Int.toNat x89) (IntKind.wrap .u8 (IntKind.wrap .i64 (x88 + x92))))
          replace h := nm_at x93 rfl h
          refine And.intro (by decide) ?_
          exact ⟨⟨(n3, (Int.fdiv (IntKind.wrap .i64 (x88 + x92)) (2 ^ 8)), (IntKind.wrap .i64 (x89 + 1)), x93), h⟩, [], ⟨rfl, ⟨rfl, rfl, trivial⟩, ⟨rfl, rfl, rfl, rfl, rfl, rfl, rfl, rfl, rfl, rfl, rfl, rfl, rfl, trivial⟩, rfl⟩, Nat.lt_succ_self _⟩
        · replace h := cond_f h hb
          exact ⟨[], [], ⟨x90, some_in h⟩, [], rfl, trivial, ⟨rfl, rfl, rfl, rfl, rfl, rfl, rfl, rfl, rfl, rfl, rfl, rfl, rfl, trivial⟩, rfl⟩
  · replace h := hl1_73
    intro L3
    refine ⟨Tryd.f118, _, ⟨Tryd.func118, rfl, rfl, rfl⟩, ?_⟩
    obtain ⟨r2_0_74, hl2_74, hr2_74⟩ := bnd h
    refine Or.inr ⟨[0, 1, 2], {p : (List Int) // p = r2_0_74}, ⟨fun | ⟨x74, _⟩ => [], fun | ⟨x74, _⟩ => [(8, (.var (.dv (.ints .u64 5 x74))))], fun _ => 0⟩, 0, ?_, ?_⟩
    · rintro ⟨x74, hp⟩
      subst hp
      replace h := hr2_74
      exact ⟨[], [], ⟨x74, some_in h⟩, [], rfl, trivial, ⟨rfl, rfl, rfl, rfl, rfl, rfl, rfl, rfl, rfl, rfl, rfl, rfl, trivial⟩, rfl⟩
    · replace h := hl2_74
      refine Or.inl ?_
      refine ⟨[], {x : Nat × Int × (List Int) // onetime_Sum_2_l1 x71 x72 x.1 x.2.1 x.2.2 = some r2_0_74}, ⟨fun | ⟨(n1, x75, x76), _⟩ => [(4, (.int .i64 x75))], fun | ⟨(n1, x75, x76), _⟩ => [(8, (.var (.dv (.ints .u64 5 x76))))], fun | ⟨(n1, x75, x76), _⟩ => n1⟩, [], [], ⟨(FUEL, 0, (List.replicate 5 (0 : Int))), h⟩, ⟨rfl, ⟨rfl, trivial⟩, ⟨rfl, rfl, rfl, rfl, rfl, rfl, rfl, rfl, rfl, rfl, rfl, rfl, trivial, rfl, trivial⟩, rfl⟩, ?_⟩
      rintro ⟨⟨n1, x75, x76⟩, h⟩
      cases n1 with
      | zero => exact no_none h
      | succ n1 =>
        replace h := (show onetime_Sum_2_l1 x71 x72 (n1 + 1) x75 x76 = _ from h)
        replace h := (onetime_Sum_2_l1.eq_2 .. ).symm.trans h
        refine And.intro (fun hb => ?_) (fun hb => ?_)
        · replace h := cond_t h hb
          refine Or.inl ?_
          obtain ⟨hg, h⟩ := gd h
          refine And.intro hg ?_
          refine ⟨(Int.toNat x75), (Int.toNat (((List.length x72) : Int) - x75)), ⟨by simp, rfl⟩, ?_⟩
          let x77 : Int := (if ((Int.toNat (((List.length x72) : Int) - x75)) : Int) < 16 then ((Int.toNat (((List.length x72) : Int) - x75)) : Int) else 16)
          replace h := nm_at x77 rfl h
          obtain ⟨hg, h⟩ := gd h
          refine And.intro hg ?_
          obtain ⟨hg, h⟩ := gd h
          refine And.intro hg ?_
          refine ⟨(Int.toNat x75), (Int.toNat ((IntKind.wrap .i64 (x75 + x77)) - x75)), ⟨by simp, rfl⟩, ?_⟩
          refine ⟨rfl, ?_⟩
          refine Or.inl ?_
          obtain ⟨x78, hc84, h⟩ := bnd h
          refine ⟨[true], _, _, _, ⟨⟨_, slices_Clone_byte_byte_c er 14 (by decide) (List.take (Int.toNat ((IntKind.wrap .i64 (x75 + x77)) - x75)) (List.drop (Int.toNat x75) x72)) x78 hc84, ⟨.inl rfl, trivial⟩⟩, trivial, rfl⟩, ?_⟩
          obtain ⟨hg, h⟩ := gd h
          refine And.intro (le_of_ln2 (ln_full [1]) hg) ?_
          refine ⟨(x78 ++ [1]), app_cut (cut_full _) (cut_full [1]), 0, (List.length (x78 ++ [1])), ⟨rfl, app_ln (ln_full [1])⟩, ?_⟩
          obtain ⟨x79, hc84, h⟩ := bnd h
          refine ⟨[true], _, _, _, ⟨⟨_, onetime_read_c er (x78 ++ [1]) x79 hc84, ⟨ve_full _ _, trivial⟩⟩, trivial, rfl⟩, ?_⟩
          obtain ⟨r3_0_80, hl3_80, hr3_80⟩ := bnd h
          refine Or.inr ⟨[], {p : (List Int) // p = r3_0_80}, ⟨fun | ⟨x80, _⟩ => [], fun | ⟨x80, _⟩ => [(8, (.var (.dv (.ints .u64 5 x80))))], fun _ => 0⟩, 0, ?_, ?_⟩
          · rintro ⟨x80, hp⟩
            subst hp
            replace h := hr3_80
            obtain ⟨x84, hc84, h⟩ := bnd h
            refine ⟨[], _, _, _, ⟨⟨_, onetime_times_c er x80 x71 x84 hc84, ⟨.inl rfl, .inl rfl, trivial⟩⟩, trivial, rfl⟩, ?_⟩
            exact ⟨⟨(n1, (IntKind.wrap .i64 (x75 + 16)), x84), h⟩, [], ⟨rfl, ⟨rfl, trivial⟩, ⟨rfl, rfl, rfl, rfl, rfl, rfl, rfl, rfl, rfl, rfl, rfl, rfl, trivial, rfl, trivial⟩, rfl⟩, Nat.lt_succ_self _⟩
          · replace h := hl3_80
            refine Or.inl ?_
            refine ⟨[], {x : Nat × Int × (List Int) // onetime_Sum_2_l2 x79 x.1 x.2.1 x.2.2 = some r3_0_80}, ⟨fun | ⟨(n2, x81, x82), _⟩ => [(24, (.int .i64 x81))], fun | ⟨(n2, x81, x82), _⟩ => [(8, (.var (.dv (.ints .u64 5 x82))))], fun | ⟨(n2, x81, x82), _⟩ => n2⟩, [], [], ⟨(FUEL, 0, x76), h⟩, ⟨rfl, ⟨rfl, trivial⟩, ⟨rfl, rfl, rfl, rfl, rfl, rfl, rfl, rfl, rfl, rfl, rfl, rfl, trivial, rfl, trivial, rfl, rfl, rfl, trivial⟩, rfl⟩, ?_⟩
            rintro ⟨⟨n2, x81, x82⟩, h⟩
            cases n2 with
            | zero => exact no_none h
            | succ n2 =>
              replace h := (show onetime_Sum_2_l2 x79 (n2 + 1) x81 x82 = _ from h)
              replace h := (onetime_Sum_2_l2.eq_2 .. ).symm.trans h
              refine And.intro (fun hb => ?_) (fun hb => ?_)
              · replace h := cond_t h hb
                refine Or.inl ?_
                obtain ⟨hg, h⟩ := gd h
                refine And.intro hg ?_
                obtain ⟨hg, h⟩ := gd h
                refine And.intro hg ?_
                let x83 : Int := (IntKind.wrap .u64 ((List.getD x82 (Int.toNat x81) 0) + (List.getD x79 (Int.toNat x81) 0)))
                replace h := nm_at x83 rfl h
                obtain ⟨hg, h⟩ := gd h
                refine And.intro hg ?_
                exact ⟨⟨(n2, (IntKind.wrap .i64 (x81 + 1)), (List.set x82 (Int.toNat x81) x83)), h⟩, [], ⟨rfl, ⟨rfl, trivial⟩, ⟨rfl, rfl, rfl, rfl, rfl, rfl, rfl, rfl, rfl, rfl, rfl, rfl, trivial, rfl, trivial, rfl, rfl, rfl, trivial⟩, rfl⟩, Nat.lt_succ_self _⟩
              · replace h := cond_f h hb
                exact ⟨[], [], ⟨x82, some_in h⟩, [], rfl, trivial, ⟨rfl, rfl, rfl, rfl, rfl, rfl, rfl, rfl, rfl, rfl, rfl, rfl, trivial, rfl, trivial, rfl, rfl, rfl, trivial⟩, rfl⟩
        · replace h := cond_f h hb
          exact ⟨[], [], ⟨x76, some_in h⟩, [], rfl, trivial, ⟨rfl, rfl, rfl, rfl, rfl, rfl, rfl, rfl, rfl, rfl, rfl, rfl, trivial, rfl, trivial⟩, rfl⟩
/- fellowship/words.Equal -/
def words_Equal_l1 (x95 : List Int) (x96 : List Int) : Nat → Int → Int → Option Int
  | 0, _, _ => none
  | n1 + 1, x98, x99 =>
    cond (decide (x99 < (List.length x95 : Int)))
      (if (0 : Int) ≤ x99 ∧ x99 < (List.length x95 : Int) then
        if (0 : Int) ≤ x99 ∧ x99 < (List.length x96 : Int) then
          nm ((bits .u8 .xor (List.getD x95 (Int.toNat x99) 0) (List.getD x96 (Int.toNat x99) 0)) : Int) fun x100 =>
          words_Equal_l1 x95 x96 n1 (bits .u8 .or x98 x100) (IntKind.wrap .i64 (x99 + 1))
        else none
      else none)
      (some x98)
def words_Equal (x95 : List Int) (x96 : List Int) : Option Bool :=
  cond (!((List.length x95 : Int) == (List.length x96 : Int)))
    (some false)
    (((words_Equal_l1 x95 x96 FUEL 0 0 : Option Int)).bind fun x97 =>
      some (x97 == 0))
theorem words_Equal_c (x95 : List Int) (x96 : List Int) (res : Bool) (h : words_Equal x95 x96 = some res) :
    Fn Tryd.prog (GE er) 60 [(.dv (.roI .u8 x95)), (.dv (.roI .u8 x96))] [] (.bl res) [] := by
  refine Fn.bodyE (fn := Tryd.f60) (c := _) tabOK mixed (GE_plain er) Tryd.func60 rfl rfl [] [(.dv (.roI .u8 x95)), (.dv (.roI .u8 x96))] [] [] (.bl res) [] rfl rfl rfl rfl rfl rfl .nil 3 ?_
  replace h := (show words_Equal x95 x96 = _ from h)
  unfold words_Equal at h
  refine And.intro (fun hb => ?_) (fun hb => ?_)
  · replace h := cond_t h hb
    obtain rfl := some_in h
    exact ⟨0, [], [], rfl, trivial⟩
  · replace h := cond_f h hb
    obtain ⟨r1_0_97, hl1_97, hr1_97⟩ := bnd h
    refine Or.inr ⟨[13], {p : Int // p = r1_0_97}, ⟨fun | ⟨x97, _⟩ => [(5, (.int .u8 x97))], fun | ⟨x97, _⟩ => [], fun _ => 0⟩, 0, ?_, ?_⟩
    · rintro ⟨x97, hp⟩
      subst hp
      replace h := hr1_97
      obtain rfl := some_in h
      exact ⟨0, [], [], rfl, trivial⟩
    · replace h := hl1_97
      refine Or.inl ?_
      refine ⟨[], {x : Nat × Int × Int // words_Equal_l1 x95 x96 x.1 x.2.1 x.2.2 = some r1_0_97}, ⟨fun | ⟨(n1, x98, x99), _⟩ => [(5, (.int .u8 x98)), (14, (.int .i64 x99))], fun | ⟨(n1, x98, x99), _⟩ => [], fun | ⟨(n1, x98, x99), _⟩ => n1⟩, [], [], ⟨(FUEL, 0, 0), h⟩, ⟨rfl, ⟨rfl, rfl, trivial⟩, trivial, rfl⟩, ?_⟩
      rintro ⟨⟨n1, x98, x99⟩, h⟩
      cases n1 with
      | zero => exact no_none h
      | succ n1 =>
        replace h := (show words_Equal_l1 x95 x96 (n1 + 1) x98 x99 = _ from h)
        replace h := (words_Equal_l1.eq_2 .. ).symm.trans h
        refine And.intro (fun hb => ?_) (fun hb => ?_)
        · replace h := cond_t h hb
          refine Or.inl ?_
          obtain ⟨hg, h⟩ := gd h
          refine And.intro hg ?_
          obtain ⟨hg, h⟩ := gd h
          refine And.intro hg ?_
          let x100 : Int := (bits .u8 .xor (List.getD x95 (Int.toNat x99) 0) (List.getD x96 (Int.toNat x99) 0))
          replace h := nm_at x100 rfl h
          exact ⟨⟨(n1, (bits .u8 .or x98 x100), (IntKind.wrap .i64 (x99 + 1))), h⟩, [], ⟨rfl, ⟨rfl, rfl, trivial⟩, trivial, rfl⟩, Nat.lt_succ_self _⟩
        · replace h := cond_f h hb
          exact ⟨[], [], ⟨x98, some_in h⟩, [], rfl, ⟨rfl, trivial⟩, trivial, rfl⟩
/- fellowship/onetime.Right -/
def onetime_Right (x48 : List Int) (x49 : List Int) (x50 : List Int) (x51 : Nat) (x52 : List Int) (x53 : Nat) (x54 : Nat) (x55 : Nat) (x56 : List Int) (x57 : List Int) (x58 : List Int) (x59 : List Int) : Option Bool :=
  (onetime_Sum_2 x48 x50 x51 x52 x53 x54 x55 x56 x57 x58 x59).bind fun x60 =>
    (words_Equal x49 (List.take 16 x60)).bind fun x61 =>
      some x61
theorem onetime_Right_c (b0 b1 b2 b3 b4 : Nat) (hn : [b0, b1, b2, b3, b4].Nodup) (x48 : List Int) (x49 : List Int) (x50 : List Int) (x51 : Nat) (x52 : List Int) (x53 : Nat) (x54 : Nat) (x55 : Nat) (x56 : List Int) (x57 : List Int) (x58 : List Int) (x59 : List Int) (res : Bool) (h : onetime_Right x48 x49 x50 x51 x52 x53 x54 x55 x56 x57 x58 x59 = some res) :
    Fn Tryd.prog (GE er) 36 [(.dv (.ints .u8 32 x48)), (.dv (.roI .u8 x49)), (.vs b0 0 6)] [(b0, (.var (.cons (.dv (.roI .u8 x50)) (.cons (.sl b1 [] ly5 0 x51) (.cons (.dv (.roI .u8 x52)) (.cons (.sl b2 [] ly5 0 x53) (.cons (.sl b3 [] ly5 0 x54) (.cons (.sl b4 [] ly5 0 x55) (.dv .nil))))))))), (b1, (.rowI .u8 x56)), (b2, (.rowI .u8 x57)), (b3, (.rowI .u8 x58)), (b4, (.rowI .u8 x59))] (.bl res) [(b0, (.var (.cons (.dv (.roI .u8 x50)) (.cons (.sl b1 [] ly5 0 x51) (.cons (.dv (.roI .u8 x52)) (.cons (.sl b2 [] ly5 0 x53) (.cons (.sl b3 [] ly5 0 x54) (.cons (.sl b4 [] ly5 0 x55) (.dv .nil))))))))), (b1, (.rowI .u8 x56)), (b2, (.rowI .u8 x57)), (b3, (.rowI .u8 x58)), (b4, (.rowI .u8 x59))] := by
  refine Fn.bodyE (fn := Tryd.f36) (c := _) tabOK mixed (GE_plain er) Tryd.func36 rfl rfl [(0, b0), (1, b1), (2, b2), (3, b3), (4, b4)] [(.dv (.ints .u8 32 x48)), (.dv (.roI .u8 x49)), (.vs 0 0 6)] [(.var (.cons (.dv (.roI .u8 x50)) (.cons (.sl 1 [] ly5 0 x51) (.cons (.dv (.roI .u8 x52)) (.cons (.sl 2 [] ly5 0 x53) (.cons (.sl 3 [] ly5 0 x54) (.cons (.sl 4 [] ly5 0 x55) (.dv .nil)))))))), (.rowI .u8 x56), (.rowI .u8 x57), (.rowI .u8 x58), (.rowI .u8 x59)] [] (.bl res) [(.var (.cons (.dv (.roI .u8 x50)) (.cons (.sl 1 [] ly5 0 x51) (.cons (.dv (.roI .u8 x52)) (.cons (.sl 2 [] ly5 0 x53) (.cons (.sl 3 [] ly5 0 x54) (.cons (.sl 4 [] ly5 0 x55) (.dv .nil)))))))), (.rowI .u8 x56), (.rowI .u8 x57), (.rowI .u8 x58), (.rowI .u8 x59)] rfl rfl rfl rfl rfl rfl hn 3 ?_
  replace h := (show onetime_Right x48 x49 x50 x51 x52 x53 x54 x55 x56 x57 x58 x59 = _ from h)
  unfold onetime_Right at h
  obtain ⟨x60, hc61, h⟩ := bnd h
  refine ⟨[], _, _, _, ⟨⟨_, onetime_Sum_2_c er 0 1 2 3 4 (by decide) x48 x50 x51 x52 x53 x54 x55 x56 x57 x58 x59 x60 hc61, ⟨.inl rfl, .inl rfl, trivial⟩⟩, ⟨⟨rfl, rfl⟩, ⟨rfl, rfl⟩, ⟨rfl, rfl⟩, ⟨rfl, rfl⟩, ⟨rfl, rfl⟩, trivial⟩, rfl⟩, ?_⟩
  refine And.intro (by omega) ?_
  refine ⟨0, 16, ⟨rfl, rfl⟩, ?_⟩
  obtain ⟨x61, hc61, h⟩ := bnd h
  refine ⟨[false, true], _, _, _, ⟨⟨_, words_Equal_c er x49 (List.take 16 x60) x61 hc61, ⟨.inl rfl, .inl rfl, trivial⟩⟩, trivial, rfl⟩, ?_⟩
  obtain rfl := some_in h
  exact ⟨0, [], [], rfl, rfl, rfl, rfl, rfl, rfl, trivial⟩
/- fellowship/seal.Open -/
def seal_Open (x31 : List Int) (x32 : List Int) (x33 : List Int) (x34 : List Int) : Option ((((List Int)) ⊕ Nat)) :=
  cond (!((List.length x32 : Int) == 12))
    (some (Sum.inr 4))
    (nm ((decide ((IntKind.wrap .i64 ((List.length x34 : Int) - 16)) < 0)) : Bool) fun x35 =>
    cond x35
      (some (Sum.inr 2))
      (cond (decide ((List.length x33 : Int) > 16384))
        (some (Sum.inr 3))
        (nm ((decide ((IntKind.wrap .i64 ((List.length x34 : Int) - 16)) > 16384)) : Bool) fun x36 =>
        cond x36
          (some (Sum.inr 3))
          (if (IntKind.wrap .i64 ((List.length x34 : Int) - 16)) ≤ (List.length x34 : Int) then
            if 0 ≤ (IntKind.wrap .i64 ((List.length x34 : Int) - 16)) then
              nm ((List.take (Int.toNat ((IntKind.wrap .i64 ((List.length x34 : Int) - 16)) - 0)) x34) : List Int) fun x37 =>
              (seal_code x31 x32 x33 x37).bind fun r60 => match r60 with
              | (Sum.inl (x38, x39, x40, x41, x42, x43, x44, x45, x46)) =>
                  if 0 ≤ (IntKind.wrap .i64 ((List.length x34 : Int) - 16)) ∧ (IntKind.wrap .i64 ((List.length x34 : Int) - 16)) ≤ (List.length x34 : Int) then
                    nm ((List.take (Int.toNat ((List.length x34 : Int) - (IntKind.wrap .i64 ((List.length x34 : Int) - 16)))) (List.drop (Int.toNat (IntKind.wrap .i64 ((List.length x34 : Int) - 16))) x34)) : List Int) fun x47 =>
                    (onetime_Right x38 x47 x33 x39 x37 x40 x41 x42 x43 x44 x45 x46).bind fun x48 =>
                      cond (!x48)
                        (some (Sum.inr 7))
                        (if (IntKind.wrap .i64 ((List.length x34 : Int) - 16)) ≤ (List.length x34 : Int) then
                          if 0 ≤ (IntKind.wrap .i64 ((List.length x34 : Int) - 16)) then
                            nm ((List.take (Int.toNat ((IntKind.wrap .i64 ((List.length x34 : Int) - 16)) - 0)) x34) : List Int) fun x49 =>
                            (stream_Turn x31 1 x32 x49).bind fun r51 => match r51 with
                            | (Sum.inl x50) =>
                                some (Sum.inl x50)
                            | (Sum.inr x51) =>
                                some (Sum.inr x51)
                          else none
                        else none)
                  else none
              | (Sum.inr (x52, x53, x54, x55, x56, x57, x58, x59, x60)) =>
                  some (Sum.inr 4)
            else none
          else none))))
theorem seal_Open_c (k0 : Nat) (hn : [k0].Nodup) (x31 : List Int) (x32 : List Int) (x33 : List Int) (x34 : List Int) (res : (((List Int)) ⊕ Nat)) (h : seal_Open x31 x32 x33 x34 = some res) :
    Fn Tryd.prog (GE er) 17 [(.dv (.ints .u8 32 x31)), (.dv (.roI .u8 x32)), (.dv (.roI .u8 x33)), (.dv (.roI .u8 x34))] [] (match res with | (Sum.inl p0) => (.tup [(.sl k0 [] ly5 0 (List.length p0)), (.dv (.sc .nilIface))]) | (Sum.inr p0) => (.tup [(.dv (.sc (.slice none 0 0))), (errA er p0)])) (match res with | (Sum.inl p0) => [(k0, (.rowI .u8 p0))] | (Sum.inr p0) => []) := by
  refine Fn.bodyE (fn := Tryd.f17) (c := _) tabOK mixed (GE_plain er) Tryd.func17 rfl rfl ((match res with | (Sum.inl p0) => [(7, k0)] | (Sum.inr p0) => [])) [(.dv (.ints .u8 32 x31)), (.dv (.roI .u8 x32)), (.dv (.roI .u8 x33)), (.dv (.roI .u8 x34))] [] (match res with | (Sum.inl p0) => [7] | (Sum.inr p0) => []) (match res with | (Sum.inl p0) => (.tup [(.sl 7 [] ly5 0 (List.length p0)), (.dv (.sc .nilIface))]) | (Sum.inr p0) => (.tup [(.dv (.sc (.slice none 0 0))), (errA er p0)])) (match res with | (Sum.inl p0) => [(.rowI .u8 p0)] | (Sum.inr p0) => []) rfl rfl (by rcases res with _ | _ <;> rfl) (by rcases res with _ | _ <;> rfl) (by rcases res with _ | _ <;> rfl) (by rcases res with _ | _ <;> rfl) (by rcases res with _ | _ <;> first | exact hn.sublist (.cons_cons _ .slnil) | exact hn.sublist (.cons _ .slnil)) 3 ?_
  replace h := (show seal_Open x31 x32 x33 x34 = _ from h)
  unfold seal_Open at h
  refine Or.inl ?_
  refine And.intro (fun hb => ?_) (fun hb => ?_)
  · replace h := cond_t h hb
    obtain rfl := some_in h
    exact ⟨0, [], [], rfl, trivial⟩
  · replace h := cond_f h hb
    let x35 : Bool := (decide ((IntKind.wrap .i64 ((List.length x34 : Int) - 16)) < 0))
    replace h := nm_at x35 rfl h
    refine And.intro (fun hb => ?_) (fun hb => ?_)
    · replace h := cond_t h hb
      obtain rfl := some_in h
      exact ⟨0, [], [], rfl, trivial⟩
    · replace h := cond_f h hb
      refine And.intro (fun hb => ?_) (fun hb => ?_)
      · replace h := cond_t h hb
        obtain rfl := some_in h
        exact ⟨0, [], [], rfl, trivial⟩
      · replace h := cond_f h hb
        let x36 : Bool := (decide ((IntKind.wrap .i64 ((List.length x34 : Int) - 16)) > 16384))
        replace h := nm_at x36 rfl h
        refine And.intro (fun hb => ?_) (fun hb => ?_)
        · replace h := cond_t h hb
          obtain rfl := some_in h
          exact ⟨0, [], [], rfl, trivial⟩
        · replace h := cond_f h hb
          obtain ⟨hg, h⟩ := gd h
          refine And.intro hg ?_
          obtain ⟨hg, h⟩ := gd h
          refine And.intro hg ?_
          refine ⟨(List.take (Int.toNat ((IntKind.wrap .i64 ((List.length x34 : Int) - 16)) - 0)) x34), by first | rfl | simp, ?_⟩
          let x37 : List Int := (List.take (Int.toNat ((IntKind.wrap .i64 ((List.length x34 : Int) - 16)) - 0)) x34)
          replace h := nm_at x37 rfl h
          obtain ⟨r60, hc60, h⟩ := bnd h
          rcases r60 with ⟨x38, x39, x40, x41, x42, x43, x44, x45, x46⟩ | ⟨x52, x53, x54, x55, x56, x57, x58, x59, x60⟩
          · refine ⟨[], _, _, _, ⟨⟨_, seal_code_c er 1 2 3 4 5 (by decide) x31 x32 x33 x37 (Sum.inl (x38, x39, x40, x41, x42, x43, x44, x45, x46)) hc60, ⟨.inl rfl, .inl rfl, .inl rfl, .inl rfl, trivial⟩⟩, trivial, rfl⟩, ?_⟩
            refine Or.inl ?_
            refine And.intro (fun h0 => Bool.noConfusion h0) (fun _ => ?_)
            obtain ⟨hg, h⟩ := gd h
            refine And.intro hg ?_
            refine ⟨(List.take (Int.toNat ((List.length x34 : Int) - (IntKind.wrap .i64 ((List.length x34 : Int) - 16)))) (List.drop (Int.toNat (IntKind.wrap .i64 ((List.length x34 : Int) - 16))) x34)), by first | rfl | simp, ?_⟩
            let x47 : List Int := (List.take (Int.toNat ((List.length x34 : Int) - (IntKind.wrap .i64 ((List.length x34 : Int) - 16)))) (List.drop (Int.toNat (IntKind.wrap .i64 ((List.length x34 : Int) - 16))) x34))
            replace h := nm_at x47 rfl h
            obtain ⟨x48, hc51, h⟩ := bnd h
            refine ⟨[], _, _, _, ⟨⟨_, onetime_Right_c er 1 2 3 4 5 (by decide) x38 x47 x33 x39 x37 x40 x41 x42 x43 x44 x45 x46 x48 hc51, ⟨.inl rfl, .inl rfl, .inl rfl, trivial⟩⟩, ⟨⟨rfl, rfl⟩, ⟨rfl, rfl⟩, ⟨rfl, rfl⟩, ⟨rfl, rfl⟩, ⟨rfl, rfl⟩, trivial⟩, rfl⟩, ?_⟩
            refine And.intro (fun hb => ?_) (fun hb => ?_)
            · replace h := cond_t h hb
              obtain rfl := some_in h
              exact ⟨0, [], [], rfl, trivial⟩
            · replace h := cond_f h hb
              obtain ⟨hg, h⟩ := gd h
              refine And.intro hg ?_
              obtain ⟨hg, h⟩ := gd h
              refine And.intro hg ?_
              refine ⟨(List.take (Int.toNat ((IntKind.wrap .i64 ((List.length x34 : Int) - 16)) - 0)) x34), by first | rfl | simp, ?_⟩
              let x49 : List Int := (List.take (Int.toNat ((IntKind.wrap .i64 ((List.length x34 : Int) - 16)) - 0)) x34)
              replace h := nm_at x49 rfl h
              obtain ⟨r51, hc51, h⟩ := bnd h
              rcases r51 with x50 | x51
              · refine ⟨[], _, _, _, ⟨⟨_, stream_Turn_c er 7 (by decide) x31 1 x32 x49 (Sum.inl x50) hc51, ⟨.inl rfl, .inl rfl, .inl rfl, .inl rfl, trivial⟩⟩, trivial, rfl⟩, ?_⟩
                obtain rfl := some_in h
                exact ⟨0, [], [], rfl, rfl, trivial⟩
              · refine ⟨[], _, _, _, ⟨⟨_, stream_Turn_c er 7 (by decide) x31 1 x32 x49 (Sum.inr x51) hc51, ⟨.inl rfl, .inl rfl, .inl rfl, .inl rfl, trivial⟩⟩, trivial, rfl⟩, ?_⟩
                obtain rfl := some_in h
                exact ⟨0, [], [], rfl, trivial⟩
          · refine ⟨[], _, _, _, ⟨⟨_, seal_code_c er 1 2 3 4 5 (by decide) x31 x32 x33 x37 (Sum.inr (x52, x53, x54, x55, x56, x57, x58, x59, x60)) hc60, ⟨.inl rfl, .inl rfl, .inl rfl, .inl rfl, trivial⟩⟩, trivial, rfl⟩, ?_⟩
            refine Or.inl ?_
            refine And.intro (fun _ => ?_) (fun h0 => Bool.noConfusion h0)
            obtain rfl := some_in h
            exact ⟨0, [], [], rfl, trivial⟩
/- fellowship/fellowshiplaw08.alive -/
def fellowshiplaw08_alive : Option Bool :=
  (seal_Seal (List.set (List.replicate 32 (0 : Int)) 0 1) (List.replicate 12 (0 : Int)) ([] : List Int) ([] : List Int)).bind fun r12 => match r12 with
  | (Sum.inl x4) =>
      (seal_Seal (List.set (List.replicate 32 (0 : Int)) 0 1) (List.replicate 12 (0 : Int)) [119] [116, 101, 120, 116]).bind fun r9 => match r9 with
      | (Sum.inl x5) =>
          cond (!(((List.length x4) : Int) == 16))
            (some false)
            (cond (!(((List.length x5) : Int) == 20))
              (some false)
              ((seal_Open (List.set (List.replicate 32 (0 : Int)) 0 1) (List.replicate 12 (0 : Int)) [119] x5).bind fun r8 => match r8 with
              | (Sum.inl x6) =>
                  nm (((List.map (fun q : Int => UInt8.ofNat q.toNat) x6) == [116, 101, 120, 116]) : Bool) fun x7 =>
                  some x7
              | (Sum.inr x8) =>
                  some false))
      | (Sum.inr x9) =>
          cond (!(((List.length x4) : Int) == 16))
            (some false)
            (some false)
  | (Sum.inr x10) =>
      (seal_Seal (List.set (List.replicate 32 (0 : Int)) 0 1) (List.replicate 12 (0 : Int)) [119] [116, 101, 120, 116]).bind fun r12 => match r12 with
      | (Sum.inl x11) =>
          some false
      | (Sum.inr x12) =>
          some false
theorem fellowshiplaw08_alive_c (res : Bool) (h : fellowshiplaw08_alive = some res) :
    Fn Tryd.prog (GE er) 11 [] [] (.bl res) [] := by
  refine Fn.bodyE (fn := Tryd.f11) (c := _) tabOK mixed (GE_plain er) Tryd.func11 rfl rfl [] [] [] [] (.bl res) [] rfl rfl rfl rfl rfl rfl .nil 3 ?_
  replace h := (show fellowshiplaw08_alive = _ from h)
  unfold fellowshiplaw08_alive at h
  refine And.intro (by decide) ?_
  refine ⟨(List.replicate 12 (0 : Int)), rfl, 0, (List.length (List.replicate 12 (0 : Int))), ⟨rfl, List.length_replicate ..⟩, ?_⟩
  obtain ⟨r12, hc12, h⟩ := bnd h
  rcases r12 with x4 | x10
  · refine ⟨[false, true, false, false], _, _, _, ⟨⟨_, seal_Seal_c er 1 (by decide) (List.set (List.replicate 32 (0 : Int)) 0 1) (List.replicate 12 (0 : Int)) ([] : List Int) ([] : List Int) (Sum.inl x4) hc12, ⟨.inl rfl, ve_full _ _, (.inr (.inr ⟨rfl, .inl ⟨_, rfl⟩⟩)), (.inr (.inr ⟨rfl, .inl ⟨_, rfl⟩⟩)), trivial⟩⟩, trivial, rfl⟩, ?_⟩
    refine And.intro (by decide) ?_
    refine ⟨(List.replicate 12 (0 : Int)), rfl, 0, (List.length (List.replicate 12 (0 : Int))), ⟨rfl, List.length_replicate ..⟩, ?_⟩
    refine ⟨0, (List.length [119]), ⟨rfl, rfl⟩, ?_⟩
    refine ⟨0, (List.length [116, 101, 120, 116]), ⟨rfl, rfl⟩, ?_⟩
    obtain ⟨r9, hc9, h⟩ := bnd h
    rcases r9 with x5 | x9
    · refine ⟨[false, true, true, true], _, _, _, ⟨⟨_, seal_Seal_c er 5 (by decide) (List.set (List.replicate 32 (0 : Int)) 0 1) (List.replicate 12 (0 : Int)) [119] [116, 101, 120, 116] (Sum.inl x5) hc9, ⟨.inl rfl, ve_full _ _, ve_full _ _, ve_full _ _, trivial⟩⟩, trivial, rfl⟩, ?_⟩
      refine And.intro (fun h0 => Bool.noConfusion h0) (fun _ => ?_)
      refine And.intro (fun hb => ?_) (fun hb => ?_)
      · replace h := cond_t h hb
        obtain rfl := some_in h
        exact ⟨0, [], [], rfl, trivial⟩
      · replace h := cond_f h hb
        refine And.intro (fun h0 => Bool.noConfusion h0) (fun _ => ?_)
        refine And.intro (fun hb => ?_) (fun hb => ?_)
        · replace h := cond_t h hb
          obtain rfl := some_in h
          exact ⟨0, [], [], rfl, trivial⟩
        · replace h := cond_f h hb
          refine And.intro (by decide) ?_
          refine ⟨(List.replicate 12 (0 : Int)), rfl, 0, (List.length (List.replicate 12 (0 : Int))), ⟨rfl, List.length_replicate ..⟩, ?_⟩
          refine ⟨0, (List.length [119]), ⟨rfl, rfl⟩, ?_⟩
          obtain ⟨r8, hc8, h⟩ := bnd h
          rcases r8 with x6 | x8
          · refine ⟨[false, true, true, true], _, _, _, ⟨⟨_, seal_Open_c er 8 (by decide) (List.set (List.replicate 32 (0 : Int)) 0 1) (List.replicate 12 (0 : Int)) [119] x5 (Sum.inl x6) hc8, ⟨.inl rfl, ve_full _ _, ve_full _ _, ve_full _ _, trivial⟩⟩, trivial, rfl⟩, ?_⟩
            refine And.intro (fun _ => ?_) (fun h0 => Bool.noConfusion h0)
            refine ⟨(List.map (fun q : Int => UInt8.ofNat q.toNat) x6), congrArg (List.map fun q : Int => UInt8.ofNat q.toNat) (cut_full x6), ?_⟩
            let x7 : Bool := ((List.map (fun q : Int => UInt8.ofNat q.toNat) x6) == [116, 101, 120, 116])
            replace h := nm_at x7 rfl h
            obtain rfl := some_in h
            exact ⟨0, [], [], rfl, trivial⟩
          · refine ⟨[false, true, true, true], _, _, _, ⟨⟨_, seal_Open_c er 8 (by decide) (List.set (List.replicate 32 (0 : Int)) 0 1) (List.replicate 12 (0 : Int)) [119] x5 (Sum.inr x8) hc8, ⟨.inl rfl, ve_full _ _, ve_full _ _, ve_full _ _, trivial⟩⟩, trivial, rfl⟩, ?_⟩
            refine And.intro (fun h0 => Bool.noConfusion h0) (fun _ => ?_)
            obtain rfl := some_in h
            exact ⟨0, [], [], rfl, trivial⟩
    · refine ⟨[false, true, true, true], _, _, _, ⟨⟨_, seal_Seal_c er 5 (by decide) (List.set (List.replicate 32 (0 : Int)) 0 1) (List.replicate 12 (0 : Int)) [119] [116, 101, 120, 116] (Sum.inr x9) hc9, ⟨.inl rfl, ve_full _ _, ve_full _ _, ve_full _ _, trivial⟩⟩, trivial, rfl⟩, ?_⟩
      refine And.intro (fun h0 => Bool.noConfusion h0) (fun _ => ?_)
      refine And.intro (fun hb => ?_) (fun hb => ?_)
      · replace h := cond_t h hb
        obtain rfl := some_in h
        exact ⟨0, [], [], rfl, trivial⟩
      · replace h := cond_f h hb
        refine And.intro (fun _ => ?_) (fun h0 => Bool.noConfusion h0)
        obtain rfl := some_in h
        exact ⟨0, [], [], rfl, trivial⟩
  · refine ⟨[false, true, false, false], _, _, _, ⟨⟨_, seal_Seal_c er 1 (by decide) (List.set (List.replicate 32 (0 : Int)) 0 1) (List.replicate 12 (0 : Int)) ([] : List Int) ([] : List Int) (Sum.inr x10) hc12, ⟨.inl rfl, ve_full _ _, (.inr (.inr ⟨rfl, .inl ⟨_, rfl⟩⟩)), (.inr (.inr ⟨rfl, .inl ⟨_, rfl⟩⟩)), trivial⟩⟩, trivial, rfl⟩, ?_⟩
    refine And.intro (by decide) ?_
    refine ⟨(List.replicate 12 (0 : Int)), rfl, 0, (List.length (List.replicate 12 (0 : Int))), ⟨rfl, List.length_replicate ..⟩, ?_⟩
    refine ⟨0, (List.length [119]), ⟨rfl, rfl⟩, ?_⟩
    refine ⟨0, (List.length [116, 101, 120, 116]), ⟨rfl, rfl⟩, ?_⟩
    obtain ⟨r12, hc12, h⟩ := bnd h
    rcases r12 with x11 | x12
    · refine ⟨[false, true, true, true], _, _, _, ⟨⟨_, seal_Seal_c er 4 (by decide) (List.set (List.replicate 32 (0 : Int)) 0 1) (List.replicate 12 (0 : Int)) [119] [116, 101, 120, 116] (Sum.inl x11) hc12, ⟨.inl rfl, ve_full _ _, ve_full _ _, ve_full _ _, trivial⟩⟩, trivial, rfl⟩, ?_⟩
      refine And.intro (fun _ => ?_) (fun h0 => Bool.noConfusion h0)
      obtain rfl := some_in h
      exact ⟨0, [], [], rfl, trivial⟩
    · refine ⟨[false, true, true, true], _, _, _, ⟨⟨_, seal_Seal_c er 4 (by decide) (List.set (List.replicate 32 (0 : Int)) 0 1) (List.replicate 12 (0 : Int)) [119] [116, 101, 120, 116] (Sum.inr x12) hc12, ⟨.inl rfl, ve_full _ _, ve_full _ _, ve_full _ _, trivial⟩⟩, trivial, rfl⟩, ?_⟩
      refine And.intro (fun _ => ?_) (fun h0 => Bool.noConfusion h0)
      obtain rfl := some_in h
      exact ⟨0, [], [], rfl, trivial⟩
/- fellowship/fellowshipnum.Num -/
def fellowshipnum_Num : Option Unit :=
  some ()
theorem fellowshipnum_Num_c (res : Unit) (h : fellowshipnum_Num = some res) :
    Fn Tryd.prog (GE er) 15 [(.dv (.sc .nilIface))] [] (.int .i64 0) [] := by
  refine Fn.bodyE (fn := Tryd.f15) (c := _) tabOK mixed (GE_plain er) Tryd.func15 rfl rfl [] [(.dv (.sc .nilIface))] [] [] (.int .i64 0) [] rfl rfl rfl rfl rfl rfl .nil 3 ?_
  replace h := (show fellowshipnum_Num = _ from h)
  unfold fellowshipnum_Num at h
  refine And.intro (fun _ => ?_) (fun h0 => Bool.noConfusion h0)
  obtain rfl := some_in h
  exact ⟨0, [], [], rfl, trivial⟩
/- fellowship/fellowshipnum.Num -/
def fellowshipnum_Num_2_l1 (x25 : Nat) (x26 : List Nat) : Nat → Int → Option ((Unit ⊕ Int))
  | 0, _ => none
  | n1 + 1, x28 =>
    cond (decide (x28 < ((List.length x26) : Int)))
      (if (0 : Int) ≤ x28 ∧ x28 < ((List.length x26) : Int) then
        (isM errI x25 (List.getD x26 (Int.toNat x28) 0)).bind fun x29 =>
          cond x29
            (some (Sum.inr (IntKind.wrap .i64 (x28 + 1))))
            (fellowshipnum_Num_2_l1 x25 x26 n1 (IntKind.wrap .i64 (x28 + 1)))
      else none)
      (some (Sum.inl ()))
def fellowshipnum_Num_2 (x25 : Nat) : Option Int :=
  nm ([1, 2, 3, 4, 5, 6, 7, 8, 9, 10, 11, 12, 13, 14, 15, 16, 17, 18, 19] : List Nat) fun x26 =>
  ((fellowshipnum_Num_2_l1 x25 x26 FUEL 0 : Option ((Unit ⊕ Int)))).bind fun r1_0_27 => match r1_0_27 with
  | (Sum.inl ()) =>
      some (-1)
  | (Sum.inr x27) =>
      some x27
theorem fellowshipnum_Num_2_c (x25 : Nat) (res : Int) (h : fellowshipnum_Num_2 x25 = some res) :
    Fn Tryd.prog (GE er) 15 [(errA er x25)] [] (.int .i64 res) [] := by
  refine Fn.bodyE (fn := Tryd.f15) (c := _) tabOK mixed (GE_plain er) Tryd.func15 rfl rfl [] [(errA er x25)] [] [] (.int .i64 res) [] rfl rfl rfl rfl rfl rfl .nil 3 ?_
  replace h := (show fellowshipnum_Num_2 x25 = _ from h)
  unfold fellowshipnum_Num_2 at h
  refine And.intro (fun h0 => Bool.noConfusion h0) (fun _ => ?_)
  refine Or.inl ?_
  refine ⟨(List.length [1, 2, 3, 4, 5, 6, 7, 8, 9, 10, 11, 12, 13, 14, 15, 16, 17, 18, 19]), (rw_ (fun q => errD er q) 0 [1, 2, 3, 4, 5, 6, 7, 8, 9, 10, 11, 12, 13, 14, 15, 16, 17, 18, 19]), ⟨rfl, fun j hj => match j, hj with | 0, _ => rfl | 1, _ => rfl | 2, _ => rfl | 3, _ => rfl | 4, _ => rfl | 5, _ => rfl | 6, _ => rfl | 7, _ => rfl | 8, _ => rfl | 9, _ => rfl | 10, _ => rfl | 11, _ => rfl | 12, _ => rfl | 13, _ => rfl | 14, _ => rfl | 15, _ => rfl | 16, _ => rfl | 17, _ => rfl | 18, _ => rfl | _ + 19, hj => absurd hj (by omega)⟩, ?_⟩
  let x26 : List Nat := [1, 2, 3, 4, 5, 6, 7, 8, 9, 10, 11, 12, 13, 14, 15, 16, 17, 18, 19]
  replace h := nm_at x26 rfl h
  obtain ⟨r1_0_27, hl1_27, hr1_27⟩ := bnd h
  refine Or.inr ⟨[29], {p : Unit // (Sum.inl p) = r1_0_27}, ⟨fun | ⟨(), _⟩ => [(2, (.int .i64 0))], fun | ⟨(), _⟩ => [], fun _ => 0⟩, 0, ?_, ?_⟩
  · rintro ⟨⟨⟩, hp⟩
    subst hp
    replace h := hr1_27
    obtain rfl := some_in h
    exact ⟨0, [], [], rfl, trivial⟩
  · replace h := hl1_27
    refine Or.inl ?_
    refine ⟨[], {x : Nat × Int // fellowshipnum_Num_2_l1 x25 x26 x.1 x.2 = some r1_0_27}, ⟨fun | ⟨(n1, x28), _⟩ => [(2, (.int .i64 0)), (30, (.int .i64 x28))], fun | ⟨(n1, x28), _⟩ => [], fun | ⟨(n1, x28), _⟩ => n1⟩, [], [], ⟨(FUEL, 0), h⟩, ⟨rfl, ⟨rfl, rfl, trivial⟩, ⟨rfl, trivial⟩, rfl⟩, ?_⟩
    rintro ⟨⟨n1, x28⟩, h⟩
    cases n1 with
    | zero => exact no_none h
    | succ n1 =>
      replace h := (show fellowshipnum_Num_2_l1 x25 x26 (n1 + 1) x28 = _ from h)
      replace h := (fellowshipnum_Num_2_l1.eq_2 .. ).symm.trans h
      refine And.intro (fun hb => ?_) (fun hb => ?_)
      · replace h := cond_t h hb
        refine Or.inl ?_
        obtain ⟨hg, h⟩ := gd h
        refine And.intro hg ?_
        obtain ⟨x29, hc29, h⟩ := bnd h
        refine ⟨[], _, _, _, ⟨⟨_, is_fn (fun _ h => h) x25 (List.getD x26 (Int.toNat x28) 0) x29 hc29, ⟨.inl rfl, .inl rfl, trivial⟩⟩, trivial, rfl⟩, ?_⟩
        refine And.intro (fun hb => ?_) (fun hb => ?_)
        · replace h := cond_t h hb
          obtain rfl := some_in h
          replace h := hr1_27
          obtain rfl := some_in h
          exact ⟨0, [], [], rfl, trivial⟩
        · replace h := cond_f h hb
          exact ⟨⟨(n1, (IntKind.wrap .i64 (x28 + 1))), h⟩, [], ⟨rfl, ⟨rfl, rfl, trivial⟩, ⟨rfl, trivial⟩, rfl⟩, Nat.lt_succ_self _⟩
      · replace h := cond_f h hb
        exact ⟨[], [], ⟨(), some_in h⟩, [], rfl, ⟨rfl, trivial⟩, ⟨rfl, trivial⟩, rfl⟩
/- fellowship/fellowshiplaw08.SealTags -/
def fellowshiplaw08_SealTags (x1 : T_fellowshiplaw08_Case) (x2 : List Int) (x3 : Int) : Option Bool :=
  (fellowshiplaw08_alive).bind fun x4 =>
    cond (!x4)
      (some false)
      (cond (!((List.length x1.fNonce : Int) == 12))
        (some true)
        (cond (decide ((List.length x1.fWith : Int) > 500))
          (some true)
          (cond (decide ((List.length x2 : Int) < 16))
            (some true)
            (cond (decide ((List.length x2 : Int) > 500))
              (some true)
              ((seal_Open x1.fKey x1.fNonce x1.fWith x2).bind fun r29 => match r29 with
              | (Sum.inl x5) =>
                  (seal_Seal x1.fKey x1.fNonce x1.fWith x5).bind fun r18 => match r18 with
                  | (Sum.inl x6) =>
                      nm ((!((List.map (fun q : Int => UInt8.ofNat q.toNat) x6) == (List.map (fun q : Int => UInt8.ofNat q.toNat) x2))) : Bool) fun x7 =>
                      cond x7
                        (some false)
                        (if (IntKind.wrap .i64 ((List.length x2 : Int) - 16)) ≤ (List.length x2 : Int) then
                          if 0 ≤ (IntKind.wrap .i64 ((List.length x2 : Int) - 16)) then
                            nm ((List.take (Int.toNat ((IntKind.wrap .i64 ((List.length x2 : Int) - 16)) - 0)) x2) : List Int) fun x8 =>
                            (seal_Seal x1.fKey x1.fNonce x1.fWith x8).bind fun r17 => match r17 with
                            | (Sum.inl x9) =>
                                nm ((IntKind.wrap .i64 ((IntKind.wrap .i64 (((List.length x9) : Int) - 1)) - (IntKind.wrap .i64 (Int.tmod x3 16)))) : Int) fun x10 =>
                                if (0 : Int) ≤ x10 ∧ x10 < ((List.length x9) : Int) then
                                  if (0 : Int) ≤ x10 ∧ x10 < ((List.length x9) : Int) then
                                    nm ((List.set x9 (Int.toNat x10) (bits .u8 .xor (List.getD x9 (Int.toNat x10) 0) x3)) : List Int) fun x11 =>
                                    (seal_Open x1.fKey x1.fNonce x1.fWith (List.take (List.length x9) x11)).bind fun r16 => match r16 with
                                    | (Sum.inl x12) =>
                                        cond (x3 == 0)
                                          (if (IntKind.wrap .i64 ((List.length x2 : Int) - 16)) ≤ (List.length x2 : Int) then
                                            if 0 ≤ (IntKind.wrap .i64 ((List.length x2 : Int) - 16)) then
                                              nm ((List.take (Int.toNat ((IntKind.wrap .i64 ((List.length x2 : Int) - 16)) - 0)) x2) : List Int) fun x13 =>
                                              nm (((List.map (fun q : Int => UInt8.ofNat q.toNat) x12) == (List.map (fun q : Int => UInt8.ofNat q.toNat) x13)) : Bool) fun x14 =>
                                              some x14
                                            else none
                                          else none)
                                          (cond (((List.length x12) : Int) == 0)
                                            ((fellowshipnum_Num).bind fun _ =>
                                              some false)
                                            (some false))
                                    | (Sum.inr x15) =>
                                        cond (x3 == 0)
                                          (some false)
                                          ((fellowshipnum_Num_2 x15).bind fun x16 =>
                                            some (x16 == 7))
                                  else none
                                else none
                            | (Sum.inr x17) =>
                                some false
                          else none
                        else none)
                  | (Sum.inr x18) =>
                      some false
              | (Sum.inr x19) =>
                  if (IntKind.wrap .i64 ((List.length x2 : Int) - 16)) ≤ (List.length x2 : Int) then
                    if 0 ≤ (IntKind.wrap .i64 ((List.length x2 : Int) - 16)) then
                      nm ((List.take (Int.toNat ((IntKind.wrap .i64 ((List.length x2 : Int) - 16)) - 0)) x2) : List Int) fun x20 =>
                      (seal_Seal x1.fKey x1.fNonce x1.fWith x20).bind fun r29 => match r29 with
                      | (Sum.inl x21) =>
                          nm ((IntKind.wrap .i64 ((IntKind.wrap .i64 (((List.length x21) : Int) - 1)) - (IntKind.wrap .i64 (Int.tmod x3 16)))) : Int) fun x22 =>
                          if (0 : Int) ≤ x22 ∧ x22 < ((List.length x21) : Int) then
                            if (0 : Int) ≤ x22 ∧ x22 < ((List.length x21) : Int) then
                              nm ((List.set x21 (Int.toNat x22) (bits .u8 .xor (List.getD x21 (Int.toNat x22) 0) x3)) : List Int) fun x23 =>
                              (seal_Open x1.fKey x1.fNonce x1.fWith (List.take (List.length x21) x23)).bind fun r28 => match r28 with
                              | (Sum.inl x24) =>
                                  cond (x3 == 0)
                                    (if (IntKind.wrap .i64 ((List.length x2 : Int) - 16)) ≤ (List.length x2 : Int) then
                                      if 0 ≤ (IntKind.wrap .i64 ((List.length x2 : Int) - 16)) then
                                        nm ((List.take (Int.toNat ((IntKind.wrap .i64 ((List.length x2 : Int) - 16)) - 0)) x2) : List Int) fun x25 =>
                                        nm (((List.map (fun q : Int => UInt8.ofNat q.toNat) x24) == (List.map (fun q : Int => UInt8.ofNat q.toNat) x25)) : Bool) fun x26 =>
                                        some x26
                                      else none
                                    else none)
                                    (cond (((List.length x24) : Int) == 0)
                                      ((fellowshipnum_Num).bind fun _ =>
                                        some false)
                                      (some false))
                              | (Sum.inr x27) =>
                                  cond (x3 == 0)
                                    (some false)
                                    ((fellowshipnum_Num_2 x27).bind fun x28 =>
                                      some (x28 == 7))
                            else none
                          else none
                      | (Sum.inr x29) =>
                          some false
                    else none
                  else none)))))
theorem fellowshiplaw08_SealTags_c (x1 : T_fellowshiplaw08_Case) (x2 : List Int) (x3 : Int) (res : Bool) (h : fellowshiplaw08_SealTags x1 x2 x3 = some res) :
    Fn Tryd.prog (GE er) 5 [(.dv (T_fellowshiplaw08_Case.dv x1)), (.dv (.roI .u8 x2)), (.int .u8 x3)] [] (.bl res) [] := by
  refine Fn.bodyE (fn := Tryd.f5) (c := _) tabOK mixed (GE_plain er) Tryd.func5 rfl rfl [] [(.dv (T_fellowshiplaw08_Case.dv x1)), (.dv (.roI .u8 x2)), (.int .u8 x3)] [] [] (.bl res) [] rfl rfl rfl rfl rfl rfl .nil 3 ?_
  replace h := (show fellowshiplaw08_SealTags x1 x2 x3 = _ from h)
  unfold fellowshiplaw08_SealTags at h
  obtain ⟨x4, hc29, h⟩ := bnd h
  refine ⟨[], _, _, _, ⟨⟨_, fellowshiplaw08_alive_c er x4 hc29, trivial⟩, trivial, rfl⟩, ?_⟩
  refine And.intro (fun hb => ?_) (fun hb => ?_)
  · replace h := cond_t h hb
    obtain rfl := some_in h
    exact ⟨0, [], [], rfl, trivial⟩
  · replace h := cond_f h hb
    refine And.intro (fun hb => ?_) (fun hb => ?_)
    · replace h := cond_t h hb
      obtain rfl := some_in h
      exact ⟨0, [], [], rfl, trivial⟩
    · replace h := cond_f h hb
      refine And.intro (fun hb => ?_) (fun hb => ?_)
      · replace h := cond_t h hb
        obtain rfl := some_in h
        exact ⟨0, [], [], rfl, trivial⟩
      · replace h := cond_f h hb
        refine And.intro (fun hb => ?_) (fun hb => ?_)
        · replace h := cond_t h hb
          obtain rfl := some_in h
          exact ⟨0, [], [], rfl, trivial⟩
        · replace h := cond_f h hb
          refine And.intro (fun hb => ?_) (fun hb => ?_)
          · replace h := cond_t h hb
            obtain rfl := some_in h
            exact ⟨0, [], [], rfl, trivial⟩
          · replace h := cond_f h hb
            obtain ⟨r29, hc29, h⟩ := bnd h
            rcases r29 with x5 | x19
            · refine ⟨[], _, _, _, ⟨⟨_, seal_Open_c er 1 (by decide) x1.fKey x1.fNonce x1.fWith x2 (Sum.inl x5) hc29, ⟨.inl rfl, .inl rfl, .inl rfl, .inl rfl, trivial⟩⟩, trivial, rfl⟩, ?_⟩
              refine Or.inl ?_
              refine And.intro (fun _ => ?_) (fun h0 => Bool.noConfusion h0)
              obtain ⟨r18, hc18, h⟩ := bnd h
              rcases r18 with x6 | x18
              · refine ⟨[false, false, false, true], _, _, _, ⟨⟨_, seal_Seal_c er 2 (by decide) x1.fKey x1.fNonce x1.fWith x5 (Sum.inl x6) hc18, ⟨.inl rfl, .inl rfl, .inl rfl, ve_full _ _, trivial⟩⟩, trivial, rfl⟩, ?_⟩
                refine And.intro (fun h0 => Bool.noConfusion h0) (fun _ => ?_)
                refine ⟨(List.map (fun q : Int => UInt8.ofNat q.toNat) x6), congrArg (List.map fun q : Int => UInt8.ofNat q.toNat) (cut_full x6), ?_⟩
                refine ⟨(List.map (fun q : Int => UInt8.ofNat q.toNat) x2), rfl, ?_⟩
                let x7 : Bool := (!((List.map (fun q : Int => UInt8.ofNat q.toNat) x6) == (List.map (fun q : Int => UInt8.ofNat q.toNat) x2)))
                replace h := nm_at x7 rfl h
                refine And.intro (fun hb => ?_) (fun hb => ?_)
                · replace h := cond_t h hb
                  obtain rfl := some_in h
                  exact ⟨0, [], [], rfl, trivial⟩
                · replace h := cond_f h hb
                  obtain ⟨hg, h⟩ := gd h
                  refine And.intro hg ?_
                  obtain ⟨hg, h⟩ := gd h
                  refine And.intro hg ?_
                  refine ⟨(List.take (Int.toNat ((IntKind.wrap .i64 ((List.length x2 : Int) - 16)) - 0)) x2), by first | rfl | simp, ?_⟩
                  let x8 : List Int := (List.take (Int.toNat ((IntKind.wrap .i64 ((List.length x2 : Int) - 16)) - 0)) x2)
                  replace h := nm_at x8 rfl h
                  obtain ⟨r17, hc17, h⟩ := bnd h
                  rcases r17 with x9 | x17
                  · refine ⟨[], _, _, _, ⟨⟨_, seal_Seal_c er 3 (by decide) x1.fKey x1.fNonce x1.fWith x8 (Sum.inl x9) hc17, ⟨.inl rfl, .inl rfl, .inl rfl, .inl rfl, trivial⟩⟩, trivial, rfl⟩, ?_⟩
                    refine And.intro (fun h0 => Bool.noConfusion h0) (fun _ => ?_)
                    refine And.intro (by decide) ?_
                    let x10 : Int := (IntKind.wrap .i64 ((IntKind.wrap .i64 (((List.length x9) : Int) - 1)) - (IntKind.wrap .i64 (Int.tmod x3 16))))
                    replace h := nm_at x10 rfl h
                    obtain ⟨hg, h⟩ := gd h
                    refine And.intro hg ?_
                    obtain ⟨hg, h⟩ := gd h
                    refine And.intro hg ?_
                    let x11 : List Int := (List.set x9 (Int.toNat x10) (bits .u8 .xor (List.getD x9 (Int.toNat x10) 0) x3))
                    replace h := nm_at x11 rfl h
                    obtain ⟨r16, hc16, h⟩ := bnd h
                    rcases r16 with x12 | x15
                    · refine ⟨[false, false, false, true], _, _, _, ⟨⟨_, seal_Open_c er 4 (by decide) x1.fKey x1.fNonce x1.fWith (List.take (List.length x9) x11) (Sum.inl x12) hc16, ⟨.inl rfl, .inl rfl, .inl rfl, .inl rfl, trivial⟩⟩, trivial, rfl⟩, ?_⟩
                      refine And.intro (fun hb => ?_) (fun hb => ?_)
                      · replace h := cond_t h hb
                        refine And.intro (fun _ => ?_) (fun h0 => Bool.noConfusion h0)
                        refine ⟨(List.map (fun q : Int => UInt8.ofNat q.toNat) x12), congrArg (List.map fun q : Int => UInt8.ofNat q.toNat) (cut_full x12), ?_⟩
                        obtain ⟨hg, h⟩ := gd h
                        refine And.intro hg ?_
                        obtain ⟨hg, h⟩ := gd h
                        refine And.intro hg ?_
                        refine ⟨(List.take (Int.toNat ((IntKind.wrap .i64 ((List.length x2 : Int) - 16)) - 0)) x2), by first | rfl | simp, ?_⟩
                        let x13 : List Int := (List.take (Int.toNat ((IntKind.wrap .i64 ((List.length x2 : Int) - 16)) - 0)) x2)
                        replace h := nm_at x13 rfl h
                        refine ⟨(List.map (fun q : Int => UInt8.ofNat q.toNat) x13), rfl, ?_⟩
                        let x14 : Bool := ((List.map (fun q : Int => UInt8.ofNat q.toNat) x12) == (List.map (fun q : Int => UInt8.ofNat q.toNat) x13))
                        replace h := nm_at x14 rfl h
                        obtain rfl := some_in h
                        exact ⟨0, [], [], rfl, trivial⟩
                      · replace h := cond_f h hb
                        refine And.intro (fun hb => ?_) (fun hb => ?_)
                        · replace h := cond_t h hb
                          obtain ⟨r14, hc14, h⟩ := bnd h
                          refine ⟨[], _, _, _, ⟨⟨_, fellowshipnum_Num_c er r14 hc14, ⟨.inl rfl, trivial⟩⟩, trivial, rfl⟩, ?_⟩
                          obtain rfl := some_in h
                          exact ⟨0, [], [], rfl, trivial⟩
                        · replace h := cond_f h hb
                          obtain rfl := some_in h
                          exact ⟨0, [], [], rfl, trivial⟩
                    · refine ⟨[false, false, false, true], _, _, _, ⟨⟨_, seal_Open_c er 4 (by decide) x1.fKey x1.fNonce x1.fWith (List.take (List.length x9) x11) (Sum.inr x15) hc16, ⟨.inl rfl, .inl rfl, .inl rfl, .inl rfl, trivial⟩⟩, trivial, rfl⟩, ?_⟩
                      refine And.intro (fun hb => ?_) (fun hb => ?_)
                      · replace h := cond_t h hb
                        refine And.intro (fun h0 => Bool.noConfusion h0) (fun _ => ?_)
                        obtain rfl := some_in h
                        exact ⟨0, [], [], rfl, trivial⟩
                      · replace h := cond_f h hb
                        refine And.intro (fun _ => ?_) (fun h0 => Bool.noConfusion h0)
                        obtain ⟨x16, hc16, h⟩ := bnd h
                        refine ⟨[], _, _, _, ⟨⟨_, fellowshipnum_Num_2_c er x15 x16 hc16, ⟨.inl rfl, trivial⟩⟩, trivial, rfl⟩, ?_⟩
                        obtain rfl := some_in h
                        exact ⟨0, [], [], rfl, trivial⟩
                  · refine ⟨[], _, _, _, ⟨⟨_, seal_Seal_c er 3 (by decide) x1.fKey x1.fNonce x1.fWith x8 (Sum.inr x17) hc17, ⟨.inl rfl, .inl rfl, .inl rfl, .inl rfl, trivial⟩⟩, trivial, rfl⟩, ?_⟩
                    refine And.intro (fun _ => ?_) (fun h0 => Bool.noConfusion h0)
                    obtain rfl := some_in h
                    exact ⟨0, [], [], rfl, trivial⟩
              · refine ⟨[false, false, false, true], _, _, _, ⟨⟨_, seal_Seal_c er 2 (by decide) x1.fKey x1.fNonce x1.fWith x5 (Sum.inr x18) hc18, ⟨.inl rfl, .inl rfl, .inl rfl, ve_full _ _, trivial⟩⟩, trivial, rfl⟩, ?_⟩
                refine And.intro (fun _ => ?_) (fun h0 => Bool.noConfusion h0)
                obtain rfl := some_in h
                exact ⟨0, [], [], rfl, trivial⟩
            · refine ⟨[], _, _, _, ⟨⟨_, seal_Open_c er 1 (by decide) x1.fKey x1.fNonce x1.fWith x2 (Sum.inr x19) hc29, ⟨.inl rfl, .inl rfl, .inl rfl, .inl rfl, trivial⟩⟩, trivial, rfl⟩, ?_⟩
              refine Or.inl ?_
              refine And.intro (fun h0 => Bool.noConfusion h0) (fun _ => ?_)
              obtain ⟨hg, h⟩ := gd h
              refine And.intro hg ?_
              obtain ⟨hg, h⟩ := gd h
              refine And.intro hg ?_
              refine ⟨(List.take (Int.toNat ((IntKind.wrap .i64 ((List.length x2 : Int) - 16)) - 0)) x2), by first | rfl | simp, ?_⟩
              let x20 : List Int := (List.take (Int.toNat ((IntKind.wrap .i64 ((List.length x2 : Int) - 16)) - 0)) x2)
              replace h := nm_at x20 rfl h
              obtain ⟨r29, hc29, h⟩ := bnd h
              rcases r29 with x21 | x29
              · refine ⟨[], _, _, _, ⟨⟨_, seal_Seal_c er 1 (by decide) x1.fKey x1.fNonce x1.fWith x20 (Sum.inl x21) hc29, ⟨.inl rfl, .inl rfl, .inl rfl, .inl rfl, trivial⟩⟩, trivial, rfl⟩, ?_⟩
                refine And.intro (fun h0 => Bool.noConfusion h0) (fun _ => ?_)
                refine And.intro (by decide) ?_
                let x22 : Int := (IntKind.wrap .i64 ((IntKind.wrap .i64 (((List.length x21) : Int) - 1)) - (IntKind.wrap .i64 (Int.tmod x3 16))))
                replace h := nm_at x22 rfl h
                obtain ⟨hg, h⟩ := gd h
                refine And.intro hg ?_
                obtain ⟨hg, h⟩ := gd h
                refine And.intro hg ?_
                let x23 : List Int := (List.set x21 (Int.toNat x22) (bits .u8 .xor (List.getD x21 (Int.toNat x22) 0) x3))
                replace h := nm_at x23 rfl h
                obtain ⟨r28, hc28, h⟩ := bnd h
                rcases r28 with x24 | x27
                · refine ⟨[false, false, false, true], _, _, _, ⟨⟨_, seal_Open_c er 2 (by decide) x1.fKey x1.fNonce x1.fWith (List.take (List.length x21) x23) (Sum.inl x24) hc28, ⟨.inl rfl, .inl rfl, .inl rfl, .inl rfl, trivial⟩⟩, trivial, rfl⟩, ?_⟩
                  refine And.intro (fun hb => ?_) (fun hb => ?_)
                  · replace h := cond_t h hb
                    refine And.intro (fun _ => ?_) (fun h0 => Bool.noConfusion h0)
                    refine ⟨(List.map (fun q : Int => UInt8.ofNat q.toNat) x24), congrArg (List.map fun q : Int => UInt8.ofNat q.toNat) (cut_full x24), ?_⟩
                    obtain ⟨hg, h⟩ := gd h
                    refine And.intro hg ?_
                    obtain ⟨hg, h⟩ := gd h
                    refine And.intro hg ?_
                    refine ⟨(List.take (Int.toNat ((IntKind.wrap .i64 ((List.length x2 : Int) - 16)) - 0)) x2), by first | rfl | simp, ?_⟩
                    let x25 : List Int := (List.take (Int.toNat ((IntKind.wrap .i64 ((List.length x2 : Int) - 16)) - 0)) x2)
                    replace h := nm_at x25 rfl h
                    refine ⟨(List.map (fun q : Int => UInt8.ofNat q.toNat) x25), rfl, ?_⟩
                    let x26 : Bool := ((List.map (fun q : Int => UInt8.ofNat q.toNat) x24) == (List.map (fun q : Int => UInt8.ofNat q.toNat) x25))
                    replace h := nm_at x26 rfl h
                    obtain rfl := some_in h
                    exact ⟨0, [], [], rfl, trivial⟩
                  · replace h := cond_f h hb
                    refine And.intro (fun hb => ?_) (fun hb => ?_)
                    · replace h := cond_t h hb
                      obtain ⟨r26, hc26, h⟩ := bnd h
                      refine ⟨[], _, _, _, ⟨⟨_, fellowshipnum_Num_c er r26 hc26, ⟨.inl rfl, trivial⟩⟩, trivial, rfl⟩, ?_⟩
                      obtain rfl := some_in h
                      exact ⟨0, [], [], rfl, trivial⟩
                    · replace h := cond_f h hb
                      obtain rfl := some_in h
                      exact ⟨0, [], [], rfl, trivial⟩
                · refine ⟨[false, false, false, true], _, _, _, ⟨⟨_, seal_Open_c er 2 (by decide) x1.fKey x1.fNonce x1.fWith (List.take (List.length x21) x23) (Sum.inr x27) hc28, ⟨.inl rfl, .inl rfl, .inl rfl, .inl rfl, trivial⟩⟩, trivial, rfl⟩, ?_⟩
                  refine And.intro (fun hb => ?_) (fun hb => ?_)
                  · replace h := cond_t h hb
                    refine And.intro (fun h0 => Bool.noConfusion h0) (fun _ => ?_)
                    obtain rfl := some_in h
                    exact ⟨0, [], [], rfl, trivial⟩
                  · replace h := cond_f h hb
                    refine And.intro (fun _ => ?_) (fun h0 => Bool.noConfusion h0)
                    obtain ⟨x28, hc28, h⟩ := bnd h
                    refine ⟨[], _, _, _, ⟨⟨_, fellowshipnum_Num_2_c er x27 x28 hc28, ⟨.inl rfl, trivial⟩⟩, trivial, rfl⟩, ?_⟩
                    obtain rfl := some_in h
                    exact ⟨0, [], [], rfl, trivial⟩
              · refine ⟨[], _, _, _, ⟨⟨_, seal_Seal_c er 1 (by decide) x1.fKey x1.fNonce x1.fWith x20 (Sum.inr x29) hc29, ⟨.inl rfl, .inl rfl, .inl rfl, .inl rfl, trivial⟩⟩, trivial, rfl⟩, ?_⟩
                refine And.intro (fun _ => ?_) (fun h0 => Bool.noConfusion h0)
                obtain rfl := some_in h
                exact ⟨0, [], [], rfl, trivial⟩
/- fellowship/fellowshiplaw08.SealBounds -/
def fellowshiplaw08_SealBounds (x30 : List Int) (x31 : Int) : Option Bool :=
  (fellowshiplaw08_alive).bind fun x32 =>
    cond (!x32)
      (some false)
      (nm ((IntKind.wrap .i64 (16382 + (IntKind.wrap .i64 (Int.tmod (IntKind.wrap .u64 x31) 5)))) : Int) fun x33 =>
      if 0 ≤ x33 ∧ x33 ≤ x33 ∧ x33 ≤ 9223372036854775807 ∧ x33 * 1 ≤ 140737488355328 then
        (seal_Seal x30 (List.replicate 12 (0 : Int)) ([] : List Int) (List.replicate (Int.toNat x33) (0 : Int))).bind fun r63 => match r63 with
        | (Sum.inl x34) =>
            if 0 ≤ x33 ∧ x33 ≤ x33 ∧ x33 ≤ 9223372036854775807 ∧ x33 * 1 ≤ 140737488355328 then
              (seal_Seal x30 (List.replicate 12 (0 : Int)) (List.replicate (Int.toNat x33) (0 : Int)) ([] : List Int)).bind fun r47 => match r47 with
              | (Sum.inl x35) =>
                  if 0 ≤ (IntKind.wrap .i64 (x33 + 16)) ∧ (IntKind.wrap .i64 (x33 + 16)) ≤ (IntKind.wrap .i64 (x33 + 16)) ∧ (IntKind.wrap .i64 (x33 + 16)) ≤ 9223372036854775807 ∧ (IntKind.wrap .i64 (x33 + 16)) * 1 ≤ 140737488355328 then
                    nm ((List.replicate (Int.toNat (IntKind.wrap .i64 (x33 + 16))) (0 : Int)) : List Int) fun x36 =>
                    (seal_Open x30 (List.replicate 12 (0 : Int)) ([] : List Int) x36).bind fun r41 => match r41 with
                    | (Sum.inl x37) =>
                        cond (decide (x33 > 16384))
                          (cond (((List.length x34) : Int) == 0)
                            ((fellowshipnum_Num).bind fun _ =>
                              some false)
                            (some false))
                          (nm ((((List.length x34) : Int) == (IntKind.wrap .i64 (x33 + 16))) : Bool) fun x38 =>
                          cond x38
                            ((fellowshipnum_Num).bind fun _ =>
                              some true)
                            (some false))
                    | (Sum.inr x39) =>
                        cond (decide (x33 > 16384))
                          (cond (((List.length x34) : Int) == 0)
                            ((fellowshipnum_Num).bind fun _ =>
                              some false)
                            (some false))
                          (nm ((((List.length x34) : Int) == (IntKind.wrap .i64 (x33 + 16))) : Bool) fun x40 =>
                          cond x40
                            ((fellowshipnum_Num_2 x39).bind fun x41 =>
                              some (!(x41 == 3)))
                            (some false))
                  else none
              | (Sum.inr x42) =>
                  if 0 ≤ (IntKind.wrap .i64 (x33 + 16)) ∧ (IntKind.wrap .i64 (x33 + 16)) ≤ (IntKind.wrap .i64 (x33 + 16)) ∧ (IntKind.wrap .i64 (x33 + 16)) ≤ 9223372036854775807 ∧ (IntKind.wrap .i64 (x33 + 16)) * 1 ≤ 140737488355328 then
                    nm ((List.replicate (Int.toNat (IntKind.wrap .i64 (x33 + 16))) (0 : Int)) : List Int) fun x43 =>
                    (seal_Open x30 (List.replicate 12 (0 : Int)) ([] : List Int) x43).bind fun r47 => match r47 with
                    | (Sum.inl x44) =>
                        cond (decide (x33 > 16384))
                          (cond (((List.length x34) : Int) == 0)
                            ((fellowshipnum_Num).bind fun _ =>
                              some false)
                            (some false))
                          (nm ((((List.length x34) : Int) == (IntKind.wrap .i64 (x33 + 16))) : Bool) fun x45 =>
                          cond x45
                            (some false)
                            (some false))
                    | (Sum.inr x46) =>
                        cond (decide (x33 > 16384))
                          (cond (((List.length x34) : Int) == 0)
                            ((fellowshipnum_Num).bind fun _ =>
                              some false)
                            (some false))
                          (nm ((((List.length x34) : Int) == (IntKind.wrap .i64 (x33 + 16))) : Bool) fun x47 =>
                          cond x47
                            (some false)
                            (some false))
                  else none
            else none
        | (Sum.inr x48) =>
            if 0 ≤ x33 ∧ x33 ≤ x33 ∧ x33 ≤ 9223372036854775807 ∧ x33 * 1 ≤ 140737488355328 then
              (seal_Seal x30 (List.replicate 12 (0 : Int)) (List.replicate (Int.toNat x33) (0 : Int)) ([] : List Int)).bind fun r63 => match r63 with
              | (Sum.inl x49) =>
                  if 0 ≤ (IntKind.wrap .i64 (x33 + 16)) ∧ (IntKind.wrap .i64 (x33 + 16)) ≤ (IntKind.wrap .i64 (x33 + 16)) ∧ (IntKind.wrap .i64 (x33 + 16)) ≤ 9223372036854775807 ∧ (IntKind.wrap .i64 (x33 + 16)) * 1 ≤ 140737488355328 then
                    nm ((List.replicate (Int.toNat (IntKind.wrap .i64 (x33 + 16))) (0 : Int)) : List Int) fun x50 =>
                    (seal_Open x30 (List.replicate 12 (0 : Int)) ([] : List Int) x50).bind fun r54 => match r54 with
                    | (Sum.inl x51) =>
                        cond (decide (x33 > 16384))
                          ((fellowshipnum_Num_2 x48).bind fun x52 =>
                            cond (x52 == 3)
                              ((fellowshipnum_Num).bind fun _ =>
                                some false)
                              (some false))
                          (some false)
                    | (Sum.inr x53) =>
                        cond (decide (x33 > 16384))
                          ((fellowshipnum_Num_2 x48).bind fun x54 =>
                            cond (x54 == 3)
                              ((fellowshipnum_Num).bind fun _ =>
                                some false)
                              (some false))
                          (some false)
                  else none
              | (Sum.inr x55) =>
                  if 0 ≤ (IntKind.wrap .i64 (x33 + 16)) ∧ (IntKind.wrap .i64 (x33 + 16)) ≤ (IntKind.wrap .i64 (x33 + 16)) ∧ (IntKind.wrap .i64 (x33 + 16)) ≤ 9223372036854775807 ∧ (IntKind.wrap .i64 (x33 + 16)) * 1 ≤ 140737488355328 then
                    nm ((List.replicate (Int.toNat (IntKind.wrap .i64 (x33 + 16))) (0 : Int)) : List Int) fun x56 =>
                    (seal_Open x30 (List.replicate 12 (0 : Int)) ([] : List Int) x56).bind fun r63 => match r63 with
                    | (Sum.inl x57) =>
                        cond (decide (x33 > 16384))
                          ((fellowshipnum_Num_2 x48).bind fun x58 =>
                            cond (x58 == 3)
                              ((fellowshipnum_Num_2 x55).bind fun x59 =>
                                cond (x59 == 3)
                                  ((fellowshipnum_Num).bind fun _ =>
                                    some false)
                                  (some false))
                              (some false))
                          (some false)
                    | (Sum.inr x60) =>
                        cond (decide (x33 > 16384))
                          ((fellowshipnum_Num_2 x48).bind fun x61 =>
                            cond (x61 == 3)
                              ((fellowshipnum_Num_2 x55).bind fun x62 =>
                                cond (x62 == 3)
                                  ((fellowshipnum_Num_2 x60).bind fun x63 =>
                                    some (x63 == 3))
                                  (some false))
                              (some false))
                          (some false)
                  else none
            else none
      else none)
theorem fellowshiplaw08_SealBounds_c (x30 : List Int) (x31 : Int) (res : Bool) (h : fellowshiplaw08_SealBounds x30 x31 = some res) :
    Fn Tryd.prog (GE er) 6 [(.dv (.ints .u8 32 x30)), (.int .i64 x31)] [] (.bl res) [] := by
  refine Fn.bodyE (fn := Tryd.f6) (c := _) tabOK mixed (GE_plain er) Tryd.func6 rfl rfl [] [(.dv (.ints .u8 32 x30)), (.int .i64 x31)] [] [] (.bl res) [] rfl rfl rfl rfl rfl rfl .nil 3 ?_
  replace h := (show fellowshiplaw08_SealBounds x30 x31 = _ from h)
  unfold fellowshiplaw08_SealBounds at h
  obtain ⟨x32, hc63, h⟩ := bnd h
  refine ⟨[], _, _, _, ⟨⟨_, fellowshiplaw08_alive_c er x32 hc63, trivial⟩, trivial, rfl⟩, ?_⟩
  refine And.intro (fun hb => ?_) (fun hb => ?_)
  · replace h := cond_t h hb
    obtain rfl := some_in h
    exact ⟨0, [], [], rfl, trivial⟩
  · replace h := cond_f h hb
    refine And.intro (by decide) ?_
    let x33 : Int := (IntKind.wrap .i64 (16382 + (IntKind.wrap .i64 (Int.tmod (IntKind.wrap .u64 x31) 5))))
    replace h := nm_at x33 rfl h
    refine And.intro (by decide) ?_
    refine ⟨(List.replicate 12 (0 : Int)), rfl, 0, (List.length (List.replicate 12 (0 : Int))), ⟨rfl, List.length_replicate ..⟩, ?_⟩
    obtain ⟨hg, h⟩ := gd h
    refine And.intro hg ?_
    refine ⟨(List.replicate (Int.toNat x33) (0 : Int)), rfl, 0, (List.length (List.replicate (Int.toNat x33) (0 : Int))), ⟨rfl, List.length_replicate ..⟩, ?_⟩
    obtain ⟨r63, hc63, h⟩ := bnd h
    rcases r63 with x34 | x48
    · refine ⟨[false, true, false, true], _, _, _, ⟨⟨_, seal_Seal_c er 3 (by decide) x30 (List.replicate 12 (0 : Int)) ([] : List Int) (List.replicate (Int.toNat x33) (0 : Int)) (Sum.inl x34) hc63, ⟨.inl rfl, ve_full _ _, (.inr (.inr ⟨rfl, .inl ⟨_, rfl⟩⟩)), ve_full _ _, trivial⟩⟩, trivial, rfl⟩, ?_⟩
      obtain ⟨hg, h⟩ := gd h
      refine And.intro hg ?_
      refine ⟨(List.replicate (Int.toNat x33) (0 : Int)), rfl, 0, (List.length (List.replicate (Int.toNat x33) (0 : Int))), ⟨rfl, List.length_replicate ..⟩, ?_⟩
      obtain ⟨r47, hc47, h⟩ := bnd h
      rcases r47 with x35 | x42
      · refine ⟨[false, true, true, false], _, _, _, ⟨⟨_, seal_Seal_c er 5 (by decide) x30 (List.replicate 12 (0 : Int)) (List.replicate (Int.toNat x33) (0 : Int)) ([] : List Int) (Sum.inl x35) hc47, ⟨.inl rfl, ve_full _ _, ve_full _ _, (.inr (.inr ⟨rfl, .inl ⟨_, rfl⟩⟩)), trivial⟩⟩, trivial, rfl⟩, ?_⟩
        obtain ⟨hg, h⟩ := gd h
        refine And.intro hg ?_
        refine ⟨(List.replicate (Int.toNat (IntKind.wrap .i64 (x33 + 16))) (0 : Int)), rfl, 0, (List.length (List.replicate (Int.toNat (IntKind.wrap .i64 (x33 + 16))) (0 : Int))), ⟨rfl, List.length_replicate ..⟩, ?_⟩
        let x36 : List Int := (List.replicate (Int.toNat (IntKind.wrap .i64 (x33 + 16))) (0 : Int))
        replace h := nm_at x36 rfl h
        obtain ⟨r41, hc41, h⟩ := bnd h
        rcases r41 with x37 | x39
        · refine ⟨[false, true, false, true], _, _, _, ⟨⟨_, seal_Open_c er 7 (by decide) x30 (List.replicate 12 (0 : Int)) ([] : List Int) x36 (Sum.inl x37) hc41, ⟨.inl rfl, ve_full _ _, (.inr (.inr ⟨rfl, .inl ⟨_, rfl⟩⟩)), ve_full _ _, trivial⟩⟩, trivial, rfl⟩, ?_⟩
          refine And.intro (fun hb => ?_) (fun hb => ?_)
          · replace h := cond_t h hb
            refine And.intro (fun hb => ?_) (fun hb => ?_)
            · replace h := cond_t h hb
              obtain ⟨r37, hc37, h⟩ := bnd h
              refine ⟨[], _, _, _, ⟨⟨_, fellowshipnum_Num_c er r37 hc37, ⟨.inl rfl, trivial⟩⟩, trivial, rfl⟩, ?_⟩
              refine And.intro (fun h0 => Bool.noConfusion h0) (fun _ => ?_)
              obtain rfl := some_in h
              exact ⟨0, [], [], rfl, trivial⟩
            · replace h := cond_f h hb
              obtain rfl := some_in h
              exact ⟨0, [], [], rfl, trivial⟩
          · replace h := cond_f h hb
            refine And.intro (fun _ => ?_) (fun h0 => Bool.noConfusion h0)
            let x38 : Bool := (((List.length x34) : Int) == (IntKind.wrap .i64 (x33 + 16)))
            replace h := nm_at x38 rfl h
            refine And.intro (fun hb => ?_) (fun hb => ?_)
            · replace h := cond_t h hb
              refine And.intro (fun _ => ?_) (fun h0 => Bool.noConfusion h0)
              obtain ⟨r38, hc38, h⟩ := bnd h
              refine ⟨[], _, _, _, ⟨⟨_, fellowshipnum_Num_c er r38 hc38, ⟨.inl rfl, trivial⟩⟩, trivial, rfl⟩, ?_⟩
              obtain rfl := some_in h
              exact ⟨0, [], [], rfl, trivial⟩
            · replace h := cond_f h hb
              obtain rfl := some_in h
              exact ⟨0, [], [], rfl, trivial⟩
        · refine ⟨[false, true, false, true], _, _, _, ⟨⟨_, seal_Open_c er 7 (by decide) x30 (List.replicate 12 (0 : Int)) ([] : List Int) x36 (Sum.inr x39) hc41, ⟨.inl rfl, ve_full _ _, (.inr (.inr ⟨rfl, .inl ⟨_, rfl⟩⟩)), ve_full _ _, trivial⟩⟩, trivial, rfl⟩, ?_⟩
          refine And.intro (fun hb => ?_) (fun hb => ?_)
          · replace h := cond_t h hb
            refine And.intro (fun hb => ?_) (fun hb => ?_)
            · replace h := cond_t h hb
              obtain ⟨r39, hc39, h⟩ := bnd h
              refine ⟨[], _, _, _, ⟨⟨_, fellowshipnum_Num_c er r39 hc39, ⟨.inl rfl, trivial⟩⟩, trivial, rfl⟩, ?_⟩
              refine And.intro (fun h0 => Bool.noConfusion h0) (fun _ => ?_)
              obtain rfl := some_in h
              exact ⟨0, [], [], rfl, trivial⟩
            · replace h := cond_f h hb
              obtain rfl := some_in h
              exact ⟨0, [], [], rfl, trivial⟩
          · replace h := cond_f h hb
            refine And.intro (fun _ => ?_) (fun h0 => Bool.noConfusion h0)
            let x40 : Bool := (((List.length x34) : Int) == (IntKind.wrap .i64 (x33 + 16)))
            replace h := nm_at x40 rfl h
            refine And.intro (fun hb => ?_) (fun hb => ?_)
            · replace h := cond_t h hb
              refine And.intro (fun _ => ?_) (fun h0 => Bool.noConfusion h0)
              obtain ⟨x41, hc41, h⟩ := bnd h
              refine ⟨[], _, _, _, ⟨⟨_, fellowshipnum_Num_2_c er x39 x41 hc41, ⟨.inl rfl, trivial⟩⟩, trivial, rfl⟩, ?_⟩
              obtain rfl := some_in h
              exact ⟨0, [], [], rfl, trivial⟩
            · replace h := cond_f h hb
              obtain rfl := some_in h
              exact ⟨0, [], [], rfl, trivial⟩
      · refine ⟨[false, true, true, false], _, _, _, ⟨⟨_, seal_Seal_c er 5 (by decide) x30 (List.replicate 12 (0 : Int)) (List.replicate (Int.toNat x33) (0 : Int)) ([] : List Int) (Sum.inr x42) hc47, ⟨.inl rfl, ve_full _ _, ve_full _ _, (.inr (.inr ⟨rfl, .inl ⟨_, rfl⟩⟩)), trivial⟩⟩, trivial, rfl⟩, ?_⟩
        obtain ⟨hg, h⟩ := gd h
        refine And.intro hg ?_
        refine ⟨(List.replicate (Int.toNat (IntKind.wrap .i64 (x33 + 16))) (0 : Int)), rfl, 0, (List.length (List.replicate (Int.toNat (IntKind.wrap .i64 (x33 + 16))) (0 : Int))), ⟨rfl, List.length_replicate ..⟩, ?_⟩
        let x43 : List Int := (List.replicate (Int.toNat (IntKind.wrap .i64 (x33 + 16))) (0 : Int))
        replace h := nm_at x43 rfl h
        obtain ⟨r47, hc47, h⟩ := bnd h
        rcases r47 with x44 | x46
        · refine ⟨[false, true, false, true], _, _, _, ⟨⟨_, seal_Open_c er 6 (by decide) x30 (List.replicate 12 (0 : Int)) ([] : List Int) x43 (Sum.inl x44) hc47, ⟨.inl rfl, ve_full _ _, (.inr (.inr ⟨rfl, .inl ⟨_, rfl⟩⟩)), ve_full _ _, trivial⟩⟩, trivial, rfl⟩, ?_⟩
          refine And.intro (fun hb => ?_) (fun hb => ?_)
          · replace h := cond_t h hb
            refine And.intro (fun hb => ?_) (fun hb => ?_)
            · replace h := cond_t h hb
              obtain ⟨r44, hc44, h⟩ := bnd h
              refine ⟨[], _, _, _, ⟨⟨_, fellowshipnum_Num_c er r44 hc44, ⟨.inl rfl, trivial⟩⟩, trivial, rfl⟩, ?_⟩
              refine And.intro (fun h0 => Bool.noConfusion h0) (fun _ => ?_)
              obtain rfl := some_in h
              exact ⟨0, [], [], rfl, trivial⟩
            · replace h := cond_f h hb
              obtain rfl := some_in h
              exact ⟨0, [], [], rfl, trivial⟩
          · replace h := cond_f h hb
            refine And.intro (fun _ => ?_) (fun h0 => Bool.noConfusion h0)
            let x45 : Bool := (((List.length x34) : Int) == (IntKind.wrap .i64 (x33 + 16)))
            replace h := nm_at x45 rfl h
            refine And.intro (fun hb => ?_) (fun hb => ?_)
            · replace h := cond_t h hb
              refine And.intro (fun h0 => Bool.noConfusion h0) (fun _ => ?_)
              obtain rfl := some_in h
              exact ⟨0, [], [], rfl, trivial⟩
            · replace h := cond_f h hb
              obtain rfl := some_in h
              exact ⟨0, [], [], rfl, trivial⟩
        · refine ⟨[false, true, false, true], _, _, _, ⟨⟨_, seal_Open_c er 6 (by decide) x30 (List.replicate 12 (0 : Int)) ([] : List Int) x43 (Sum.inr x46) hc47, ⟨.inl rfl, ve_full _ _, (.inr (.inr ⟨rfl, .inl ⟨_, rfl⟩⟩)), ve_full _ _, trivial⟩⟩, trivial, rfl⟩, ?_⟩
          refine And.intro (fun hb => ?_) (fun hb => ?_)
          · replace h := cond_t h hb
            refine And.intro (fun hb => ?_) (fun hb => ?_)
            · replace h := cond_t h hb
              obtain ⟨r46, hc46, h⟩ := bnd h
              refine ⟨[], _, _, _, ⟨⟨_, fellowshipnum_Num_c er r46 hc46, ⟨.inl rfl, trivial⟩⟩, trivial, rfl⟩, ?_⟩
              refine And.intro (fun h0 => Bool.noConfusion h0) (fun _ => ?_)
              obtain rfl := some_in h
              exact ⟨0, [], [], rfl, trivial⟩
            · replace h := cond_f h hb
              obtain rfl := some_in h
              exact ⟨0, [], [], rfl, trivial⟩
          · replace h := cond_f h hb
            refine And.intro (fun _ => ?_) (fun h0 => Bool.noConfusion h0)
            let x47 : Bool := (((List.length x34) : Int) == (IntKind.wrap .i64 (x33 + 16)))
            replace h := nm_at x47 rfl h
            refine And.intro (fun hb => ?_) (fun hb => ?_)
            · replace h := cond_t h hb
              refine And.intro (fun h0 => Bool.noConfusion h0) (fun _ => ?_)
              obtain rfl := some_in h
              exact ⟨0, [], [], rfl, trivial⟩
            · replace h := cond_f h hb
              obtain rfl := some_in h
              exact ⟨0, [], [], rfl, trivial⟩
    · refine ⟨[false, true, false, true], _, _, _, ⟨⟨_, seal_Seal_c er 3 (by decide) x30 (List.replicate 12 (0 : Int)) ([] : List Int) (List.replicate (Int.toNat x33) (0 : Int)) (Sum.inr x48) hc63, ⟨.inl rfl, ve_full _ _, (.inr (.inr ⟨rfl, .inl ⟨_, rfl⟩⟩)), ve_full _ _, trivial⟩⟩, trivial, rfl⟩, ?_⟩
      obtain ⟨hg, h⟩ := gd h
      refine And.intro hg ?_
      refine ⟨(List.replicate (Int.toNat x33) (0 : Int)), rfl, 0, (List.length (List.replicate (Int.toNat x33) (0 : Int))), ⟨rfl, List.length_replicate ..⟩, ?_⟩
      obtain ⟨r63, hc63, h⟩ := bnd h
      rcases r63 with x49 | x55
      · refine ⟨[false, true, true, false], _, _, _, ⟨⟨_, seal_Seal_c er 4 (by decide) x30 (List.replicate 12 (0 : Int)) (List.replicate (Int.toNat x33) (0 : Int)) ([] : List Int) (Sum.inl x49) hc63, ⟨.inl rfl, ve_full _ _, ve_full _ _, (.inr (.inr ⟨rfl, .inl ⟨_, rfl⟩⟩)), trivial⟩⟩, trivial, rfl⟩, ?_⟩
        obtain ⟨hg, h⟩ := gd h
        refine And.intro hg ?_
        refine ⟨(List.replicate (Int.toNat (IntKind.wrap .i64 (x33 + 16))) (0 : Int)), rfl, 0, (List.length (List.replicate (Int.toNat (IntKind.wrap .i64 (x33 + 16))) (0 : Int))), ⟨rfl, List.length_replicate ..⟩, ?_⟩
        let x50 : List Int := (List.replicate (Int.toNat (IntKind.wrap .i64 (x33 + 16))) (0 : Int))
        replace h := nm_at x50 rfl h
        obtain ⟨r54, hc54, h⟩ := bnd h
        rcases r54 with x51 | x53
        · refine ⟨[false, true, false, true], _, _, _, ⟨⟨_, seal_Open_c er 6 (by decide) x30 (List.replicate 12 (0 : Int)) ([] : List Int) x50 (Sum.inl x51) hc54, ⟨.inl rfl, ve_full _ _, (.inr (.inr ⟨rfl, .inl ⟨_, rfl⟩⟩)), ve_full _ _, trivial⟩⟩, trivial, rfl⟩, ?_⟩
          refine And.intro (fun hb => ?_) (fun hb => ?_)
          · replace h := cond_t h hb
            refine And.intro (fun _ => ?_) (fun h0 => Bool.noConfusion h0)
            obtain ⟨x52, hc52, h⟩ := bnd h
            refine ⟨[], _, _, _, ⟨⟨_, fellowshipnum_Num_2_c er x48 x52 hc52, ⟨.inl rfl, trivial⟩⟩, trivial, rfl⟩, ?_⟩
            refine And.intro (fun hb => ?_) (fun hb => ?_)
            · replace h := cond_t h hb
              obtain ⟨r52, hc52, h⟩ := bnd h
              refine ⟨[], _, _, _, ⟨⟨_, fellowshipnum_Num_c er r52 hc52, ⟨.inl rfl, trivial⟩⟩, trivial, rfl⟩, ?_⟩
              refine And.intro (fun h0 => Bool.noConfusion h0) (fun _ => ?_)
              obtain rfl := some_in h
              exact ⟨0, [], [], rfl, trivial⟩
            · replace h := cond_f h hb
              obtain rfl := some_in h
              exact ⟨0, [], [], rfl, trivial⟩
          · replace h := cond_f h hb
            refine And.intro (fun h0 => Bool.noConfusion h0) (fun _ => ?_)
            obtain rfl := some_in h
            exact ⟨0, [], [], rfl, trivial⟩
        · refine ⟨[false, true, false, true], _, _, _, ⟨⟨_, seal_Open_c er 6 (by decide) x30 (List.replicate 12 (0 : Int)) ([] : List Int) x50 (Sum.inr x53) hc54, ⟨.inl rfl, ve_full _ _, (.inr (.inr ⟨rfl, .inl ⟨_, rfl⟩⟩)), ve_full _ _, trivial⟩⟩, trivial, rfl⟩, ?_⟩
          refine And.intro (fun hb => ?_) (fun hb => ?_)
          · replace h := cond_t h hb
            refine And.intro (fun _ => ?_) (fun h0 => Bool.noConfusion h0)
            obtain ⟨x54, hc54, h⟩ := bnd h
            refine ⟨[], _, _, _, ⟨⟨_, fellowshipnum_Num_2_c er x48 x54 hc54, ⟨.inl rfl, trivial⟩⟩, trivial, rfl⟩, ?_⟩
            refine And.intro (fun hb => ?_) (fun hb => ?_)
            · replace h := cond_t h hb
              obtain ⟨r54, hc54, h⟩ := bnd h
              refine ⟨[], _, _, _, ⟨⟨_, fellowshipnum_Num_c er r54 hc54, ⟨.inl rfl, trivial⟩⟩, trivial, rfl⟩, ?_⟩
              refine And.intro (fun h0 => Bool.noConfusion h0) (fun _ => ?_)
              obtain rfl := some_in h
              exact ⟨0, [], [], rfl, trivial⟩
            · replace h := cond_f h hb
              obtain rfl := some_in h
              exact ⟨0, [], [], rfl, trivial⟩
          · replace h := cond_f h hb
            refine And.intro (fun h0 => Bool.noConfusion h0) (fun _ => ?_)
            obtain rfl := some_in h
            exact ⟨0, [], [], rfl, trivial⟩
      · refine ⟨[false, true, true, false], _, _, _, ⟨⟨_, seal_Seal_c er 4 (by decide) x30 (List.replicate 12 (0 : Int)) (List.replicate (Int.toNat x33) (0 : Int)) ([] : List Int) (Sum.inr x55) hc63, ⟨.inl rfl, ve_full _ _, ve_full _ _, (.inr (.inr ⟨rfl, .inl ⟨_, rfl⟩⟩)), trivial⟩⟩, trivial, rfl⟩, ?_⟩
        obtain ⟨hg, h⟩ := gd h
        refine And.intro hg ?_
        refine ⟨(List.replicate (Int.toNat (IntKind.wrap .i64 (x33 + 16))) (0 : Int)), rfl, 0, (List.length (List.replicate (Int.toNat (IntKind.wrap .i64 (x33 + 16))) (0 : Int))), ⟨rfl, List.length_replicate ..⟩, ?_⟩
        let x56 : List Int := (List.replicate (Int.toNat (IntKind.wrap .i64 (x33 + 16))) (0 : Int))
        replace h := nm_at x56 rfl h
        obtain ⟨r63, hc63, h⟩ := bnd h
        rcases r63 with x57 | x60
        · refine ⟨[false, true, false, true], _, _, _, ⟨⟨_, seal_Open_c er 5 (by decide) x30 (List.replicate 12 (0 : Int)) ([] : List Int) x56 (Sum.inl x57) hc63, ⟨.inl rfl, ve_full _ _, (.inr (.inr ⟨rfl, .inl ⟨_, rfl⟩⟩)), ve_full _ _, trivial⟩⟩, trivial, rfl⟩, ?_⟩
          refine And.intro (fun hb => ?_) (fun hb => ?_)
          · replace h := cond_t h hb
            refine And.intro (fun _ => ?_) (fun h0 => Bool.noConfusion h0)
            obtain ⟨x58, hc59, h⟩ := bnd h
            refine ⟨[], _, _, _, ⟨⟨_, fellowshipnum_Num_2_c er x48 x58 hc59, ⟨.inl rfl, trivial⟩⟩, trivial, rfl⟩, ?_⟩
            refine And.intro (fun hb => ?_) (fun hb => ?_)
            · replace h := cond_t h hb
              obtain ⟨x59, hc59, h⟩ := bnd h
              refine ⟨[], _, _, _, ⟨⟨_, fellowshipnum_Num_2_c er x55 x59 hc59, ⟨.inl rfl, trivial⟩⟩, trivial, rfl⟩, ?_⟩
              refine And.intro (fun hb => ?_) (fun hb => ?_)
              · replace h := cond_t h hb
                obtain ⟨r59, hc59, h⟩ := bnd h
                refine ⟨[], _, _, _, ⟨⟨_, fellowshipnum_Num_c er r59 hc59, ⟨.inl rfl, trivial⟩⟩, trivial, rfl⟩, ?_⟩
                obtain rfl := some_in h
                exact ⟨0, [], [], rfl, trivial⟩
              · replace h := cond_f h hb
                obtain rfl := some_in h
                exact ⟨0, [], [], rfl, trivial⟩
            · replace h := cond_f h hb
              obtain rfl := some_in h
              exact ⟨0, [], [], rfl, trivial⟩
          · replace h := cond_f h hb
            refine And.intro (fun h0 => Bool.noConfusion h0) (fun _ => ?_)
            obtain rfl := some_in h
            exact ⟨0, [], [], rfl, trivial⟩
        · refine ⟨[false, true, false, true], _, _, _, ⟨⟨_, seal_Open_c er 5 (by decide) x30 (List.replicate 12 (0 : Int)) ([] : List Int) x56 (Sum.inr x60) hc63, ⟨.inl rfl, ve_full _ _, (.inr (.inr ⟨rfl, .inl ⟨_, rfl⟩⟩)), ve_full _ _, trivial⟩⟩, trivial, rfl⟩, ?_⟩
          refine And.intro (fun hb => ?_) (fun hb => ?_)
          · replace h := cond_t h hb
            refine And.intro (fun _ => ?_) (fun h0 => Bool.noConfusion h0)
            obtain ⟨x61, hc63, h⟩ := bnd h
            refine ⟨[], _, _, _, ⟨⟨_, fellowshipnum_Num_2_c er x48 x61 hc63, ⟨.inl rfl, trivial⟩⟩, trivial, rfl⟩, ?_⟩
            refine And.intro (fun hb => ?_) (fun hb => ?_)
            · replace h := cond_t h hb
              obtain ⟨x62, hc63, h⟩ := bnd h
              refine ⟨[], _, _, _, ⟨⟨_, fellowshipnum_Num_2_c er x55 x62 hc63, ⟨.inl rfl, trivial⟩⟩, trivial, rfl⟩, ?_⟩
              refine And.intro (fun hb => ?_) (fun hb => ?_)
              · replace h := cond_t h hb
                obtain ⟨x63, hc63, h⟩ := bnd h
                refine ⟨[], _, _, _, ⟨⟨_, fellowshipnum_Num_2_c er x60 x63 hc63, ⟨.inl rfl, trivial⟩⟩, trivial, rfl⟩, ?_⟩
                obtain rfl := some_in h
                exact ⟨0, [], [], rfl, trivial⟩
              · replace h := cond_f h hb
                obtain rfl := some_in h
                exact ⟨0, [], [], rfl, trivial⟩
            · replace h := cond_f h hb
              obtain rfl := some_in h
              exact ⟨0, [], [], rfl, trivial⟩
          · replace h := cond_f h hb
            refine And.intro (fun h0 => Bool.noConfusion h0) (fun _ => ?_)
            obtain rfl := some_in h
            exact ⟨0, [], [], rfl, trivial⟩
end
end Go.Eng
