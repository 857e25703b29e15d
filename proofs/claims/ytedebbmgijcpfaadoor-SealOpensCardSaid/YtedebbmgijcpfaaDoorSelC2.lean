/-
  Part of a proof: SelC2.
-/
import Derived.Test.YtedebbmgijcpfaaDoorSelC1
set_option linter.unusedVariables false
set_option linter.unusedSimpArgs false
set_option linter.unusedVariables false
set_option linter.unusedSimpArgs false
namespace Go.Eng
open Go.Proofs
set_option maxRecDepth 100000
set_option maxHeartbeats 4000000
section
variable (er : Nat -> ErrV)
theorem fnum_Num_2_c (x50 : Nat) (res : Int) (h : fnum_Num_2 x50 = some res) :
  Fn Tryd.prog (GE er) 9 [(errA er x50)] [] (.int .i64 res) [] := by
 refine bE er Tryd.func9 rfl rfl [] [(errA er x50)] [] [] (.int .i64 res) [] rfl rfl rfl rfl rfl rfl .nil 3 ?_
 replace h := (show fnum_Num_2 x50 = _ from h)
 unfold fnum_Num_2 at h
 refine And.intro (fun h0 => Bool.noConfusion h0) (fun _ => ?_)
 refine Or.inl ?_
 refine ⟨(List.length [1, 2, 3, 4, 5, 6, 7, 8, 9, 10, 11, 12, 13, 14, 15, 16, 17, 18, 19]), (rw_ (fun q => errD er q) 0 [1, 2, 3, 4, 5, 6, 7, 8, 9, 10, 11, 12, 13, 14, 15, 16, 17, 18, 19]), ⟨rfl, fun j hj => match j, hj with | 0, _ => rfl | 1, _ => rfl | 2, _ => rfl | 3, _ => rfl | 4, _ => rfl | 5, _ => rfl | 6, _ => rfl | 7, _ => rfl | 8, _ => rfl | 9, _ => rfl | 10, _ => rfl | 11, _ => rfl | 12, _ => rfl | 13, _ => rfl | 14, _ => rfl | 15, _ => rfl | 16, _ => rfl | 17, _ => rfl | 18, _ => rfl | _ + 19, hj => absurd hj (by omega)⟩, ?_⟩
 refine Or.inl ?_
 let x51 : List Nat := [1, 2, 3, 4, 5, 6, 7, 8, 9, 10, 11, 12, 13, 14, 15, 16, 17, 18, 19]
 replace h := nm_at x51 rfl h
 obtain ⟨r1_0_52, hl1_52, hr1_52⟩ := bnd h
 refine Or.inr ⟨[29], {p : Unit // (Sum.inl p) = r1_0_52}, ⟨fun | ⟨(), _⟩ => [(2, (.int .i64 0))], fun | ⟨(), _⟩ => [], fun _ => 0⟩, 0, ?_, ?_⟩
 ·rintro ⟨⟨⟩, hp⟩
  subst hp
  replace h := hr1_52
  obtain rfl := some_in h
  exact ⟨0, [], [], rfl, trivial⟩
 ·replace h := hl1_52
  refine Or.inl ?_
  refine ⟨[], {x : Nat × Int // fnum_Num_2_l1 x50 x51 x.1 x.2 = some r1_0_52}, ⟨fun | ⟨(n1, x53), _⟩ => [(2, (.int .i64 0)), (30, (.int .i64 x53))], fun | ⟨(n1, x53), _⟩ => [], fun | ⟨(n1, x53), _⟩ => n1⟩, [], [], ⟨(FUEL, 0), h⟩, ⟨rfl, ⟨rfl, rfl, trivial⟩, ⟨rfl, trivial⟩, rfl⟩, ?_⟩
  rintro ⟨⟨n1, x53⟩, h⟩
  cases n1 with
  | zero => exact no_none h
  | succ n1 =>
   replace h := (show fnum_Num_2_l1 x50 x51 (n1 + 1) x53 = _ from h)
   replace h := (fnum_Num_2_l1.eq_2 .. ).symm.trans h
   refine And.intro (fun hb => ?_) (fun hb => ?_)
   ·replace h := cond_t h hb
    refine Or.inl ?_
    obtain ⟨hg, h⟩ := gd h
    refine And.intro hg ?_
    obtain ⟨x54, hc54, h⟩ := bnd h
    refine ⟨[], _, _, _, ⟨⟨_, is_fn (fun _ h => h) x50 (List.getD x51 (Int.toNat x53) 0) x54 hc54, ⟨.inl rfl, .inl rfl, trivial⟩⟩, trivial, rfl⟩, ?_⟩
    refine And.intro (fun hb => ?_) (fun hb => ?_)
    ·replace h := cond_t h hb
     obtain rfl := some_in h
     replace h := hr1_52
     obtain rfl := some_in h
     exact ⟨0, [], [], rfl, trivial⟩
    ·replace h := cond_f h hb
     exact ⟨⟨(n1, (IntKind.wrap .i64 (x53 + 1))), h⟩, [], ⟨rfl, ⟨rfl, rfl, trivial⟩, ⟨rfl, trivial⟩, rfl⟩, Nat.lt_succ_self _⟩
   ·replace h := cond_f h hb
    exact ⟨[], [], ⟨(), some_in h⟩, [], rfl, ⟨rfl, trivial⟩, ⟨rfl, trivial⟩, rfl⟩
theorem fr08_Open_c (k0 : Nat) (hn : [k0].Nodup) (x29 : List Int) (x30 : List Int) (x31 : List Int) (x32 : List Int) (res : Int × (List Int)) (h : fr08_Open x29 x30 x31 x32 = some res) :
  Fn Tryd.prog (GE er) 12 [(.dv (.ints .u8 32 x29)), (.dv (.roI .u8 x30)), (.dv (.roI .u8 x31)), (.dv (.roI .u8 x32))] [] (.tup [(.sl k0 [] ly5 0 (List.length res.2)), (.int .i64 res.1)]) [(k0, (.rowI .u8 res.2))] := by
 refine bE er Tryd.func12 rfl rfl [(2, k0)] [(.dv (.ints .u8 32 x29)), (.dv (.roI .u8 x30)), (.dv (.roI .u8 x31)), (.dv (.roI .u8 x32))] [] [2] (.tup [(.sl 2 [] ly5 0 (List.length res.2)), (.int .i64 res.1)]) [(.rowI .u8 res.2)] rfl rfl rfl rfl rfl rfl hn 3 ?_
 replace h := (show fr08_Open x29 x30 x31 x32 = _ from h)
 unfold fr08_Open at h
 refine And.intro (fun hb => ?_) (fun hb => ?_)
 ·replace h := cond_t h hb
  obtain rfl := some_in h
  exact ⟨1, [(8, (.rowI .u8 ([] : List Int)))], [], rfl, rfl, trivial⟩
 ·replace h := cond_f h hb
  refine And.intro (fun hb => ?_) (fun hb => ?_)
  ·replace h := cond_t h hb
   obtain rfl := some_in h
   exact ⟨1, [(8, (.rowI .u8 ([] : List Int)))], [], rfl, rfl, trivial⟩
  ·replace h := cond_f h hb
   refine And.intro (fun hb => ?_) (fun hb => ?_)
   ·replace h := cond_t h hb
    obtain rfl := some_in h
    exact ⟨1, [(8, (.rowI .u8 ([] : List Int)))], [], rfl, rfl, trivial⟩
   ·replace h := cond_f h hb
    refine And.intro (fun hb => ?_) (fun hb => ?_)
    ·replace h := cond_t h hb
     obtain rfl := some_in h
     exact ⟨1, [(8, (.rowI .u8 ([] : List Int)))], [], rfl, rfl, trivial⟩
    ·replace h := cond_f h hb
     obtain ⟨hg, h⟩ := gd h
     refine And.intro hg ?_
     obtain ⟨hg, h⟩ := gd h
     refine And.intro hg ?_
     refine ⟨(List.take (Int.toNat ((IntKind.wrap .i64 ((List.length x32 : Int) - 16)) - 0)) x32), by first | rfl | simp, ?_⟩
     let x33 : List Int := (List.take (Int.toNat ((IntKind.wrap .i64 ((List.length x32 : Int) - 16)) - 0)) x32)
     replace h := nm_at x33 rfl h
     obtain ⟨x34, hc39, h⟩ := bnd h
     refine ⟨[], _, _, _, ⟨⟨_, fr08_code_c er 1 (by decide) x29 x30 x31 x33 x34 hc39, ⟨.inl rfl, .inl rfl, .inl rfl, .inl rfl, trivial⟩⟩, trivial, rfl⟩, ?_⟩
     refine Or.inl ?_
     refine ⟨(List.map (fun q : Int => UInt8.ofNat q.toNat) (List.take 16 x34)), rfl, ?_⟩
     let x35 : List UInt8 := (List.map (fun q : Int => UInt8.ofNat q.toNat) (List.take 16 x34))
     replace h := nm_at x35 rfl h
     obtain ⟨hg, h⟩ := gd h
     refine And.intro hg ?_
     refine ⟨(List.take (Int.toNat ((List.length x32 : Int) - (IntKind.wrap .i64 ((List.length x32 : Int) - 16)))) (List.drop (Int.toNat (IntKind.wrap .i64 ((List.length x32 : Int) - 16))) x32)), by first | rfl | simp, ?_⟩
     let x36 : List Int := (List.take (Int.toNat ((List.length x32 : Int) - (IntKind.wrap .i64 ((List.length x32 : Int) - 16)))) (List.drop (Int.toNat (IntKind.wrap .i64 ((List.length x32 : Int) - 16))) x32))
     replace h := nm_at x36 rfl h
     refine ⟨(List.map (fun q : Int => UInt8.ofNat q.toNat) x36), rfl, ?_⟩
     let x37 : Bool := (!(x35 == (List.map (fun q : Int => UInt8.ofNat q.toNat) x36)))
     replace h := nm_at x37 rfl h
     refine And.intro (fun hb => ?_) (fun hb => ?_)
     ·replace h := cond_t h hb
      obtain rfl := some_in h
      exact ⟨0, [(8, (.rowI .u8 ([] : List Int)))], [], rfl, rfl, trivial⟩
     ·replace h := cond_f h hb
      obtain ⟨hg, h⟩ := gd h
      refine And.intro hg ?_
      obtain ⟨hg, h⟩ := gd h
      refine And.intro hg ?_
      refine ⟨(List.take (Int.toNat ((IntKind.wrap .i64 ((List.length x32 : Int) - 16)) - 0)) x32), by first | rfl | simp, ?_⟩
      let x38 : List Int := (List.take (Int.toNat ((IntKind.wrap .i64 ((List.length x32 : Int) - 16)) - 0)) x32)
      replace h := nm_at x38 rfl h
      obtain ⟨x39, hc39, h⟩ := bnd h
      refine ⟨[], _, _, _, ⟨⟨_, fr06_Turn_c er 2 (by decide) x29 1 x30 x38 x39 hc39, ⟨.inl rfl, .inl rfl, .inl rfl, .inl rfl, trivial⟩⟩, trivial, rfl⟩, ?_⟩
      refine Or.inl ?_
      obtain rfl := some_in h
      exact ⟨0, [], [], rfl, rfl, trivial⟩
theorem fl08_SealOpens_c (x23 : T_fl08_Case) (x24 : List Int) (res : Bool) (h : fl08_SealOpens x23 x24 = some res) :
  Fn Tryd.prog (GE er) 4 [(.dv (T_fl08_Case.dv x23)), (.dv (.roI .u8 x24))] [] (.bl res) [] := by
 refine bE er Tryd.func4 rfl rfl [] [(.dv (T_fl08_Case.dv x23)), (.dv (.roI .u8 x24))] [] [] (.bl res) [] rfl rfl rfl rfl rfl rfl .nil 3 ?_
 replace h := (show fl08_SealOpens x23 x24 = _ from h)
 unfold fl08_SealOpens at h
 obtain ⟨x25, hc38, h⟩ := bnd h
 refine ⟨[], _, _, _, ⟨⟨_, fl08_alive_c er x25 hc38, trivial⟩, trivial, rfl⟩, ?_⟩
 refine And.intro (fun hb => ?_) (fun hb => ?_)
 ·replace h := cond_t h hb
  obtain rfl := some_in h
  exact ⟨0, [], [], rfl, trivial⟩
 ·replace h := cond_f h hb
  refine And.intro (fun hb => ?_) (fun hb => ?_)
  ·replace h := cond_t h hb
   obtain rfl := some_in h
   exact ⟨0, [], [], rfl, trivial⟩
  ·replace h := cond_f h hb
   refine And.intro (fun hb => ?_) (fun hb => ?_)
   ·replace h := cond_t h hb
    obtain rfl := some_in h
    exact ⟨0, [], [], rfl, trivial⟩
   ·replace h := cond_f h hb
    refine And.intro (fun hb => ?_) (fun hb => ?_)
    ·replace h := cond_t h hb
     obtain rfl := some_in h
     exact ⟨0, [], [], rfl, trivial⟩
    ·replace h := cond_f h hb
     obtain ⟨r38, hc38, h⟩ := bnd h
     obtain ⟨x26, x27⟩ := r38
     refine ⟨[], _, _, _, ⟨⟨_, fnum_Bytes_c er 1 (by decide) x24 (x26, x27) hc38, ⟨.inl rfl, trivial⟩⟩, trivial, rfl⟩, ?_⟩
     obtain ⟨r38, hc38, h⟩ := bnd h
     rcases r38 with x28 | x33
     ·refine ⟨[false, false, false, true], _, _, _, ⟨⟨_, seal_Open_c er 2 (by decide) x23.fKey x23.fNonce x23.fWith (List.take (Int.toNat ((List.length x24 : Int) - 0)) (List.drop (0 + 0) x27)) (Sum.inl x28) hc38, ⟨.inl rfl, .inl rfl, .inl rfl, .inl rfl, trivial⟩⟩, trivial, rfl⟩, ?_⟩
      refine Or.inl ?_
      obtain ⟨r32, hc32, h⟩ := bnd h
      obtain ⟨x29, x30⟩ := r32
      refine ⟨[], _, _, _, ⟨⟨_, fr08_Open_c er 3 (by decide) x23.fKey x23.fNonce x23.fWith x24 (x29, x30) hc32, ⟨.inl rfl, .inl rfl, .inl rfl, .inl rfl, trivial⟩⟩, trivial, rfl⟩, ?_⟩
      refine Or.inl ?_
      refine ⟨(List.map (fun q : Int => UInt8.ofNat q.toNat) x28), congrArg (List.map fun q : Int => UInt8.ofNat q.toNat) (cut_full x28), ?_⟩
      refine ⟨(List.map (fun q : Int => UInt8.ofNat q.toNat) x30), congrArg (List.map fun q : Int => UInt8.ofNat q.toNat) (cut_full x30), ?_⟩
      let x31 : Bool := ((List.map (fun q : Int => UInt8.ofNat q.toNat) x28) == (List.map (fun q : Int => UInt8.ofNat q.toNat) x30))
      replace h := nm_at x31 rfl h
      refine And.intro (fun hb => ?_) (fun hb => ?_)
      ·replace h := cond_t h hb
       obtain ⟨r32, hc32, h⟩ := bnd h
       refine ⟨[], _, _, _, ⟨⟨_, fnum_Num_c er r32 hc32, ⟨.inl rfl, trivial⟩⟩, trivial, rfl⟩, ?_⟩
       refine And.intro (fun hb => ?_) (fun hb => ?_)
       ·replace h := cond_t h hb
        obtain ⟨x32, hc32, h⟩ := bnd h
        refine ⟨[], _, _, _, ⟨⟨_, fnum_Kept_2_c er 1 (by decide) (0 + 0) (Int.toNat ((List.length x24 : Int) - 0)) x26 x24 x27 x32 hc32, ⟨.inl rfl, .inl rfl, trivial⟩⟩, ⟨⟨rfl, rfl⟩, trivial⟩, rfl⟩, ?_⟩
        obtain rfl := some_in h
        exact ⟨0, [], [], rfl, trivial⟩
       ·replace h := cond_f h hb
        obtain rfl := some_in h
        exact ⟨0, [], [], rfl, trivial⟩
      ·replace h := cond_f h hb
       obtain rfl := some_in h
       exact ⟨0, [], [], rfl, trivial⟩
     ·refine ⟨[false, false, false, true], _, _, _, ⟨⟨_, seal_Open_c er 2 (by decide) x23.fKey x23.fNonce x23.fWith (List.take (Int.toNat ((List.length x24 : Int) - 0)) (List.drop (0 + 0) x27)) (Sum.inr x33) hc38, ⟨.inl rfl, .inl rfl, .inl rfl, .inl rfl, trivial⟩⟩, trivial, rfl⟩, ?_⟩
      obtain ⟨r38, hc38, h⟩ := bnd h
      obtain ⟨x34, x35⟩ := r38
      refine ⟨[], _, _, _, ⟨⟨_, fr08_Open_c er 2 (by decide) x23.fKey x23.fNonce x23.fWith x24 (x34, x35) hc38, ⟨.inl rfl, .inl rfl, .inl rfl, .inl rfl, trivial⟩⟩, trivial, rfl⟩, ?_⟩
      refine Or.inl ?_
      refine ⟨(List.map (fun q : Int => UInt8.ofNat q.toNat) []), rfl, ?_⟩
      refine ⟨(List.map (fun q : Int => UInt8.ofNat q.toNat) x35), congrArg (List.map fun q : Int => UInt8.ofNat q.toNat) (cut_full x35), ?_⟩
      let x36 : Bool := ((List.map (fun q : Int => UInt8.ofNat q.toNat) []) == (List.map (fun q : Int => UInt8.ofNat q.toNat) x35))
      replace h := nm_at x36 rfl h
      refine And.intro (fun hb => ?_) (fun hb => ?_)
      ·replace h := cond_t h hb
       obtain ⟨x37, hc38, h⟩ := bnd h
       refine ⟨[], _, _, _, ⟨⟨_, fnum_Num_2_c er x33 x37 hc38, ⟨.inl rfl, trivial⟩⟩, trivial, rfl⟩, ?_⟩
       refine And.intro (fun hb => ?_) (fun hb => ?_)
       ·replace h := cond_t h hb
        obtain ⟨x38, hc38, h⟩ := bnd h
        refine ⟨[], _, _, _, ⟨⟨_, fnum_Kept_2_c er 1 (by decide) (0 + 0) (Int.toNat ((List.length x24 : Int) - 0)) x26 x24 x27 x38 hc38, ⟨.inl rfl, .inl rfl, trivial⟩⟩, ⟨⟨rfl, rfl⟩, trivial⟩, rfl⟩, ?_⟩
        obtain rfl := some_in h
        exact ⟨0, [], [], rfl, trivial⟩
       ·replace h := cond_f h hb
        obtain rfl := some_in h
        exact ⟨0, [], [], rfl, trivial⟩
      ·replace h := cond_f h hb
       obtain rfl := some_in h
       exact ⟨0, [], [], rfl, trivial⟩
end
end Go.Eng
