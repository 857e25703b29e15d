/-
  Part of a proof: SelC2.
-/
import Derived.Test.YtedebbmgijcpfaaDoorSelC1
set_option linter.unusedVariables false
set_option linter.unusedSimpArgs false
set_option linter.unusedVariables false
set_option linter.unusedSimpArgs false
namespace Go.Eng
open Go.Proofs
set_option maxRecDepth 100000
set_option maxHeartbeats 4000000
section
variable (er : Nat -> ErrV)
theorem fnum_Num_2_c (x50 : Nat) (res : Int) (h : fnum_Num_2 x50 = some res) :
  Fn Tryd.prog (GE er) 9 [(errA er x50)] [] (.int .i64 res) [] := by
 refine bE er Tryd.func9 rfl rfl [] [(errA er x50)] [] [] (.int .i64 res) [] rfl rfl rfl rfl rfl rfl .nil 3 ?_
 replace h := (show fnum_Num_2 x50 = _ from h)
 unfold fnum_Num_2 at h
 refine And.intro (fun h0 => Bool.noConfusion h0) (fun _ => ?_)
 refine Or.inl ?_
 refine ⟨(List.length [1, 2, 3, 4, 5, 6, 7, 8, 9, 10, 11, 12, 13, 14, 15, 16, 17, 18, 19]), (rw_ (fun q => errD er q) 0 [1, 2, 3, 4, 5, 6, 7, 8, 9, 10, 11, 12, 13, 14, 15, 16, 17, 18, 19]), ⟨rfl, fun j hj => match j, hj with | 0, _ => rfl | 1, _ => rfl | 2, _ => rfl | 3, _ => rfl | 4, _ => rfl | 5, _ => rfl | 6, _ => rfl | 7, _ => rfl | 8, _ => rfl | 9, _ => rfl | 10, _ => rfl | 11, _ => rfl | 12, _ => rfl | 13, _ => rfl | 14, _ => rfl | 15, _ => rfl | 16, _ => rfl | 17, _ => rfl | 18, _ => rfl | _ + 19, hj => absurd hj (by omega)⟩, ?_⟩
 refine Or.inl ?_
 let x51 : List Nat := [1, 2, 3, 4, 5, 6, 7, 8, 9, 10, 11, 12, 13, 14, 15, 16, 17, 18, 19]
 replace h := nm_at x51 rfl h
 obtain ⟨r1_0_52, hl1_52, hr1_52⟩ := bnd h
 refine Or.inr ⟨[29], {p : Unit // (Sum.inl p) = r1_0_52}, ⟨fun | ⟨(), _⟩ => [(2, (.int .i64 0))], fun | ⟨(), _⟩ => [], fun _ => 0⟩, 0, ?_, ?_⟩
 ·rintro ⟨⟨⟩, hp⟩
  subst hp
  replace h := hr1_52
  obtain rfl := some_in h
  exact ⟨0, [], [], rfl, trivial⟩
 ·replace h := hl1_52
  refine Or.inl ?_
  refine ⟨[], {x : Nat × Int // fnum_Num_2_l1 x50 x51 x.1 x.2 = some r1_0_52}, ⟨fun | ⟨(n1, x53), _⟩ => [(2, (.int .i64 0)), (30, (.int .i64 x53))], fun | ⟨(n1, x53), _⟩ => [], fun | ⟨(n1, x53), _⟩ => n1⟩, [], [], ⟨(FUEL, 0), h⟩, ⟨rfl, ⟨rfl, rfl, trivial⟩, ⟨rfl, trivial⟩, rfl⟩, ?_⟩
  rintro ⟨⟨n1, x53⟩, h⟩
  cases n1 with
  | zero => exact no_none h
  | succ n1 =>
   replace h := (show fnum_Num_2_l1 x50 x51 (n1 + 1) x53 = _ from h)
   replace h := (fnum_Num_2_l1.eq_2 .. ).symm.trans h
   refine And.intro (fun hb => ?_) (fun hb => ?_)
   ·replace h := cond_t h hb
    refine Or.inl ?_
    obtain ⟨hg, h⟩ := gd h
    refine And.intro hg ?_
    obtain ⟨x54, hc54, h⟩ := bnd h
    refine ⟨[], _, _, _, ⟨⟨_, is_fn (fun _ h => h) x50 (List.getD x51 (Int.toNat x53) 0) x54 hc54, ⟨.inl rfl, .inl rfl, trivial⟩⟩, trivial, rfl⟩, ?_⟩
    refine And.intro (fun hb => ?_) (fun hb => ?_)
    ·replace h := cond_t h hb
     obtain rfl := some_in h
     replace h := hr1_52
     obtain rfl := some_in h
     exact ⟨0, [], [], rfl, trivial⟩
    ·replace h := cond_f h hb
     exact ⟨⟨(n1, (IntKind.wrap .i64 (x53 + 1))), h⟩, [], ⟨rfl, ⟨rfl, rfl, trivial⟩, ⟨rfl, trivial⟩, rfl⟩, Nat.lt_succ_self _⟩
   ·replace h := cond_f h hb
    exact ⟨[], [], ⟨(), some_in h⟩, [], rfl, ⟨rfl, trivial⟩, ⟨rfl, trivial⟩, rfl⟩
theorem fl08_SealSeals_c (x1 : T_fl08_Case) (x2 : List Int) (res : Bool) (h : fl08_SealSeals x1 x2 = some res) :
  Fn Tryd.prog (GE er) 3 [(.dv (T_fl08_Case.dv x1)), (.dv (.roI .u8 x2))] [] (.bl res) [] := by
 refine bE er Tryd.func3 rfl rfl [] [(.dv (T_fl08_Case.dv x1)), (.dv (.roI .u8 x2))] [] [] (.bl res) [] rfl rfl rfl rfl rfl rfl .nil 3 ?_
 replace h := (show fl08_SealSeals x1 x2 = _ from h)
 unfold fl08_SealSeals at h
 obtain ⟨x3, hc22, h⟩ := bnd h
 refine ⟨[], _, _, _, ⟨⟨_, fl08_alive_c er x3 hc22, trivial⟩, trivial, rfl⟩, ?_⟩
 refine And.intro (fun hb => ?_) (fun hb => ?_)
 ·replace h := cond_t h hb
  obtain rfl := some_in h
  exact ⟨0, [], [], rfl, trivial⟩
 ·replace h := cond_f h hb
  refine And.intro (fun hb => ?_) (fun hb => ?_)
  ·replace h := cond_t h hb
   obtain rfl := some_in h
   exact ⟨0, [], [], rfl, trivial⟩
  ·replace h := cond_f h hb
   refine And.intro (fun hb => ?_) (fun hb => ?_)
   ·replace h := cond_t h hb
    obtain rfl := some_in h
    exact ⟨0, [], [], rfl, trivial⟩
   ·replace h := cond_f h hb
    refine And.intro (fun hb => ?_) (fun hb => ?_)
    ·replace h := cond_t h hb
     obtain rfl := some_in h
     exact ⟨0, [], [], rfl, trivial⟩
    ·replace h := cond_f h hb
     obtain ⟨r22, hc22, h⟩ := bnd h
     obtain ⟨x4, x5⟩ := r22
     refine ⟨[], _, _, _, ⟨⟨_, fnum_Bytes_c er 1 (by decide) x2 (x4, x5) hc22, ⟨.inl rfl, trivial⟩⟩, trivial, rfl⟩, ?_⟩
     obtain ⟨r22, hc22, h⟩ := bnd h
     rcases r22 with x6 | x14
     ·refine ⟨[false, false, false, true], _, _, _, ⟨⟨_, seal_Seal_c er 2 (by decide) x1.fKey x1.fNonce x1.fWith (List.take (Int.toNat ((List.length x2 : Int) - 0)) (List.drop (0 + 0) x5)) (Sum.inl x6) hc22, ⟨.inl rfl, .inl rfl, .inl rfl, .inl rfl, trivial⟩⟩, trivial, rfl⟩, ?_⟩
      refine Or.inl ?_
      obtain ⟨r13, hc13, h⟩ := bnd h
      obtain ⟨x7, x8⟩ := r13
      refine ⟨[], _, _, _, ⟨⟨_, fr08_Seal_c er 3 (by decide) x1.fKey x1.fNonce x1.fWith x2 (x7, x8) hc13, ⟨.inl rfl, .inl rfl, .inl rfl, .inl rfl, trivial⟩⟩, trivial, rfl⟩, ?_⟩
      refine Or.inl ?_
      refine ⟨(List.map (fun q : Int => UInt8.ofNat q.toNat) x6), congrArg (List.map fun q : Int => UInt8.ofNat q.toNat) (cut_full x6), ?_⟩
      refine ⟨(List.map (fun q : Int => UInt8.ofNat q.toNat) x8), congrArg (List.map fun q : Int => UInt8.ofNat q.toNat) (cut_full x8), ?_⟩
      let x9 : Bool := (!((List.map (fun q : Int => UInt8.ofNat q.toNat) x6) == (List.map (fun q : Int => UInt8.ofNat q.toNat) x8)))
      replace h := nm_at x9 rfl h
      refine And.intro (fun hb => ?_) (fun hb => ?_)
      ·replace h := cond_t h hb
       obtain rfl := some_in h
       exact ⟨0, [], [], rfl, trivial⟩
      ·replace h := cond_f h hb
       obtain ⟨r13, hc13, h⟩ := bnd h
       refine ⟨[], _, _, _, ⟨⟨_, fnum_Num_c er r13 hc13, ⟨.inl rfl, trivial⟩⟩, trivial, rfl⟩, ?_⟩
       refine And.intro (fun hb => ?_) (fun hb => ?_)
       ·replace h := cond_t h hb
        obtain rfl := some_in h
        exact ⟨0, [], [], rfl, trivial⟩
       ·replace h := cond_f h hb
        obtain ⟨x10, hc13, h⟩ := bnd h
        refine ⟨[], _, _, _, ⟨⟨_, fnum_Kept_2_c er 1 (by decide) (0 + 0) (Int.toNat ((List.length x2 : Int) - 0)) x4 x2 x5 x10 hc13, ⟨.inl rfl, .inl rfl, trivial⟩⟩, ⟨⟨rfl, rfl⟩, trivial⟩, rfl⟩, ?_⟩
        refine And.intro (fun hb => ?_) (fun hb => ?_)
        ·replace h := cond_t h hb
         obtain rfl := some_in h
         exact ⟨0, [], [], rfl, trivial⟩
        ·replace h := cond_f h hb
         refine And.intro (fun hb => ?_) (fun hb => ?_)
         ·replace h := cond_t h hb
          obtain rfl := some_in h
          exact ⟨0, [], [], rfl, trivial⟩
         ·replace h := cond_f h hb
          obtain ⟨r13, hc13, h⟩ := bnd h
          rcases r13 with x11 | x13
          ·refine ⟨[false, false, false, true], _, _, _, ⟨⟨_, seal_Open_c er 4 (by decide) x1.fKey x1.fNonce x1.fWith x6 (Sum.inl x11) hc13, ⟨.inl rfl, .inl rfl, .inl rfl, ve_full _ _, trivial⟩⟩, trivial, rfl⟩, ?_⟩
           refine Or.inl ?_
           refine And.intro (fun _ => ?_) (fun h0 => Bool.noConfusion h0)
           refine ⟨(List.map (fun q : Int => UInt8.ofNat q.toNat) x11), congrArg (List.map fun q : Int => UInt8.ofNat q.toNat) (cut_full x11), ?_⟩
           refine ⟨(List.map (fun q : Int => UInt8.ofNat q.toNat) x2), rfl, ?_⟩
           let x12 : Bool := ((List.map (fun q : Int => UInt8.ofNat q.toNat) x11) == (List.map (fun q : Int => UInt8.ofNat q.toNat) x2))
           replace h := nm_at x12 rfl h
           obtain rfl := some_in h
           exact ⟨0, [], [], rfl, trivial⟩
          ·refine ⟨[false, false, false, true], _, _, _, ⟨⟨_, seal_Open_c er 4 (by decide) x1.fKey x1.fNonce x1.fWith x6 (Sum.inr x13) hc13, ⟨.inl rfl, .inl rfl, .inl rfl, ve_full _ _, trivial⟩⟩, trivial, rfl⟩, ?_⟩
           refine And.intro (fun h0 => Bool.noConfusion h0) (fun _ => ?_)
           obtain rfl := some_in h
           exact ⟨0, [], [], rfl, trivial⟩
     ·refine ⟨[false, false, false, true], _, _, _, ⟨⟨_, seal_Seal_c er 2 (by decide) x1.fKey x1.fNonce x1.fWith (List.take (Int.toNat ((List.length x2 : Int) - 0)) (List.drop (0 + 0) x5)) (Sum.inr x14) hc22, ⟨.inl rfl, .inl rfl, .inl rfl, .inl rfl, trivial⟩⟩, trivial, rfl⟩, ?_⟩
      obtain ⟨r22, hc22, h⟩ := bnd h
      obtain ⟨x15, x16⟩ := r22
      refine ⟨[], _, _, _, ⟨⟨_, fr08_Seal_c er 2 (by decide) x1.fKey x1.fNonce x1.fWith x2 (x15, x16) hc22, ⟨.inl rfl, .inl rfl, .inl rfl, .inl rfl, trivial⟩⟩, trivial, rfl⟩, ?_⟩
      refine Or.inl ?_
      refine ⟨(List.map (fun q : Int => UInt8.ofNat q.toNat) []), rfl, ?_⟩
      refine ⟨(List.map (fun q : Int => UInt8.ofNat q.toNat) x16), congrArg (List.map fun q : Int => UInt8.ofNat q.toNat) (cut_full x16), ?_⟩
      let x17 : Bool := (!((List.map (fun q : Int => UInt8.ofNat q.toNat) []) == (List.map (fun q : Int => UInt8.ofNat q.toNat) x16)))
      replace h := nm_at x17 rfl h
      refine And.intro (fun hb => ?_) (fun hb => ?_)
      ·replace h := cond_t h hb
       obtain rfl := some_in h
       exact ⟨0, [], [], rfl, trivial⟩
      ·replace h := cond_f h hb
       obtain ⟨x18, hc22, h⟩ := bnd h
       refine ⟨[], _, _, _, ⟨⟨_, fnum_Num_2_c er x14 x18 hc22, ⟨.inl rfl, trivial⟩⟩, trivial, rfl⟩, ?_⟩
       refine And.intro (fun hb => ?_) (fun hb => ?_)
       ·replace h := cond_t h hb
        obtain rfl := some_in h
        exact ⟨0, [], [], rfl, trivial⟩
       ·replace h := cond_f h hb
        obtain ⟨x19, hc22, h⟩ := bnd h
        refine ⟨[], _, _, _, ⟨⟨_, fnum_Kept_2_c er 1 (by decide) (0 + 0) (Int.toNat ((List.length x2 : Int) - 0)) x4 x2 x5 x19 hc22, ⟨.inl rfl, .inl rfl, trivial⟩⟩, ⟨⟨rfl, rfl⟩, trivial⟩, rfl⟩, ?_⟩
        refine And.intro (fun hb => ?_) (fun hb => ?_)
        ·replace h := cond_t h hb
         obtain rfl := some_in h
         exact ⟨0, [], [], rfl, trivial⟩
        ·replace h := cond_f h hb
         refine And.intro (fun hb => ?_) (fun hb => ?_)
         ·replace h := cond_t h hb
          obtain rfl := some_in h
          exact ⟨0, [], [], rfl, trivial⟩
         ·replace h := cond_f h hb
          obtain ⟨r22, hc22, h⟩ := bnd h
          rcases r22 with x20 | x22
          ·refine ⟨[], _, _, _, ⟨⟨_, seal_Open_c er 3 (by decide) x1.fKey x1.fNonce x1.fWith ([] : List Int) (Sum.inl x20) hc22, ⟨.inl rfl, .inl rfl, .inl rfl, (.inr (.inr ⟨rfl, .inl ⟨_, rfl⟩⟩)), trivial⟩⟩, trivial, rfl⟩, ?_⟩
           refine Or.inl ?_
           refine And.intro (fun _ => ?_) (fun h0 => Bool.noConfusion h0)
           refine ⟨(List.map (fun q : Int => UInt8.ofNat q.toNat) x20), congrArg (List.map fun q : Int => UInt8.ofNat q.toNat) (cut_full x20), ?_⟩
           refine ⟨(List.map (fun q : Int => UInt8.ofNat q.toNat) x2), rfl, ?_⟩
           let x21 : Bool := ((List.map (fun q : Int => UInt8.ofNat q.toNat) x20) == (List.map (fun q : Int => UInt8.ofNat q.toNat) x2))
           replace h := nm_at x21 rfl h
           obtain rfl := some_in h
           exact ⟨0, [], [], rfl, trivial⟩
          ·refine ⟨[], _, _, _, ⟨⟨_, seal_Open_c er 3 (by decide) x1.fKey x1.fNonce x1.fWith ([] : List Int) (Sum.inr x22) hc22, ⟨.inl rfl, .inl rfl, .inl rfl, (.inr (.inr ⟨rfl, .inl ⟨_, rfl⟩⟩)), trivial⟩⟩, trivial, rfl⟩, ?_⟩
           refine And.intro (fun h0 => Bool.noConfusion h0) (fun _ => ?_)
           obtain rfl := some_in h
           exact ⟨0, [], [], rfl, trivial⟩
end
end Go.Eng
