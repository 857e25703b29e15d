/-
  Part of a proof: KemC2.
-/
import Derived.Test.YtbccddolgoepjaaDoorKemC1
set_option linter.unusedVariables false
set_option linter.unusedSimpArgs false
set_option linter.unusedVariables false
set_option linter.unusedSimpArgs false
namespace Go.Eng
open Go.Proofs
set_option maxRecDepth 100000
set_option maxHeartbeats 4000000
section
variable (er : Nat -> ErrV)
theorem fr09_Read_c (x47 : List Int) (res : (List Int)) (h : fr09_Read x47 = some res) :
  Fn Tryd.prog (GE er) 136 [(.dv (.ints .u8 32 x47))] [] (.dv (.ints .u32 8 res)) [] := by
 refine bE er Tryd.func136 rfl rfl [] [(.dv (.ints .u8 32 x47))] [] [] (.dv (.ints .u32 8 res)) [] rfl rfl rfl rfl rfl rfl .nil 3 ?_
 replace h := (show fr09_Read x47 = _ from h)
 unfold fr09_Read at h
 obtain ⟨r1_0_48, hl1_48, hr1_48⟩ := bnd h
 refine Or.inr ⟨[1], {p : (List Int) // p = r1_0_48}, ⟨fun | ⟨x48, _⟩ => [], fun | ⟨x48, _⟩ => [(2, (.var (.dv (.ints .u32 8 x48))))], fun _ => 0⟩, 0, ?_, ?_⟩
 ·rintro ⟨x48, hp⟩
  subst hp
  replace h := hr1_48
  obtain rfl := some_in h
  exact ⟨0, [], [], rfl, trivial⟩
 ·replace h := hl1_48
  refine Or.inl ?_
  refine ⟨[], {x : Nat × Int × (List Int) // fr09_Read_l1 x47 x.1 x.2.1 x.2.2 = some r1_0_48}, ⟨fun | ⟨(n1, x49, x50), _⟩ => [(4, (.int .i64 x49))], fun | ⟨(n1, x49, x50), _⟩ => [(2, (.var (.dv (.ints .u32 8 x50))))], fun | ⟨(n1, x49, x50), _⟩ => n1⟩, [], [], ⟨(FUEL, 0, (List.replicate 8 (0 : Int))), h⟩, ⟨rfl, ⟨rfl, trivial⟩, ⟨rfl, rfl, rfl, trivial⟩, rfl⟩, ?_⟩
  rintro ⟨⟨n1, x49, x50⟩, h⟩
  cases n1 with
  | zero => exact no_none h
  | succ n1 =>
   replace h := (show fr09_Read_l1 x47 (n1 + 1) x49 x50 = _ from h)
   replace h := (fr09_Read_l1.eq_2 .. ).symm.trans h
   refine And.intro (fun hb => ?_) (fun hb => ?_)
   ·replace h := cond_t h hb
    refine Or.inl ?_
    refine And.intro (by decide) ?_
    obtain ⟨hg, h⟩ := gd h
    refine And.intro hg ?_
    let x51 : Int := (List.getD x50 (Int.toNat (IntKind.wrap .i64 (Int.tdiv x49 4))) 0)
    replace h := nm_at x51 rfl h
    obtain ⟨hg, h⟩ := gd h
    refine And.intro hg ?_
    refine And.intro (by decide) ?_
    let x52 : Int := (IntKind.wrap .u64 (IntKind.wrap .i64 (8 * (Int.tmod x49 4))))
    replace h := nm_at x52 rfl h
    obtain ⟨hg, h⟩ := gd h
    refine And.intro hg ?_
    let x53 : Int := (IntKind.wrap .u32 ((IntKind.wrap .u32 (List.getD x47 (Int.toNat x49) 0)) * 2 ^ (min (Int.toNat x52) (IntKind.bits .u32))))
    replace h := nm_at x53 rfl h
    obtain ⟨hg, h⟩ := gd h
    refine And.intro hg ?_
    let x54 : List Int := (List.set x50 (Int.toNat (IntKind.wrap .i64 (Int.tdiv x49 4))) (IntKind.wrap .u32 (x51 + x53)))
    replace h := nm_at x54 rfl h
    exact ⟨⟨(n1, (IntKind.wrap .i64 (x49 + 1)), x54), h⟩, [], ⟨rfl, ⟨rfl, trivial⟩, ⟨rfl, rfl, rfl, trivial⟩, rfl⟩, Nat.lt_succ_self _⟩
   ·replace h := cond_f h hb
    exact ⟨[], [], ⟨x50, some_in h⟩, [], rfl, trivial, ⟨rfl, rfl, rfl, trivial⟩, rfl⟩
theorem fr09_P_c (res : (List Int)) (h : fr09_P = some res) :
  Fn Tryd.prog (GE er) 139 [] [] (.dv (.ints .u32 8 res)) [] := by
 refine bE er Tryd.func139 rfl rfl [] [] [] [] (.dv (.ints .u32 8 res)) [] rfl rfl rfl rfl rfl rfl .nil 3 ?_
 replace h := (show fr09_P = _ from h)
 unfold fr09_P at h
 let x57 : List Int := [4294967277, 4294967295, 4294967295, 4294967295, 4294967295, 4294967295, 4294967295, 2147483647]
 replace h := nm_at x57 rfl h
 obtain rfl := some_in h
 exact ⟨0, [], [], rfl, trivial⟩
theorem fr09_less_c (x59 : List Int) (x60 : List Int) (res : Bool) (h : fr09_less x59 x60 = some res) :
  Fn Tryd.prog (GE er) 166 [(.dv (.ints .u32 8 x59)), (.dv (.ints .u32 8 x60))] [] (.bl res) [] := by
 refine bE er Tryd.func166 rfl rfl [] [(.dv (.ints .u32 8 x59)), (.dv (.ints .u32 8 x60))] [] [] (.bl res) [] rfl rfl rfl rfl rfl rfl .nil 3 ?_
 replace h := (show fr09_less x59 x60 = _ from h)
 unfold fr09_less at h
 obtain ⟨r1_0_61, hl1_61, hr1_61⟩ := bnd h
 refine Or.inr ⟨[2, 3], {p : Unit // (Sum.inl p) = r1_0_61}, ⟨fun | ⟨(), _⟩ => [(4, (.dv (.sc (.bool false))))], fun | ⟨(), _⟩ => [], fun _ => 0⟩, 0, ?_, ?_⟩
 ·rintro ⟨⟨⟩, hp⟩
  subst hp
  replace h := hr1_61
  obtain rfl := some_in h
  exact ⟨0, [], [], rfl, trivial⟩
 ·replace h := hl1_61
  refine Or.inl ?_
  refine ⟨[], {x : Nat × Int // fr09_less_l1 x59 x60 x.1 x.2 = some r1_0_61}, ⟨fun | ⟨(n1, x62), _⟩ => [(4, (.dv (.sc (.bool false)))), (5, (.int .i64 x62))], fun | ⟨(n1, x62), _⟩ => [], fun | ⟨(n1, x62), _⟩ => n1⟩, [], [], ⟨(FUEL, 7), h⟩, ⟨rfl, ⟨rfl, rfl, trivial⟩, ⟨rfl, rfl, trivial⟩, rfl⟩, ?_⟩
  rintro ⟨⟨n1, x62⟩, h⟩
  cases n1 with
  | zero => exact no_none h
  | succ n1 =>
   replace h := (show fr09_less_l1 x59 x60 (n1 + 1) x62 = _ from h)
   replace h := (fr09_less_l1.eq_2 .. ).symm.trans h
   refine And.intro (fun hb => ?_) (fun hb => ?_)
   ·replace h := cond_t h hb
    refine Or.inl ?_
    obtain ⟨hg, h⟩ := gd h
    refine And.intro hg ?_
    obtain ⟨hg, h⟩ := gd h
    refine And.intro hg ?_
    let x63 : Bool := (!((List.getD x59 (Int.toNat x62) 0) == (List.getD x60 (Int.toNat x62) 0)))
    replace h := nm_at x63 rfl h
    refine And.intro (fun hb => ?_) (fun hb => ?_)
    ·replace h := cond_t h hb
     obtain ⟨hg, h⟩ := gd h
     refine And.intro hg ?_
     obtain ⟨hg, h⟩ := gd h
     refine And.intro hg ?_
     let x64 : Bool := (decide ((List.getD x59 (Int.toNat x62) 0) < (List.getD x60 (Int.toNat x62) 0)))
     replace h := nm_at x64 rfl h
     obtain rfl := some_in h
     replace h := hr1_61
     obtain rfl := some_in h
     exact ⟨0, [], [], rfl, trivial⟩
    ·replace h := cond_f h hb
     exact ⟨⟨(n1, (IntKind.wrap .i64 (x62 - 1))), h⟩, [], ⟨rfl, ⟨rfl, rfl, trivial⟩, ⟨rfl, rfl, trivial⟩, rfl⟩, Nat.lt_succ_self _⟩
   ·replace h := cond_f h hb
    exact ⟨[], [], ⟨(), some_in h⟩, [], rfl, ⟨rfl, trivial⟩, ⟨rfl, rfl, trivial⟩, rfl⟩
theorem fr09_minus_c (x67 : List Int) (x68 : List Int) (res : (List Int)) (h : fr09_minus x67 x68 = some res) :
  Fn Tryd.prog (GE er) 138 [(.dv (.ints .u32 8 x67)), (.dv (.ints .u32 8 x68))] [] (.dv (.ints .u32 8 res)) [] := by
 refine bE er Tryd.func138 rfl rfl [] [(.dv (.ints .u32 8 x67)), (.dv (.ints .u32 8 x68))] [] [] (.dv (.ints .u32 8 res)) [] rfl rfl rfl rfl rfl rfl .nil 3 ?_
 replace h := (show fr09_minus x67 x68 = _ from h)
 unfold fr09_minus at h
 obtain ⟨r1_0_69, hl1_69, hr1_69⟩ := bnd h
 refine Or.inr ⟨[2, 3], {p : (List Int) // p = r1_0_69}, ⟨fun | ⟨x69, _⟩ => [], fun | ⟨x69, _⟩ => [(3, (.var (.dv (.ints .u32 8 x69))))], fun _ => 0⟩, 0, ?_, ?_⟩
 ·rintro ⟨x69, hp⟩
  subst hp
  replace h := hr1_69
  obtain rfl := some_in h
  exact ⟨0, [], [], rfl, trivial⟩
 ·replace h := hl1_69
  refine Or.inl ?_
  refine ⟨[], {x : Nat × Int × Int × (List Int) // fr09_minus_l1 x67 x68 x.1 x.2.1 x.2.2.1 x.2.2.2 = some r1_0_69}, ⟨fun | ⟨(n1, x70, x71, x72), _⟩ => [(6, (.int .u64 x70)), (7, (.int .i64 x71))], fun | ⟨(n1, x70, x71, x72), _⟩ => [(3, (.var (.dv (.ints .u32 8 x72))))], fun | ⟨(n1, x70, x71, x72), _⟩ => n1⟩, [], [], ⟨(FUEL, 0, 0, (List.replicate 8 (0 : Int))), h⟩, ⟨rfl, ⟨rfl, rfl, trivial⟩, ⟨rfl, rfl, rfl, rfl, trivial⟩, rfl⟩, ?_⟩
  rintro ⟨⟨n1, x70, x71, x72⟩, h⟩
  cases n1 with
  | zero => exact no_none h
  | succ n1 =>
   replace h := (show fr09_minus_l1 x67 x68 (n1 + 1) x70 x71 x72 = _ from h)
   replace h := (fr09_minus_l1.eq_2 .. ).symm.trans h
   refine And.intro (fun hb => ?_) (fun hb => ?_)
   ·replace h := cond_t h hb
    refine Or.inl ?_
    obtain ⟨hg, h⟩ := gd h
    refine And.intro hg ?_
    let x73 : Int := (IntKind.wrap .u64 ((IntKind.wrap .u64 (List.getD x67 (Int.toNat x71) 0)) + 4294967296))
    replace h := nm_at x73 rfl h
    obtain ⟨hg, h⟩ := gd h
    refine And.intro hg ?_
    let x74 : Int := (IntKind.wrap .u64 (x73 - (IntKind.wrap .u64 (List.getD x68 (Int.toNat x71) 0))))
    replace h := nm_at x74 rfl h
    obtain ⟨hg, h⟩ := gd h
    refine And.intro hg ?_
    let x75 : List Int := (List.set x72 (Int.toNat x71) (IntKind.wrap .u32 (IntKind.wrap .u64 (x74 - x70))))
    replace h := nm_at x75 rfl h
    refine And.intro (by decide) ?_
    let x76 : Int := (IntKind.wrap .u64 (1 - (Int.fdiv (IntKind.wrap .u64 (x74 - x70)) (2 ^ 32))))
    replace h := nm_at x76 rfl h
    exact ⟨⟨(n1, x76, (IntKind.wrap .i64 (x71 + 1)), x75), h⟩, [], ⟨rfl, ⟨rfl, rfl, trivial⟩, ⟨rfl, rfl, rfl, rfl, trivial⟩, rfl⟩, Nat.lt_succ_self _⟩
   ·replace h := cond_f h hb
    exact ⟨[], [], ⟨x72, some_in h⟩, [], rfl, trivial, ⟨rfl, rfl, rfl, rfl, trivial⟩, rfl⟩
theorem fr09_Least_c (x56 : List Int) (res : (List Int)) (h : fr09_Least x56 = some res) :
  Fn Tryd.prog (GE er) 135 [(.dv (.ints .u32 8 x56))] [] (.dv (.ints .u32 8 res)) [] := by
 refine bE er Tryd.func135 rfl rfl [] [(.dv (.ints .u32 8 x56))] [] [] (.dv (.ints .u32 8 res)) [] rfl rfl rfl rfl rfl rfl .nil 3 ?_
 replace h := (show fr09_Least x56 = _ from h)
 unfold fr09_Least at h
 obtain ⟨r1_0_57, hl1_57, hr1_57⟩ := bnd h
 refine Or.inr ⟨[], {p : (List Int) // p = r1_0_57}, ⟨fun | ⟨x57, _⟩ => [], fun | ⟨x57, _⟩ => [(0, (.var (.dv (.ints .u32 8 x57))))], fun _ => 0⟩, 0, ?_, ?_⟩
 ·rintro ⟨x57, hp⟩
  subst hp
  replace h := hr1_57
  obtain rfl := some_in h
  exact ⟨0, [], [], rfl, trivial⟩
 ·replace h := hl1_57
  refine Or.inl ?_
  refine ⟨[], {x : Nat × (List Int) // fr09_Least_l1 x.1 x.2 = some r1_0_57}, ⟨fun | ⟨(n1, x58), _⟩ => [], fun | ⟨(n1, x58), _⟩ => [(0, (.var (.dv (.ints .u32 8 x58))))], fun | ⟨(n1, x58), _⟩ => n1⟩, [], [], ⟨(FUEL, x56), h⟩, ⟨rfl, trivial, ⟨rfl, rfl, trivial⟩, rfl⟩, ?_⟩
  rintro ⟨⟨n1, x58⟩, h⟩
  cases n1 with
  | zero => exact no_none h
  | succ n1 =>
   replace h := (show fr09_Least_l1 (n1 + 1) x58 = _ from h)
   replace h := (fr09_Least_l1.eq_2 .. ).symm.trans h
   obtain ⟨x59, hc62, h⟩ := bnd h
   refine ⟨[], _, _, _, ⟨⟨_, fr09_P_c er x59 hc62, trivial⟩, trivial, rfl⟩, ?_⟩
   obtain ⟨x60, hc62, h⟩ := bnd h
   refine ⟨[], _, _, _, ⟨⟨_, fr09_less_c er x58 x59 x60 hc62, ⟨.inl rfl, .inl rfl, trivial⟩⟩, trivial, rfl⟩, ?_⟩
   refine And.intro (fun hb => ?_) (fun hb => ?_)
   ·replace h := cond_t h hb
    refine Or.inl ?_
    obtain ⟨x61, hc62, h⟩ := bnd h
    refine ⟨[], _, _, _, ⟨⟨_, fr09_P_c er x61 hc62, trivial⟩, trivial, rfl⟩, ?_⟩
    obtain ⟨x62, hc62, h⟩ := bnd h
    refine ⟨[], _, _, _, ⟨⟨_, fr09_minus_c er x58 x61 x62 hc62, ⟨.inl rfl, .inl rfl, trivial⟩⟩, trivial, rfl⟩, ?_⟩
    exact ⟨⟨(n1, x62), h⟩, [], ⟨rfl, trivial, ⟨rfl, rfl, trivial⟩, rfl⟩, Nat.lt_succ_self _⟩
   ·replace h := cond_f h hb
    exact ⟨[], [], ⟨x58, some_in h⟩, [], rfl, trivial, ⟨rfl, rfl, trivial⟩, rfl⟩
theorem fr09_Masked_c (x46 : List Int) (res : (List Int)) (h : fr09_Masked x46 = some res) :
  Fn Tryd.prog (GE er) 85 [(.dv (.ints .u8 32 x46))] [] (.dv (.ints .u32 8 res)) [] := by
 refine bE er Tryd.func85 rfl rfl [] [(.dv (.ints .u8 32 x46))] [] [] (.dv (.ints .u32 8 res)) [] rfl rfl rfl rfl rfl rfl .nil 3 ?_
 replace h := (show fr09_Masked x46 = _ from h)
 unfold fr09_Masked at h
 refine And.intro (by decide) ?_
 refine And.intro (by decide) ?_
 refine And.intro (by decide) ?_
 obtain ⟨x47, hc48, h⟩ := bnd h
 refine ⟨[], _, _, _, ⟨⟨_, fr09_Read_c er (List.set x46 31 (Int.tmod (List.getD x46 31 0) 128)) x47 hc48, ⟨.inl rfl, trivial⟩⟩, trivial, rfl⟩, ?_⟩
 obtain ⟨x48, hc48, h⟩ := bnd h
 refine ⟨[], _, _, _, ⟨⟨_, fr09_Least_c er x47 x48 hc48, ⟨.inl rfl, trivial⟩⟩, trivial, rfl⟩, ?_⟩
 obtain rfl := some_in h
 exact ⟨0, [], [], rfl, trivial⟩
theorem fr09_fold_c (x59 : List Int) (res : (List Int)) (h : fr09_fold x59 = some res) :
  Fn Tryd.prog (GE er) 137 [(.dv (.ints .u32 16 x59))] [] (.dv (.ints .u32 8 res)) [] := by
 refine bE er Tryd.func137 rfl rfl [] [(.dv (.ints .u32 16 x59))] [] [] (.dv (.ints .u32 8 res)) [] rfl rfl rfl rfl rfl rfl .nil 3 ?_
 replace h := (show fr09_fold x59 = _ from h)
 unfold fr09_fold at h
 obtain ⟨r1_0_61, hl1_61, hr1_61⟩ := bnd h
 refine Or.inr ⟨[1], {p : Int × (List Int) // p = r1_0_61}, ⟨fun | ⟨(x60, x61), _⟩ => [(4, (.int .u64 x60))], fun | ⟨(x60, x61), _⟩ => [(2, (.var (.dv (.ints .u32 8 x61))))], fun _ => 0⟩, 0, ?_, ?_⟩
 ·rintro ⟨⟨x60, x61⟩, hp⟩
  subst hp
  replace h := hr1_61
  obtain ⟨r2_1_69, hl2_69, hr2_69⟩ := bnd h
  refine Or.inr ⟨[], {p : Int × (List Int) // p = r2_1_69}, ⟨fun | ⟨(x68, x69), _⟩ => [(4, (.int .u64 x68))], fun | ⟨(x68, x69), _⟩ => [(2, (.var (.dv (.ints .u32 8 x69))))], fun _ => 0⟩, 0, ?_, ?_⟩
  ·rintro ⟨⟨x68, x69⟩, hp⟩
   subst hp
   replace h := hr2_69
   obtain ⟨x78, hc78, h⟩ := bnd h
   refine ⟨[], _, _, _, ⟨⟨_, fr09_Least_c er x69 x78 hc78, ⟨.inl rfl, trivial⟩⟩, trivial, rfl⟩, ?_⟩
   obtain rfl := some_in h
   exact ⟨0, [], [], rfl, trivial⟩
  ·replace h := hl2_69
   refine Or.inl ?_
   refine ⟨[], {x : Nat × Int × (List Int) // fr09_fold_l2 x.1 x.2.1 x.2.2 = some r2_1_69}, ⟨fun | ⟨(n2, x70, x71), _⟩ => [(4, (.int .u64 x70))], fun | ⟨(n2, x70, x71), _⟩ => [(2, (.var (.dv (.ints .u32 8 x71))))], fun | ⟨(n2, x70, x71), _⟩ => n2⟩, [], [], ⟨(FUEL, x60, x61), h⟩, ⟨rfl, ⟨rfl, trivial⟩, ⟨rfl, rfl, rfl, trivial⟩, rfl⟩, ?_⟩
   rintro ⟨⟨n2, x70, x71⟩, h⟩
   cases n2 with
   | zero => exact no_none h
   | succ n2 =>
    replace h := (show fr09_fold_l2 (n2 + 1) x70 x71 = _ from h)
    replace h := (fr09_fold_l2.eq_2 .. ).symm.trans h
    refine And.intro (fun hb => ?_) (fun hb => ?_)
    ·replace h := cond_t h hb
     refine Or.inl ?_
     obtain ⟨r3_1_73, hl3_73, hr3_73⟩ := bnd h
     refine Or.inr ⟨[], {p : Int × (List Int) // p = r3_1_73}, ⟨fun | ⟨(x72, x73), _⟩ => [(7, (.int .u64 x72))], fun | ⟨(x72, x73), _⟩ => [(2, (.var (.dv (.ints .u32 8 x73))))], fun _ => 0⟩, 0, ?_, ?_⟩
     ·rintro ⟨⟨x72, x73⟩, hp⟩
      subst hp
      replace h := hr3_73
      exact ⟨⟨(n2, x72, x73), h⟩, [], ⟨rfl, ⟨rfl, trivial⟩, ⟨rfl, rfl, rfl, trivial⟩, rfl⟩, Nat.lt_succ_self _⟩
     ·replace h := hl3_73
      refine Or.inl ?_
      refine ⟨[], {x : Nat × Int × Int × (List Int) // fr09_fold_l3 x.1 x.2.1 x.2.2.1 x.2.2.2 = some r3_1_73}, ⟨fun | ⟨(n3, x74, x75, x76), _⟩ => [(7, (.int .u64 x74)), (8, (.int .i64 x75))], fun | ⟨(n3, x74, x75, x76), _⟩ => [(2, (.var (.dv (.ints .u32 8 x76))))], fun | ⟨(n3, x74, x75, x76), _⟩ => n3⟩, [], [], ⟨(FUEL, (IntKind.wrap .u64 (x70 * 38)), 0, x71), h⟩, ⟨rfl, ⟨rfl, rfl, trivial⟩, ⟨rfl, rfl, rfl, trivial⟩, rfl⟩, ?_⟩
      rintro ⟨⟨n3, x74, x75, x76⟩, h⟩
      cases n3 with
      | zero => exact no_none h
      | succ n3 =>
       replace h := (show fr09_fold_l3 (n3 + 1) x74 x75 x76 = _ from h)
       replace h := (fr09_fold_l3.eq_2 .. ).symm.trans h
       refine And.intro (fun hb => ?_) (fun hb => ?_)
       ·replace h := cond_t h hb
        refine Or.inl ?_
        obtain ⟨hg, h⟩ := gd h
        refine And.intro hg ?_
        let x77 : Int := (IntKind.wrap .u64 (x74 + (IntKind.wrap .u64 (List.getD x76 (Int.toNat x75) 0))))
        replace h := nm_at x77 rfl h
        obtain ⟨hg, h⟩ := gd h
        refine And.intro hg ?_
        refine And.intro (by decide) ?_
        exact ⟨⟨(n3, (Int.fdiv x77 (2 ^ 32)), (IntKind.wrap .i64 (x75 + 1)), (List.set x76 (Int.toNat x75) (IntKind.wrap .u32 x77))), h⟩, [], ⟨rfl, ⟨rfl, rfl, trivial⟩, ⟨rfl, rfl, rfl, trivial⟩, rfl⟩, Nat.lt_succ_self _⟩
       ·replace h := cond_f h hb
        exact ⟨[], [], ⟨(x74, x76), some_in h⟩, [], rfl, ⟨rfl, trivial⟩, ⟨rfl, rfl, rfl, trivial⟩, rfl⟩
    ·replace h := cond_f h hb
     exact ⟨[], [], ⟨(x70, x71), some_in h⟩, [], rfl, ⟨rfl, trivial⟩, ⟨rfl, rfl, rfl, trivial⟩, rfl⟩
 ·replace h := hl1_61
  refine Or.inl ?_
  refine ⟨[], {x : Nat × Int × Int × (List Int) // fr09_fold_l1 x59 x.1 x.2.1 x.2.2.1 x.2.2.2 = some r1_0_61}, ⟨fun | ⟨(n1, x62, x63, x64), _⟩ => [(4, (.int .u64 x62)), (5, (.int .i64 x63))], fun | ⟨(n1, x62, x63, x64), _⟩ => [(2, (.var (.dv (.ints .u32 8 x64))))], fun | ⟨(n1, x62, x63, x64), _⟩ => n1⟩, [], [], ⟨(FUEL, 0, 0, (List.replicate 8 (0 : Int))), h⟩, ⟨rfl, ⟨rfl, rfl, trivial⟩, ⟨rfl, rfl, rfl, trivial⟩, rfl⟩, ?_⟩
  rintro ⟨⟨n1, x62, x63, x64⟩, h⟩
  cases n1 with
  | zero => exact no_none h
  | succ n1 =>
   replace h := (show fr09_fold_l1 x59 (n1 + 1) x62 x63 x64 = _ from h)
   replace h := (fr09_fold_l1.eq_2 .. ).symm.trans h
   refine And.intro (fun hb => ?_) (fun hb => ?_)
   ·replace h := cond_t h hb
    refine Or.inl ?_
    obtain ⟨hg, h⟩ := gd h
    refine And.intro hg ?_
    obtain ⟨hg, h⟩ := gd h
    refine And.intro hg ?_
    let x65 : Int := (IntKind.wrap .u64 (List.getD x59 (Int.toNat (IntKind.wrap .i64 (8 + x63))) 0))
    replace h := nm_at x65 rfl h
    let x66 : Int := (IntKind.wrap .u64 ((IntKind.wrap .u64 (List.getD x59 (Int.toNat x63) 0)) + (IntKind.wrap .u64 (38 * x65))))
    replace h := nm_at x66 rfl h
    obtain ⟨hg, h⟩ := gd h
    refine And.intro hg ?_
    let x67 : List Int := (List.set x64 (Int.toNat x63) (IntKind.wrap .u32 (IntKind.wrap .u64 (x66 + x62))))
    replace h := nm_at x67 rfl h
    refine And.intro (by decide) ?_
    exact ⟨⟨(n1, (Int.fdiv (IntKind.wrap .u64 (x66 + x62)) (2 ^ 32)), (IntKind.wrap .i64 (x63 + 1)), x67), h⟩, [], ⟨rfl, ⟨rfl, rfl, trivial⟩, ⟨rfl, rfl, rfl, trivial⟩, rfl⟩, Nat.lt_succ_self _⟩
   ·replace h := cond_f h hb
    exact ⟨[], [], ⟨(x62, x64), some_in h⟩, [], rfl, ⟨rfl, trivial⟩, ⟨rfl, rfl, rfl, trivial⟩, rfl⟩
theorem fr09_Add_c (x55 : List Int) (x56 : List Int) (res : (List Int)) (h : fr09_Add x55 x56 = some res) :
  Fn Tryd.prog (GE er) 86 [(.dv (.ints .u32 8 x55)), (.dv (.ints .u32 8 x56))] [] (.dv (.ints .u32 8 res)) [] := by
 refine bE er Tryd.func86 rfl rfl [] [(.dv (.ints .u32 8 x55)), (.dv (.ints .u32 8 x56))] [] [] (.dv (.ints .u32 8 res)) [] rfl rfl rfl rfl rfl rfl .nil 3 ?_
 replace h := (show fr09_Add x55 x56 = _ from h)
 unfold fr09_Add at h
 obtain ⟨r1_0_58, hl1_58, hr1_58⟩ := bnd h
 refine Or.inr ⟨[2, 3], {p : Int × (List Int) // p = r1_0_58}, ⟨fun | ⟨(x57, x58), _⟩ => [(6, (.int .u64 x57))], fun | ⟨(x57, x58), _⟩ => [(3, (.var (.dv (.ints .u32 16 x58))))], fun _ => 0⟩, 0, ?_, ?_⟩
 ·rintro ⟨⟨x57, x58⟩, hp⟩
  subst hp
  replace h := hr1_58
  refine And.intro (by decide) ?_
  obtain ⟨x64, hc64, h⟩ := bnd h
  refine ⟨[], _, _, _, ⟨⟨_, fr09_fold_c er (List.set x58 8 (IntKind.wrap .u32 x57)) x64 hc64, ⟨.inl rfl, trivial⟩⟩, trivial, rfl⟩, ?_⟩
  obtain rfl := some_in h
  exact ⟨0, [], [], rfl, trivial⟩
 ·replace h := hl1_58
  refine Or.inl ?_
  refine ⟨[], {x : Nat × Int × Int × (List Int) // fr09_Add_l1 x55 x56 x.1 x.2.1 x.2.2.1 x.2.2.2 = some r1_0_58}, ⟨fun | ⟨(n1, x59, x60, x61), _⟩ => [(6, (.int .u64 x59)), (7, (.int .i64 x60))], fun | ⟨(n1, x59, x60, x61), _⟩ => [(3, (.var (.dv (.ints .u32 16 x61))))], fun | ⟨(n1, x59, x60, x61), _⟩ => n1⟩, [], [], ⟨(FUEL, 0, 0, (List.replicate 16 (0 : Int))), h⟩, ⟨rfl, ⟨rfl, rfl, trivial⟩, ⟨rfl, rfl, rfl, rfl, trivial⟩, rfl⟩, ?_⟩
  rintro ⟨⟨n1, x59, x60, x61⟩, h⟩
  cases n1 with
  | zero => exact no_none h
  | succ n1 =>
   replace h := (show fr09_Add_l1 x55 x56 (n1 + 1) x59 x60 x61 = _ from h)
   replace h := (fr09_Add_l1.eq_2 .. ).symm.trans h
   refine And.intro (fun hb => ?_) (fun hb => ?_)
   ·replace h := cond_t h hb
    refine Or.inl ?_
    obtain ⟨hg, h⟩ := gd h
    refine And.intro hg ?_
    obtain ⟨hg, h⟩ := gd h
    refine And.intro hg ?_
    let x62 : Int := (IntKind.wrap .u64 ((IntKind.wrap .u64 (List.getD x55 (Int.toNat x60) 0)) + (IntKind.wrap .u64 (List.getD x56 (Int.toNat x60) 0))))
    replace h := nm_at x62 rfl h
    obtain ⟨hg, h⟩ := gd h
    refine And.intro hg ?_
    let x63 : List Int := (List.set x61 (Int.toNat x60) (IntKind.wrap .u32 (IntKind.wrap .u64 (x62 + x59))))
    replace h := nm_at x63 rfl h
    refine And.intro (by decide) ?_
    exact ⟨⟨(n1, (Int.fdiv (IntKind.wrap .u64 (x62 + x59)) (2 ^ 32)), (IntKind.wrap .i64 (x60 + 1)), x63), h⟩, [], ⟨rfl, ⟨rfl, rfl, trivial⟩, ⟨rfl, rfl, rfl, rfl, trivial⟩, rfl⟩, Nat.lt_succ_self _⟩
   ·replace h := cond_f h hb
    exact ⟨[], [], ⟨(x59, x61), some_in h⟩, [], rfl, ⟨rfl, trivial⟩, ⟨rfl, rfl, rfl, rfl, trivial⟩, rfl⟩
theorem fr09_Times_c (x66 : List Int) (x67 : List Int) (res : (List Int)) (h : fr09_Times x66 x67 = some res) :
  Fn Tryd.prog (GE er) 87 [(.dv (.ints .u32 8 x66)), (.dv (.ints .u32 8 x67))] [] (.dv (.ints .u32 8 res)) [] := by
 refine bE er Tryd.func87 rfl rfl [] [(.dv (.ints .u32 8 x66)), (.dv (.ints .u32 8 x67))] [] [] (.dv (.ints .u32 8 res)) [] rfl rfl rfl rfl rfl rfl .nil 3 ?_
 replace h := (show fr09_Times x66 x67 = _ from h)
 unfold fr09_Times at h
 obtain ⟨r1_0_68, hl1_68, hr1_68⟩ := bnd h
 refine Or.inr ⟨[2, 3], {p : (List Int) // p = r1_0_68}, ⟨fun | ⟨x68, _⟩ => [], fun | ⟨x68, _⟩ => [(3, (.var (.dv (.ints .u32 16 x68))))], fun _ => 0⟩, 0, ?_, ?_⟩
 ·rintro ⟨x68, hp⟩
  subst hp
  replace h := hr1_68
  obtain ⟨x81, hc81, h⟩ := bnd h
  refine ⟨[], _, _, _, ⟨⟨_, fr09_fold_c er x68 x81 hc81, ⟨.inl rfl, trivial⟩⟩, trivial, rfl⟩, ?_⟩
  obtain rfl := some_in h
  exact ⟨0, [], [], rfl, trivial⟩
 ·replace h := hl1_68
  refine Or.inl ?_
  refine ⟨[], {x : Nat × Int × (List Int) // fr09_Times_l1 x66 x67 x.1 x.2.1 x.2.2 = some r1_0_68}, ⟨fun | ⟨(n1, x69, x70), _⟩ => [(6, (.int .i64 x69))], fun | ⟨(n1, x69, x70), _⟩ => [(3, (.var (.dv (.ints .u32 16 x70))))], fun | ⟨(n1, x69, x70), _⟩ => n1⟩, [], [], ⟨(FUEL, 0, (List.replicate 16 (0 : Int))), h⟩, ⟨rfl, ⟨rfl, trivial⟩, ⟨rfl, rfl, rfl, rfl, trivial⟩, rfl⟩, ?_⟩
  rintro ⟨⟨n1, x69, x70⟩, h⟩
  cases n1 with
  | zero => exact no_none h
  | succ n1 =>
   replace h := (show fr09_Times_l1 x66 x67 (n1 + 1) x69 x70 = _ from h)
   replace h := (fr09_Times_l1.eq_2 .. ).symm.trans h
   refine And.intro (fun hb => ?_) (fun hb => ?_)
   ·replace h := cond_t h hb
    refine Or.inl ?_
    obtain ⟨r2_0_72, hl2_72, hr2_72⟩ := bnd h
    refine Or.inr ⟨[], {p : Int × (List Int) // p = r2_0_72}, ⟨fun | ⟨(x71, x72), _⟩ => [(7, (.int .u64 x71))], fun | ⟨(x71, x72), _⟩ => [(3, (.var (.dv (.ints .u32 16 x72))))], fun _ => 0⟩, 0, ?_, ?_⟩
    ·rintro ⟨⟨x71, x72⟩, hp⟩
     subst hp
     replace h := hr2_72
     obtain ⟨hg, h⟩ := gd h
     refine And.intro hg ?_
     let x80 : List Int := (List.set x72 (Int.toNat (IntKind.wrap .i64 (x69 + 8))) (IntKind.wrap .u32 x71))
     replace h := nm_at x80 rfl h
     exact ⟨⟨(n1, (IntKind.wrap .i64 (x69 + 1)), x80), h⟩, [], ⟨rfl, ⟨rfl, trivial⟩, ⟨rfl, rfl, rfl, rfl, trivial⟩, rfl⟩, Nat.lt_succ_self _⟩
    ·replace h := hl2_72
     refine Or.inl ?_
     refine ⟨[], {x : Nat × Int × Int × (List Int) // fr09_Times_l2 x66 x67 x69 x.1 x.2.1 x.2.2.1 x.2.2.2 = some r2_0_72}, ⟨fun | ⟨(n2, x73, x74, x75), _⟩ => [(7, (.int .u64 x73)), (8, (.int .i64 x74))], fun | ⟨(n2, x73, x74, x75), _⟩ => [(3, (.var (.dv (.ints .u32 16 x75))))], fun | ⟨(n2, x73, x74, x75), _⟩ => n2⟩, [], [], ⟨(FUEL, 0, 0, x70), h⟩, ⟨rfl, ⟨rfl, rfl, trivial⟩, ⟨rfl, rfl, rfl, rfl, trivial⟩, rfl⟩, ?_⟩
     rintro ⟨⟨n2, x73, x74, x75⟩, h⟩
     cases n2 with
     | zero => exact no_none h
     | succ n2 =>
      replace h := (show fr09_Times_l2 x66 x67 x69 (n2 + 1) x73 x74 x75 = _ from h)
      replace h := (fr09_Times_l2.eq_2 .. ).symm.trans h
      refine And.intro (fun hb => ?_) (fun hb => ?_)
      ·replace h := cond_t h hb
       refine Or.inl ?_
       obtain ⟨hg, h⟩ := gd h
       refine And.intro hg ?_
       obtain ⟨hg, h⟩ := gd h
       refine And.intro hg ?_
       let x76 : Int := (IntKind.wrap .u64 ((IntKind.wrap .u64 (List.getD x66 (Int.toNat x69) 0)) * (IntKind.wrap .u64 (List.getD x67 (Int.toNat x74) 0))))
       replace h := nm_at x76 rfl h
       obtain ⟨hg, h⟩ := gd h
       refine And.intro hg ?_
       let x77 : Int := (List.getD x75 (Int.toNat (IntKind.wrap .i64 (x69 + x74))) 0)
       replace h := nm_at x77 rfl h
       let x78 : Int := (IntKind.wrap .u64 ((IntKind.wrap .u64 (x76 + (IntKind.wrap .u64 x77))) + x73))
       replace h := nm_at x78 rfl h
       obtain ⟨hg, h⟩ := gd h
       refine And.intro hg ?_
       let x79 : List Int := (List.set x75 (Int.toNat (IntKind.wrap .i64 (x69 + x74))) (IntKind.wrap .u32 x78))
       replace h := nm_at x79 rfl h
       refine And.intro (by decide) ?_
       exact ⟨⟨(n2, (Int.fdiv x78 (2 ^ 32)), (IntKind.wrap .i64 (x74 + 1)), x79), h⟩, [], ⟨rfl, ⟨rfl, rfl, trivial⟩, ⟨rfl, rfl, rfl, rfl, trivial⟩, rfl⟩, Nat.lt_succ_self _⟩
      ·replace h := cond_f h hb
       exact ⟨[], [], ⟨(x73, x75), some_in h⟩, [], rfl, ⟨rfl, trivial⟩, ⟨rfl, rfl, rfl, rfl, trivial⟩, rfl⟩
   ·replace h := cond_f h hb
    exact ⟨[], [], ⟨x70, some_in h⟩, [], rfl, trivial, ⟨rfl, rfl, rfl, rfl, trivial⟩, rfl⟩
theorem fr09_Sub_c (x83 : List Int) (x84 : List Int) (res : (List Int)) (h : fr09_Sub x83 x84 = some res) :
  Fn Tryd.prog (GE er) 88 [(.dv (.ints .u32 8 x83)), (.dv (.ints .u32 8 x84))] [] (.dv (.ints .u32 8 res)) [] := by
 refine bE er Tryd.func88 rfl rfl [] [(.dv (.ints .u32 8 x83)), (.dv (.ints .u32 8 x84))] [] [] (.dv (.ints .u32 8 res)) [] rfl rfl rfl rfl rfl rfl .nil 3 ?_
 replace h := (show fr09_Sub x83 x84 = _ from h)
 unfold fr09_Sub at h
 obtain ⟨x85, hc88, h⟩ := bnd h
 refine ⟨[], _, _, _, ⟨⟨_, fr09_P_c er x85 hc88, trivial⟩, trivial, rfl⟩, ?_⟩
 obtain ⟨x86, hc88, h⟩ := bnd h
 refine ⟨[], _, _, _, ⟨⟨_, fr09_Least_c er x84 x86 hc88, ⟨.inl rfl, trivial⟩⟩, trivial, rfl⟩, ?_⟩
 obtain ⟨x87, hc88, h⟩ := bnd h
 refine ⟨[], _, _, _, ⟨⟨_, fr09_minus_c er x85 x86 x87 hc88, ⟨.inl rfl, .inl rfl, trivial⟩⟩, trivial, rfl⟩, ?_⟩
 obtain ⟨x88, hc88, h⟩ := bnd h
 refine ⟨[], _, _, _, ⟨⟨_, fr09_Add_c er x83 x87 x88 hc88, ⟨.inl rfl, .inl rfl, trivial⟩⟩, trivial, rfl⟩, ?_⟩
 obtain rfl := some_in h
 exact ⟨0, [], [], rfl, trivial⟩
theorem fr09_Power_c (x60 : List Int) (x61 : List Int) (res : (List Int)) (h : fr09_Power x60 x61 = some res) :
  Fn Tryd.prog (GE er) 140 [(.dv (.ints .u32 8 x60)), (.dv (.ints .u32 8 x61))] [] (.dv (.ints .u32 8 res)) [] := by
 refine bE er Tryd.func140 rfl rfl [] [(.dv (.ints .u32 8 x60)), (.dv (.ints .u32 8 x61))] [] [] (.dv (.ints .u32 8 res)) [] rfl rfl rfl rfl rfl rfl .nil 3 ?_
 replace h := (show fr09_Power x60 x61 = _ from h)
 unfold fr09_Power at h
 obtain ⟨r1_0_62, hl1_62, hr1_62⟩ := bnd h
 refine Or.inr ⟨[2, 3], {p : (List Int) // p = r1_0_62}, ⟨fun | ⟨x62, _⟩ => [], fun | ⟨x62, _⟩ => [(3, (.var (.dv (.ints .u32 8 x62))))], fun _ => 0⟩, 0, ?_, ?_⟩
 ·rintro ⟨x62, hp⟩
  subst hp
  replace h := hr1_62
  obtain rfl := some_in h
  exact ⟨0, [], [], rfl, trivial⟩
 ·replace h := hl1_62
  refine Or.inl ?_
  refine ⟨[], {x : Nat × Int × (List Int) // fr09_Power_l1 x60 x61 x.1 x.2.1 x.2.2 = some r1_0_62}, ⟨fun | ⟨(n1, x63, x64), _⟩ => [(6, (.int .i64 x63))], fun | ⟨(n1, x63, x64), _⟩ => [(3, (.var (.dv (.ints .u32 8 x64))))], fun | ⟨(n1, x63, x64), _⟩ => n1⟩, [], [], ⟨(FUEL, 255, (List.set (List.replicate 8 (0 : Int)) 0 1)), h⟩, ⟨rfl, ⟨rfl, trivial⟩, ⟨rfl, rfl, rfl, rfl, trivial⟩, rfl⟩, ?_⟩
  rintro ⟨⟨n1, x63, x64⟩, h⟩
  cases n1 with
  | zero => exact no_none h
  | succ n1 =>
   replace h := (show fr09_Power_l1 x60 x61 (n1 + 1) x63 x64 = _ from h)
   replace h := (fr09_Power_l1.eq_2 .. ).symm.trans h
   refine And.intro (fun hb => ?_) (fun hb => ?_)
   ·replace h := cond_t h hb
    refine Or.inl ?_
    obtain ⟨x65, hc69, h⟩ := bnd h
    refine ⟨[], _, _, _, ⟨⟨_, fr09_Times_c er x64 x64 x65 hc69, ⟨.inl rfl, .inl rfl, trivial⟩⟩, trivial, rfl⟩, ?_⟩
    refine And.intro (by decide) ?_
    obtain ⟨hg, h⟩ := gd h
    refine And.intro hg ?_
    let x66 : Int := (List.getD x61 (Int.toNat (IntKind.wrap .i64 (Int.tdiv x63 32))) 0)
    replace h := nm_at x66 rfl h
    refine And.intro (by decide) ?_
    obtain ⟨hg, h⟩ := gd h
    refine And.intro hg ?_
    let x67 : Int := (Int.fdiv x66 (2 ^ (min (Int.toNat (IntKind.wrap .u64 (Int.tmod x63 32))) (IntKind.bits .u32))))
    replace h := nm_at x67 rfl h
    obtain ⟨r2_0_68, hl2_68, hr2_68⟩ := bnd h
    refine Or.inr ⟨[], {p : (List Int) // p = r2_0_68}, ⟨fun | ⟨x68, _⟩ => [], fun | ⟨x68, _⟩ => [(3, (.var (.dv (.ints .u32 8 x68))))], fun _ => 0⟩, 0, ?_, ?_⟩
    ·rintro ⟨x68, hp⟩
     subst hp
     replace h := hr2_68
     exact ⟨⟨(n1, (IntKind.wrap .i64 (x63 - 1)), x68), h⟩, [], ⟨rfl, ⟨rfl, trivial⟩, ⟨rfl, rfl, rfl, rfl, trivial⟩, rfl⟩, Nat.lt_succ_self _⟩
    ·replace h := hl2_68
     refine And.intro (fun hb => ?_) (fun hb => ?_)
     ·replace h := cond_t h hb
      obtain ⟨x69, hc69, h⟩ := bnd h
      refine ⟨[], _, _, _, ⟨⟨_, fr09_Times_c er x65 x60 x69 hc69, ⟨.inl rfl, .inl rfl, trivial⟩⟩, trivial, rfl⟩, ?_⟩
      exact ⟨[], [], ⟨x69, some_in h⟩, [], rfl, trivial, ⟨rfl, rfl, rfl, rfl, trivial⟩, rfl⟩
     ·replace h := cond_f h hb
      exact ⟨[], [], ⟨x65, some_in h⟩, [], rfl, trivial, ⟨rfl, rfl, rfl, rfl, trivial⟩, rfl⟩
   ·replace h := cond_f h hb
    exact ⟨[], [], ⟨x64, some_in h⟩, [], rfl, trivial, ⟨rfl, rfl, rfl, rfl, trivial⟩, rfl⟩
theorem fr09_Invert_c (x57 : List Int) (res : (List Int)) (h : fr09_Invert x57 = some res) :
  Fn Tryd.prog (GE er) 90 [(.dv (.ints .u32 8 x57))] [] (.dv (.ints .u32 8 res)) [] := by
 refine bE er Tryd.func90 rfl rfl [] [(.dv (.ints .u32 8 x57))] [] [] (.dv (.ints .u32 8 res)) [] rfl rfl rfl rfl rfl rfl .nil 3 ?_
 replace h := (show fr09_Invert x57 = _ from h)
 unfold fr09_Invert at h
 obtain ⟨x58, hc60, h⟩ := bnd h
 refine ⟨[], _, _, _, ⟨⟨_, fr09_P_c er x58 hc60, trivial⟩, trivial, rfl⟩, ?_⟩
 obtain ⟨x59, hc60, h⟩ := bnd h
 refine ⟨[], _, _, _, ⟨⟨_, fr09_minus_c er x58 (List.set (List.replicate 8 (0 : Int)) 0 2) x59 hc60, ⟨.inl rfl, .inl rfl, trivial⟩⟩, trivial, rfl⟩, ?_⟩
 obtain ⟨x60, hc60, h⟩ := bnd h
 refine ⟨[], _, _, _, ⟨⟨_, fr09_Power_c er x57 x59 x60 hc60, ⟨.inl rfl, .inl rfl, trivial⟩⟩, trivial, rfl⟩, ?_⟩
 obtain rfl := some_in h
 exact ⟨0, [], [], rfl, trivial⟩
theorem fr09_Bytes_c (x63 : List Int) (res : (List Int)) (h : fr09_Bytes x63 = some res) :
  Fn Tryd.prog (GE er) 89 [(.dv (.ints .u32 8 x63))] [] (.dv (.ints .u8 32 res)) [] := by
 refine bE er Tryd.func89 rfl rfl [] [(.dv (.ints .u32 8 x63))] [] [] (.dv (.ints .u8 32 res)) [] rfl rfl rfl rfl rfl rfl .nil 3 ?_
 replace h := (show fr09_Bytes x63 = _ from h)
 unfold fr09_Bytes at h
 obtain ⟨r1_0_64, hl1_64, hr1_64⟩ := bnd h
 refine Or.inr ⟨[1], {p : (List Int) // p = r1_0_64}, ⟨fun | ⟨x64, _⟩ => [], fun | ⟨x64, _⟩ => [(2, (.var (.dv (.ints .u8 32 x64))))], fun _ => 0⟩, 0, ?_, ?_⟩
 ·rintro ⟨x64, hp⟩
  subst hp
  replace h := hr1_64
  obtain rfl := some_in h
  exact ⟨0, [], [], rfl, trivial⟩
 ·replace h := hl1_64
  refine Or.inl ?_
  refine ⟨[], {x : Nat × Int × (List Int) // fr09_Bytes_l1 x63 x.1 x.2.1 x.2.2 = some r1_0_64}, ⟨fun | ⟨(n1, x65, x66), _⟩ => [(4, (.int .i64 x65))], fun | ⟨(n1, x65, x66), _⟩ => [(2, (.var (.dv (.ints .u8 32 x66))))], fun | ⟨(n1, x65, x66), _⟩ => n1⟩, [], [], ⟨(FUEL, 0, (List.replicate 32 (0 : Int))), h⟩, ⟨rfl, ⟨rfl, trivial⟩, ⟨rfl, rfl, rfl, trivial⟩, rfl⟩, ?_⟩
  rintro ⟨⟨n1, x65, x66⟩, h⟩
  cases n1 with
  | zero => exact no_none h
  | succ n1 =>
   replace h := (show fr09_Bytes_l1 x63 (n1 + 1) x65 x66 = _ from h)
   replace h := (fr09_Bytes_l1.eq_2 .. ).symm.trans h
   refine And.intro (fun hb => ?_) (fun hb => ?_)
   ·replace h := cond_t h hb
    refine Or.inl ?_
    refine And.intro (by decide) ?_
    obtain ⟨hg, h⟩ := gd h
    refine And.intro hg ?_
    let x67 : Int := (List.getD x63 (Int.toNat (IntKind.wrap .i64 (Int.tdiv x65 4))) 0)
    replace h := nm_at x67 rfl h
    refine And.intro (by decide) ?_
    let x68 : Int := (IntKind.wrap .u64 (IntKind.wrap .i64 (8 * (Int.tmod x65 4))))
    replace h := nm_at x68 rfl h
    obtain ⟨hg, h⟩ := gd h
    refine And.intro hg ?_
    let x69 : Int := (Int.fdiv x67 (2 ^ (min (Int.toNat x68) (IntKind.bits .u32))))
    replace h := nm_at x69 rfl h
    obtain ⟨hg, h⟩ := gd h
    refine And.intro hg ?_
    exact ⟨⟨(n1, (IntKind.wrap .i64 (x65 + 1)), (List.set x66 (Int.toNat x65) (IntKind.wrap .u8 x69))), h⟩, [], ⟨rfl, ⟨rfl, trivial⟩, ⟨rfl, rfl, rfl, trivial⟩, rfl⟩, Nat.lt_succ_self _⟩
   ·replace h := cond_f h hb
    exact ⟨[], [], ⟨x66, some_in h⟩, [], rfl, trivial, ⟨rfl, rfl, rfl, trivial⟩, rfl⟩
theorem fr10_Mult_c (x40 : List Int) (x41 : List Int) (res : (List Int)) (h : fr10_Mult x40 x41 = some res) :
  Fn Tryd.prog (GE er) 46 [(.dv (.ints .u8 32 x40)), (.dv (.ints .u8 32 x41))] [] (.dv (.ints .u8 32 res)) [] := by
 refine bE er Tryd.func46 rfl rfl [] [(.dv (.ints .u8 32 x40)), (.dv (.ints .u8 32 x41))] [] [] (.dv (.ints .u8 32 res)) [] rfl rfl rfl rfl rfl rfl .nil 3 ?_
 replace h := (show fr10_Mult x40 x41 = _ from h)
 unfold fr10_Mult at h
 obtain ⟨x42, hc83, h⟩ := bnd h
 refine ⟨[], _, _, _, ⟨⟨_, fr10_Clamp_c er x40 x42 hc83, ⟨.inl rfl, trivial⟩⟩, trivial, rfl⟩, ?_⟩
 obtain ⟨x43, hc83, h⟩ := bnd h
 refine ⟨[], _, _, _, ⟨⟨_, fr09_Masked_c er x41 x43 hc83, ⟨.inl rfl, trivial⟩⟩, trivial, rfl⟩, ?_⟩
 obtain ⟨r1_0_48, hl1_48, hr1_48⟩ := bnd h
 refine Or.inr ⟨[], {p : Int × (List Int) × (List Int) × (List Int) × (List Int) // p = r1_0_48}, ⟨fun | ⟨(x44, x45, x46, x47, x48), _⟩ => [(11, (.int .u8 x44))], fun | ⟨(x44, x45, x46, x47, x48), _⟩ => [(5, (.var (.dv (.ints .u32 8 x45)))), (6, (.var (.dv (.ints .u32 8 x46)))), (7, (.var (.dv (.ints .u32 8 x47)))), (8, (.var (.dv (.ints .u32 8 x48))))], fun _ => 0⟩, 0, ?_, ?_⟩
 ·rintro ⟨⟨x44, x45, x46, x47, x48⟩, hp⟩
  subst hp
  replace h := hr1_48
  obtain ⟨r3_1_80, hl3_80, hr3_80⟩ := bnd h
  refine Or.inr ⟨[], {p : (List Int) × (List Int) // p = r3_1_80}, ⟨fun | ⟨(x79, x80), _⟩ => [], fun | ⟨(x79, x80), _⟩ => [(5, (.var (.dv (.ints .u32 8 x79)))), (6, (.var (.dv (.ints .u32 8 x80))))], fun _ => 0⟩, 0, ?_, ?_⟩
  ·rintro ⟨⟨x79, x80⟩, hp⟩
   subst hp
   replace h := hr3_80
   obtain ⟨x81, hc83, h⟩ := bnd h
   refine ⟨[], _, _, _, ⟨⟨_, fr09_Invert_c er x80 x81 hc83, ⟨.inl rfl, trivial⟩⟩, trivial, rfl⟩, ?_⟩
   obtain ⟨x82, hc83, h⟩ := bnd h
   refine ⟨[], _, _, _, ⟨⟨_, fr09_Times_c er x79 x81 x82 hc83, ⟨.inl rfl, .inl rfl, trivial⟩⟩, trivial, rfl⟩, ?_⟩
   obtain ⟨x83, hc83, h⟩ := bnd h
   refine ⟨[], _, _, _, ⟨⟨_, fr09_Bytes_c er x82 x83 hc83, ⟨.inl rfl, trivial⟩⟩, trivial, rfl⟩, ?_⟩
   obtain rfl := some_in h
   exact ⟨0, [], [], rfl, trivial⟩
  ·replace h := hl3_80
   refine And.intro (fun hb => ?_) (fun hb => ?_)
   ·replace h := cond_t h hb
    exact ⟨[], [], ⟨(x47, x48), some_in h⟩, [], rfl, trivial, ⟨rfl, rfl, rfl, rfl, rfl, rfl, rfl, rfl, rfl, trivial⟩, rfl⟩
   ·replace h := cond_f h hb
    exact ⟨[], [], ⟨(x45, x46), some_in h⟩, [], rfl, trivial, ⟨rfl, rfl, rfl, rfl, rfl, rfl, rfl, rfl, rfl, trivial⟩, rfl⟩
 ·replace h := hl1_48
  refine Or.inl ?_
  refine ⟨[], {x : Nat × Int × Int × (List Int) × (List Int) × (List Int) × (List Int) // fr10_Mult_l1 x42 x43 x.1 x.2.1 x.2.2.1 x.2.2.2.1 x.2.2.2.2.1 x.2.2.2.2.2.1 x.2.2.2.2.2.2 = some r1_0_48}, ⟨fun | ⟨(n1, x49, x50, x51, x52, x53, x54), _⟩ => [(11, (.int .u8 x49)), (12, (.int .i64 x50))], fun | ⟨(n1, x49, x50, x51, x52, x53, x54), _⟩ => [(5, (.var (.dv (.ints .u32 8 x51)))), (6, (.var (.dv (.ints .u32 8 x52)))), (7, (.var (.dv (.ints .u32 8 x53)))), (8, (.var (.dv (.ints .u32 8 x54))))], fun | ⟨(n1, x49, x50, x51, x52, x53, x54), _⟩ => n1⟩, [], [], ⟨(FUEL, 0, 254, (List.set (List.replicate 8 (0 : Int)) 0 1), (List.replicate 8 (0 : Int)), x43, (List.set (List.replicate 8 (0 : Int)) 0 1)), h⟩, ⟨rfl, ⟨rfl, rfl, trivial⟩, ⟨rfl, rfl, rfl, rfl, rfl, rfl, rfl, rfl, rfl, trivial⟩, rfl⟩, ?_⟩
  rintro ⟨⟨n1, x49, x50, x51, x52, x53, x54⟩, h⟩
  cases n1 with
  | zero => exact no_none h
  | succ n1 =>
   replace h := (show fr10_Mult_l1 x42 x43 (n1 + 1) x49 x50 x51 x52 x53 x54 = _ from h)
   replace h := (fr10_Mult_l1.eq_2 .. ).symm.trans h
   refine And.intro (fun hb => ?_) (fun hb => ?_)
   ·replace h := cond_t h hb
    refine Or.inl ?_
    refine And.intro (by decide) ?_
    obtain ⟨hg, h⟩ := gd h
    refine And.intro hg ?_
    let x55 : Int := (List.getD x42 (Int.toNat (IntKind.wrap .i64 (Int.tdiv x50 8))) 0)
    replace h := nm_at x55 rfl h
    refine And.intro (by decide) ?_
    obtain ⟨hg, h⟩ := gd h
    refine And.intro hg ?_
    let x56 : Int := (Int.fdiv x55 (2 ^ (min (Int.toNat (IntKind.wrap .u64 (Int.tmod x50 8))) (IntKind.bits .u8))))
    replace h := nm_at x56 rfl h
    obtain ⟨r2_0_60, hl2_60, hr2_60⟩ := bnd h
    refine Or.inr ⟨[], {p : (List Int) × (List Int) × (List Int) × (List Int) // p = r2_0_60}, ⟨fun | ⟨(x57, x58, x59, x60), _⟩ => [], fun | ⟨(x57, x58, x59, x60), _⟩ => [(5, (.var (.dv (.ints .u32 8 x57)))), (6, (.var (.dv (.ints .u32 8 x58)))), (7, (.var (.dv (.ints .u32 8 x59)))), (8, (.var (.dv (.ints .u32 8 x60))))], fun _ => 0⟩, 0, ?_, ?_⟩
    ·rintro ⟨⟨x57, x58, x59, x60⟩, hp⟩
     subst hp
     replace h := hr2_60
     obtain ⟨x61, hc78, h⟩ := bnd h
     refine ⟨[], _, _, _, ⟨⟨_, fr09_Add_c er x57 x58 x61 hc78, ⟨.inl rfl, .inl rfl, trivial⟩⟩, trivial, rfl⟩, ?_⟩
     obtain ⟨x62, hc78, h⟩ := bnd h
     refine ⟨[], _, _, _, ⟨⟨_, fr09_Times_c er x61 x61 x62 hc78, ⟨.inl rfl, .inl rfl, trivial⟩⟩, trivial, rfl⟩, ?_⟩
     obtain ⟨x63, hc78, h⟩ := bnd h
     refine ⟨[], _, _, _, ⟨⟨_, fr09_Sub_c er x57 x58 x63 hc78, ⟨.inl rfl, .inl rfl, trivial⟩⟩, trivial, rfl⟩, ?_⟩
     obtain ⟨x64, hc78, h⟩ := bnd h
     refine ⟨[], _, _, _, ⟨⟨_, fr09_Times_c er x63 x63 x64 hc78, ⟨.inl rfl, .inl rfl, trivial⟩⟩, trivial, rfl⟩, ?_⟩
     obtain ⟨x65, hc78, h⟩ := bnd h
     refine ⟨[], _, _, _, ⟨⟨_, fr09_Sub_c er x62 x64 x65 hc78, ⟨.inl rfl, .inl rfl, trivial⟩⟩, trivial, rfl⟩, ?_⟩
     obtain ⟨x66, hc78, h⟩ := bnd h
     refine ⟨[], _, _, _, ⟨⟨_, fr09_Add_c er x59 x60 x66 hc78, ⟨.inl rfl, .inl rfl, trivial⟩⟩, trivial, rfl⟩, ?_⟩
     obtain ⟨x67, hc78, h⟩ := bnd h
     refine ⟨[], _, _, _, ⟨⟨_, fr09_Sub_c er x59 x60 x67 hc78, ⟨.inl rfl, .inl rfl, trivial⟩⟩, trivial, rfl⟩, ?_⟩
     obtain ⟨x68, hc78, h⟩ := bnd h
     refine ⟨[], _, _, _, ⟨⟨_, fr09_Times_c er x67 x61 x68 hc78, ⟨.inl rfl, .inl rfl, trivial⟩⟩, trivial, rfl⟩, ?_⟩
     obtain ⟨x69, hc78, h⟩ := bnd h
     refine ⟨[], _, _, _, ⟨⟨_, fr09_Times_c er x66 x63 x69 hc78, ⟨.inl rfl, .inl rfl, trivial⟩⟩, trivial, rfl⟩, ?_⟩
     obtain ⟨x70, hc78, h⟩ := bnd h
     refine ⟨[], _, _, _, ⟨⟨_, fr09_Add_c er x68 x69 x70 hc78, ⟨.inl rfl, .inl rfl, trivial⟩⟩, trivial, rfl⟩, ?_⟩
     obtain ⟨x71, hc78, h⟩ := bnd h
     refine ⟨[], _, _, _, ⟨⟨_, fr09_Sub_c er x68 x69 x71 hc78, ⟨.inl rfl, .inl rfl, trivial⟩⟩, trivial, rfl⟩, ?_⟩
     obtain ⟨x72, hc78, h⟩ := bnd h
     refine ⟨[], _, _, _, ⟨⟨_, fr09_Times_c er x70 x70 x72 hc78, ⟨.inl rfl, .inl rfl, trivial⟩⟩, trivial, rfl⟩, ?_⟩
     obtain ⟨x73, hc78, h⟩ := bnd h
     refine ⟨[], _, _, _, ⟨⟨_, fr09_Times_c er x71 x71 x73 hc78, ⟨.inl rfl, .inl rfl, trivial⟩⟩, trivial, rfl⟩, ?_⟩
     obtain ⟨x74, hc78, h⟩ := bnd h
     refine ⟨[], _, _, _, ⟨⟨_, fr09_Times_c er x43 x73 x74 hc78, ⟨.inl rfl, .inl rfl, trivial⟩⟩, trivial, rfl⟩, ?_⟩
     obtain ⟨x75, hc78, h⟩ := bnd h
     refine ⟨[], _, _, _, ⟨⟨_, fr09_Times_c er x62 x64 x75 hc78, ⟨.inl rfl, .inl rfl, trivial⟩⟩, trivial, rfl⟩, ?_⟩
     obtain ⟨x76, hc78, h⟩ := bnd h
     refine ⟨[], _, _, _, ⟨⟨_, fr09_Times_c er (List.set (List.replicate 8 (0 : Int)) 0 121665) x65 x76 hc78, ⟨.inl rfl, .inl rfl, trivial⟩⟩, trivial, rfl⟩, ?_⟩
     obtain ⟨x77, hc78, h⟩ := bnd h
     refine ⟨[], _, _, _, ⟨⟨_, fr09_Add_c er x62 x76 x77 hc78, ⟨.inl rfl, .inl rfl, trivial⟩⟩, trivial, rfl⟩, ?_⟩
     obtain ⟨x78, hc78, h⟩ := bnd h
     refine ⟨[], _, _, _, ⟨⟨_, fr09_Times_c er x65 x77 x78 hc78, ⟨.inl rfl, .inl rfl, trivial⟩⟩, trivial, rfl⟩, ?_⟩
     exact ⟨⟨(n1, (bits .u8 .and x56 1), (IntKind.wrap .i64 (x50 - 1)), x75, x78, x72, x74), h⟩, [], ⟨rfl, ⟨rfl, rfl, trivial⟩, ⟨rfl, rfl, rfl, rfl, rfl, rfl, rfl, rfl, rfl, trivial⟩, rfl⟩, Nat.lt_succ_self _⟩
    ·replace h := hl2_60
     refine And.intro (fun hb => ?_) (fun hb => ?_)
     ·replace h := cond_t h hb
      exact ⟨[], [], ⟨(x53, x54, x51, x52), some_in h⟩, [], rfl, trivial, ⟨rfl, rfl, rfl, rfl, rfl, rfl, rfl, rfl, rfl, trivial⟩, rfl⟩
     ·replace h := cond_f h hb
      exact ⟨[], [], ⟨(x51, x52, x53, x54), some_in h⟩, [], rfl, trivial, ⟨rfl, rfl, rfl, rfl, rfl, rfl, rfl, rfl, rfl, trivial⟩, rfl⟩
   ·replace h := cond_f h hb
    exact ⟨[], [], ⟨(x49, x51, x52, x53, x54), some_in h⟩, [], rfl, ⟨rfl, trivial⟩, ⟨rfl, rfl, rfl, rfl, rfl, rfl, rfl, rfl, rfl, trivial⟩, rfl⟩
theorem fr10_Base_c (x39 : List Int) (res : (List Int)) (h : fr10_Base x39 = some res) :
  Fn Tryd.prog (GE er) 43 [(.dv (.ints .u8 32 x39))] [] (.dv (.ints .u8 32 res)) [] := by
 refine bE er Tryd.func43 rfl rfl [] [(.dv (.ints .u8 32 x39))] [] [] (.dv (.ints .u8 32 res)) [] rfl rfl rfl rfl rfl rfl .nil 3 ?_
 replace h := (show fr10_Base x39 = _ from h)
 unfold fr10_Base at h
 obtain ⟨x40, hc40, h⟩ := bnd h
 refine ⟨[], _, _, _, ⟨⟨_, fr10_Mult_c er x39 (List.set (List.replicate 32 (0 : Int)) 0 9) x40 hc40, ⟨.inl rfl, .inl rfl, trivial⟩⟩, trivial, rfl⟩, ?_⟩
 obtain rfl := some_in h
 exact ⟨0, [], [], rfl, trivial⟩
theorem fr14_Pair_c (x17 : List Int) (res : (List Int) × (List Int)) (h : fr14_Pair x17 = some res) :
  Fn Tryd.prog (GE er) 21 [(.dv (.roI .u8 x17))] [] (.tup [(.dv (.ints .u8 32 res.1)), (.dv (.ints .u8 32 res.2))]) [] := by
 refine bE er Tryd.func21 rfl rfl [] [(.dv (.roI .u8 x17))] [] [] (.tup [(.dv (.ints .u8 32 res.1)), (.dv (.ints .u8 32 res.2))]) [] rfl rfl rfl rfl rfl rfl .nil 3 ?_
 replace h := (show fr14_Pair x17 = _ from h)
 unfold fr14_Pair at h
 obtain ⟨x18, hc21, h⟩ := bnd h
 refine ⟨[], _, _, _, ⟨⟨_, fr14_Extract_c er [75, 69, 77, 0, 32] [100, 107, 112, 95, 112, 114, 107] x17 x18 hc21, ⟨.inl rfl, .inl rfl, .inl rfl, trivial⟩⟩, trivial, rfl⟩, ?_⟩
 obtain ⟨x19, hc21, h⟩ := bnd h
 refine ⟨[], _, _, _, ⟨⟨_, fr14_Expand_c er 2 (by decide) [75, 69, 77, 0, 32] x18 [115, 107] ([] : List Int) 32 x19 hc21, ⟨.inl rfl, .inl rfl, .inl rfl, (.inr (.inr ⟨rfl, .inl ⟨_, rfl⟩⟩)), .inl rfl, trivial⟩⟩, trivial, rfl⟩, ?_⟩
 refine Or.inl ?_
 obtain ⟨x20, hc21, h⟩ := bnd h
 refine ⟨[true], _, _, _, ⟨⟨_, fr14_Key_c er (List.take (Int.toNat (32 - 0)) x19) x20 hc21, ⟨.inl rfl, trivial⟩⟩, trivial, rfl⟩, ?_⟩
 obtain ⟨x21, hc21, h⟩ := bnd h
 refine ⟨[], _, _, _, ⟨⟨_, fr10_Base_c er x20 x21 hc21, ⟨.inl rfl, trivial⟩⟩, trivial, rfl⟩, ?_⟩
 obtain rfl := some_in h
 exact ⟨0, [], [], rfl, trivial⟩
theorem kem_Encap_2_c (x12 : List Int) (x13 : List (List Int)) (res : (((List Int) × (List Int)) ⊕ Unit)) (h : kem_Encap_2 x12 x13 = some res) :
  Fn Tryd.prog (GE er) 22 [(.dv (.ints .u8 32 x12)), (.dv (.ro ly24 (List.length x13) (rw_ (fun q => .roI .u8 q) [] x13)))] [] (match res with | (Sum.inl (p0, p1)) => (.tup [(.dv (.ints .u8 32 p0)), (.dv (.ints .u8 32 p1)), (.dv (.sc .nilIface))]) | (Sum.inr _) => (.tup [(.dv (.ints .u8 32 (List.replicate 32 (0 : Int)))), (.dv (.ints .u8 32 (List.replicate 32 (0 : Int)))), (errA er 5)])) (match res with | (Sum.inl (p0, p1)) => [] | (Sum.inr _) => []) := by
 refine bE er Tryd.func22 rfl rfl [] [(.dv (.ints .u8 32 x12)), (.dv (.ro ly24 (List.length x13) (rw_ (fun q => .roI .u8 q) [] x13)))] [] [] (match res with | (Sum.inl (p0, p1)) => (.tup [(.dv (.ints .u8 32 p0)), (.dv (.ints .u8 32 p1)), (.dv (.sc .nilIface))]) | (Sum.inr _) => (.tup [(.dv (.ints .u8 32 (List.replicate 32 (0 : Int)))), (.dv (.ints .u8 32 (List.replicate 32 (0 : Int)))), (errA er 5)])) (match res with | (Sum.inl (p0, p1)) => [] | (Sum.inr _) => []) rfl rfl (by rcases res with _ | _ <;> rfl) (by rcases res with _ | _ <;> rfl) (by rcases res with _ | _ <;> rfl) (by rcases res with _ | _ <;> rfl) (by rcases res with _ | _ <;> exact .nil) 3 ?_
 replace h := (show kem_Encap_2 x12 x13 = _ from h)
 unfold kem_Encap_2 at h
 obtain ⟨r17, hc17, h⟩ := bnd h
 obtain ⟨x14, x15⟩ := r17
 refine ⟨[], _, _, _, ⟨⟨_, kem_Pair_2_c er x13 (x14, x15) hc17, ⟨.inl rfl, trivial⟩⟩, trivial, rfl⟩, ?_⟩
 obtain ⟨r17, hc17, h⟩ := bnd h
 rcases r17 with x16 | ⟨⟩
 ·refine ⟨[], _, _, _, ⟨⟨_, ladder_Shared_c er x14 x12 (Sum.inl x16) hc17, ⟨.inl rfl, .inl rfl, trivial⟩⟩, trivial, rfl⟩, ?_⟩
  refine And.intro (fun h0 => Bool.noConfusion h0) (fun _ => ?_)
  obtain ⟨x17, hc17, h⟩ := bnd h
  refine ⟨[], _, _, _, ⟨⟨_, kem_common_c er x16 x15 x12 x17 hc17, ⟨.inl rfl, .inl rfl, .inl rfl, trivial⟩⟩, trivial, rfl⟩, ?_⟩
  obtain rfl := some_in h
  exact ⟨0, [], [], rfl, trivial⟩
 ·refine ⟨[], _, _, _, ⟨⟨_, ladder_Shared_c er x14 x12 (Sum.inr ()) hc17, ⟨.inl rfl, .inl rfl, trivial⟩⟩, trivial, rfl⟩, ?_⟩
  refine And.intro (fun _ => ?_) (fun h0 => Bool.noConfusion h0)
  obtain rfl := some_in h
  exact ⟨0, [], [], rfl, trivial⟩
theorem fr14_common_c (x25 : List Int) (x26 : List Int) (x27 : List Int) (res : (List Int)) (h : fr14_common x25 x26 x27 = some res) :
  Fn Tryd.prog (GE er) 47 [(.dv (.ints .u8 32 x25)), (.dv (.ints .u8 32 x26)), (.dv (.ints .u8 32 x27))] [] (.dv (.ints .u8 32 res)) [] := by
 refine bE er Tryd.func47 rfl rfl [] [(.dv (.ints .u8 32 x25)), (.dv (.ints .u8 32 x26)), (.dv (.ints .u8 32 x27))] [] [] (.dv (.ints .u8 32 res)) [] rfl rfl rfl rfl rfl rfl .nil 3 ?_
 replace h := (show fr14_common x25 x26 x27 = _ from h)
 unfold fr14_common at h
 refine Or.inl ?_
 refine And.intro (by omega) ?_
 refine ⟨0, 32, ⟨rfl, rfl⟩, ?_⟩
 obtain ⟨x28, hc31, h⟩ := bnd h
 refine ⟨[false, false, true], _, _, _, ⟨⟨_, fr14_Extract_c er [75, 69, 77, 0, 32] [101, 97, 101, 95, 112, 114, 107] (List.take 32 x25) x28 hc31, ⟨.inl rfl, .inl rfl, .inl rfl, trivial⟩⟩, trivial, rfl⟩, ?_⟩
 refine Or.inl ?_
 refine Or.inl ?_
 refine And.intro (by omega) ?_
 refine ⟨0, 32, ⟨rfl, rfl⟩, ?_⟩
 obtain ⟨hg, h⟩ := gd h
 refine And.intro (le_of_ln2 (ln_0 _ _) hg) ?_
 refine ⟨(([] : List Int) ++ (List.take 32 x26)), app_cut (cut_full _) (cut_0 _ _), 0, (List.length (([] : List Int) ++ (List.take 32 x26))), ⟨rfl, app_ln (ln_0 _ _)⟩, ?_⟩
 refine Or.inl ?_
 refine Or.inl ?_
 refine And.intro (by omega) ?_
 refine ⟨0, 32, ⟨rfl, rfl⟩, ?_⟩
 obtain ⟨hg, h⟩ := gd h
 refine And.intro (le_of_ln2 (ln_0 _ _) hg) ?_
 refine ⟨((([] : List Int) ++ (List.take 32 x26)) ++ (List.take 32 x27)), app_cut (cut_full _) (cut_0 _ _), 0, (List.length ((([] : List Int) ++ (List.take 32 x26)) ++ (List.take 32 x27))), ⟨rfl, app_ln (ln_0 _ _)⟩, ?_⟩
 refine Or.inl ?_
 let x29 : List Int := ((([] : List Int) ++ (List.take 32 x26)) ++ (List.take 32 x27))
 replace h := nm_at x29 rfl h
 obtain ⟨x30, hc31, h⟩ := bnd h
 refine ⟨[false, false, false, true, false], _, _, _, ⟨⟨_, fr14_Expand_c er 7 (by decide) [75, 69, 77, 0, 32] x28 [115, 104, 97, 114, 101, 100, 95, 115, 101, 99, 114, 101, 116] x29 32 x30 hc31, ⟨.inl rfl, .inl rfl, .inl rfl, ve_full _ _, .inl rfl, trivial⟩⟩, trivial, rfl⟩, ?_⟩
 refine Or.inl ?_
 obtain ⟨x31, hc31, h⟩ := bnd h
 refine ⟨[true], _, _, _, ⟨⟨_, fr14_Key_c er (List.take (Int.toNat (32 - 0)) x30) x31 hc31, ⟨.inl rfl, trivial⟩⟩, trivial, rfl⟩, ?_⟩
 obtain rfl := some_in h
 exact ⟨0, [], [], rfl, trivial⟩
theorem fr14_Encap_c (x20 : List Int) (x21 : List Int) (res : (List Int) × (List Int) × Bool) (h : fr14_Encap x20 x21 = some res) :
  Fn Tryd.prog (GE er) 23 [(.dv (.ints .u8 32 x20)), (.dv (.roI .u8 x21))] [] (.tup [(.dv (.ints .u8 32 res.1)), (.dv (.ints .u8 32 res.2.1)), (.bl res.2.2)]) [] := by
 refine bE er Tryd.func23 rfl rfl [] [(.dv (.ints .u8 32 x20)), (.dv (.roI .u8 x21))] [] [] (.tup [(.dv (.ints .u8 32 res.1)), (.dv (.ints .u8 32 res.2.1)), (.bl res.2.2)]) [] rfl rfl rfl rfl rfl rfl .nil 3 ?_
 replace h := (show fr14_Encap x20 x21 = _ from h)
 unfold fr14_Encap at h
 obtain ⟨r25, hc25, h⟩ := bnd h
 obtain ⟨x22, x23⟩ := r25
 refine ⟨[], _, _, _, ⟨⟨_, fr14_Pair_c er x21 (x22, x23) hc25, ⟨.inl rfl, trivial⟩⟩, trivial, rfl⟩, ?_⟩
 obtain ⟨x24, hc25, h⟩ := bnd h
 refine ⟨[], _, _, _, ⟨⟨_, fr10_Mult_c er x22 x20 x24 hc25, ⟨.inl rfl, .inl rfl, trivial⟩⟩, trivial, rfl⟩, ?_⟩
 refine And.intro (fun hb => ?_) (fun hb => ?_)
 ·replace h := cond_t h hb
  obtain rfl := some_in h
  exact ⟨0, [], [], rfl, trivial⟩
 ·replace h := cond_f h hb
  obtain ⟨x25, hc25, h⟩ := bnd h
  refine ⟨[], _, _, _, ⟨⟨_, fr14_common_c er x24 x23 x20 x25 hc25, ⟨.inl rfl, .inl rfl, .inl rfl, trivial⟩⟩, trivial, rfl⟩, ?_⟩
  obtain rfl := some_in h
  exact ⟨0, [], [], rfl, trivial⟩
theorem kem_Decap_c (x29 : List Int) (x30 : List Int) (res : (((List Int)) ⊕ Unit)) (h : kem_Decap x29 x30 = some res) :
  Fn Tryd.prog (GE er) 24 [(.dv (.ints .u8 32 x29)), (.dv (.ints .u8 32 x30))] [] (match res with | (Sum.inl p0) => (.tup [(.dv (.ints .u8 32 p0)), (.dv (.sc .nilIface))]) | (Sum.inr _) => (.tup [(.dv (.ints .u8 32 (List.replicate 32 (0 : Int)))), (errA er 5)])) (match res with | (Sum.inl p0) => [] | (Sum.inr _) => []) := by
 refine bE er Tryd.func24 rfl rfl [] [(.dv (.ints .u8 32 x29)), (.dv (.ints .u8 32 x30))] [] [] (match res with | (Sum.inl p0) => (.tup [(.dv (.ints .u8 32 p0)), (.dv (.sc .nilIface))]) | (Sum.inr _) => (.tup [(.dv (.ints .u8 32 (List.replicate 32 (0 : Int)))), (errA er 5)])) (match res with | (Sum.inl p0) => [] | (Sum.inr _) => []) rfl rfl (by rcases res with _ | _ <;> rfl) (by rcases res with _ | _ <;> rfl) (by rcases res with _ | _ <;> rfl) (by rcases res with _ | _ <;> rfl) (by rcases res with _ | _ <;> exact .nil) 3 ?_
 replace h := (show kem_Decap x29 x30 = _ from h)
 unfold kem_Decap at h
 obtain ⟨r33, hc33, h⟩ := bnd h
 rcases r33 with x31 | ⟨⟩
 ·refine ⟨[], _, _, _, ⟨⟨_, ladder_Shared_c er x29 x30 (Sum.inl x31) hc33, ⟨.inl rfl, .inl rfl, trivial⟩⟩, trivial, rfl⟩, ?_⟩
  refine And.intro (fun h0 => Bool.noConfusion h0) (fun _ => ?_)
  obtain ⟨x32, hc33, h⟩ := bnd h
  refine ⟨[], _, _, _, ⟨⟨_, ladder_Base_c er x29 x32 hc33, ⟨.inl rfl, trivial⟩⟩, trivial, rfl⟩, ?_⟩
  obtain ⟨x33, hc33, h⟩ := bnd h
  refine ⟨[], _, _, _, ⟨⟨_, kem_common_c er x31 x30 x32 x33 hc33, ⟨.inl rfl, .inl rfl, .inl rfl, trivial⟩⟩, trivial, rfl⟩, ?_⟩
  obtain rfl := some_in h
  exact ⟨0, [], [], rfl, trivial⟩
 ·refine ⟨[], _, _, _, ⟨⟨_, ladder_Shared_c er x29 x30 (Sum.inr ()) hc33, ⟨.inl rfl, .inl rfl, trivial⟩⟩, trivial, rfl⟩, ?_⟩
  refine And.intro (fun _ => ?_) (fun h0 => Bool.noConfusion h0)
  obtain rfl := some_in h
  exact ⟨0, [], [], rfl, trivial⟩
theorem fr14_Decap_c (x35 : List Int) (x36 : List Int) (res : (List Int) × Bool) (h : fr14_Decap x35 x36 = some res) :
  Fn Tryd.prog (GE er) 25 [(.dv (.ints .u8 32 x35)), (.dv (.ints .u8 32 x36))] [] (.tup [(.dv (.ints .u8 32 res.1)), (.bl res.2)]) [] := by
 refine bE er Tryd.func25 rfl rfl [] [(.dv (.ints .u8 32 x35)), (.dv (.ints .u8 32 x36))] [] [] (.tup [(.dv (.ints .u8 32 res.1)), (.bl res.2)]) [] rfl rfl rfl rfl rfl rfl .nil 3 ?_
 replace h := (show fr14_Decap x35 x36 = _ from h)
 unfold fr14_Decap at h
 obtain ⟨x37, hc39, h⟩ := bnd h
 refine ⟨[], _, _, _, ⟨⟨_, fr10_Mult_c er x35 x36 x37 hc39, ⟨.inl rfl, .inl rfl, trivial⟩⟩, trivial, rfl⟩, ?_⟩
 refine And.intro (fun hb => ?_) (fun hb => ?_)
 ·replace h := cond_t h hb
  obtain rfl := some_in h
  exact ⟨0, [], [], rfl, trivial⟩
 ·replace h := cond_f h hb
  obtain ⟨x38, hc39, h⟩ := bnd h
  refine ⟨[], _, _, _, ⟨⟨_, fr10_Base_c er x35 x38 hc39, ⟨.inl rfl, trivial⟩⟩, trivial, rfl⟩, ?_⟩
  obtain ⟨x39, hc39, h⟩ := bnd h
  refine ⟨[], _, _, _, ⟨⟨_, fr14_common_c er x37 x36 x38 x39 hc39, ⟨.inl rfl, .inl rfl, .inl rfl, trivial⟩⟩, trivial, rfl⟩, ?_⟩
  obtain rfl := some_in h
  exact ⟨0, [], [], rfl, trivial⟩
theorem fl14_KemEncaps_c (x8 : List Int) (x9 : List Int) (x10 : List Int) (res : Bool) (h : fl14_KemEncaps x8 x9 x10 = some res) :
  Fn Tryd.prog (GE er) 8 [(.dv (.ints .u8 32 x8)), (.dv (.ints .u8 32 x9)), (.dv (.roI .u8 x10))] [] (.bl res) [] := by
 refine bE er Tryd.func8 rfl rfl [] [(.dv (.ints .u8 32 x8)), (.dv (.ints .u8 32 x9)), (.dv (.roI .u8 x10))] [] [] (.bl res) [] rfl rfl rfl rfl rfl rfl .nil 3 ?_
 replace h := (show fl14_KemEncaps x8 x9 x10 = _ from h)
 unfold fl14_KemEncaps at h
 obtain ⟨x11, hc50, h⟩ := bnd h
 refine ⟨[], _, _, _, ⟨⟨_, fl14_alive_c er x11 hc50, trivial⟩, trivial, rfl⟩, ?_⟩
 refine And.intro (fun hb => ?_) (fun hb => ?_)
 ·replace h := cond_t h hb
  obtain rfl := some_in h
  exact ⟨0, [], [], rfl, trivial⟩
 ·replace h := cond_f h hb
  refine And.intro (fun hb => ?_) (fun hb => ?_)
  ·replace h := cond_t h hb
   obtain rfl := some_in h
   exact ⟨0, [], [], rfl, trivial⟩
  ·replace h := cond_f h hb
   refine Or.inl ?_
   refine ⟨(List.length [x10]), (rw_ (fun q => .roI .u8 q) [] [x10]), ⟨rfl, fun j hj => match j, hj with | 0, _ => rfl | _ + 1, hj => absurd hj (by omega)⟩, ?_⟩
   refine Or.inl ?_
   obtain ⟨r50, hc50, h⟩ := bnd h
   rcases r50 with ⟨x12, x13⟩ | ⟨⟩
   ·refine ⟨[false, true], _, _, _, ⟨⟨_, kem_Encap_2_c er x8 [x10] (Sum.inl (x12, x13)) hc50, ⟨.inl rfl, .inl rfl, trivial⟩⟩, trivial, rfl⟩, ?_⟩
    obtain ⟨r30, hc30, h⟩ := bnd h
    obtain ⟨x14, x15, x16⟩ := r30
    refine ⟨[], _, _, _, ⟨⟨_, fr14_Encap_c er x8 x10 (x14, x15, x16) hc30, ⟨.inl rfl, .inl rfl, trivial⟩⟩, trivial, rfl⟩, ?_⟩
    refine And.intro (fun hb => ?_) (fun hb => ?_)
    ·replace h := cond_t h hb
     refine And.intro (fun hb => ?_) (fun hb => ?_)
     ·replace h := cond_t h hb
      obtain rfl := some_in h
      exact ⟨0, [], [], rfl, trivial⟩
     ·replace h := cond_f h hb
      refine And.intro (fun hb => ?_) (fun hb => ?_)
      ·replace h := cond_t h hb
       obtain rfl := some_in h
       exact ⟨0, [], [], rfl, trivial⟩
      ·replace h := cond_f h hb
       obtain ⟨r16, hc16, h⟩ := bnd h
       refine ⟨[], _, _, _, ⟨⟨_, fnum_Num_c er r16 hc16, ⟨.inl rfl, trivial⟩⟩, trivial, rfl⟩, ?_⟩
       refine And.intro (fun _ => ?_) (fun h0 => Bool.noConfusion h0)
       obtain rfl := some_in h
       exact ⟨0, [], [], rfl, trivial⟩
    ·replace h := cond_f h hb
     refine And.intro (fun hb => ?_) (fun hb => ?_)
     ·replace h := cond_t h hb
      refine And.intro (fun h0 => Bool.noConfusion h0) (fun _ => ?_)
      refine And.intro (fun hb => ?_) (fun hb => ?_)
      ·replace h := cond_t h hb
       obtain rfl := some_in h
       exact ⟨0, [], [], rfl, trivial⟩
      ·replace h := cond_f h hb
       refine And.intro (fun hb => ?_) (fun hb => ?_)
       ·replace h := cond_t h hb
        obtain rfl := some_in h
        exact ⟨0, [], [], rfl, trivial⟩
       ·replace h := cond_f h hb
        obtain ⟨r23, hc23, h⟩ := bnd h
        rcases r23 with x17 | ⟨⟩
        ·refine ⟨[], _, _, _, ⟨⟨_, kem_Decap_c er x9 x8 (Sum.inl x17) hc23, ⟨.inl rfl, .inl rfl, trivial⟩⟩, trivial, rfl⟩, ?_⟩
         obtain ⟨r19, hc19, h⟩ := bnd h
         obtain ⟨x18, x19⟩ := r19
         refine ⟨[], _, _, _, ⟨⟨_, fr14_Decap_c er x9 x8 (x18, x19) hc19, ⟨.inl rfl, .inl rfl, trivial⟩⟩, trivial, rfl⟩, ?_⟩
         refine And.intro (fun hb => ?_) (fun hb => ?_)
         ·replace h := cond_t h hb
          refine And.intro (fun hb => ?_) (fun hb => ?_)
          ·replace h := cond_t h hb
           obtain ⟨r19, hc19, h⟩ := bnd h
           refine ⟨[], _, _, _, ⟨⟨_, fnum_Num_c er r19 hc19, ⟨.inl rfl, trivial⟩⟩, trivial, rfl⟩, ?_⟩
           obtain rfl := some_in h
           exact ⟨0, [], [], rfl, trivial⟩
          ·replace h := cond_f h hb
           obtain rfl := some_in h
           exact ⟨0, [], [], rfl, trivial⟩
         ·replace h := cond_f h hb
          refine And.intro (fun _ => ?_) (fun h0 => Bool.noConfusion h0)
          obtain rfl := some_in h
          exact ⟨0, [], [], rfl, trivial⟩
        ·refine ⟨[], _, _, _, ⟨⟨_, kem_Decap_c er x9 x8 (Sum.inr ()) hc23, ⟨.inl rfl, .inl rfl, trivial⟩⟩, trivial, rfl⟩, ?_⟩
         obtain ⟨r23, hc23, h⟩ := bnd h
         obtain ⟨x20, x21⟩ := r23
         refine ⟨[], _, _, _, ⟨⟨_, fr14_Decap_c er x9 x8 (x20, x21) hc23, ⟨.inl rfl, .inl rfl, trivial⟩⟩, trivial, rfl⟩, ?_⟩
         refine And.intro (fun hb => ?_) (fun hb => ?_)
         ·replace h := cond_t h hb
          let x22 : Bool := ((List.replicate 32 (0 : Int)) == (List.replicate 32 (0 : Int)))
          replace h := nm_at x22 rfl h
          refine And.intro (fun hb => ?_) (fun hb => ?_)
          ·replace h := cond_t h hb
           obtain ⟨x23, hc23, h⟩ := bnd h
           refine ⟨[], _, _, _, ⟨⟨_, fnum_Num_2_c er 5 x23 hc23, ⟨.inl rfl, trivial⟩⟩, trivial, rfl⟩, ?_⟩
           obtain rfl := some_in h
           exact ⟨0, [], [], rfl, trivial⟩
          ·replace h := cond_f h hb
           obtain rfl := some_in h
           exact ⟨0, [], [], rfl, trivial⟩
         ·replace h := cond_f h hb
          refine And.intro (fun h0 => Bool.noConfusion h0) (fun _ => ?_)
          obtain rfl := some_in h
          exact ⟨0, [], [], rfl, trivial⟩
     ·replace h := cond_f h hb
      obtain ⟨r30, hc30, h⟩ := bnd h
      rcases r30 with x24 | ⟨⟩
      ·refine ⟨[], _, _, _, ⟨⟨_, kem_Decap_c er x9 x8 (Sum.inl x24) hc30, ⟨.inl rfl, .inl rfl, trivial⟩⟩, trivial, rfl⟩, ?_⟩
       obtain ⟨r26, hc26, h⟩ := bnd h
       obtain ⟨x25, x26⟩ := r26
       refine ⟨[], _, _, _, ⟨⟨_, fr14_Decap_c er x9 x8 (x25, x26) hc26, ⟨.inl rfl, .inl rfl, trivial⟩⟩, trivial, rfl⟩, ?_⟩
       refine And.intro (fun hb => ?_) (fun hb => ?_)
       ·replace h := cond_t h hb
        refine And.intro (fun hb => ?_) (fun hb => ?_)
        ·replace h := cond_t h hb
         obtain ⟨r26, hc26, h⟩ := bnd h
         refine ⟨[], _, _, _, ⟨⟨_, fnum_Num_c er r26 hc26, ⟨.inl rfl, trivial⟩⟩, trivial, rfl⟩, ?_⟩
         obtain rfl := some_in h
         exact ⟨0, [], [], rfl, trivial⟩
        ·replace h := cond_f h hb
         obtain rfl := some_in h
         exact ⟨0, [], [], rfl, trivial⟩
       ·replace h := cond_f h hb
        refine And.intro (fun _ => ?_) (fun h0 => Bool.noConfusion h0)
        obtain rfl := some_in h
        exact ⟨0, [], [], rfl, trivial⟩
      ·refine ⟨[], _, _, _, ⟨⟨_, kem_Decap_c er x9 x8 (Sum.inr ()) hc30, ⟨.inl rfl, .inl rfl, trivial⟩⟩, trivial, rfl⟩, ?_⟩
       obtain ⟨r30, hc30, h⟩ := bnd h
       obtain ⟨x27, x28⟩ := r30
       refine ⟨[], _, _, _, ⟨⟨_, fr14_Decap_c er x9 x8 (x27, x28) hc30, ⟨.inl rfl, .inl rfl, trivial⟩⟩, trivial, rfl⟩, ?_⟩
       refine And.intro (fun hb => ?_) (fun hb => ?_)
       ·replace h := cond_t h hb
        let x29 : Bool := ((List.replicate 32 (0 : Int)) == (List.replicate 32 (0 : Int)))
        replace h := nm_at x29 rfl h
        refine And.intro (fun hb => ?_) (fun hb => ?_)
        ·replace h := cond_t h hb
         obtain ⟨x30, hc30, h⟩ := bnd h
         refine ⟨[], _, _, _, ⟨⟨_, fnum_Num_2_c er 5 x30 hc30, ⟨.inl rfl, trivial⟩⟩, trivial, rfl⟩, ?_⟩
         obtain rfl := some_in h
         exact ⟨0, [], [], rfl, trivial⟩
        ·replace h := cond_f h hb
         obtain rfl := some_in h
         exact ⟨0, [], [], rfl, trivial⟩
       ·replace h := cond_f h hb
        refine And.intro (fun h0 => Bool.noConfusion h0) (fun _ => ?_)
        obtain rfl := some_in h
        exact ⟨0, [], [], rfl, trivial⟩
   ·refine ⟨[false, true], _, _, _, ⟨⟨_, kem_Encap_2_c er x8 [x10] (Sum.inr ()) hc50, ⟨.inl rfl, .inl rfl, trivial⟩⟩, trivial, rfl⟩, ?_⟩
    obtain ⟨r50, hc50, h⟩ := bnd h
    obtain ⟨x31, x32, x33⟩ := r50
    refine ⟨[], _, _, _, ⟨⟨_, fr14_Encap_c er x8 x10 (x31, x32, x33) hc50, ⟨.inl rfl, .inl rfl, trivial⟩⟩, trivial, rfl⟩, ?_⟩
    refine And.intro (fun hb => ?_) (fun hb => ?_)
    ·replace h := cond_t h hb
     let x34 : Bool := (!((List.replicate 32 (0 : Int)) == (List.replicate 32 (0 : Int))))
     replace h := nm_at x34 rfl h
     refine And.intro (fun hb => ?_) (fun hb => ?_)
     ·replace h := cond_t h hb
      obtain rfl := some_in h
      exact ⟨0, [], [], rfl, trivial⟩
     ·replace h := cond_f h hb
      let x35 : Bool := (!((List.replicate 32 (0 : Int)) == (List.replicate 32 (0 : Int))))
      replace h := nm_at x35 rfl h
      refine And.intro (fun hb => ?_) (fun hb => ?_)
      ·replace h := cond_t h hb
       obtain rfl := some_in h
       exact ⟨0, [], [], rfl, trivial⟩
      ·replace h := cond_f h hb
       obtain ⟨x36, hc43, h⟩ := bnd h
       refine ⟨[], _, _, _, ⟨⟨_, fnum_Num_2_c er 5 x36 hc43, ⟨.inl rfl, trivial⟩⟩, trivial, rfl⟩, ?_⟩
       refine And.intro (fun hb => ?_) (fun hb => ?_)
       ·replace h := cond_t h hb
        obtain rfl := some_in h
        exact ⟨0, [], [], rfl, trivial⟩
       ·replace h := cond_f h hb
        refine And.intro (fun hb => ?_) (fun hb => ?_)
        ·replace h := cond_t h hb
         refine And.intro (fun _ => ?_) (fun h0 => Bool.noConfusion h0)
         obtain rfl := some_in h
         exact ⟨0, [], [], rfl, trivial⟩
        ·replace h := cond_f h hb
         obtain ⟨r43, hc43, h⟩ := bnd h
         rcases r43 with x37 | ⟨⟩
         ·refine ⟨[], _, _, _, ⟨⟨_, kem_Decap_c er x9 x8 (Sum.inl x37) hc43, ⟨.inl rfl, .inl rfl, trivial⟩⟩, trivial, rfl⟩, ?_⟩
          obtain ⟨r39, hc39, h⟩ := bnd h
          obtain ⟨x38, x39⟩ := r39
          refine ⟨[], _, _, _, ⟨⟨_, fr14_Decap_c er x9 x8 (x38, x39) hc39, ⟨.inl rfl, .inl rfl, trivial⟩⟩, trivial, rfl⟩, ?_⟩
          refine And.intro (fun hb => ?_) (fun hb => ?_)
          ·replace h := cond_t h hb
           refine And.intro (fun hb => ?_) (fun hb => ?_)
           ·replace h := cond_t h hb
            obtain ⟨r39, hc39, h⟩ := bnd h
            refine ⟨[], _, _, _, ⟨⟨_, fnum_Num_c er r39 hc39, ⟨.inl rfl, trivial⟩⟩, trivial, rfl⟩, ?_⟩
            obtain rfl := some_in h
            exact ⟨0, [], [], rfl, trivial⟩
           ·replace h := cond_f h hb
            obtain rfl := some_in h
            exact ⟨0, [], [], rfl, trivial⟩
          ·replace h := cond_f h hb
           refine And.intro (fun _ => ?_) (fun h0 => Bool.noConfusion h0)
           obtain rfl := some_in h
           exact ⟨0, [], [], rfl, trivial⟩
         ·refine ⟨[], _, _, _, ⟨⟨_, kem_Decap_c er x9 x8 (Sum.inr ()) hc43, ⟨.inl rfl, .inl rfl, trivial⟩⟩, trivial, rfl⟩, ?_⟩
          obtain ⟨r43, hc43, h⟩ := bnd h
          obtain ⟨x40, x41⟩ := r43
          refine ⟨[], _, _, _, ⟨⟨_, fr14_Decap_c er x9 x8 (x40, x41) hc43, ⟨.inl rfl, .inl rfl, trivial⟩⟩, trivial, rfl⟩, ?_⟩
          refine And.intro (fun hb => ?_) (fun hb => ?_)
          ·replace h := cond_t h hb
           let x42 : Bool := ((List.replicate 32 (0 : Int)) == (List.replicate 32 (0 : Int)))
           replace h := nm_at x42 rfl h
           refine And.intro (fun hb => ?_) (fun hb => ?_)
           ·replace h := cond_t h hb
            obtain ⟨x43, hc43, h⟩ := bnd h
            refine ⟨[], _, _, _, ⟨⟨_, fnum_Num_2_c er 5 x43 hc43, ⟨.inl rfl, trivial⟩⟩, trivial, rfl⟩, ?_⟩
            obtain rfl := some_in h
            exact ⟨0, [], [], rfl, trivial⟩
           ·replace h := cond_f h hb
            obtain rfl := some_in h
            exact ⟨0, [], [], rfl, trivial⟩
          ·replace h := cond_f h hb
           refine And.intro (fun h0 => Bool.noConfusion h0) (fun _ => ?_)
           obtain rfl := some_in h
           exact ⟨0, [], [], rfl, trivial⟩
    ·replace h := cond_f h hb
     refine And.intro (fun hb => ?_) (fun hb => ?_)
     ·replace h := cond_t h hb
      refine And.intro (fun _ => ?_) (fun h0 => Bool.noConfusion h0)
      obtain rfl := some_in h
      exact ⟨0, [], [], rfl, trivial⟩
     ·replace h := cond_f h hb
      obtain ⟨r50, hc50, h⟩ := bnd h
      rcases r50 with x44 | ⟨⟩
      ·refine ⟨[], _, _, _, ⟨⟨_, kem_Decap_c er x9 x8 (Sum.inl x44) hc50, ⟨.inl rfl, .inl rfl, trivial⟩⟩, trivial, rfl⟩, ?_⟩
       obtain ⟨r46, hc46, h⟩ := bnd h
       obtain ⟨x45, x46⟩ := r46
       refine ⟨[], _, _, _, ⟨⟨_, fr14_Decap_c er x9 x8 (x45, x46) hc46, ⟨.inl rfl, .inl rfl, trivial⟩⟩, trivial, rfl⟩, ?_⟩
       refine And.intro (fun hb => ?_) (fun hb => ?_)
       ·replace h := cond_t h hb
        refine And.intro (fun hb => ?_) (fun hb => ?_)
        ·replace h := cond_t h hb
         obtain ⟨r46, hc46, h⟩ := bnd h
         refine ⟨[], _, _, _, ⟨⟨_, fnum_Num_c er r46 hc46, ⟨.inl rfl, trivial⟩⟩, trivial, rfl⟩, ?_⟩
         obtain rfl := some_in h
         exact ⟨0, [], [], rfl, trivial⟩
        ·replace h := cond_f h hb
         obtain rfl := some_in h
         exact ⟨0, [], [], rfl, trivial⟩
       ·replace h := cond_f h hb
        refine And.intro (fun _ => ?_) (fun h0 => Bool.noConfusion h0)
        obtain rfl := some_in h
        exact ⟨0, [], [], rfl, trivial⟩
      ·refine ⟨[], _, _, _, ⟨⟨_, kem_Decap_c er x9 x8 (Sum.inr ()) hc50, ⟨.inl rfl, .inl rfl, trivial⟩⟩, trivial, rfl⟩, ?_⟩
       obtain ⟨r50, hc50, h⟩ := bnd h
       obtain ⟨x47, x48⟩ := r50
       refine ⟨[], _, _, _, ⟨⟨_, fr14_Decap_c er x9 x8 (x47, x48) hc50, ⟨.inl rfl, .inl rfl, trivial⟩⟩, trivial, rfl⟩, ?_⟩
       refine And.intro (fun hb => ?_) (fun hb => ?_)
       ·replace h := cond_t h hb
        let x49 : Bool := ((List.replicate 32 (0 : Int)) == (List.replicate 32 (0 : Int)))
        replace h := nm_at x49 rfl h
        refine And.intro (fun hb => ?_) (fun hb => ?_)
        ·replace h := cond_t h hb
         obtain ⟨x50, hc50, h⟩ := bnd h
         refine ⟨[], _, _, _, ⟨⟨_, fnum_Num_2_c er 5 x50 hc50, ⟨.inl rfl, trivial⟩⟩, trivial, rfl⟩, ?_⟩
         obtain rfl := some_in h
         exact ⟨0, [], [], rfl, trivial⟩
        ·replace h := cond_f h hb
         obtain rfl := some_in h
         exact ⟨0, [], [], rfl, trivial⟩
       ·replace h := cond_f h hb
        refine And.intro (fun h0 => Bool.noConfusion h0) (fun _ => ?_)
        obtain rfl := some_in h
        exact ⟨0, [], [], rfl, trivial⟩
end
end Go.Eng
