/-
  Part of a proof: KemC2.
-/
import Derived.Test.YtmgnanajcnnlgaaDoorKemC1
set_option linter.unusedVariables false
set_option linter.unusedSimpArgs false
set_option linter.unusedVariables false
set_option linter.unusedSimpArgs false
namespace Go.Eng
open Go.Proofs
set_option maxRecDepth 100000
set_option maxHeartbeats 4000000
section
variable (er : Nat -> ErrV)
theorem kem_Encap_2_c (x12 : List Int) (x13 : List (List Int)) (res : (((List Int) × (List Int)) ⊕ Unit)) (h : kem_Encap_2 x12 x13 = some res) :
  Fn Tryd.prog (GE er) 9 [(.dv (.ints .u8 32 x12)), (.dv (.ro ly22 (List.length x13) (rw_ (fun q => .roI .u8 q) [] x13)))] [] (match res with | (Sum.inl (p0, p1)) => (.tup [(.dv (.ints .u8 32 p0)), (.dv (.ints .u8 32 p1)), (.dv (.sc .nilIface))]) | (Sum.inr _) => (.tup [(.dv (.ints .u8 32 (List.replicate 32 (0 : Int)))), (.dv (.ints .u8 32 (List.replicate 32 (0 : Int)))), (errA er 5)])) (match res with | (Sum.inl (p0, p1)) => [] | (Sum.inr _) => []) := by
 refine bE er Tryd.func9 rfl rfl [] [(.dv (.ints .u8 32 x12)), (.dv (.ro ly22 (List.length x13) (rw_ (fun q => .roI .u8 q) [] x13)))] [] [] (match res with | (Sum.inl (p0, p1)) => (.tup [(.dv (.ints .u8 32 p0)), (.dv (.ints .u8 32 p1)), (.dv (.sc .nilIface))]) | (Sum.inr _) => (.tup [(.dv (.ints .u8 32 (List.replicate 32 (0 : Int)))), (.dv (.ints .u8 32 (List.replicate 32 (0 : Int)))), (errA er 5)])) (match res with | (Sum.inl (p0, p1)) => [] | (Sum.inr _) => []) rfl rfl (by rcases res with _ | _ <;> rfl) (by rcases res with _ | _ <;> rfl) (by rcases res with _ | _ <;> rfl) (by rcases res with _ | _ <;> rfl) (by rcases res with _ | _ <;> exact .nil) 3 ?_
 replace h := (show kem_Encap_2 x12 x13 = _ from h)
 unfold kem_Encap_2 at h
 obtain ⟨r17, hc17, h⟩ := bnd h
 obtain ⟨x14, x15⟩ := r17
 refine ⟨[], _, _, _, ⟨⟨_, kem_Pair_2_c er x13 (x14, x15) hc17, ⟨.inl rfl, trivial⟩⟩, trivial, rfl⟩, ?_⟩
 obtain ⟨r17, hc17, h⟩ := bnd h
 rcases r17 with x16 | ⟨⟩
 ·refine ⟨[], _, _, _, ⟨⟨_, ladder_Shared_c er x14 x12 (Sum.inl x16) hc17, ⟨.inl rfl, .inl rfl, trivial⟩⟩, trivial, rfl⟩, ?_⟩
  refine And.intro (fun h0 => Bool.noConfusion h0) (fun _ => ?_)
  obtain ⟨x17, hc17, h⟩ := bnd h
  refine ⟨[], _, _, _, ⟨⟨_, kem_common_c er x16 x15 x12 x17 hc17, ⟨.inl rfl, .inl rfl, .inl rfl, trivial⟩⟩, trivial, rfl⟩, ?_⟩
  obtain rfl := some_in h
  exact ⟨0, [], [], rfl, trivial⟩
 ·refine ⟨[], _, _, _, ⟨⟨_, ladder_Shared_c er x14 x12 (Sum.inr ()) hc17, ⟨.inl rfl, .inl rfl, trivial⟩⟩, trivial, rfl⟩, ?_⟩
  refine And.intro (fun _ => ?_) (fun h0 => Bool.noConfusion h0)
  obtain rfl := some_in h
  exact ⟨0, [], [], rfl, trivial⟩
theorem kem_Decap_c (x29 : List Int) (x30 : List Int) (res : (((List Int)) ⊕ Unit)) (h : kem_Decap x29 x30 = some res) :
  Fn Tryd.prog (GE er) 12 [(.dv (.ints .u8 32 x29)), (.dv (.ints .u8 32 x30))] [] (match res with | (Sum.inl p0) => (.tup [(.dv (.ints .u8 32 p0)), (.dv (.sc .nilIface))]) | (Sum.inr _) => (.tup [(.dv (.ints .u8 32 (List.replicate 32 (0 : Int)))), (errA er 5)])) (match res with | (Sum.inl p0) => [] | (Sum.inr _) => []) := by
 refine bE er Tryd.func12 rfl rfl [] [(.dv (.ints .u8 32 x29)), (.dv (.ints .u8 32 x30))] [] [] (match res with | (Sum.inl p0) => (.tup [(.dv (.ints .u8 32 p0)), (.dv (.sc .nilIface))]) | (Sum.inr _) => (.tup [(.dv (.ints .u8 32 (List.replicate 32 (0 : Int)))), (errA er 5)])) (match res with | (Sum.inl p0) => [] | (Sum.inr _) => []) rfl rfl (by rcases res with _ | _ <;> rfl) (by rcases res with _ | _ <;> rfl) (by rcases res with _ | _ <;> rfl) (by rcases res with _ | _ <;> rfl) (by rcases res with _ | _ <;> exact .nil) 3 ?_
 replace h := (show kem_Decap x29 x30 = _ from h)
 unfold kem_Decap at h
 obtain ⟨r33, hc33, h⟩ := bnd h
 rcases r33 with x31 | ⟨⟩
 ·refine ⟨[], _, _, _, ⟨⟨_, ladder_Shared_c er x29 x30 (Sum.inl x31) hc33, ⟨.inl rfl, .inl rfl, trivial⟩⟩, trivial, rfl⟩, ?_⟩
  refine And.intro (fun h0 => Bool.noConfusion h0) (fun _ => ?_)
  obtain ⟨x32, hc33, h⟩ := bnd h
  refine ⟨[], _, _, _, ⟨⟨_, ladder_Base_c er x29 x32 hc33, ⟨.inl rfl, trivial⟩⟩, trivial, rfl⟩, ?_⟩
  obtain ⟨x33, hc33, h⟩ := bnd h
  refine ⟨[], _, _, _, ⟨⟨_, kem_common_c er x31 x30 x32 x33 hc33, ⟨.inl rfl, .inl rfl, .inl rfl, trivial⟩⟩, trivial, rfl⟩, ?_⟩
  obtain rfl := some_in h
  exact ⟨0, [], [], rfl, trivial⟩
 ·refine ⟨[], _, _, _, ⟨⟨_, ladder_Shared_c er x29 x30 (Sum.inr ()) hc33, ⟨.inl rfl, .inl rfl, trivial⟩⟩, trivial, rfl⟩, ?_⟩
  refine And.intro (fun _ => ?_) (fun h0 => Bool.noConfusion h0)
  obtain rfl := some_in h
  exact ⟨0, [], [], rfl, trivial⟩
theorem fl14_KemMeets_c (x51 : List Int) (x52 : List Int) (res : Bool) (h : fl14_KemMeets x51 x52 = some res) :
  Fn Tryd.prog (GE er) 5 [(.dv (.roI .u8 x51)), (.dv (.roI .u8 x52))] [] (.bl res) [] := by
 refine bE er Tryd.func5 rfl rfl [] [(.dv (.roI .u8 x51)), (.dv (.roI .u8 x52))] [] [] (.bl res) [] rfl rfl rfl rfl rfl rfl .nil 3 ?_
 replace h := (show fl14_KemMeets x51 x52 = _ from h)
 unfold fl14_KemMeets at h
 obtain ⟨x53, hc67, h⟩ := bnd h
 refine ⟨[], _, _, _, ⟨⟨_, fl14_alive_c er x53 hc67, trivial⟩, trivial, rfl⟩, ?_⟩
 refine And.intro (fun hb => ?_) (fun hb => ?_)
 ·replace h := cond_t h hb
  obtain rfl := some_in h
  exact ⟨0, [], [], rfl, trivial⟩
 ·replace h := cond_f h hb
  refine And.intro (fun hb => ?_) (fun hb => ?_)
  ·replace h := cond_t h hb
   obtain rfl := some_in h
   exact ⟨0, [], [], rfl, trivial⟩
  ·replace h := cond_f h hb
   refine And.intro (fun hb => ?_) (fun hb => ?_)
   ·replace h := cond_t h hb
    obtain rfl := some_in h
    exact ⟨0, [], [], rfl, trivial⟩
   ·replace h := cond_f h hb
    refine Or.inl ?_
    refine ⟨(List.length [x51]), (rw_ (fun q => .roI .u8 q) [] [x51]), ⟨rfl, fun j hj => match j, hj with | 0, _ => rfl | _ + 1, hj => absurd hj (by omega)⟩, ?_⟩
    refine Or.inl ?_
    obtain ⟨r67, hc67, h⟩ := bnd h
    obtain ⟨x54, x55⟩ := r67
    refine ⟨[true], _, _, _, ⟨⟨_, kem_Pair_2_c er [x51] (x54, x55) hc67, ⟨.inl rfl, trivial⟩⟩, trivial, rfl⟩, ?_⟩
    refine Or.inl ?_
    refine ⟨(List.length [x52]), (rw_ (fun q => .roI .u8 q) [] [x52]), ⟨rfl, fun j hj => match j, hj with | 0, _ => rfl | _ + 1, hj => absurd hj (by omega)⟩, ?_⟩
    refine Or.inl ?_
    obtain ⟨r67, hc67, h⟩ := bnd h
    rcases r67 with ⟨x56, x57⟩ | ⟨⟩
    ·refine ⟨[false, true], _, _, _, ⟨⟨_, kem_Encap_2_c er x55 [x52] (Sum.inl (x56, x57)) hc67, ⟨.inl rfl, .inl rfl, trivial⟩⟩, trivial, rfl⟩, ?_⟩
     obtain ⟨r62, hc62, h⟩ := bnd h
     rcases r62 with x58 | ⟨⟩
     ·refine ⟨[], _, _, _, ⟨⟨_, kem_Decap_c er x54 x56 (Sum.inl x58) hc62, ⟨.inl rfl, .inl rfl, trivial⟩⟩, trivial, rfl⟩, ?_⟩
      refine Or.inl ?_
      refine ⟨(List.length [x52]), (rw_ (fun q => .roI .u8 q) [] [x52]), ⟨rfl, fun j hj => match j, hj with | 0, _ => rfl | _ + 1, hj => absurd hj (by omega)⟩, ?_⟩
      refine Or.inl ?_
      obtain ⟨r60, hc60, h⟩ := bnd h
      obtain ⟨x59, x60⟩ := r60
      refine ⟨[true], _, _, _, ⟨⟨_, kem_Pair_2_c er [x52] (x59, x60) hc60, ⟨.inl rfl, trivial⟩⟩, trivial, rfl⟩, ?_⟩
      refine And.intro (fun _ => ?_) (fun h0 => Bool.noConfusion h0)
      refine And.intro (fun _ => ?_) (fun h0 => Bool.noConfusion h0)
      refine And.intro (fun hb => ?_) (fun hb => ?_)
      ·replace h := cond_t h hb
       obtain rfl := some_in h
       exact ⟨0, [], [], rfl, trivial⟩
      ·replace h := cond_f h hb
       obtain rfl := some_in h
       exact ⟨0, [], [], rfl, trivial⟩
     ·refine ⟨[], _, _, _, ⟨⟨_, kem_Decap_c er x54 x56 (Sum.inr ()) hc62, ⟨.inl rfl, .inl rfl, trivial⟩⟩, trivial, rfl⟩, ?_⟩
      refine Or.inl ?_
      refine ⟨(List.length [x52]), (rw_ (fun q => .roI .u8 q) [] [x52]), ⟨rfl, fun j hj => match j, hj with | 0, _ => rfl | _ + 1, hj => absurd hj (by omega)⟩, ?_⟩
      refine Or.inl ?_
      obtain ⟨r62, hc62, h⟩ := bnd h
      obtain ⟨x61, x62⟩ := r62
      refine ⟨[true], _, _, _, ⟨⟨_, kem_Pair_2_c er [x52] (x61, x62) hc62, ⟨.inl rfl, trivial⟩⟩, trivial, rfl⟩, ?_⟩
      refine And.intro (fun _ => ?_) (fun h0 => Bool.noConfusion h0)
      refine And.intro (fun h0 => Bool.noConfusion h0) (fun _ => ?_)
      obtain rfl := some_in h
      exact ⟨0, [], [], rfl, trivial⟩
    ·refine ⟨[false, true], _, _, _, ⟨⟨_, kem_Encap_2_c er x55 [x52] (Sum.inr ()) hc67, ⟨.inl rfl, .inl rfl, trivial⟩⟩, trivial, rfl⟩, ?_⟩
     obtain ⟨r67, hc67, h⟩ := bnd h
     rcases r67 with x63 | ⟨⟩
     ·refine ⟨[], _, _, _, ⟨⟨_, kem_Decap_c er x54 (List.replicate 32 (0 : Int)) (Sum.inl x63) hc67, ⟨.inl rfl, .inl rfl, trivial⟩⟩, trivial, rfl⟩, ?_⟩
      refine Or.inl ?_
      refine ⟨(List.length [x52]), (rw_ (fun q => .roI .u8 q) [] [x52]), ⟨rfl, fun j hj => match j, hj with | 0, _ => rfl | _ + 1, hj => absurd hj (by omega)⟩, ?_⟩
      refine Or.inl ?_
      obtain ⟨r65, hc65, h⟩ := bnd h
      obtain ⟨x64, x65⟩ := r65
      refine ⟨[true], _, _, _, ⟨⟨_, kem_Pair_2_c er [x52] (x64, x65) hc65, ⟨.inl rfl, trivial⟩⟩, trivial, rfl⟩, ?_⟩
      refine And.intro (fun h0 => Bool.noConfusion h0) (fun _ => ?_)
      obtain rfl := some_in h
      exact ⟨0, [], [], rfl, trivial⟩
     ·refine ⟨[], _, _, _, ⟨⟨_, kem_Decap_c er x54 (List.replicate 32 (0 : Int)) (Sum.inr ()) hc67, ⟨.inl rfl, .inl rfl, trivial⟩⟩, trivial, rfl⟩, ?_⟩
      refine Or.inl ?_
      refine ⟨(List.length [x52]), (rw_ (fun q => .roI .u8 q) [] [x52]), ⟨rfl, fun j hj => match j, hj with | 0, _ => rfl | _ + 1, hj => absurd hj (by omega)⟩, ?_⟩
      refine Or.inl ?_
      obtain ⟨r67, hc67, h⟩ := bnd h
      obtain ⟨x66, x67⟩ := r67
      refine ⟨[true], _, _, _, ⟨⟨_, kem_Pair_2_c er [x52] (x66, x67) hc67, ⟨.inl rfl, trivial⟩⟩, trivial, rfl⟩, ?_⟩
      refine And.intro (fun h0 => Bool.noConfusion h0) (fun _ => ?_)
      obtain rfl := some_in h
      exact ⟨0, [], [], rfl, trivial⟩
end
end Go.Eng
