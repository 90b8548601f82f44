/- Contracts of the given program's functions, and an abstract layer over the model; no condition. -/
import Derived.Test.YtocphglkceidhaaGreatBase5
set_option linter.unusedVariables false
set_option linter.unusedSimpArgs false
namespace Go.Proofs.YtocphglkceidhaaGreat
open Go.Ahl
def p0 : List (List FLit) := [[⟨0, false⟩, ⟨1, false⟩], [⟨0, true⟩, ⟨1, true⟩]]
theorem t0_pairs : pairsR t0 = .tuple [.slice .unk (p0.map encC), .int .i64 0] := by kernel_rfl
theorem t0_groups : groR t0 p0 = .tuple [.slice .unk ([[0, 1]].map encL), .int .i64 0] := by kernel_rfl
theorem t0_ind : indR t0 p0 = .tuple [.bool true, .int .i64 0] := by kernel_rfl
theorem t0_noind : indR t0 [[⟨0, false⟩]] = .tuple [.bool false, .int .i64 0] := by kernel_rfl
def c_awake8 : CCode := .seq (.ops [⟨some 0, .move (.lit (.bool false)), none, []⟩]) (.seq (.ops [⟨some 10, .bslice 1 [.lit (.str (bys [104, 101, 114, 101])), .lit (.str (bys [116, 104, 101, 114, 101]))] false, none, []⟩, ⟨some 11, .bslice 1 [.lit (.int .i64 0)] false, none, []⟩, ⟨some 12, .build [.int .i64 0, .bool false] [(0, 1, .lit (.int .i64 1))], none, []⟩, ⟨some 13, .bslice 2 [.tmp 12] false, none, []⟩, ⟨some 14, .build [.int .i64 0, .bool false] [(0, 1, .lit (.int .i64 0))], none, []⟩, ⟨some 15, .bslice 2 [.tmp 14] false, none, []⟩, ⟨some 16, .build [.int .i64 0, .bool false] [(0, 1, .lit (.int .i64 0)), (1, 1, .lit (.bool true))], none, []⟩, ⟨some 17, .build [.slice .nil [], .int .i64 0, .bool false] [(1, 2, .tmp 16)], none, []⟩, ⟨some 18, .build [.int .i64 0, .bool false] [(0, 1, .lit (.int .i64 1))], none, []⟩, ⟨some 19, .build [.slice .nil [], .int .i64 0, .bool false] [(1, 2, .tmp 18)], none, []⟩, ⟨some 20, .bslice 3 [.tmp 17, .tmp 19] false, none, []⟩, ⟨some 21, .build [.str (bys []), .int .i64 0, .slice .nil [], .slice .nil []] [(0, 1, .lit (.str (bys [103, 111]))), (1, 1, .lit (.int .i64 2)), (2, 1, .tmp 15), (3, 1, .tmp 20)], none, []⟩, ⟨some 22, .bslice 4 [.tmp 21] false, none, []⟩, ⟨some 23, .build [.slice .nil [], .slice .nil [], .slice .nil [], .slice .nil []] [(0, 1, .tmp 10), (1, 1, .tmp 11), (2, 1, .tmp 13), (3, 1, .tmp 22)], none, []⟩, ⟨some 1, .alloc (.agg [.slice .nil [], .slice .nil [], .slice .nil [], .slice .nil []]), none, []⟩, ⟨none, .store 4 (.tmp 1) (.tmp 23), none, []⟩]) (.seq (.ops [⟨some 25, .load (some 4) (.tmp 1), none, []⟩, ⟨some 26, .call (.lit (.func 15 [])) [.tmp 25], none, []⟩, ⟨some 24, .move (.tmp 26), none, []⟩, ⟨some 27, .extract (.tmp 24) 0, none, []⟩, ⟨some 28, .extract (.tmp 24) 1, none, []⟩, ⟨some 2, .move (.tmp 27), none, []⟩, ⟨some 3, .move (.tmp 28), none, []⟩]) (.seq (.ops [⟨some 30, .load (some 4) (.tmp 1), none, []⟩, ⟨some 31, .move (.tmp 2), none, []⟩, ⟨some 32, .call (.lit (.func 10 [])) [.tmp 30, .tmp 31], none, []⟩, ⟨some 29, .move (.tmp 32), none, []⟩, ⟨some 33, .extract (.tmp 29) 0, none, []⟩, ⟨some 34, .extract (.tmp 29) 1, none, []⟩, ⟨some 4, .move (.tmp 33), none, []⟩, ⟨some 5, .move (.tmp 34), none, []⟩]) (.seq (.ops [⟨some 36, .load (some 4) (.tmp 1), none, []⟩, ⟨some 37, .move (.tmp 2), none, []⟩, ⟨some 38, .call (.lit (.func 22 [])) [.tmp 36, .tmp 37], none, []⟩, ⟨some 35, .move (.tmp 38), none, []⟩, ⟨some 39, .extract (.tmp 35) 0, none, []⟩, ⟨some 40, .extract (.tmp 35) 1, none, []⟩, ⟨some 6, .move (.tmp 39), none, []⟩, ⟨some 7, .move (.tmp 40), none, []⟩]) (.seq (.ops [⟨some 42, .load (some 4) (.tmp 1), none, []⟩, ⟨some 43, .build [.int .i64 0, .bool false] [(0, 1, .lit (.int .i64 0))], none, []⟩, ⟨some 44, .bslice 2 [.tmp 43] false, none, []⟩, ⟨some 45, .bslice 1 [.tmp 44] false, none, []⟩, ⟨some 46, .call (.lit (.func 22 [])) [.tmp 42, .tmp 45], none, []⟩, ⟨some 41, .move (.tmp 46), none, []⟩, ⟨some 47, .extract (.tmp 41) 0, none, []⟩, ⟨some 48, .extract (.tmp 41) 1, none, []⟩, ⟨some 8, .move (.tmp 47), none, []⟩, ⟨some 9, .move (.tmp 48), none, []⟩]) (.seq (.ops [⟨some 49, .move (.tmp 3), none, []⟩, ⟨some 50, .bin .eql .none (.tmp 49) (.lit (.int .i64 0)), none, []⟩, ⟨some 51, .move (.tmp 50), none, []⟩, ⟨some 52, .move (.tmp 2), some (some 51, true), []⟩, ⟨some 53, .blen 1 (.tmp 52), some (some 51, true), []⟩, ⟨some 54, .bin .eql .none (.tmp 53) (.lit (.int .i64 2)), some (some 51, true), []⟩, ⟨some 55, .pick (.tmp 51) (.tmp 54) (.lit (.bool false)), none, []⟩, ⟨some 56, .move (.tmp 55), none, []⟩, ⟨some 57, .move (.tmp 5), some (some 56, true), []⟩, ⟨some 58, .bin .eql .none (.tmp 57) (.lit (.int .i64 0)), some (some 56, true), []⟩, ⟨some 59, .pick (.tmp 56) (.tmp 58) (.lit (.bool false)), none, []⟩, ⟨some 60, .move (.tmp 59), none, []⟩, ⟨some 61, .move (.tmp 4), some (some 60, true), []⟩, ⟨some 62, .blen 1 (.tmp 61), some (some 60, true), []⟩, ⟨some 63, .bin .eql .none (.tmp 62) (.lit (.int .i64 1)), some (some 60, true), []⟩, ⟨some 64, .pick (.tmp 60) (.tmp 63) (.lit (.bool false)), none, []⟩, ⟨some 65, .move (.tmp 64), none, []⟩, ⟨some 66, .move (.tmp 4), some (some 65, true), []⟩, ⟨some 67, .iaddr 1 (.tmp 66) (.lit (.int .i64 0)), some (some 65, true), []⟩, ⟨some 68, .load none (.tmp 67), some (some 65, true), []⟩, ⟨some 69, .bslice 1 [.lit (.int .i64 0), .lit (.int .i64 1)] false, some (some 65, true), []⟩, ⟨some 70, .call (.lit (.func 36 [])) [.tmp 68, .tmp 69], some (some 65, true), []⟩, ⟨some 71, .pick (.tmp 65) (.tmp 70) (.lit (.bool false)), none, []⟩, ⟨some 72, .move (.tmp 71), none, []⟩, ⟨some 73, .move (.tmp 6), some (some 72, true), []⟩, ⟨some 74, .pick (.tmp 72) (.tmp 73) (.lit (.bool false)), none, []⟩, ⟨some 75, .move (.tmp 74), none, []⟩, ⟨some 76, .move (.tmp 7), some (some 75, true), []⟩, ⟨some 77, .bin .eql .none (.tmp 76) (.lit (.int .i64 0)), some (some 75, true), []⟩, ⟨some 78, .pick (.tmp 75) (.tmp 77) (.lit (.bool false)), none, []⟩, ⟨some 79, .move (.tmp 78), none, []⟩, ⟨some 80, .move (.tmp 8), some (some 79, true), []⟩, ⟨some 81, .un .not (.tmp 80), some (some 79, true), []⟩, ⟨some 82, .pick (.tmp 79) (.tmp 81) (.lit (.bool false)), none, []⟩, ⟨some 83, .move (.tmp 82), none, []⟩, ⟨some 84, .move (.tmp 9), some (some 83, true), []⟩, ⟨some 85, .bin .eql .none (.tmp 84) (.lit (.int .i64 0)), some (some 83, true), []⟩, ⟨some 86, .pick (.tmp 83) (.tmp 85) (.lit (.bool false)), none, []⟩, ⟨some 0, .move (.tmp 86), none, []⟩]) .ret))))))
set_option maxRecDepth 20000 in
set_option maxHeartbeats 1000000 in
theorem awake8_spec (σ : Store) : ACalls Tryz.prog 9 [] σ (isR (.bool true) σ) := by
  refine ACalls.intro (rs := [(.tmp 0)]) (by kernel_rfl) { own := [], ghosts := [] } Tryz.func9 (c := Tryz.f9.body.getD .skip) (by kernel_rfl) (by decide) (by rw [show Tryz.f9.ntmps = 87 by kernel_rfl]; exact Nat.le_of_ble_eq_true rfl) (by kernel_rfl) ?_
  intro hσ hids
  rw [show comp Tryz.prog { own := [], ghosts := [] } (Tryz.f9.body.getD .skip) = c_awake8 by kernel_rfl, show Tryz.f9.ntmps = 87 by kernel_rfl]
  unfold c_awake8
  simp only [go_sem, Int.reduceToNat, Int.reduceLE, Int.reduceLT, Nat.reduceBEq, Nat.reduceLT, Nat.reduceAdd, Nat.reduceLeDiff]
  have e1 := fun σ => Pairs_spec t0 σ t0_TB (fun _ => by decide)
  rw [t0_pairs] at e1
  refine ACalls.is (ACalls.wk (e1 _) ?_) ?_
  · repeat (first | exact Wk.refl _ | exact WkL.nil | exact WkLL.nil | exact WkL.refl _ | refine Wk.agg ?_ | refine Wk.sl _ ?_ | refine WkL.cons ?_ ?_ | refine WkLL.cons ?_ ?_)
  have e2 := fun σ => iGroups_spec t0 p0 .unk σ t0_TB (FB_small (by decide)) (fun _ => by decide)
  rw [t0_groups] at e2
  simp only [go_sem, Int.reduceToNat, Int.reduceLE, Int.reduceLT, Nat.reduceBEq, Nat.reduceLT, Nat.reduceAdd, Nat.reduceLeDiff]
  refine ACalls.is (ACalls.wk (e2 _) ?_) ?_
  · repeat (first | exact Wk.refl _ | exact WkL.nil | exact WkLL.nil | exact WkL.refl _ | refine Wk.agg ?_ | refine Wk.sl _ ?_ | refine WkL.cons ?_ ?_ | refine WkLL.cons ?_ ?_)
  have e3 := fun σ => Inductive_spec t0 p0 .unk σ t0_TB (FB_small (by decide)) (fun _ => by decide)
  rw [t0_ind] at e3
  simp only [go_sem, Int.reduceToNat, Int.reduceLE, Int.reduceLT, Nat.reduceBEq, Nat.reduceLT, Nat.reduceAdd, Nat.reduceLeDiff]
  refine ACalls.is (ACalls.wk (e3 _) ?_) ?_
  · repeat (first | exact Wk.refl _ | exact WkL.nil | exact WkLL.nil | exact WkL.refl _ | refine Wk.agg ?_ | refine Wk.sl _ ?_ | refine WkL.cons ?_ ?_ | refine WkLL.cons ?_ ?_)
  have e4 := fun σ => Inductive_spec t0 [[⟨0, false⟩]] .unk σ t0_TB (FB_small (by decide)) (fun _ => by decide)
  rw [t0_noind] at e4
  simp only [go_sem, Int.reduceToNat, Int.reduceLE, Int.reduceLT, Nat.reduceBEq, Nat.reduceLT, Nat.reduceAdd, Nat.reduceLeDiff]
  refine ACalls.is (ACalls.wk (e4 _) ?_) ?_
  · repeat (first | exact Wk.refl _ | exact WkL.nil | exact WkLL.nil | exact WkL.refl _ | refine Wk.agg ?_ | refine Wk.sl _ ?_ | refine WkL.cons ?_ ?_ | refine WkLL.cons ?_ ?_)
  have h1 : ((p0.length : Int) == 2) = true := rfl
  have h2 : (((1 : Nat) : Int) == 1) = true := rfl
  have h3 : ((1 : Int) == 1) = true := rfl
  simp only [go_sem, Int.reduceToNat, Int.reduceLE, Int.reduceLT, Nat.reduceBEq, Nat.reduceLT, Nat.reduceAdd, Nat.reduceLeDiff, h1, h2, h3, encL]
  refine ACalls.is (ACalls.wk (sameInts_spec [0, 1] [0, 1] .unk .unk _ (by decide) (by decide)) ?_) ?_
  · repeat (first | exact Wk.refl _ | exact WkL.nil | exact WkLL.nil | exact WkL.refl _ | refine Wk.agg ?_ | refine Wk.sl _ ?_ | refine WkL.cons ?_ ?_ | refine WkLL.cons ?_ ?_)
  rw [show decide (([0, 1] : List Int) = [0, 1]) = true by decide]
  simp only [go_sem, Int.reduceToNat, Int.reduceLE, Int.reduceLT, Nat.reduceBEq, Nat.reduceLT, Nat.reduceAdd, Nat.reduceLeDiff]
  first | exact rtk (.bool true) ⟨rfl, rfl⟩ | exact rtk0 (.bool true) ⟨rfl, rfl⟩
end Go.Proofs.YtocphglkceidhaaGreat
