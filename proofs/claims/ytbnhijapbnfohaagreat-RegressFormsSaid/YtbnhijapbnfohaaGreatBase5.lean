/- Contracts of the given program's functions, and an abstract layer over the model; no condition. -/
import Derived.Test.YtbnhijapbnfohaaGreatBase4
set_option linter.unusedVariables false
set_option linter.unusedSimpArgs false
namespace Go.Proofs.YtbnhijapbnfohaaGreat
open Go.Ahl
def t0 : FTask := ⟨[bys [104, 101, 114, 101], bys [116, 104, 101, 114, 101]], [0], [⟨1, false⟩], [⟨bys [103, 111], 2, [⟨0, false⟩], [⟨[], ⟨0, true⟩⟩, ⟨[], ⟨1, false⟩⟩]⟩]⟩
theorem t0_TB : TB t0 := ⟨by decide, by decide, by decide, by decide, by decide, by decide, by decide, by decide, by decide⟩
theorem t0_reg : retF (actE t0 0 [[⟨1, false⟩]]) (backF (t0.actions.getD (0 : Int).toNat ⟨.empty, 0, [], []⟩) [[⟨1, false⟩]]) = .tuple [.slice .unk ([[⟨0, false⟩]].map encC), .int .i64 0] := by kernel_rfl
theorem t0_weak : retF (actE t0 0 []) (aheadF (t0.actions.getD (0 : Int).toNat ⟨.empty, 0, [], []⟩) []) = .tuple [.slice .unk ([[⟨0, true⟩]].map encC), .int .i64 0] := by kernel_rfl
theorem t0_fine : fineE t0 [[[]], [[⟨0, false⟩]]] = 0 := by kernel_rfl
theorem t0_check : checkE t0 [[⟨2, false⟩]] = 70 := by kernel_rfl
theorem FB_small {f : List (List FLit)} (h : f.length ≤ 1000 ∧ ∀ l ∈ f, l.length ≤ 1000) : FB f := ⟨by have := h.1; omega, fun l hl => by have := h.2 l hl; omega⟩
def c_awake : CCode := .seq (.ops [⟨some 0, .move (.lit (.bool false)), none, []⟩]) (.seq (.ops [⟨some 9, .bslice 1 [.lit (.str (bys [104, 101, 114, 101])), .lit (.str (bys [116, 104, 101, 114, 101]))] false, none, []⟩, ⟨some 10, .bslice 1 [.lit (.int .i64 0)] false, none, []⟩, ⟨some 11, .build [.int .i64 0, .bool false] [(0, 1, .lit (.int .i64 1))], none, []⟩, ⟨some 12, .bslice 2 [.tmp 11] false, none, []⟩, ⟨some 13, .build [.int .i64 0, .bool false] [(0, 1, .lit (.int .i64 0))], none, []⟩, ⟨some 14, .bslice 2 [.tmp 13] false, none, []⟩, ⟨some 15, .build [.int .i64 0, .bool false] [(0, 1, .lit (.int .i64 0)), (1, 1, .lit (.bool true))], none, []⟩, ⟨some 16, .build [.slice .nil [], .int .i64 0, .bool false] [(1, 2, .tmp 15)], none, []⟩, ⟨some 17, .build [.int .i64 0, .bool false] [(0, 1, .lit (.int .i64 1))], none, []⟩, ⟨some 18, .build [.slice .nil [], .int .i64 0, .bool false] [(1, 2, .tmp 17)], none, []⟩, ⟨some 19, .bslice 3 [.tmp 16, .tmp 18] false, none, []⟩, ⟨some 20, .build [.str (bys []), .int .i64 0, .slice .nil [], .slice .nil []] [(0, 1, .lit (.str (bys [103, 111]))), (1, 1, .lit (.int .i64 2)), (2, 1, .tmp 14), (3, 1, .tmp 19)], none, []⟩, ⟨some 21, .bslice 4 [.tmp 20] false, none, []⟩, ⟨some 22, .build [.slice .nil [], .slice .nil [], .slice .nil [], .slice .nil []] [(0, 1, .tmp 9), (1, 1, .tmp 10), (2, 1, .tmp 12), (3, 1, .tmp 21)], none, []⟩, ⟨some 1, .alloc (.agg [.slice .nil [], .slice .nil [], .slice .nil [], .slice .nil []]), none, []⟩, ⟨none, .store 4 (.tmp 1) (.tmp 22), none, []⟩]) (.seq (.ops [⟨some 24, .load (some 4) (.tmp 1), none, []⟩, ⟨some 25, .build [.int .i64 0, .bool false] [(0, 1, .lit (.int .i64 1))], none, []⟩, ⟨some 26, .bslice 2 [.tmp 25] false, none, []⟩, ⟨some 27, .bslice 1 [.tmp 26] false, none, []⟩, ⟨some 28, .call (.lit (.func 15 [])) [.tmp 24, .lit (.int .i64 0), .tmp 27], none, []⟩, ⟨some 23, .move (.tmp 28), none, []⟩, ⟨some 29, .extract (.tmp 23) 0, none, []⟩, ⟨some 30, .extract (.tmp 23) 1, none, []⟩, ⟨some 2, .move (.tmp 29), none, []⟩, ⟨some 3, .move (.tmp 30), none, []⟩]) (.seq (.ops [⟨some 32, .load (some 4) (.tmp 1), none, []⟩, ⟨some 33, .call (.lit (.func 18 [])) [.tmp 32, .lit (.int .i64 0), .lit (.slice .nil [])], none, []⟩, ⟨some 31, .move (.tmp 33), none, []⟩, ⟨some 34, .extract (.tmp 31) 0, none, []⟩, ⟨some 35, .extract (.tmp 31) 1, none, []⟩, ⟨some 4, .move (.tmp 34), none, []⟩, ⟨some 5, .move (.tmp 35), none, []⟩]) (.seq (.ops [⟨some 37, .load (some 4) (.tmp 1), none, []⟩, ⟨some 38, .bslice 1 [.lit (.slice .nil [])] false, none, []⟩, ⟨some 39, .build [.int .i64 0, .bool false] [(0, 1, .lit (.int .i64 0))], none, []⟩, ⟨some 40, .bslice 2 [.tmp 39] false, none, []⟩, ⟨some 41, .bslice 1 [.tmp 40] false, none, []⟩, ⟨some 42, .call (.lit (.func 23 [])) [.tmp 37, .tmp 38, .tmp 41], none, []⟩, ⟨some 36, .move (.tmp 42), none, []⟩, ⟨some 43, .extract (.tmp 36) 0, none, []⟩, ⟨some 44, .extract (.tmp 36) 1, none, []⟩, ⟨some 45, .extract (.tmp 36) 2, none, []⟩, ⟨some 6, .move (.tmp 43), none, []⟩, ⟨some 7, .move (.tmp 44), none, []⟩, ⟨some 8, .move (.tmp 45), none, []⟩]) (.seq (.ops [⟨some 46, .move (.tmp 3), none, []⟩, ⟨some 47, .bin .eql .none (.tmp 46) (.lit (.int .i64 0)), none, []⟩, ⟨some 48, .move (.tmp 47), none, []⟩, ⟨some 49, .move (.tmp 2), some (some 48, true), []⟩, ⟨some 50, .build [.int .i64 0, .bool false] [(0, 1, .lit (.int .i64 0))], some (some 48, true), []⟩, ⟨some 51, .bslice 2 [.tmp 50] false, some (some 48, true), []⟩, ⟨some 52, .bslice 1 [.tmp 51] false, some (some 48, true), []⟩, ⟨some 53, .call (.lit (.func 12 [])) [.tmp 49, .tmp 52], some (some 48, true), []⟩, ⟨some 54, .pick (.tmp 48) (.tmp 53) (.lit (.bool false)), none, []⟩, ⟨some 55, .move (.tmp 54), none, []⟩, ⟨some 56, .move (.tmp 5), some (some 55, true), []⟩, ⟨some 57, .bin .eql .none (.tmp 56) (.lit (.int .i64 0)), some (some 55, true), []⟩, ⟨some 58, .pick (.tmp 55) (.tmp 57) (.lit (.bool false)), none, []⟩, ⟨some 59, .move (.tmp 58), none, []⟩, ⟨some 60, .move (.tmp 4), some (some 59, true), []⟩, ⟨some 61, .build [.int .i64 0, .bool false] [(0, 1, .lit (.int .i64 0)), (1, 1, .lit (.bool true))], some (some 59, true), []⟩, ⟨some 62, .bslice 2 [.tmp 61] false, some (some 59, true), []⟩, ⟨some 63, .bslice 1 [.tmp 62] false, some (some 59, true), []⟩, ⟨some 64, .call (.lit (.func 12 [])) [.tmp 60, .tmp 63], some (some 59, true), []⟩, ⟨some 65, .pick (.tmp 59) (.tmp 64) (.lit (.bool false)), none, []⟩, ⟨some 66, .move (.tmp 65), none, []⟩, ⟨some 67, .move (.tmp 6), some (some 66, true), []⟩, ⟨some 68, .un .not (.tmp 67), some (some 66, true), []⟩, ⟨some 69, .pick (.tmp 66) (.tmp 68) (.lit (.bool false)), none, []⟩, ⟨some 70, .move (.tmp 69), none, []⟩, ⟨some 71, .move (.tmp 8), some (some 70, true), []⟩, ⟨some 72, .bin .eql .none (.tmp 71) (.lit (.int .i64 0)), some (some 70, true), []⟩, ⟨some 73, .pick (.tmp 70) (.tmp 72) (.lit (.bool false)), none, []⟩, ⟨some 74, .move (.tmp 73), none, []⟩, ⟨some 75, .move (.tmp 7), some (some 74, true), []⟩, ⟨some 76, .call (.lit (.func 24 [])) [.tmp 75, .lit (.int .i64 0)], some (some 74, true), []⟩, ⟨some 77, .un .not (.tmp 76), some (some 74, true), []⟩, ⟨some 78, .pick (.tmp 74) (.tmp 77) (.lit (.bool false)), none, []⟩, ⟨some 79, .move (.tmp 78), none, []⟩, ⟨some 80, .load (some 4) (.tmp 1), some (some 79, true), []⟩, ⟨some 81, .build [.int .i64 0, .bool false] [(0, 1, .lit (.int .i64 2))], some (some 79, true), []⟩, ⟨some 82, .bslice 2 [.tmp 81] false, some (some 79, true), []⟩, ⟨some 83, .bslice 1 [.tmp 82] false, some (some 79, true), []⟩, ⟨some 84, .call (.lit (.func 11 [])) [.tmp 80, .tmp 83], some (some 79, true), []⟩, ⟨some 85, .bin .eql .none (.tmp 84) (.lit (.int .i64 70)), some (some 79, true), []⟩, ⟨some 86, .pick (.tmp 79) (.tmp 85) (.lit (.bool false)), none, []⟩, ⟨some 0, .move (.tmp 86), none, []⟩]) .ret)))))
set_option maxRecDepth 20000 in
set_option maxHeartbeats 1000000 in
theorem awake_spec (σ : Store) : ACalls Tryz.prog 6 [] σ (isR (.bool true) σ) := by
  refine ACalls.intro (rs := [(.tmp 0)]) (by kernel_rfl) { own := [], ghosts := [] } Tryz.func6 (c := Tryz.f6.body.getD .skip) (by kernel_rfl) (by decide) (by rw [show Tryz.f6.ntmps = 87 by kernel_rfl]; exact Nat.le_of_ble_eq_true rfl) (by kernel_rfl) ?_
  intro hσ hids
  rw [show comp Tryz.prog { own := [], ghosts := [] } (Tryz.f6.body.getD .skip) = c_awake by kernel_rfl, show Tryz.f6.ntmps = 87 by kernel_rfl]
  unfold c_awake
  simp only [go_sem, Int.reduceToNat, Int.reduceLE, Int.reduceLT, Nat.reduceBEq, Nat.reduceLT, Nat.reduceAdd, Nat.reduceLeDiff]
  have e1 := Regress_spec t0 0 [[⟨1, false⟩]] .unk
  rw [t0_reg] at e1
  refine ACalls.is (ACalls.wk (e1 _ t0_TB (FB_small (by decide))) ?_) ?_
  · repeat (first | exact Wk.refl _ | exact WkL.nil | exact WkLL.nil | exact WkL.refl _ | refine Wk.agg ?_ | refine Wk.sl _ ?_ | refine WkL.cons ?_ ?_ | refine WkLL.cons ?_ ?_)
  simp only [go_sem, Int.reduceToNat, Int.reduceLE, Int.reduceLT, Nat.reduceBEq, Nat.reduceLT, Nat.reduceAdd, Nat.reduceLeDiff]
  have e2 := Weakest_spec t0 0 [] .nil
  rw [t0_weak] at e2
  refine ACalls.is (ACalls.wk (e2 _ t0_TB (FB_small (by decide))) ?_) ?_
  · repeat (first | exact Wk.refl _ | exact WkL.nil | exact WkLL.nil | exact WkL.refl _ | refine Wk.agg ?_ | refine Wk.sl _ ?_ | refine WkL.cons ?_ ?_ | refine WkLL.cons ?_ ?_)
  simp only [go_sem, Int.reduceToNat, Int.reduceLE, Int.reduceLT, Nat.reduceBEq, Nat.reduceLT, Nat.reduceAdd, Nat.reduceLeDiff]
  refine ACalls.mono (ACalls.wk (Implies_spec t0 [[]] [[⟨0, false⟩]] .unk .unk _ t0_TB (FB_small (by decide)) (FB_small (by decide)) (by decide)) ?_) ?_
  · repeat (first | exact Wk.refl _ | exact WkL.nil | exact WkLL.nil | exact WkL.refl _ | refine Wk.agg ?_ | refine Wk.sl _ ?_ | refine WkL.cons ?_ ?_ | refine WkLL.cons ?_ ?_)
  rintro _ _ ⟨rfl, ⟨h1, _⟩ | ⟨_, ⟨_, hno⟩ | ⟨s, hs1, hs2, rfl, hs3, hs4⟩⟩⟩
  · exact absurd t0_fine h1
  · obtain ⟨t, ht, e⟩ := hno [] (by simp) (fun _ => false) rfl
    simp at ht; subst ht
    exact absurd e (by decide)
  · have hc : s.contains 0 = false := by
      have := List.any_eq_false.1 hs4 [⟨0, false⟩] (by simp)
      simpa [condHolds] using this
    have hsl : s.length ≤ 2 := hs2
    simp only [go_sem, Int.reduceToNat, Int.reduceLE, Int.reduceLT, Nat.reduceBEq, Nat.reduceLT, Nat.reduceAdd, Nat.reduceLeDiff]
    refine ACalls.is (ACalls.wk (same07_spec [[⟨0, false⟩]] [[⟨0, false⟩]] .unk .unk _ (FB_small (by decide)) (FB_small (by decide))) ?_) ?_
    · repeat (first | exact Wk.refl _ | exact WkL.nil | exact WkLL.nil | exact WkL.refl _ | refine Wk.agg ?_ | refine Wk.sl _ ?_ | refine WkL.cons ?_ ?_ | refine WkLL.cons ?_ ?_)
    simp only [go_sem, Int.reduceToNat, Int.reduceLE, Int.reduceLT, Nat.reduceBEq, Nat.reduceLT, Nat.reduceAdd, Nat.reduceLeDiff]
    refine ACalls.is (ACalls.wk (same07_spec [[⟨0, true⟩]] [[⟨0, true⟩]] .unk .unk _ (FB_small (by decide)) (FB_small (by decide))) ?_) ?_
    · repeat (first | exact Wk.refl _ | exact WkL.nil | exact WkLL.nil | exact WkL.refl _ | refine Wk.agg ?_ | refine Wk.sl _ ?_ | refine WkL.cons ?_ ?_ | refine WkLL.cons ?_ ?_)
    simp only [go_sem, Int.reduceToNat, Int.reduceLE, Int.reduceLT, Nat.reduceBEq, Nat.reduceLT, Nat.reduceAdd, Nat.reduceLeDiff]
    refine (has_spec s 0 .unk _ (by omega)).is ?_
    rw [hc]
    simp only [go_sem, Int.reduceToNat, Int.reduceLE, Int.reduceLT, Nat.reduceBEq, Nat.reduceLT, Nat.reduceAdd, Nat.reduceLeDiff]
    have e3 := check07_spec t0 [[⟨2, false⟩]] .unk
    rw [t0_check] at e3
    refine ACalls.is (ACalls.wk (e3 _ t0_TB (by decide) (by decide)) ?_) ?_
    · repeat (first | exact Wk.refl _ | exact WkL.nil | exact WkLL.nil | exact WkL.refl _ | refine Wk.agg ?_ | refine Wk.sl _ ?_ | refine WkL.cons ?_ ?_ | refine WkLL.cons ?_ ?_)
    simp only [go_sem, Int.reduceToNat, Int.reduceLE, Int.reduceLT, Nat.reduceBEq, Nat.reduceLT, Nat.reduceAdd, Nat.reduceLeDiff]
    first | exact rtk (.bool true) ⟨rfl, rfl⟩ | exact rtk0 (.bool true) ⟨rfl, rfl⟩
end Go.Proofs.YtbnhijapbnfohaaGreat
