/- The law RegressOperations of layer 7 answers true for every input; there are no conditions beyond those of the given row. -/
import Derived.Test.YtbnhijapbnfohaaBase5
set_option linter.unusedVariables false
set_option linter.unusedSimpArgs false
namespace Go.Proofs.Ytbnhijapbnfohaa
open Go.Ahl Go.ChangeShapes Go.WideShapes Go.ChangeAt Go.RowKit
def c_law : CCode := .seq (.ops [⟨some 4, .box (.tmp 0), none, []⟩, ⟨some 8, .move (.lit (.bool false)), none, []⟩]) (.seq (.seq (.ops [⟨some 21, .load (some 4) (.tmp 4), none, []⟩, ⟨some 22, .move (.tmp 1), none, []⟩, ⟨some 23, .move (.tmp 2), none, []⟩, ⟨some 24, .bslice 1 [.tmp 22, .tmp 23] false, none, []⟩, ⟨some 25, .call (.lit (.func 7 [])) [.tmp 21, .tmp 24], none, []⟩, ⟨some 26, .un .not (.tmp 25), none, []⟩, ⟨some 27, .move (.tmp 26), none, []⟩, ⟨some 28, .move (.tmp 3), some (some 27, false), []⟩, ⟨some 29, .blen 1 (.tmp 28), some (some 27, false), []⟩, ⟨some 30, .bin .gtr .none (.tmp 29) (.lit (.int .i64 60)), some (some 27, false), []⟩, ⟨some 31, .pick (.tmp 27) (.lit (.bool true)) (.tmp 30), none, []⟩, ⟨some 32, .move (.tmp 31), none, []⟩, ⟨some 33, .faddr 0 (.tmp 4), some (some 32, false), []⟩, ⟨some 34, .load none (.tmp 33), some (some 32, false), []⟩, ⟨some 35, .blen 1 (.tmp 34), some (some 32, false), []⟩, ⟨some 36, .bin .gtr .none (.tmp 35) (.lit (.int .i64 16)), some (some 32, false), []⟩, ⟨some 37, .pick (.tmp 32) (.lit (.bool true)) (.tmp 36), none, []⟩]) (.cond (.tmp 37) (.seq (.ops [⟨some 38, .call (.lit (.func 8 [])) [], none, []⟩, ⟨some 8, .move (.tmp 38), none, []⟩]) .ret) .skip)) (.seq (.ops [⟨some 40, .load (some 4) (.tmp 4), none, []⟩, ⟨some 41, .move (.tmp 1), none, []⟩, ⟨some 42, .move (.tmp 2), none, []⟩, ⟨some 43, .call (.lit (.func 19 [])) [.tmp 40, .tmp 41, .tmp 42], none, []⟩, ⟨some 39, .move (.tmp 43), none, []⟩, ⟨some 44, .extract (.tmp 39) 0, none, []⟩, ⟨some 45, .extract (.tmp 39) 1, none, []⟩, ⟨some 9, .move (.tmp 44), none, []⟩, ⟨some 10, .move (.tmp 45), none, []⟩]) (.seq (.ops [⟨some 47, .load (some 4) (.tmp 4), none, []⟩, ⟨some 48, .move (.tmp 1), none, []⟩, ⟨some 49, .move (.tmp 2), none, []⟩, ⟨some 50, .call (.lit (.func 20 [])) [.tmp 47, .tmp 48, .tmp 49], none, []⟩, ⟨some 46, .move (.tmp 50), none, []⟩, ⟨some 51, .extract (.tmp 46) 0, none, []⟩, ⟨some 52, .extract (.tmp 46) 1, none, []⟩, ⟨some 11, .move (.tmp 51), none, []⟩, ⟨some 12, .move (.tmp 52), none, []⟩]) (.seq (.seq (.ops [⟨some 53, .load (some 4) (.tmp 4), none, []⟩, ⟨some 54, .move (.tmp 1), none, []⟩, ⟨some 55, .move (.tmp 2), none, []⟩, ⟨some 56, .bslice 1 [.tmp 54, .tmp 55] false, none, []⟩, ⟨some 57, .call (.lit (.func 10 [])) [.tmp 53, .tmp 56], none, []⟩, ⟨some 13, .move (.tmp 57), none, []⟩]) (.seq (.ops [⟨some 58, .move (.tmp 13), none, []⟩, ⟨some 59, .bin .neq .none (.tmp 58) (.lit (.int .i64 0)), none, []⟩]) (.cond (.tmp 59) (.seq (.ops [⟨some 60, .move (.tmp 10), none, []⟩, ⟨some 61, .move (.tmp 13), none, []⟩, ⟨some 62, .bin .eql .none (.tmp 60) (.tmp 61), none, []⟩, ⟨some 63, .move (.tmp 62), none, []⟩, ⟨some 64, .move (.tmp 12), some (some 63, true), []⟩, ⟨some 65, .move (.tmp 13), some (some 63, true), []⟩, ⟨some 66, .bin .eql .none (.tmp 64) (.tmp 65), some (some 63, true), []⟩, ⟨some 67, .pick (.tmp 63) (.tmp 66) (.lit (.bool false)), none, []⟩, ⟨some 68, .move (.tmp 67), none, []⟩, ⟨some 69, .move (.tmp 9), some (some 68, true), []⟩, ⟨some 70, .blen 1 (.tmp 69), some (some 68, true), []⟩, ⟨some 71, .move (.tmp 11), some (some 68, true), []⟩, ⟨some 72, .blen 1 (.tmp 71), some (some 68, true), []⟩, ⟨some 73, .bin .add .none (.tmp 70) (.tmp 72), some (some 68, true), []⟩, ⟨some 74, .bin .eql .none (.tmp 73) (.lit (.int .i64 0)), some (some 68, true), []⟩, ⟨some 75, .pick (.tmp 68) (.tmp 74) (.lit (.bool false)), none, []⟩, ⟨some 76, .move (.tmp 75), none, []⟩, ⟨some 77, .call (.lit (.func 8 [])) [], some (some 76, true), []⟩, ⟨some 78, .pick (.tmp 76) (.tmp 77) (.lit (.bool false)), none, []⟩, ⟨some 8, .move (.tmp 78), none, []⟩]) .ret) .skip))) (.seq (.ops [⟨some 80, .load (some 4) (.tmp 4), none, []⟩, ⟨some 81, .move (.tmp 1), none, []⟩, ⟨some 82, .call (.lit (.func 21 [])) [.tmp 80, .tmp 81], none, []⟩, ⟨some 79, .move (.tmp 82), none, []⟩, ⟨some 83, .extract (.tmp 79) 0, none, []⟩, ⟨some 84, .extract (.tmp 79) 1, none, []⟩, ⟨some 14, .move (.tmp 83), none, []⟩, ⟨some 15, .move (.tmp 84), none, []⟩]) (.seq (.ops [⟨some 85, .faddr 0 (.tmp 4), none, []⟩, ⟨some 86, .load none (.tmp 85), none, []⟩, ⟨some 87, .blen 1 (.tmp 86), none, []⟩, ⟨some 88, .bin .gtr .none (.tmp 87) (.lit (.int .i64 4)), none, []⟩, ⟨some 16, .move (.tmp 88), none, []⟩]) (.seq (.seq (.ops [⟨some 89, .load (some 4) (.tmp 4), none, []⟩, ⟨some 90, .move (.tmp 9), none, []⟩, ⟨some 91, .move (.tmp 10), none, []⟩, ⟨some 92, .move (.tmp 16), none, []⟩, ⟨some 93, .call (.lit (.func 16 [])) [.tmp 89, .tmp 90, .tmp 91, .tmp 92], none, []⟩, ⟨some 94, .un .not (.tmp 93), none, []⟩, ⟨some 95, .move (.tmp 94), none, []⟩, ⟨some 96, .load (some 4) (.tmp 4), some (some 95, false), []⟩, ⟨some 97, .move (.tmp 11), some (some 95, false), []⟩, ⟨some 98, .move (.tmp 12), some (some 95, false), []⟩, ⟨some 99, .move (.tmp 16), some (some 95, false), []⟩, ⟨some 100, .call (.lit (.func 16 [])) [.tmp 96, .tmp 97, .tmp 98, .tmp 99], some (some 95, false), []⟩, ⟨some 101, .un .not (.tmp 100), some (some 95, false), []⟩, ⟨some 102, .pick (.tmp 95) (.lit (.bool true)) (.tmp 101), none, []⟩, ⟨some 103, .move (.tmp 102), none, []⟩, ⟨some 104, .load (some 4) (.tmp 4), some (some 103, false), []⟩, ⟨some 105, .move (.tmp 14), some (some 103, false), []⟩, ⟨some 106, .move (.tmp 15), some (some 103, false), []⟩, ⟨some 107, .move (.tmp 16), some (some 103, false), []⟩, ⟨some 108, .call (.lit (.func 16 [])) [.tmp 104, .tmp 105, .tmp 106, .tmp 107], some (some 103, false), []⟩, ⟨some 109, .un .not (.tmp 108), some (some 103, false), []⟩, ⟨some 110, .pick (.tmp 103) (.lit (.bool true)) (.tmp 109), none, []⟩]) (.cond (.tmp 110) (.seq (.ops [⟨some 8, .move (.lit (.bool false)), none, []⟩]) .ret) .skip)) (.seq (.seq (.ops [⟨some 111, .load (some 4) (.tmp 4), none, []⟩, ⟨some 112, .move (.tmp 3), none, []⟩, ⟨some 113, .call (.lit (.func 13 [])) [.tmp 111, .tmp 112], none, []⟩, ⟨some 114, .blen 1 (.tmp 113), none, []⟩, ⟨some 115, .move (.lit (.int .i64 0)), none, []⟩]) (.block 0 (.loop (.seq (.ops [⟨some 116, .bin .lss .none (.tmp 115) (.tmp 114), none, []⟩]) (.seq (.cond (.tmp 116) .skip (.exit 0)) (.seq (.block 1 (.seq (.ops [⟨some 117, .iaddr 1 (.tmp 113) (.tmp 115), none, []⟩, ⟨some 118, .load none (.tmp 117), none, []⟩, ⟨some 18, .move (.tmp 118), none, []⟩]) (.seq (.ops [⟨some 119, .move (.tmp 18), none, []⟩, ⟨some 120, .move (.tmp 1), none, []⟩, ⟨some 121, .call (.lit (.func 12 [])) [.tmp 119, .tmp 120], none, []⟩, ⟨some 122, .move (.tmp 18), none, []⟩, ⟨some 123, .move (.tmp 2), none, []⟩, ⟨some 124, .call (.lit (.func 12 [])) [.tmp 122, .tmp 123], none, []⟩, ⟨some 19, .move (.tmp 121), none, []⟩, ⟨some 20, .move (.tmp 124), none, []⟩]) (.seq (.ops [⟨some 125, .move (.tmp 10), none, []⟩, ⟨some 126, .bin .eql .none (.tmp 125) (.lit (.int .i64 0)), none, []⟩, ⟨some 127, .move (.tmp 126), none, []⟩, ⟨some 128, .move (.tmp 18), some (some 127, true), []⟩, ⟨some 129, .move (.tmp 9), some (some 127, true), []⟩, ⟨some 130, .call (.lit (.func 12 [])) [.tmp 128, .tmp 129], some (some 127, true), []⟩, ⟨some 131, .move (.tmp 19), some (some 127, true), []⟩, ⟨some 132, .move (.tmp 131), some (some 127, true), []⟩, ⟨some 133, .move (.tmp 20), some (some 132, true), []⟩, ⟨some 134, .pick (.tmp 132) (.tmp 133) (.lit (.bool false)), some (some 127, true), []⟩, ⟨some 135, .bin .neq .bool (.tmp 130) (.tmp 134), some (some 127, true), []⟩, ⟨some 136, .pick (.tmp 127) (.tmp 135) (.lit (.bool false)), none, []⟩, ⟨some 137, .move (.tmp 136), none, []⟩, ⟨some 138, .move (.tmp 12), some (some 137, false), []⟩, ⟨some 139, .bin .eql .none (.tmp 138) (.lit (.int .i64 0)), some (some 137, false), []⟩, ⟨some 140, .move (.tmp 139), some (some 137, false), []⟩, ⟨some 141, .move (.tmp 18), some (some 140, true), []⟩, ⟨some 142, .move (.tmp 11), some (some 140, true), []⟩, ⟨some 143, .call (.lit (.func 12 [])) [.tmp 141, .tmp 142], some (some 140, true), []⟩, ⟨some 144, .move (.tmp 19), some (some 140, true), []⟩, ⟨some 145, .move (.tmp 144), some (some 140, true), []⟩, ⟨some 146, .move (.tmp 20), some (some 145, false), []⟩, ⟨some 147, .pick (.tmp 145) (.lit (.bool true)) (.tmp 146), some (some 140, true), []⟩, ⟨some 148, .bin .neq .bool (.tmp 143) (.tmp 147), some (some 140, true), []⟩, ⟨some 149, .pick (.tmp 140) (.tmp 148) (.lit (.bool false)), some (some 137, false), []⟩, ⟨some 150, .pick (.tmp 137) (.lit (.bool true)) (.tmp 149), none, []⟩, ⟨some 151, .move (.tmp 150), none, []⟩, ⟨some 152, .move (.tmp 15), some (some 151, false), []⟩, ⟨some 153, .bin .eql .none (.tmp 152) (.lit (.int .i64 0)), some (some 151, false), []⟩, ⟨some 154, .move (.tmp 153), some (some 151, false), []⟩, ⟨some 155, .move (.tmp 18), some (some 154, true), []⟩, ⟨some 156, .move (.tmp 14), some (some 154, true), []⟩, ⟨some 157, .call (.lit (.func 12 [])) [.tmp 155, .tmp 156], some (some 154, true), []⟩, ⟨some 158, .move (.tmp 19), some (some 154, true), []⟩, ⟨some 159, .bin .eql .bool (.tmp 157) (.tmp 158), some (some 154, true), []⟩, ⟨some 160, .pick (.tmp 154) (.tmp 159) (.lit (.bool false)), some (some 151, false), []⟩, ⟨some 161, .pick (.tmp 151) (.lit (.bool true)) (.tmp 160), none, []⟩]) (.cond (.tmp 161) (.seq (.ops [⟨some 8, .move (.lit (.bool false)), none, []⟩]) .ret) .skip))))) (.ops [⟨some 162, .bin .add .none (.tmp 115) (.lit (.int .i64 1)), none, []⟩, ⟨some 115, .move (.tmp 162), none, []⟩]))))))) (.seq (.ops [⟨some 163, .call (.lit (.func 8 [])) [], none, []⟩, ⟨some 8, .move (.tmp 163), none, []⟩]) .ret)))))))))
set_option maxRecDepth 20000 in
set_option maxHeartbeats 4000000 in
theorem law_spec (t : FTask) (f g : List (List FLit)) (l : List (List Int)) (ht : TB t) (hf : FB f) (hg : FB g) (hl : okL (okL okI) l) (σ : Store) :
    ACalls Try.prog 5 [.agg (encTask t), .slice .unk (f.map encC), .slice .unk (g.map encC), .slice .unk (l.map encL)] σ (isR (.bool true) σ) := by
  refine ACalls.intro (rs := [(.tmp 8)]) (by kernel_rfl) { own := [], ghosts := [] } Try.func5 (c := Try.f5.body.getD .skip) (by kernel_rfl) (by decide) (by rw [show Try.f5.ntmps = 164 by kernel_rfl]; exact Nat.le_of_ble_eq_true rfl) (by kernel_rfl) ?_
  intro hσ hids
  rw [show comp Try.prog { own := [], ghosts := [] } (Try.f5.body.getD .skip) = c_law by kernel_rfl, show Try.f5.ntmps = 164 by kernel_rfl]
  unfold c_law
  have hfs : ∀ x ∈ [f, g], FB x := by intro x hx; simp at hx; rcases hx with rfl | rfl; exact hf; exact hg
  simp only [go_sem, Int.reduceToNat, Int.reduceLE, Int.reduceLT, Nat.reduceBEq, Nat.reduceLT, Nat.reduceAdd, Nat.reduceLeDiff, encTask]
  refine ACalls.is (ACalls.wk (few_spec t [f, g] .unk _ ht (by simp) hfs) (.cons (.refl _) (WkL.one (wk_two _ _ _ _ _)))) ?_
  cases hfew : fewB t [f, g]
  · simp only [go_sem, Int.reduceToNat, Int.reduceLE, Int.reduceLT, Nat.reduceBEq, Nat.reduceLT, Nat.reduceAdd, Nat.reduceLeDiff]
    refine (awake_spec _).is ?_
    simp only [go_sem, Int.reduceToNat, Int.reduceLE, Int.reduceLT, Nat.reduceBEq, Nat.reduceLT, Nat.reduceAdd, Nat.reduceLeDiff]
    first | exact rtk (.bool true) ⟨rfl, rfl⟩ | exact rtk0 (.bool true) ⟨rfl, rfl⟩
  obtain ⟨hsz, _⟩ := fewB_size hfew
  by_cases h60 : (l.length : Int) > 60
  · simp only [go_sem, Int.reduceToNat, Int.reduceLE, Int.reduceLT, Nat.reduceBEq, Nat.reduceLT, Nat.reduceAdd, Nat.reduceLeDiff, h60]
    refine (awake_spec _).is ?_
    simp only [go_sem, Int.reduceToNat, Int.reduceLE, Int.reduceLT, Nat.reduceBEq, Nat.reduceLT, Nat.reduceAdd, Nat.reduceLeDiff]
    first | exact rtk (.bool true) ⟨rfl, rfl⟩ | exact rtk0 (.bool true) ⟨rfl, rfl⟩
  by_cases h16 : (t.facts.length : Int) > 16
  · simp only [go_sem, Int.reduceToNat, Int.reduceLE, Int.reduceLT, Nat.reduceBEq, Nat.reduceLT, Nat.reduceAdd, Nat.reduceLeDiff, h60, h16, encTask]
    refine (awake_spec _).is ?_
    simp only [go_sem, Int.reduceToNat, Int.reduceLE, Int.reduceLT, Nat.reduceBEq, Nat.reduceLT, Nat.reduceAdd, Nat.reduceLeDiff]
    first | exact rtk (.bool true) ⟨rfl, rfl⟩ | exact rtk0 (.bool true) ⟨rfl, rfl⟩
  simp only [go_sem, Int.reduceToNat, Int.reduceLE, Int.reduceLT, Nat.reduceBEq, Nat.reduceLT, Nat.reduceAdd, Nat.reduceLeDiff, h60, h16, encTask]
  have hAnd := And_spec t f g .unk .unk
  have hOr := Or_spec t f g .unk .unk
  have hNot := Not_spec t f .unk
  have hflt := fault_spec t [f, g] .unk
  rw [← fineE_fault t [f, g] (by simp)] at hflt
  by_cases h1 : fineE t [f, g] = 0
  · obtain ⟨hn, hvd, l1, l2, v1, v2⟩ := fine_two h1
    have h1f : fineE t [f] = 0 := by
      have := fineE_zero h1 f (by simp)
      rw [fineE, if_pos this]; rfl
    rw [h1] at hAnd hOr hflt
    rw [h1f] at hNot
    generalize hN : t.facts.length = n at *
    obtain ⟨o1, e1⟩ : ∃ o, o = upTo (bothF f g) := ⟨_, rfl⟩
    obtain ⟨o2, e2⟩ : ∃ o, o = upTo (some (reducedL (f ++ g))) := ⟨_, rfl⟩
    obtain ⟨o3, e3⟩ : ∃ o, o = negF f := ⟨_, rfl⟩
    rw [← e1, retF_out] at hAnd
    rw [← e2, retF_out] at hOr
    rw [← e3, retF_out] at hNot
    have up : ∀ o h, upTo o = some h → o = some h ∧ h.length ≤ 400 := by
      intro o h e
      unfold upTo at e
      cases o with
      | none => simp at e
      | some k =>
        simp only at e
        split at e
        · injection e with e; subst e; exact ⟨rfl, ‹_›⟩
        · simp at e
    have upn : ∀ h, h.length ≤ 81 → upTo (some h) ≠ none := by
      intro h hl e
      unfold upTo at e
      simp only at e
      rw [if_pos (by omega)] at e; simp at e
    have k1 : OutOk n o1 (decide ((n : Int) > 4)) := ⟨fun h e => by
        rw [e1] at e; have := up _ _ e; exact ⟨bothF_R this.1 v1 v2, this.2⟩, fun e => by
        refine decide_eq_true (Classical.byContradiction fun h4 => ?_)
        obtain ⟨h, q1, q2⟩ := small_both (n := n) (by omega) v1 v2
        rw [e1, q1] at e; exact upn h q2 e⟩
    have k2 : OutOk n o2 (decide ((n : Int) > 4)) := ⟨fun h e => by
        rw [e2] at e; have := up _ _ e; injection this.1 with q; exact ⟨⟨_, append_V v1 v2, q.symm⟩, this.2⟩, fun e => by
        refine decide_eq_true (Classical.byContradiction fun h4 => ?_)
        rw [e2] at e; exact upn _ (small_len (n := n) (by omega) (append_V v1 v2)) e⟩
    have k3 : OutOk n o3 (decide ((n : Int) > 4)) := ⟨fun h e => by
        rw [e3] at e; exact ⟨negF_R e v1, negF_len e⟩, fun e => by
        refine decide_eq_true (Classical.byContradiction fun h4 => ?_)
        obtain ⟨h, q1⟩ := small_neg (n := n) (by omega) v1
        rw [e3, q1] at e; simp at e⟩
    have m1 : ∀ h, o1 = some h → ∀ s, formHolds s h = (formHolds s f && formHolds s g) := fun h e s => by
      rw [e1] at e; rw [formHolds_T, formHolds_T, formHolds_T]; exact bothF_T _ (up _ _ e).1
    have m2 : ∀ h, o2 = some h → ∀ s, formHolds s h = (formHolds s f || formHolds s g) := fun h e s => by
      rw [e2] at e; have := (up _ _ e).1; injection this with q; subst q
      rw [formHolds_T, formHolds_T, formHolds_T, reducedL_T, formT_app]
    have m3 : ∀ h, o3 = some h → ∀ s, formHolds s h = !formHolds s f := fun h e s => by
      rw [e3] at e; rw [formHolds_T, formHolds_T]; exact negF_T _ e
    have r1 := k1.res
    have r2 := k2.res
    have r3 := k3.res
    have z1 := k1.size (by omega)
    have z2 := k2.size (by omega)
    have z3 := k3.size (by omega)
    have hres1 := result_spec t (outF o1) (outE o1) (decide ((n : Int) > 4)) (outT o1)
    have hres2 := result_spec t (outF o2) (outE o2) (decide ((n : Int) > 4)) (outT o2)
    have hres3 := result_spec t (outF o3) (outE o3) (decide ((n : Int) > 4)) (outT o3)
    rw [hN, r1] at hres1
    rw [hN, r2] at hres2
    rw [hN, r3] at hres3
    refine ACalls.is (hAnd _ ht hf hg) ?_
    simp only [go_sem, Int.reduceToNat, Int.reduceLE, Int.reduceLT, Nat.reduceBEq, Nat.reduceLT, Nat.reduceAdd, Nat.reduceLeDiff, encTask]
    refine ACalls.is (hOr _ ht hf hg) ?_
    simp only [go_sem, Int.reduceToNat, Int.reduceLE, Int.reduceLT, Nat.reduceBEq, Nat.reduceLT, Nat.reduceAdd, Nat.reduceLeDiff, encTask]
    refine ACalls.is (ACalls.wk (hflt _ ht (by simp) hfs) (.cons (.refl _) (WkL.one (wk_two _ _ _ _ _)))) ?_
    simp only [go_sem, Int.reduceToNat, Int.reduceLE, Int.reduceLT, Nat.reduceBEq, Nat.reduceLT, Nat.reduceAdd, Nat.reduceLeDiff, encTask]
    refine ACalls.is (hNot _ ht hf) ?_
    simp only [go_sem, Int.reduceToNat, Int.reduceLE, Int.reduceLT, Nat.reduceBEq, Nat.reduceLT, Nat.reduceAdd, Nat.reduceLeDiff, encTask, hN]
    refine ACalls.is (hres1 _ z1.2.2.1 z1.2.2.2 z1.2.1) ?_
    simp only [go_sem, Int.reduceToNat, Int.reduceLE, Int.reduceLT, Nat.reduceBEq, Nat.reduceLT, Nat.reduceAdd, Nat.reduceLeDiff, encTask]
    refine ACalls.is (hres2 _ z2.2.2.1 z2.2.2.2 z2.2.1) ?_
    simp only [go_sem, Int.reduceToNat, Int.reduceLE, Int.reduceLT, Nat.reduceBEq, Nat.reduceLT, Nat.reduceAdd, Nat.reduceLeDiff, encTask]
    refine ACalls.is (hres3 _ z3.2.2.1 z3.2.2.2 z3.2.1) ?_
    simp only [go_sem, Int.reduceToNat, Int.reduceLE, Int.reduceLT, Nat.reduceBEq, Nat.reduceLT, Nat.reduceAdd, Nat.reduceLeDiff, encTask]
    have hst := states_spec t l .unk
    rw [hN] at hst
    refine ACalls.is (hst _ (by omega) (fun s hs => (hl.2 s hs).1)) ?_
    simp only [go_sem, Int.reduceToNat, Int.reduceLE, Int.reduceLT, Nat.reduceBEq, Nat.reduceLT, Nat.reduceAdd, Nat.reduceLeDiff]
    clear hAnd hOr hNot hflt hres1 hres2 hres3 hst r1 r2 r3
    have ht1 : ∀ id, outT o1 = .grow id → id < σ.length := by intro id; cases o1 <;> simp [outT]
    have ht2 : ∀ id, outT o2 = .grow id → id < σ.length := by intro id; cases o2 <;> simp [outT]
    have ht3 : ∀ id, outT o3 = .grow id → id < σ.length := by intro id; cases o3 <;> simp [outT]
    have hI : ∀ (tk : Tok) (h : List (List FLit)), (∀ id, tk = .grow id → id < σ.length) → Ids σ.length (.slice tk (h.map encC)) := fun tk h htk => ids_flat htk fun e he x hx => by
      obtain ⟨y, _, rfl⟩ := List.mem_map.1 he; exact ids_encC y x hx
    have i1 := hI _ (outF o1) ht1
    have i2 := hI _ (outF o2) ht2
    have i3 := hI _ (outF o3) ht3
    have hsl := statesOf_len (n := n) (l := l) (by omega)
    refine wpc_while (fun (i : Nat) => [(1, .slice .unk (f.map encC)), (2, .slice .unk (g.map encC)), (9, .slice (outT o1) ((outF o1).map encC)), (10, .int .i64 (outE o1)), (11, .slice (outT o2) ((outF o2).map encC)), (12, .int .i64 (outE o2)), (14, .slice (outT o3) ((outF o3).map encC)), (15, .int .i64 (outE o3)), (113, .slice .unk ((statesOf n l).map encL)), (114, .int .i64 (statesOf n l).length), (115, .int .i64 i)]) (fun _ => σ) (fun i => i ≤ (statesOf n l).length) (fun i => (statesOf n l).length - i) 0 (Nat.zero_le _) (by (try dsimp only); first | exact ghk | exact ghk0) ?_
    intro i hi K hK hE hR
    by_cases h : i < (statesOf n l).length
    · obtain ⟨x, hx⟩ := get_ex h
      have hxm := statesOf_mem (List.mem_of_getElem? hx)
      have hxl : x.length ≤ 1048576 := by rcases risingB_len x _ hxm with h | h; simp [h]; omega
      have hlt : ((i : Int) < ((statesOf n l).length : Int)) := by omega
      have hw : IntKind.i64.wrap ((i : Int) + 1) = ((i + 1 : Nat) : Int) := by rw [wrap_ok (by omega)]; omega
      simp only [go_sem, Int.reduceToNat, Int.reduceLE, Int.reduceLT, Nat.reduceBEq, Nat.reduceLT, Nat.reduceAdd, Nat.reduceLeDiff, hlt, hx, encL]
      refine (holds07_spec x f .unk .unk _ (by omega) hf.1 hf.2).is ?_
      simp only [go_sem, Int.reduceToNat, Int.reduceLE, Int.reduceLT, Nat.reduceBEq, Nat.reduceLT, Nat.reduceAdd, Nat.reduceLeDiff]
      refine (holds07_spec x g .unk .unk _ (by omega) hg.1 hg.2).is ?_
      have c20 : ((2 : Int) == 0) = false := rfl
      generalize hp : formHolds x f = p
      generalize hq : formHolds x g = q
      cases p <;> cases q
      all_goals
        rcases ho1 : o1 with _ | h1
        · simp only [go_sem, Int.reduceToNat, Int.reduceLE, Int.reduceLT, Nat.reduceBEq, Nat.reduceLT, Nat.reduceAdd, Nat.reduceLeDiff, outE, outF, outT, Option.getD_none, List.map_nil, c20, Bool.and_self, Bool.and_true, Bool.and_false, Bool.true_and, Bool.false_and, Bool.or_self, Bool.or_true, Bool.or_false, Bool.true_or, Bool.false_or, Bool.not_true, Bool.not_false, Bool.true_beq, Bool.false_beq]
          rcases ho2 : o2 with _ | h2
          · simp only [go_sem, Int.reduceToNat, Int.reduceLE, Int.reduceLT, Nat.reduceBEq, Nat.reduceLT, Nat.reduceAdd, Nat.reduceLeDiff, outE, outF, outT, Option.getD_none, List.map_nil, c20, Bool.and_self, Bool.and_true, Bool.and_false, Bool.true_and, Bool.false_and, Bool.or_self, Bool.or_true, Bool.or_false, Bool.true_or, Bool.false_or, Bool.not_true, Bool.not_false, Bool.true_beq, Bool.false_beq]
            rcases ho3 : o3 with _ | h3
            · simp only [go_sem, Int.reduceToNat, Int.reduceLE, Int.reduceLT, Nat.reduceBEq, Nat.reduceLT, Nat.reduceAdd, Nat.reduceLeDiff, outE, outF, outT, Option.getD_none, List.map_nil, c20, Bool.and_self, Bool.and_true, Bool.and_false, Bool.true_and, Bool.false_and, Bool.or_self, Bool.or_true, Bool.or_false, Bool.true_or, Bool.false_or, Bool.not_true, Bool.not_false, Bool.true_beq, Bool.false_beq]
              refine hK _ _ (i + 1) (by omega) (by first | omega | (simp only []; omega) | (simp; omega)) ?_; (try dsimp only); (try simp only [ hw, ho1, ho2, ho3, outT, outF, outE, Option.getD_none, Option.getD_some, List.map_nil]); first | exact ghk | exact ghk0
            · have hz3 := vF_size (by omega) (k3.red h3 ho3).1.V (k3.red h3 ho3).2
              simp only [go_sem, Int.reduceToNat, Int.reduceLE, Int.reduceLT, Nat.reduceBEq, Nat.reduceLT, Nat.reduceAdd, Nat.reduceLeDiff, outE, outF, outT, Option.getD_some, Bool.and_self, Bool.and_true, Bool.and_false, Bool.true_and, Bool.false_and, Bool.or_self, Bool.or_true, Bool.or_false, Bool.true_or, Bool.false_or, Bool.not_true, Bool.not_false, Bool.true_beq, Bool.false_beq]
              refine (holds07_spec x h3 .unk .unk _ (by omega) hz3.1.1 hz3.1.2).is ?_
              rw [m3 h3 ho3 x, hp]
              simp only [go_sem, Int.reduceToNat, Int.reduceLE, Int.reduceLT, Nat.reduceBEq, Nat.reduceLT, Nat.reduceAdd, Nat.reduceLeDiff, Bool.and_self, Bool.and_true, Bool.and_false, Bool.true_and, Bool.false_and, Bool.or_self, Bool.or_true, Bool.or_false, Bool.true_or, Bool.false_or, Bool.not_true, Bool.not_false, Bool.true_beq, Bool.false_beq]
              refine hK _ _ (i + 1) (by omega) (by first | omega | (simp only []; omega) | (simp; omega)) ?_; (try dsimp only); (try simp only [ hw, ho1, ho2, ho3, outT, outF, outE, Option.getD_none, Option.getD_some, List.map_nil]); first | exact ghk | exact ghk0
          · have hz2 := vF_size (by omega) (k2.red h2 ho2).1.V (k2.red h2 ho2).2
            simp only [go_sem, Int.reduceToNat, Int.reduceLE, Int.reduceLT, Nat.reduceBEq, Nat.reduceLT, Nat.reduceAdd, Nat.reduceLeDiff, outE, outF, outT, Option.getD_some, Bool.and_self, Bool.and_true, Bool.and_false, Bool.true_and, Bool.false_and, Bool.or_self, Bool.or_true, Bool.or_false, Bool.true_or, Bool.false_or, Bool.not_true, Bool.not_false, Bool.true_beq, Bool.false_beq]
            refine (holds07_spec x h2 .unk .unk _ (by omega) hz2.1.1 hz2.1.2).is ?_
            rw [m2 h2 ho2 x, hp, hq]
            simp only [go_sem, Int.reduceToNat, Int.reduceLE, Int.reduceLT, Nat.reduceBEq, Nat.reduceLT, Nat.reduceAdd, Nat.reduceLeDiff, Bool.and_self, Bool.and_true, Bool.and_false, Bool.true_and, Bool.false_and, Bool.or_self, Bool.or_true, Bool.or_false, Bool.true_or, Bool.false_or, Bool.not_true, Bool.not_false, Bool.true_beq, Bool.false_beq]
            rcases ho3 : o3 with _ | h3
            · simp only [go_sem, Int.reduceToNat, Int.reduceLE, Int.reduceLT, Nat.reduceBEq, Nat.reduceLT, Nat.reduceAdd, Nat.reduceLeDiff, outE, outF, outT, Option.getD_none, List.map_nil, c20, Bool.and_self, Bool.and_true, Bool.and_false, Bool.true_and, Bool.false_and, Bool.or_self, Bool.or_true, Bool.or_false, Bool.true_or, Bool.false_or, Bool.not_true, Bool.not_false, Bool.true_beq, Bool.false_beq]
              refine hK _ _ (i + 1) (by omega) (by first | omega | (simp only []; omega) | (simp; omega)) ?_; (try dsimp only); (try simp only [ hw, ho1, ho2, ho3, outT, outF, outE, Option.getD_none, Option.getD_some, List.map_nil]); first | exact ghk | exact ghk0
            · have hz3 := vF_size (by omega) (k3.red h3 ho3).1.V (k3.red h3 ho3).2
              simp only [go_sem, Int.reduceToNat, Int.reduceLE, Int.reduceLT, Nat.reduceBEq, Nat.reduceLT, Nat.reduceAdd, Nat.reduceLeDiff, outE, outF, outT, Option.getD_some, Bool.and_self, Bool.and_true, Bool.and_false, Bool.true_and, Bool.false_and, Bool.or_self, Bool.or_true, Bool.or_false, Bool.true_or, Bool.false_or, Bool.not_true, Bool.not_false, Bool.true_beq, Bool.false_beq]
              refine (holds07_spec x h3 .unk .unk _ (by omega) hz3.1.1 hz3.1.2).is ?_
              rw [m3 h3 ho3 x, hp]
              simp only [go_sem, Int.reduceToNat, Int.reduceLE, Int.reduceLT, Nat.reduceBEq, Nat.reduceLT, Nat.reduceAdd, Nat.reduceLeDiff, Bool.and_self, Bool.and_true, Bool.and_false, Bool.true_and, Bool.false_and, Bool.or_self, Bool.or_true, Bool.or_false, Bool.true_or, Bool.false_or, Bool.not_true, Bool.not_false, Bool.true_beq, Bool.false_beq]
              refine hK _ _ (i + 1) (by omega) (by first | omega | (simp only []; omega) | (simp; omega)) ?_; (try dsimp only); (try simp only [ hw, ho1, ho2, ho3, outT, outF, outE, Option.getD_none, Option.getD_some, List.map_nil]); first | exact ghk | exact ghk0
        · have hz1 := vF_size (by omega) (k1.red h1 ho1).1.V (k1.red h1 ho1).2
          simp only [go_sem, Int.reduceToNat, Int.reduceLE, Int.reduceLT, Nat.reduceBEq, Nat.reduceLT, Nat.reduceAdd, Nat.reduceLeDiff, outE, outF, outT, Option.getD_some, Bool.and_self, Bool.and_true, Bool.and_false, Bool.true_and, Bool.false_and, Bool.or_self, Bool.or_true, Bool.or_false, Bool.true_or, Bool.false_or, Bool.not_true, Bool.not_false, Bool.true_beq, Bool.false_beq]
          refine (holds07_spec x h1 .unk .unk _ (by omega) hz1.1.1 hz1.1.2).is ?_
          rw [m1 h1 ho1 x, hp, hq]
          simp only [go_sem, Int.reduceToNat, Int.reduceLE, Int.reduceLT, Nat.reduceBEq, Nat.reduceLT, Nat.reduceAdd, Nat.reduceLeDiff, Bool.and_self, Bool.and_true, Bool.and_false, Bool.true_and, Bool.false_and, Bool.or_self, Bool.or_true, Bool.or_false, Bool.true_or, Bool.false_or, Bool.not_true, Bool.not_false, Bool.true_beq, Bool.false_beq]
          rcases ho2 : o2 with _ | h2
          · simp only [go_sem, Int.reduceToNat, Int.reduceLE, Int.reduceLT, Nat.reduceBEq, Nat.reduceLT, Nat.reduceAdd, Nat.reduceLeDiff, outE, outF, outT, Option.getD_none, List.map_nil, c20, Bool.and_self, Bool.and_true, Bool.and_false, Bool.true_and, Bool.false_and, Bool.or_self, Bool.or_true, Bool.or_false, Bool.true_or, Bool.false_or, Bool.not_true, Bool.not_false, Bool.true_beq, Bool.false_beq]
            rcases ho3 : o3 with _ | h3
            · simp only [go_sem, Int.reduceToNat, Int.reduceLE, Int.reduceLT, Nat.reduceBEq, Nat.reduceLT, Nat.reduceAdd, Nat.reduceLeDiff, outE, outF, outT, Option.getD_none, List.map_nil, c20, Bool.and_self, Bool.and_true, Bool.and_false, Bool.true_and, Bool.false_and, Bool.or_self, Bool.or_true, Bool.or_false, Bool.true_or, Bool.false_or, Bool.not_true, Bool.not_false, Bool.true_beq, Bool.false_beq]
              refine hK _ _ (i + 1) (by omega) (by first | omega | (simp only []; omega) | (simp; omega)) ?_; (try dsimp only); (try simp only [ hw, ho1, ho2, ho3, outT, outF, outE, Option.getD_none, Option.getD_some, List.map_nil]); first | exact ghk | exact ghk0
            · have hz3 := vF_size (by omega) (k3.red h3 ho3).1.V (k3.red h3 ho3).2
              simp only [go_sem, Int.reduceToNat, Int.reduceLE, Int.reduceLT, Nat.reduceBEq, Nat.reduceLT, Nat.reduceAdd, Nat.reduceLeDiff, outE, outF, outT, Option.getD_some, Bool.and_self, Bool.and_true, Bool.and_false, Bool.true_and, Bool.false_and, Bool.or_self, Bool.or_true, Bool.or_false, Bool.true_or, Bool.false_or, Bool.not_true, Bool.not_false, Bool.true_beq, Bool.false_beq]
              refine (holds07_spec x h3 .unk .unk _ (by omega) hz3.1.1 hz3.1.2).is ?_
              rw [m3 h3 ho3 x, hp]
              simp only [go_sem, Int.reduceToNat, Int.reduceLE, Int.reduceLT, Nat.reduceBEq, Nat.reduceLT, Nat.reduceAdd, Nat.reduceLeDiff, Bool.and_self, Bool.and_true, Bool.and_false, Bool.true_and, Bool.false_and, Bool.or_self, Bool.or_true, Bool.or_false, Bool.true_or, Bool.false_or, Bool.not_true, Bool.not_false, Bool.true_beq, Bool.false_beq]
              refine hK _ _ (i + 1) (by omega) (by first | omega | (simp only []; omega) | (simp; omega)) ?_; (try dsimp only); (try simp only [ hw, ho1, ho2, ho3, outT, outF, outE, Option.getD_none, Option.getD_some, List.map_nil]); first | exact ghk | exact ghk0
          · have hz2 := vF_size (by omega) (k2.red h2 ho2).1.V (k2.red h2 ho2).2
            simp only [go_sem, Int.reduceToNat, Int.reduceLE, Int.reduceLT, Nat.reduceBEq, Nat.reduceLT, Nat.reduceAdd, Nat.reduceLeDiff, outE, outF, outT, Option.getD_some, Bool.and_self, Bool.and_true, Bool.and_false, Bool.true_and, Bool.false_and, Bool.or_self, Bool.or_true, Bool.or_false, Bool.true_or, Bool.false_or, Bool.not_true, Bool.not_false, Bool.true_beq, Bool.false_beq]
            refine (holds07_spec x h2 .unk .unk _ (by omega) hz2.1.1 hz2.1.2).is ?_
            rw [m2 h2 ho2 x, hp, hq]
            simp only [go_sem, Int.reduceToNat, Int.reduceLE, Int.reduceLT, Nat.reduceBEq, Nat.reduceLT, Nat.reduceAdd, Nat.reduceLeDiff, Bool.and_self, Bool.and_true, Bool.and_false, Bool.true_and, Bool.false_and, Bool.or_self, Bool.or_true, Bool.or_false, Bool.true_or, Bool.false_or, Bool.not_true, Bool.not_false, Bool.true_beq, Bool.false_beq]
            rcases ho3 : o3 with _ | h3
            · simp only [go_sem, Int.reduceToNat, Int.reduceLE, Int.reduceLT, Nat.reduceBEq, Nat.reduceLT, Nat.reduceAdd, Nat.reduceLeDiff, outE, outF, outT, Option.getD_none, List.map_nil, c20, Bool.and_self, Bool.and_true, Bool.and_false, Bool.true_and, Bool.false_and, Bool.or_self, Bool.or_true, Bool.or_false, Bool.true_or, Bool.false_or, Bool.not_true, Bool.not_false, Bool.true_beq, Bool.false_beq]
              refine hK _ _ (i + 1) (by omega) (by first | omega | (simp only []; omega) | (simp; omega)) ?_; (try dsimp only); (try simp only [ hw, ho1, ho2, ho3, outT, outF, outE, Option.getD_none, Option.getD_some, List.map_nil]); first | exact ghk | exact ghk0
            · have hz3 := vF_size (by omega) (k3.red h3 ho3).1.V (k3.red h3 ho3).2
              simp only [go_sem, Int.reduceToNat, Int.reduceLE, Int.reduceLT, Nat.reduceBEq, Nat.reduceLT, Nat.reduceAdd, Nat.reduceLeDiff, outE, outF, outT, Option.getD_some, Bool.and_self, Bool.and_true, Bool.and_false, Bool.true_and, Bool.false_and, Bool.or_self, Bool.or_true, Bool.or_false, Bool.true_or, Bool.false_or, Bool.not_true, Bool.not_false, Bool.true_beq, Bool.false_beq]
              refine (holds07_spec x h3 .unk .unk _ (by omega) hz3.1.1 hz3.1.2).is ?_
              rw [m3 h3 ho3 x, hp]
              simp only [go_sem, Int.reduceToNat, Int.reduceLE, Int.reduceLT, Nat.reduceBEq, Nat.reduceLT, Nat.reduceAdd, Nat.reduceLeDiff, Bool.and_self, Bool.and_true, Bool.and_false, Bool.true_and, Bool.false_and, Bool.or_self, Bool.or_true, Bool.or_false, Bool.true_or, Bool.false_or, Bool.not_true, Bool.not_false, Bool.true_beq, Bool.false_beq]
              refine hK _ _ (i + 1) (by omega) (by first | omega | (simp only []; omega) | (simp; omega)) ?_; (try dsimp only); (try simp only [ hw, ho1, ho2, ho3, outT, outF, outE, Option.getD_none, Option.getD_some, List.map_nil]); first | exact ghk | exact ghk0
    · have hlt : ¬ ((i : Int) < ((statesOf n l).length : Int)) := by omega
      simp only [go_sem, Int.reduceToNat, Int.reduceLE, Int.reduceLT, Nat.reduceBEq, Nat.reduceLT, Nat.reduceAdd, Nat.reduceLeDiff, hlt, hE]
      refine (awake_spec _).is ?_
      simp only [go_sem, Int.reduceToNat, Int.reduceLE, Int.reduceLT, Nat.reduceBEq, Nat.reduceLT, Nat.reduceAdd, Nat.reduceLeDiff]
      first | exact rtk (.bool true) ⟨rfl, rfl⟩ | exact rtk0 (.bool true) ⟨rfl, rfl⟩
  · have h1' : (fineE t [f, g] != 0) = true := by simpa using h1
    have h1'' : (fineE t [f, g] == fineE t [f, g]) = true := beq_self_eq_true _
    have w0 : IntKind.i64.wrap (0 + 0) = 0 := rfl
    rw [retF_ne h1] at hAnd hOr
    refine ACalls.is (hAnd _ ht hf hg) ?_
    simp only [go_sem, Int.reduceToNat, Int.reduceLE, Int.reduceLT, Nat.reduceBEq, Nat.reduceLT, Nat.reduceAdd, Nat.reduceLeDiff, encTask]
    refine ACalls.is (hOr _ ht hf hg) ?_
    simp only [go_sem, Int.reduceToNat, Int.reduceLE, Int.reduceLT, Nat.reduceBEq, Nat.reduceLT, Nat.reduceAdd, Nat.reduceLeDiff, encTask]
    refine ACalls.is (ACalls.wk (hflt _ ht (by simp) hfs) (.cons (.refl _) (WkL.one (wk_two _ _ _ _ _)))) ?_
    simp only [go_sem, Int.reduceToNat, Int.reduceLE, Int.reduceLT, Nat.reduceBEq, Nat.reduceLT, Nat.reduceAdd, Nat.reduceLeDiff, h1', h1'', w0]
    refine (awake_spec _).is ?_
    simp only [go_sem, Int.reduceToNat, Int.reduceLE, Int.reduceLT, Nat.reduceBEq, Nat.reduceLT, Nat.reduceAdd, Nat.reduceLeDiff]
    first | exact rtk (.bool true) ⟨rfl, rfl⟩ | exact rtk0 (.bool true) ⟨rfl, rfl⟩
theorem law_reads : ReadsAll Try.prog Try.f5.params.toList (fun avs => ACalls Try.prog 5 avs [] (isR (.bool true) [])) := by
  rw [show Try.f5.params.toList = [27, 28, 28, 29] by kernel_rfl]
  exact .cons ra_task fun t ht => .cons ra_form fun f hf => .cons ra_form fun g hg => .cons ra_intss fun l hl => .nil (law_spec t f g l ht hf hg hl [])
set_option maxRecDepth 100000 in
theorem lifted (os : Os) (started : os.Started) (H : Type) (enc : TypeId × Value → H) :
    ReturnsInHanded {} Try.checked os 5 .any (Rows.regressOperationsSpec.pre6 enc Try.prog Try.f5 Rows.regressOperationsRow.domain false) (Rows.regressOperationsSpec.post enc Try.prog Try.f5 false true false false) := by
  refine returnsInHanded_of_change_sized (C := Try.checked) own started (by kernel_rfl) Try.func5
    (ChangeSpec.witness6 (enc := enc) (C := Try.checked) false ⟨#[], #[.agg #[.slice none 0 0, .slice none 0 0, .slice none 0 0, .slice none 0 0], .slice none 0 0, .slice none 0 0, .slice none 0 0], []⟩ 8 (by kernel_rfl) (by kernel_rfl) (by kernel_rfl) (by kernel_rfl)) ?_
  intro W base args ds gs before hval hW _ hsz _
  refine law_post (P := Try.prog) Try.func5 (by kernel_rfl) (by decide) rfl ?_ laidOut (rdble (by kernel_rfl)) (by kernel_rfl) Try.underlying4 law_reads hval hW hsz
  intro ds h
  rw [show Try.f5.params.size = 4 by kernel_rfl] at h
  match ds, h with
  | [a, b, c, d], _ => rfl
theorem holds : Rows.RegressOperationsSaid :=
  OpenClaim.holds_of_wide 5 Try.f5 rfl rfl rfl rfl rfl rfl rfl ⟨rfl, rfl, rfl, rfl, rfl⟩ rfl rfl rfl rfl rfl (by kernel_rfl) Try.func5 (by kernel_rfl)
    (of_decide_eq_true (by kernel_rfl)) (by unfold Func.isWrapper; first | (rw [if_pos (by decide +kernel)]; kernel_rfl) | (rw [if_neg (by decide +kernel)]; exact ⟨rfl, rfl⟩))
    (fun os started H enc _ => lifted os started H enc)
end Go.Proofs.Ytbnhijapbnfohaa
