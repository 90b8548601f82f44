/- The law RegressActions of layer 7 answers true for every input; there are no conditions beyond those of the given row. -/
import Derived.Test.YtbnhijapbnfohaaBase5
set_option linter.unusedVariables false
set_option linter.unusedSimpArgs false
namespace Go.Proofs.Ytbnhijapbnfohaa
open Go.Ahl Go.ChangeShapes Go.WideShapes Go.ChangeAt Go.RowKit
theorem fineE_one (t : FTask) (f : List (List FLit)) : fineE t [f] = checkE t f := by
  rw [fineE]; split
  · rename_i h; rw [h]; rfl
  · rfl
def c_law : CCode := .seq (.ops [⟨some 4, .box (.tmp 0), none, []⟩, ⟨some 8, .move (.lit (.bool false)), none, []⟩]) (.seq (.seq (.ops [⟨some 19, .load (some 4) (.tmp 4), none, []⟩, ⟨some 20, .move (.tmp 2), none, []⟩, ⟨some 21, .bslice 1 [.tmp 20] false, none, []⟩, ⟨some 22, .call (.lit (.func 7 [])) [.tmp 19, .tmp 21], none, []⟩, ⟨some 23, .un .not (.tmp 22), none, []⟩, ⟨some 24, .move (.tmp 23), none, []⟩, ⟨some 25, .move (.tmp 3), some (some 24, false), []⟩, ⟨some 26, .blen 1 (.tmp 25), some (some 24, false), []⟩, ⟨some 27, .bin .gtr .none (.tmp 26) (.lit (.int .i64 60)), some (some 24, false), []⟩, ⟨some 28, .pick (.tmp 24) (.lit (.bool true)) (.tmp 27), none, []⟩, ⟨some 29, .move (.tmp 28), none, []⟩, ⟨some 30, .faddr 0 (.tmp 4), some (some 29, false), []⟩, ⟨some 31, .load none (.tmp 30), some (some 29, false), []⟩, ⟨some 32, .blen 1 (.tmp 31), some (some 29, false), []⟩, ⟨some 33, .bin .gtr .none (.tmp 32) (.lit (.int .i64 16)), some (some 29, false), []⟩, ⟨some 34, .pick (.tmp 29) (.lit (.bool true)) (.tmp 33), none, []⟩]) (.cond (.tmp 34) (.seq (.ops [⟨some 35, .call (.lit (.func 8 [])) [], none, []⟩, ⟨some 8, .move (.tmp 35), none, []⟩]) .ret) .skip)) (.seq (.ops [⟨some 37, .load (some 4) (.tmp 4), none, []⟩, ⟨some 38, .move (.tmp 1), none, []⟩, ⟨some 39, .move (.tmp 2), none, []⟩, ⟨some 40, .call (.lit (.func 14 [])) [.tmp 37, .tmp 38, .tmp 39], none, []⟩, ⟨some 36, .move (.tmp 40), none, []⟩, ⟨some 41, .extract (.tmp 36) 0, none, []⟩, ⟨some 42, .extract (.tmp 36) 1, none, []⟩, ⟨some 9, .move (.tmp 41), none, []⟩, ⟨some 10, .move (.tmp 42), none, []⟩]) (.seq (.ops [⟨some 44, .load (some 4) (.tmp 4), none, []⟩, ⟨some 45, .move (.tmp 1), none, []⟩, ⟨some 46, .move (.tmp 2), none, []⟩, ⟨some 47, .call (.lit (.func 15 [])) [.tmp 44, .tmp 45, .tmp 46], none, []⟩, ⟨some 43, .move (.tmp 47), none, []⟩, ⟨some 48, .extract (.tmp 43) 0, none, []⟩, ⟨some 49, .extract (.tmp 43) 1, none, []⟩, ⟨some 11, .move (.tmp 48), none, []⟩, ⟨some 12, .move (.tmp 49), none, []⟩]) (.seq (.ops [⟨some 50, .load (some 4) (.tmp 4), none, []⟩, ⟨some 51, .move (.tmp 2), none, []⟩, ⟨some 52, .bslice 1 [.tmp 51] false, none, []⟩, ⟨some 53, .call (.lit (.func 10 [])) [.tmp 50, .tmp 52], none, []⟩, ⟨some 13, .move (.tmp 53), none, []⟩]) (.seq (.seq (.ops [⟨some 54, .move (.tmp 13), none, []⟩, ⟨some 55, .bin .eql .none (.tmp 54) (.lit (.int .i64 0)), none, []⟩, ⟨some 56, .move (.tmp 55), none, []⟩, ⟨some 57, .move (.tmp 1), some (some 56, true), []⟩, ⟨some 58, .bin .lss .none (.tmp 57) (.lit (.int .i64 0)), some (some 56, true), []⟩, ⟨some 59, .move (.tmp 58), some (some 56, true), []⟩, ⟨some 60, .move (.tmp 1), some (some 59, false), []⟩, ⟨some 61, .faddr 3 (.tmp 4), some (some 59, false), []⟩, ⟨some 62, .load none (.tmp 61), some (some 59, false), []⟩, ⟨some 63, .blen 1 (.tmp 62), some (some 59, false), []⟩, ⟨some 64, .bin .geq .none (.tmp 60) (.tmp 63), some (some 59, false), []⟩, ⟨some 65, .pick (.tmp 59) (.lit (.bool true)) (.tmp 64), some (some 56, true), []⟩, ⟨some 66, .pick (.tmp 56) (.tmp 65) (.lit (.bool false)), none, []⟩]) (.cond (.tmp 66) (.ops [⟨some 13, .move (.lit (.int .i64 1)), none, []⟩]) .skip)) (.seq (.seq (.ops [⟨some 67, .move (.tmp 13), none, []⟩, ⟨some 68, .bin .neq .none (.tmp 67) (.lit (.int .i64 0)), none, []⟩]) (.cond (.tmp 68) (.seq (.ops [⟨some 69, .move (.tmp 10), none, []⟩, ⟨some 70, .move (.tmp 13), none, []⟩, ⟨some 71, .bin .eql .none (.tmp 69) (.tmp 70), none, []⟩, ⟨some 72, .move (.tmp 71), none, []⟩, ⟨some 73, .move (.tmp 12), some (some 72, true), []⟩, ⟨some 74, .move (.tmp 13), some (some 72, true), []⟩, ⟨some 75, .bin .eql .none (.tmp 73) (.tmp 74), some (some 72, true), []⟩, ⟨some 76, .pick (.tmp 72) (.tmp 75) (.lit (.bool false)), none, []⟩, ⟨some 77, .move (.tmp 76), none, []⟩, ⟨some 78, .move (.tmp 9), some (some 77, true), []⟩, ⟨some 79, .blen 1 (.tmp 78), some (some 77, true), []⟩, ⟨some 80, .move (.tmp 11), some (some 77, true), []⟩, ⟨some 81, .blen 1 (.tmp 80), some (some 77, true), []⟩, ⟨some 82, .bin .add .none (.tmp 79) (.tmp 81), some (some 77, true), []⟩, ⟨some 83, .bin .eql .none (.tmp 82) (.lit (.int .i64 0)), some (some 77, true), []⟩, ⟨some 84, .pick (.tmp 77) (.tmp 83) (.lit (.bool false)), none, []⟩, ⟨some 85, .move (.tmp 84), none, []⟩, ⟨some 86, .call (.lit (.func 8 [])) [], some (some 85, true), []⟩, ⟨some 87, .pick (.tmp 85) (.tmp 86) (.lit (.bool false)), none, []⟩, ⟨some 8, .move (.tmp 87), none, []⟩]) .ret) .skip)) (.seq (.ops [⟨some 88, .faddr 0 (.tmp 4), none, []⟩, ⟨some 89, .load none (.tmp 88), none, []⟩, ⟨some 90, .blen 1 (.tmp 89), none, []⟩, ⟨some 91, .bin .gtr .none (.tmp 90) (.lit (.int .i64 4)), none, []⟩, ⟨some 92, .move (.tmp 91), none, []⟩, ⟨some 93, .faddr 3 (.tmp 4), some (some 92, false), []⟩, ⟨some 94, .load none (.tmp 93), some (some 92, false), []⟩, ⟨some 95, .move (.tmp 1), some (some 92, false), []⟩, ⟨some 96, .iaddr 4 (.tmp 94) (.tmp 95), some (some 92, false), []⟩, ⟨some 97, .faddr 3 (.tmp 96), some (some 92, false), []⟩, ⟨some 98, .load none (.tmp 97), some (some 92, false), []⟩, ⟨some 99, .blen 1 (.tmp 98), some (some 92, false), []⟩, ⟨some 100, .bin .gtr .none (.tmp 99) (.lit (.int .i64 4)), some (some 92, false), []⟩, ⟨some 101, .pick (.tmp 92) (.lit (.bool true)) (.tmp 100), none, []⟩, ⟨some 14, .move (.tmp 101), none, []⟩]) (.seq (.seq (.ops [⟨some 102, .load (some 4) (.tmp 4), none, []⟩, ⟨some 103, .move (.tmp 9), none, []⟩, ⟨some 104, .move (.tmp 10), none, []⟩, ⟨some 105, .move (.tmp 14), none, []⟩, ⟨some 106, .call (.lit (.func 16 [])) [.tmp 102, .tmp 103, .tmp 104, .tmp 105], none, []⟩, ⟨some 107, .un .not (.tmp 106), none, []⟩, ⟨some 108, .move (.tmp 107), none, []⟩, ⟨some 109, .load (some 4) (.tmp 4), some (some 108, false), []⟩, ⟨some 110, .move (.tmp 11), some (some 108, false), []⟩, ⟨some 111, .move (.tmp 12), some (some 108, false), []⟩, ⟨some 112, .move (.tmp 14), some (some 108, false), []⟩, ⟨some 113, .call (.lit (.func 16 [])) [.tmp 109, .tmp 110, .tmp 111, .tmp 112], some (some 108, false), []⟩, ⟨some 114, .un .not (.tmp 113), some (some 108, false), []⟩, ⟨some 115, .pick (.tmp 108) (.lit (.bool true)) (.tmp 114), none, []⟩]) (.cond (.tmp 115) (.seq (.ops [⟨some 8, .move (.lit (.bool false)), none, []⟩]) .ret) .skip)) (.seq (.seq (.ops [⟨some 116, .load (some 4) (.tmp 4), none, []⟩, ⟨some 117, .move (.tmp 3), none, []⟩, ⟨some 118, .call (.lit (.func 13 [])) [.tmp 116, .tmp 117], none, []⟩, ⟨some 119, .blen 1 (.tmp 118), none, []⟩, ⟨some 120, .move (.lit (.int .i64 0)), none, []⟩]) (.block 0 (.loop (.seq (.ops [⟨some 121, .bin .lss .none (.tmp 120) (.tmp 119), none, []⟩]) (.seq (.cond (.tmp 121) .skip (.exit 0)) (.seq (.block 1 (.seq (.ops [⟨some 122, .iaddr 1 (.tmp 118) (.tmp 120), none, []⟩, ⟨some 123, .load none (.tmp 122), none, []⟩, ⟨some 16, .move (.tmp 123), none, []⟩]) (.seq (.ops [⟨some 124, .move (.tmp 16), none, []⟩, ⟨some 125, .faddr 3 (.tmp 4), none, []⟩, ⟨some 126, .load none (.tmp 125), none, []⟩, ⟨some 127, .move (.tmp 1), none, []⟩, ⟨some 128, .iaddr 4 (.tmp 126) (.tmp 127), none, []⟩, ⟨some 129, .faddr 2 (.tmp 128), none, []⟩, ⟨some 130, .load none (.tmp 129), none, []⟩, ⟨some 131, .call (.lit (.func 17 [])) [.tmp 124, .tmp 130], none, []⟩, ⟨some 17, .move (.tmp 131), none, []⟩]) (.seq (.ops [⟨some 132, .move (.tmp 17), none, []⟩, ⟨some 133, .move (.tmp 132), none, []⟩, ⟨some 134, .load (some 4) (.tmp 4), some (some 133, true), []⟩, ⟨some 135, .move (.tmp 16), some (some 133, true), []⟩, ⟨some 136, .move (.tmp 1), some (some 133, true), []⟩, ⟨some 137, .call (.lit (.func 18 [])) [.tmp 134, .tmp 135, .tmp 136], some (some 133, true), []⟩, ⟨some 138, .move (.tmp 2), some (some 133, true), []⟩, ⟨some 139, .call (.lit (.func 12 [])) [.tmp 137, .tmp 138], some (some 133, true), []⟩, ⟨some 140, .pick (.tmp 133) (.tmp 139) (.lit (.bool false)), none, []⟩, ⟨some 18, .move (.tmp 140), none, []⟩]) (.seq (.ops [⟨some 141, .move (.tmp 10), none, []⟩, ⟨some 142, .bin .eql .none (.tmp 141) (.lit (.int .i64 0)), none, []⟩, ⟨some 143, .move (.tmp 142), none, []⟩, ⟨some 144, .move (.tmp 16), some (some 143, true), []⟩, ⟨some 145, .move (.tmp 9), some (some 143, true), []⟩, ⟨some 146, .call (.lit (.func 12 [])) [.tmp 144, .tmp 145], some (some 143, true), []⟩, ⟨some 147, .move (.tmp 18), some (some 143, true), []⟩, ⟨some 148, .bin .neq .bool (.tmp 146) (.tmp 147), some (some 143, true), []⟩, ⟨some 149, .pick (.tmp 143) (.tmp 148) (.lit (.bool false)), none, []⟩, ⟨some 150, .move (.tmp 149), none, []⟩, ⟨some 151, .move (.tmp 12), some (some 150, false), []⟩, ⟨some 152, .bin .eql .none (.tmp 151) (.lit (.int .i64 0)), some (some 150, false), []⟩, ⟨some 153, .move (.tmp 152), some (some 150, false), []⟩, ⟨some 154, .move (.tmp 16), some (some 153, true), []⟩, ⟨some 155, .move (.tmp 11), some (some 153, true), []⟩, ⟨some 156, .call (.lit (.func 12 [])) [.tmp 154, .tmp 155], some (some 153, true), []⟩, ⟨some 157, .move (.tmp 17), some (some 153, true), []⟩, ⟨some 158, .un .not (.tmp 157), some (some 153, true), []⟩, ⟨some 159, .move (.tmp 158), some (some 153, true), []⟩, ⟨some 160, .move (.tmp 18), some (some 159, false), []⟩, ⟨some 161, .pick (.tmp 159) (.lit (.bool true)) (.tmp 160), some (some 153, true), []⟩, ⟨some 162, .bin .neq .bool (.tmp 156) (.tmp 161), some (some 153, true), []⟩, ⟨some 163, .pick (.tmp 153) (.tmp 162) (.lit (.bool false)), some (some 150, false), []⟩, ⟨some 164, .pick (.tmp 150) (.lit (.bool true)) (.tmp 163), none, []⟩]) (.cond (.tmp 164) (.seq (.ops [⟨some 8, .move (.lit (.bool false)), none, []⟩]) .ret) .skip)))))) (.ops [⟨some 165, .bin .add .none (.tmp 120) (.lit (.int .i64 1)), none, []⟩, ⟨some 120, .move (.tmp 165), none, []⟩]))))))) (.seq (.ops [⟨some 166, .call (.lit (.func 8 [])) [], none, []⟩, ⟨some 8, .move (.tmp 166), none, []⟩]) .ret))))))))))
set_option maxRecDepth 20000 in
set_option maxHeartbeats 4000000 in
theorem law_spec (t : FTask) (k : Int) (f : List (List FLit)) (l : List (List Int)) (ht : TB t) (hf : FB f) (hl : okL (okL okI) l) (σ : Store) :
    ACalls Try.prog 4 [.agg (encTask t), .int .i64 k, .slice .unk (f.map encC), .slice .unk (l.map encL)] σ (isR (.bool true) σ) := by
  refine ACalls.intro (rs := [(.tmp 8)]) (by kernel_rfl) { own := [], ghosts := [] } Try.func4 (c := Try.f4.body.getD .skip) (by kernel_rfl) (by decide) (by rw [show Try.f4.ntmps = 167 by kernel_rfl]; exact Nat.le_of_ble_eq_true rfl) (by kernel_rfl) ?_
  intro hσ hids
  rw [show comp Try.prog { own := [], ghosts := [] } (Try.f4.body.getD .skip) = c_law by kernel_rfl, show Try.f4.ntmps = 167 by kernel_rfl]
  unfold c_law
  have hfs : ∀ x ∈ [f], FB x := by intro x hx; simp at hx; subst hx; exact hf
  simp only [go_sem, Int.reduceToNat, Int.reduceLE, Int.reduceLT, Nat.reduceBEq, Nat.reduceLT, Nat.reduceAdd, Nat.reduceLeDiff, encTask]
  refine ACalls.is (ACalls.wk (few_spec t [f] .unk _ ht (by simp) hfs) (.cons (.refl _) (WkL.one (wk_one _ _ _)))) ?_
  cases hfew : fewB t [f]
  · simp only [go_sem, Int.reduceToNat, Int.reduceLE, Int.reduceLT, Nat.reduceBEq, Nat.reduceLT, Nat.reduceAdd, Nat.reduceLeDiff]
    refine (awake_spec _).is ?_
    simp only [go_sem, Int.reduceToNat, Int.reduceLE, Int.reduceLT, Nat.reduceBEq, Nat.reduceLT, Nat.reduceAdd, Nat.reduceLeDiff]
    first | exact rtk (.bool true) ⟨rfl, rfl⟩ | exact rtk0 (.bool true) ⟨rfl, rfl⟩
  obtain ⟨hsz, _⟩ := fewB_size hfew
  by_cases h60 : (l.length : Int) > 60
  · simp only [go_sem, Int.reduceToNat, Int.reduceLE, Int.reduceLT, Nat.reduceBEq, Nat.reduceLT, Nat.reduceAdd, Nat.reduceLeDiff, h60]
    refine (awake_spec _).is ?_
    simp only [go_sem, Int.reduceToNat, Int.reduceLE, Int.reduceLT, Nat.reduceBEq, Nat.reduceLT, Nat.reduceAdd, Nat.reduceLeDiff]
    first | exact rtk (.bool true) ⟨rfl, rfl⟩ | exact rtk0 (.bool true) ⟨rfl, rfl⟩
  by_cases h16 : (t.facts.length : Int) > 16
  · simp only [go_sem, Int.reduceToNat, Int.reduceLE, Int.reduceLT, Nat.reduceBEq, Nat.reduceLT, Nat.reduceAdd, Nat.reduceLeDiff, h60, h16, encTask]
    refine (awake_spec _).is ?_
    simp only [go_sem, Int.reduceToNat, Int.reduceLE, Int.reduceLT, Nat.reduceBEq, Nat.reduceLT, Nat.reduceAdd, Nat.reduceLeDiff]
    first | exact rtk (.bool true) ⟨rfl, rfl⟩ | exact rtk0 (.bool true) ⟨rfl, rfl⟩
  simp only [go_sem, Int.reduceToNat, Int.reduceLE, Int.reduceLT, Nat.reduceBEq, Nat.reduceLT, Nat.reduceAdd, Nat.reduceLeDiff, h60, h16, encTask]
  have hReg := Regress_spec t k f .unk
  have hWk := Weakest_spec t k f .unk
  have hflt := fault_spec t [f] .unk
  rw [← fineE_fault t [f] (by simp)] at hflt
  have w0 : IntKind.i64.wrap (0 + 0) = 0 := rfl
  have c11 : ((1 : Int) != 0) = true := rfl
  by_cases h1 : fineE t [f] = 0
  · obtain ⟨hn, hvd, l1, v1⟩ := fine_one h1
    have hck : checkE t f = 0 := by rw [← fineE_one]; exact h1
    rw [h1] at hflt
    by_cases hk0 : k < 0
    · have ha : actE t k f = 1 := by rw [actE, if_pos hck, if_neg (by omega)]
      rw [ha, retF_ne (by decide)] at hReg hWk
      refine ACalls.is (hReg _ ht hf) ?_
      simp only [go_sem, Int.reduceToNat, Int.reduceLE, Int.reduceLT, Nat.reduceBEq, Nat.reduceLT, Nat.reduceAdd, Nat.reduceLeDiff, encTask]
      refine ACalls.is (hWk _ ht hf) ?_
      simp only [go_sem, Int.reduceToNat, Int.reduceLE, Int.reduceLT, Nat.reduceBEq, Nat.reduceLT, Nat.reduceAdd, Nat.reduceLeDiff, encTask]
      refine ACalls.is (ACalls.wk (hflt _ ht (by simp) hfs) (.cons (.refl _) (WkL.one (wk_one _ _ _)))) ?_
      simp only [go_sem, Int.reduceToNat, Int.reduceLE, Int.reduceLT, Nat.reduceBEq, Nat.reduceLT, Nat.reduceAdd, Nat.reduceLeDiff, hk0, c11, w0]
      refine (awake_spec _).is ?_
      simp only [go_sem, Int.reduceToNat, Int.reduceLE, Int.reduceLT, Nat.reduceBEq, Nat.reduceLT, Nat.reduceAdd, Nat.reduceLeDiff]
      first | exact rtk (.bool true) ⟨rfl, rfl⟩ | exact rtk0 (.bool true) ⟨rfl, rfl⟩
    by_cases hk1 : k ≥ t.actions.length
    · have ha : actE t k f = 1 := by rw [actE, if_pos hck, if_neg (by omega)]
      rw [ha, retF_ne (by decide)] at hReg hWk
      refine ACalls.is (hReg _ ht hf) ?_
      simp only [go_sem, Int.reduceToNat, Int.reduceLE, Int.reduceLT, Nat.reduceBEq, Nat.reduceLT, Nat.reduceAdd, Nat.reduceLeDiff, encTask]
      refine ACalls.is (hWk _ ht hf) ?_
      simp only [go_sem, Int.reduceToNat, Int.reduceLE, Int.reduceLT, Nat.reduceBEq, Nat.reduceLT, Nat.reduceAdd, Nat.reduceLeDiff, encTask]
      refine ACalls.is (ACalls.wk (hflt _ ht (by simp) hfs) (.cons (.refl _) (WkL.one (wk_one _ _ _)))) ?_
      simp only [go_sem, Int.reduceToNat, Int.reduceLE, Int.reduceLT, Nat.reduceBEq, Nat.reduceLT, Nat.reduceAdd, Nat.reduceLeDiff, hk0, hk1, c11, w0, encTask]
      refine (awake_spec _).is ?_
      simp only [go_sem, Int.reduceToNat, Int.reduceLE, Int.reduceLT, Nat.reduceBEq, Nat.reduceLT, Nat.reduceAdd, Nat.reduceLeDiff]
      first | exact rtk (.bool true) ⟨rfl, rfl⟩ | exact rtk0 (.bool true) ⟨rfl, rfl⟩
    have ha : actE t k f = 0 := by rw [actE, if_pos hck, if_pos (by omega)]
    have hk2 : 0 ≤ k := by omega
    obtain ⟨a, hak⟩ : ∃ a, t.actions[k.toNat]? = some a := get_ex (by omega)
    have ham := List.mem_of_getElem? hak
    have hA := valid_act hvd ham
    have hg : t.actions.getD k.toNat ⟨.empty, 0, [], []⟩ = a := by rw [List.getD_eq_getElem?_getD, hak]; rfl
    rw [ha, hg] at hReg hWk
    have hval := hvd
    simp only [validB, Bool.and_eq_true] at hval
    have hactB := List.all_eq_true.1 hval.2.2.2.2.2.2 a ham
    simp only [actB, Bool.and_eq_true, decide_eq_true_eq] at hactB
    have heff : ∀ e ∈ a.effects, e.when_.length ≤ 1048576 ∧ 0 ≤ e.lit.fact ∧ e.lit.fact < (t.facts.length : Int) := fun e he => by
      have h5 := List.all_eq_true.1 hactB.2.2.2.2 e he
      simp only [effB, Bool.and_eq_true, decide_eq_true_eq] at h5
      refine ⟨?_, h5.2.1, h5.2.2⟩
      rcases condB_len h5.1 with h | h
      · simp [h]
      · omega
    have hpre : a.pre.length ≤ 1048576 := by
      rcases condB_len hA.pre with h | h
      · simp [h]
      · omega
    have hael : a.effects.length ≤ 1048576 := by omega
    have hst := states_spec t l .unk
    have haft := fun (x : List Int) => after_spec t x k a .unk
    have hres := fun o lg => result_spec t (outF o) (outE o) lg (outT o)
    generalize hN : t.facts.length = n at *
    obtain ⟨o1, e1⟩ : ∃ o, o = backF a f := ⟨_, rfl⟩
    obtain ⟨o2, e2⟩ : ∃ o, o = aheadF a f := ⟨_, rfl⟩
    rw [← e1, retF_out] at hReg
    rw [← e2, retF_out] at hWk
    have k1 : ∀ lg : Bool, ((n : Int) > 4 → lg = true) → OutOk n o1 lg := fun lg hlg => ⟨fun h e => by
        rw [e1] at e; exact ⟨backF_R hA e v1, (backF_V hA v1 e).2⟩, fun e => by
        refine hlg (Classical.byContradiction fun h4 => ?_)
        obtain ⟨h, q1⟩ := small_back (n := n) (by omega) hA v1 l1
        rw [e1, q1] at e; simp at e⟩
    have k2 : ∀ lg : Bool, ((n : Int) > 4 → lg = true) → OutOk n o2 lg := fun lg hlg => ⟨fun h e => by
        rw [e2] at e; exact aheadF_R (by omega) hA e v1, fun e => by
        refine hlg (Classical.byContradiction fun h4 => ?_)
        obtain ⟨h, q1⟩ := small_ahead (n := n) (by omega) hA v1 l1
        rw [e2, q1] at e; simp at e⟩
    have m1 : ∀ h, o1 = some h → ∀ s, formHolds s h = (condHolds s a.pre && formHolds (afterL n s a) f) := fun h e s => by
      rw [e1] at e; rw [formHolds_T, afterL_T s a v1, condHolds_term]; exact backF_T _ e
    have m2 : ∀ h, o2 = some h → ∀ s, formHolds s h = (!condHolds s a.pre || (condHolds s a.pre && formHolds (afterL n s a) f)) := fun h e s => by
      rw [e2] at e; rw [formHolds_T, afterL_T s a v1, condHolds_term]; exact aheadF_T _ (by omega) hA e
    have hr1 : ∀ (lg : Bool) (σ : Store), ((n : Int) > 4 → lg = true) → _ := fun lg σ hlg => (k1 lg hlg).res ▸ hres o1 lg σ ((k1 lg hlg).size (by omega)).2.2.1 ((k1 lg hlg).size (by omega)).2.2.2 ((k1 lg hlg).size (by omega)).2.1
    have hr2 : ∀ (lg : Bool) (σ : Store), ((n : Int) > 4 → lg = true) → _ := fun lg σ hlg => (k2 lg hlg).res ▸ hres o2 lg σ ((k2 lg hlg).size (by omega)).2.2.1 ((k2 lg hlg).size (by omega)).2.2.2 ((k2 lg hlg).size (by omega)).2.1
    have hI : ∀ (o : Option (List (List FLit))) m, Ids m (.slice (outT o) ((outF o).map encC)) := fun o m => ids_flat (by intro id; cases o <;> simp [outT]) fun e he x hx => by
      obtain ⟨y, _, rfl⟩ := List.mem_map.1 he; exact ids_encC y x hx
    have i1 := hI o1 (σ.length + 1)
    have i2 := hI o2 (σ.length + 1)
    have hsl := statesOf_len (n := n) (l := l) (by omega)
    have hσ1 := ids_grow hσ (ids_encTask t)
    have c20 : ((2 : Int) == 0) = false := rfl
    refine ACalls.is (hReg _ ht hf) ?_
    simp only [go_sem, Int.reduceToNat, Int.reduceLE, Int.reduceLT, Nat.reduceBEq, Nat.reduceLT, Nat.reduceAdd, Nat.reduceLeDiff, encTask]
    refine ACalls.is (hWk _ ht hf) ?_
    simp only [go_sem, Int.reduceToNat, Int.reduceLE, Int.reduceLT, Nat.reduceBEq, Nat.reduceLT, Nat.reduceAdd, Nat.reduceLeDiff, encTask]
    refine ACalls.is (ACalls.wk (hflt _ ht (by simp) hfs) (.cons (.refl _) (WkL.one (wk_one _ _ _)))) ?_
    by_cases h4 : (n : Int) > 4
    · simp only [go_sem, Int.reduceToNat, Int.reduceLE, Int.reduceLT, Nat.reduceBEq, Nat.reduceLT, Nat.reduceAdd, Nat.reduceLeDiff, hk0, hk1, hN, h4, encTask]
      refine ACalls.is (hr1 true _ (fun _ => rfl)) ?_
      simp only [go_sem, Int.reduceToNat, Int.reduceLE, Int.reduceLT, Nat.reduceBEq, Nat.reduceLT, Nat.reduceAdd, Nat.reduceLeDiff, encTask]
      refine ACalls.is (hr2 true _ (fun _ => rfl)) ?_
      simp only [go_sem, Int.reduceToNat, Int.reduceLE, Int.reduceLT, Nat.reduceBEq, Nat.reduceLT, Nat.reduceAdd, Nat.reduceLeDiff, encTask]
      refine ACalls.is (hst _ (by omega) (fun s hs => (hl.2 s hs).1)) ?_
      simp only [go_sem, Int.reduceToNat, Int.reduceLE, Int.reduceLT, Nat.reduceBEq, Nat.reduceLT, Nat.reduceAdd, Nat.reduceLeDiff]
      refine wpc_while (fun (i : Nat) => [(1, .int .i64 k), (2, .slice .unk (f.map encC)), (4, .ptr σ.length 0), (9, .slice (outT o1) ((outF o1).map encC)), (10, .int .i64 (outE o1)), (11, .slice (outT o2) ((outF o2).map encC)), (12, .int .i64 (outE o2)), (118, .slice .unk ((statesOf n l).map encL)), (119, .int .i64 (statesOf n l).length), (120, .int .i64 i)]) (fun _ => σ ++ [.row (encTask t)]) (fun i => i ≤ (statesOf n l).length) (fun i => (statesOf n l).length - i) 0 (Nat.zero_le _) (by (try dsimp only); exact ghk1) ?_
      intro i hi K hK hE hR
      by_cases h : i < (statesOf n l).length
      · obtain ⟨x, hx⟩ := get_ex h
        have hxm := statesOf_mem (List.mem_of_getElem? hx)
        have hxl : x.length ≤ 1048576 := by rcases risingB_len x _ hxm with h | h; simp [h]; omega
        have hxr : ∀ y ∈ x, 0 ≤ y ∧ y < (n : Int) := fun y hy => by have := risingB_mem hxm y hy; omega
        have hlt : ((i : Int) < ((statesOf n l).length : Int)) := by omega
        have hw : IntKind.i64.wrap ((i : Int) + 1) = ((i + 1 : Nat) : Int) := by rw [wrap_ok (by omega)]; omega
        simp only [go_sem, Int.reduceToNat, Int.reduceLE, Int.reduceLT, Nat.reduceBEq, Nat.reduceLT, Nat.reduceAdd, Nat.reduceLeDiff, hlt, hx, encL, encTask, hk2, hak, encA]
        refine (holds02_spec x a.pre .unk .unk _ (by omega) (by omega)).is ?_
        generalize hp : condHolds x a.pre = p
        generalize hq : formHolds (afterL n x a) f = q
        cases p
        · simp only [go_sem, Int.reduceToNat, Int.reduceLE, Int.reduceLT, Nat.reduceBEq, Nat.reduceLT, Nat.reduceAdd, Nat.reduceLeDiff]
          rcases ho1 : o1 with _ | h1
          · simp only [go_sem, Int.reduceToNat, Int.reduceLE, Int.reduceLT, Nat.reduceBEq, Nat.reduceLT, Nat.reduceAdd, Nat.reduceLeDiff, outE, outF, outT, Option.getD_none, List.map_nil, c20, Bool.and_self, Bool.and_true, Bool.and_false, Bool.true_and, Bool.false_and, Bool.or_self, Bool.or_true, Bool.or_false, Bool.true_or, Bool.false_or, Bool.not_true, Bool.not_false, Bool.true_beq, Bool.false_beq]
            rcases ho2 : o2 with _ | h2
            · simp only [go_sem, Int.reduceToNat, Int.reduceLE, Int.reduceLT, Nat.reduceBEq, Nat.reduceLT, Nat.reduceAdd, Nat.reduceLeDiff, outE, outF, outT, Option.getD_none, List.map_nil, c20, Bool.and_self, Bool.and_true, Bool.and_false, Bool.true_and, Bool.false_and, Bool.or_self, Bool.or_true, Bool.or_false, Bool.true_or, Bool.false_or, Bool.not_true, Bool.not_false, Bool.true_beq, Bool.false_beq]
              refine hK _ _ (i + 1) (by omega) (by first | omega | (simp only []; omega) | (simp; omega)) ?_; (try dsimp only); (try simp only [ hw, ho1, ho2, outT, outF, outE, Option.getD_none, Option.getD_some, List.map_nil]); exact ghk1
            · have hz2 := vF_size (by omega) ((k2 true (fun _ => rfl)).red h2 ho2).1.V ((k2 true (fun _ => rfl)).red h2 ho2).2
              simp only [go_sem, Int.reduceToNat, Int.reduceLE, Int.reduceLT, Nat.reduceBEq, Nat.reduceLT, Nat.reduceAdd, Nat.reduceLeDiff, outE, outF, outT, Option.getD_some, Bool.and_self, Bool.and_true, Bool.and_false, Bool.true_and, Bool.false_and, Bool.or_self, Bool.or_true, Bool.or_false, Bool.true_or, Bool.false_or, Bool.not_true, Bool.not_false, Bool.true_beq, Bool.false_beq]
              refine (holds07_spec x h2 .unk .unk _ (by omega) hz2.1.1 hz2.1.2).is ?_
              rw [m2 h2 ho2 x, hp, hq]
              simp only [go_sem, Int.reduceToNat, Int.reduceLE, Int.reduceLT, Nat.reduceBEq, Nat.reduceLT, Nat.reduceAdd, Nat.reduceLeDiff, Bool.and_self, Bool.and_true, Bool.and_false, Bool.true_and, Bool.false_and, Bool.or_self, Bool.or_true, Bool.or_false, Bool.true_or, Bool.false_or, Bool.not_true, Bool.not_false, Bool.true_beq, Bool.false_beq]
              refine hK _ _ (i + 1) (by omega) (by first | omega | (simp only []; omega) | (simp; omega)) ?_; (try dsimp only); (try simp only [ hw, ho1, ho2, outT, outF, outE, Option.getD_none, Option.getD_some, List.map_nil]); exact ghk1
          · have hz1 := vF_size (by omega) ((k1 true (fun _ => rfl)).red h1 ho1).1.V ((k1 true (fun _ => rfl)).red h1 ho1).2
            simp only [go_sem, Int.reduceToNat, Int.reduceLE, Int.reduceLT, Nat.reduceBEq, Nat.reduceLT, Nat.reduceAdd, Nat.reduceLeDiff, outE, outF, outT, Option.getD_some, Bool.and_self, Bool.and_true, Bool.and_false, Bool.true_and, Bool.false_and, Bool.or_self, Bool.or_true, Bool.or_false, Bool.true_or, Bool.false_or, Bool.not_true, Bool.not_false, Bool.true_beq, Bool.false_beq]
            refine (holds07_spec x h1 .unk .unk _ (by omega) hz1.1.1 hz1.1.2).is ?_
            rw [m1 h1 ho1 x, hp, hq]
            simp only [go_sem, Int.reduceToNat, Int.reduceLE, Int.reduceLT, Nat.reduceBEq, Nat.reduceLT, Nat.reduceAdd, Nat.reduceLeDiff, Bool.and_self, Bool.and_true, Bool.and_false, Bool.true_and, Bool.false_and, Bool.or_self, Bool.or_true, Bool.or_false, Bool.true_or, Bool.false_or, Bool.not_true, Bool.not_false, Bool.true_beq, Bool.false_beq]
            rcases ho2 : o2 with _ | h2
            · simp only [go_sem, Int.reduceToNat, Int.reduceLE, Int.reduceLT, Nat.reduceBEq, Nat.reduceLT, Nat.reduceAdd, Nat.reduceLeDiff, outE, outF, outT, Option.getD_none, List.map_nil, c20, Bool.and_self, Bool.and_true, Bool.and_false, Bool.true_and, Bool.false_and, Bool.or_self, Bool.or_true, Bool.or_false, Bool.true_or, Bool.false_or, Bool.not_true, Bool.not_false, Bool.true_beq, Bool.false_beq]
              refine hK _ _ (i + 1) (by omega) (by first | omega | (simp only []; omega) | (simp; omega)) ?_; (try dsimp only); (try simp only [ hw, ho1, ho2, outT, outF, outE, Option.getD_none, Option.getD_some, List.map_nil]); exact ghk1
            · have hz2 := vF_size (by omega) ((k2 true (fun _ => rfl)).red h2 ho2).1.V ((k2 true (fun _ => rfl)).red h2 ho2).2
              simp only [go_sem, Int.reduceToNat, Int.reduceLE, Int.reduceLT, Nat.reduceBEq, Nat.reduceLT, Nat.reduceAdd, Nat.reduceLeDiff, outE, outF, outT, Option.getD_some, Bool.and_self, Bool.and_true, Bool.and_false, Bool.true_and, Bool.false_and, Bool.or_self, Bool.or_true, Bool.or_false, Bool.true_or, Bool.false_or, Bool.not_true, Bool.not_false, Bool.true_beq, Bool.false_beq]
              refine (holds07_spec x h2 .unk .unk _ (by omega) hz2.1.1 hz2.1.2).is ?_
              rw [m2 h2 ho2 x, hp, hq]
              simp only [go_sem, Int.reduceToNat, Int.reduceLE, Int.reduceLT, Nat.reduceBEq, Nat.reduceLT, Nat.reduceAdd, Nat.reduceLeDiff, Bool.and_self, Bool.and_true, Bool.and_false, Bool.true_and, Bool.false_and, Bool.or_self, Bool.or_true, Bool.or_false, Bool.true_or, Bool.false_or, Bool.not_true, Bool.not_false, Bool.true_beq, Bool.false_beq]
              refine hK _ _ (i + 1) (by omega) (by first | omega | (simp only []; omega) | (simp; omega)) ?_; (try dsimp only); (try simp only [ hw, ho1, ho2, outT, outF, outE, Option.getD_none, Option.getD_some, List.map_nil]); exact ghk1
        · simp only [go_sem, Int.reduceToNat, Int.reduceLE, Int.reduceLT, Nat.reduceBEq, Nat.reduceLT, Nat.reduceAdd, Nat.reduceLeDiff, encTask]
          refine ACalls.is (haft x _ (by omega) hxr hxl hk2 hak hael heff) ?_
          simp only [go_sem, Int.reduceToNat, Int.reduceLE, Int.reduceLT, Nat.reduceBEq, Nat.reduceLT, Nat.reduceAdd, Nat.reduceLeDiff]
          refine (holds07_spec (afterL n x a) f .unk .unk _ (by have := afterL_len (n := n) x a; omega) hf.1 hf.2).is ?_
          rw [hq]
          cases q
          · simp only [go_sem, Int.reduceToNat, Int.reduceLE, Int.reduceLT, Nat.reduceBEq, Nat.reduceLT, Nat.reduceAdd, Nat.reduceLeDiff]
            rcases ho1 : o1 with _ | h1
            · simp only [go_sem, Int.reduceToNat, Int.reduceLE, Int.reduceLT, Nat.reduceBEq, Nat.reduceLT, Nat.reduceAdd, Nat.reduceLeDiff, outE, outF, outT, Option.getD_none, List.map_nil, c20, Bool.and_self, Bool.and_true, Bool.and_false, Bool.true_and, Bool.false_and, Bool.or_self, Bool.or_true, Bool.or_false, Bool.true_or, Bool.false_or, Bool.not_true, Bool.not_false, Bool.true_beq, Bool.false_beq]
              rcases ho2 : o2 with _ | h2
              · simp only [go_sem, Int.reduceToNat, Int.reduceLE, Int.reduceLT, Nat.reduceBEq, Nat.reduceLT, Nat.reduceAdd, Nat.reduceLeDiff, outE, outF, outT, Option.getD_none, List.map_nil, c20, Bool.and_self, Bool.and_true, Bool.and_false, Bool.true_and, Bool.false_and, Bool.or_self, Bool.or_true, Bool.or_false, Bool.true_or, Bool.false_or, Bool.not_true, Bool.not_false, Bool.true_beq, Bool.false_beq]
                refine hK _ _ (i + 1) (by omega) (by first | omega | (simp only []; omega) | (simp; omega)) ?_; (try dsimp only); (try simp only [ hw, ho1, ho2, outT, outF, outE, Option.getD_none, Option.getD_some, List.map_nil]); exact ghk1
              · have hz2 := vF_size (by omega) ((k2 true (fun _ => rfl)).red h2 ho2).1.V ((k2 true (fun _ => rfl)).red h2 ho2).2
                simp only [go_sem, Int.reduceToNat, Int.reduceLE, Int.reduceLT, Nat.reduceBEq, Nat.reduceLT, Nat.reduceAdd, Nat.reduceLeDiff, outE, outF, outT, Option.getD_some, Bool.and_self, Bool.and_true, Bool.and_false, Bool.true_and, Bool.false_and, Bool.or_self, Bool.or_true, Bool.or_false, Bool.true_or, Bool.false_or, Bool.not_true, Bool.not_false, Bool.true_beq, Bool.false_beq]
                refine (holds07_spec x h2 .unk .unk _ (by omega) hz2.1.1 hz2.1.2).is ?_
                rw [m2 h2 ho2 x, hp, hq]
                simp only [go_sem, Int.reduceToNat, Int.reduceLE, Int.reduceLT, Nat.reduceBEq, Nat.reduceLT, Nat.reduceAdd, Nat.reduceLeDiff, Bool.and_self, Bool.and_true, Bool.and_false, Bool.true_and, Bool.false_and, Bool.or_self, Bool.or_true, Bool.or_false, Bool.true_or, Bool.false_or, Bool.not_true, Bool.not_false, Bool.true_beq, Bool.false_beq]
                refine hK _ _ (i + 1) (by omega) (by first | omega | (simp only []; omega) | (simp; omega)) ?_; (try dsimp only); (try simp only [ hw, ho1, ho2, outT, outF, outE, Option.getD_none, Option.getD_some, List.map_nil]); exact ghk1
            · have hz1 := vF_size (by omega) ((k1 true (fun _ => rfl)).red h1 ho1).1.V ((k1 true (fun _ => rfl)).red h1 ho1).2
              simp only [go_sem, Int.reduceToNat, Int.reduceLE, Int.reduceLT, Nat.reduceBEq, Nat.reduceLT, Nat.reduceAdd, Nat.reduceLeDiff, outE, outF, outT, Option.getD_some, Bool.and_self, Bool.and_true, Bool.and_false, Bool.true_and, Bool.false_and, Bool.or_self, Bool.or_true, Bool.or_false, Bool.true_or, Bool.false_or, Bool.not_true, Bool.not_false, Bool.true_beq, Bool.false_beq]
              refine (holds07_spec x h1 .unk .unk _ (by omega) hz1.1.1 hz1.1.2).is ?_
              rw [m1 h1 ho1 x, hp, hq]
              simp only [go_sem, Int.reduceToNat, Int.reduceLE, Int.reduceLT, Nat.reduceBEq, Nat.reduceLT, Nat.reduceAdd, Nat.reduceLeDiff, Bool.and_self, Bool.and_true, Bool.and_false, Bool.true_and, Bool.false_and, Bool.or_self, Bool.or_true, Bool.or_false, Bool.true_or, Bool.false_or, Bool.not_true, Bool.not_false, Bool.true_beq, Bool.false_beq]
              rcases ho2 : o2 with _ | h2
              · simp only [go_sem, Int.reduceToNat, Int.reduceLE, Int.reduceLT, Nat.reduceBEq, Nat.reduceLT, Nat.reduceAdd, Nat.reduceLeDiff, outE, outF, outT, Option.getD_none, List.map_nil, c20, Bool.and_self, Bool.and_true, Bool.and_false, Bool.true_and, Bool.false_and, Bool.or_self, Bool.or_true, Bool.or_false, Bool.true_or, Bool.false_or, Bool.not_true, Bool.not_false, Bool.true_beq, Bool.false_beq]
                refine hK _ _ (i + 1) (by omega) (by first | omega | (simp only []; omega) | (simp; omega)) ?_; (try dsimp only); (try simp only [ hw, ho1, ho2, outT, outF, outE, Option.getD_none, Option.getD_some, List.map_nil]); exact ghk1
              · have hz2 := vF_size (by omega) ((k2 true (fun _ => rfl)).red h2 ho2).1.V ((k2 true (fun _ => rfl)).red h2 ho2).2
                simp only [go_sem, Int.reduceToNat, Int.reduceLE, Int.reduceLT, Nat.reduceBEq, Nat.reduceLT, Nat.reduceAdd, Nat.reduceLeDiff, outE, outF, outT, Option.getD_some, Bool.and_self, Bool.and_true, Bool.and_false, Bool.true_and, Bool.false_and, Bool.or_self, Bool.or_true, Bool.or_false, Bool.true_or, Bool.false_or, Bool.not_true, Bool.not_false, Bool.true_beq, Bool.false_beq]
                refine (holds07_spec x h2 .unk .unk _ (by omega) hz2.1.1 hz2.1.2).is ?_
                rw [m2 h2 ho2 x, hp, hq]
                simp only [go_sem, Int.reduceToNat, Int.reduceLE, Int.reduceLT, Nat.reduceBEq, Nat.reduceLT, Nat.reduceAdd, Nat.reduceLeDiff, Bool.and_self, Bool.and_true, Bool.and_false, Bool.true_and, Bool.false_and, Bool.or_self, Bool.or_true, Bool.or_false, Bool.true_or, Bool.false_or, Bool.not_true, Bool.not_false, Bool.true_beq, Bool.false_beq]
                refine hK _ _ (i + 1) (by omega) (by first | omega | (simp only []; omega) | (simp; omega)) ?_; (try dsimp only); (try simp only [ hw, ho1, ho2, outT, outF, outE, Option.getD_none, Option.getD_some, List.map_nil]); exact ghk1
          · simp only [go_sem, Int.reduceToNat, Int.reduceLE, Int.reduceLT, Nat.reduceBEq, Nat.reduceLT, Nat.reduceAdd, Nat.reduceLeDiff]
            rcases ho1 : o1 with _ | h1
            · simp only [go_sem, Int.reduceToNat, Int.reduceLE, Int.reduceLT, Nat.reduceBEq, Nat.reduceLT, Nat.reduceAdd, Nat.reduceLeDiff, outE, outF, outT, Option.getD_none, List.map_nil, c20, Bool.and_self, Bool.and_true, Bool.and_false, Bool.true_and, Bool.false_and, Bool.or_self, Bool.or_true, Bool.or_false, Bool.true_or, Bool.false_or, Bool.not_true, Bool.not_false, Bool.true_beq, Bool.false_beq]
              rcases ho2 : o2 with _ | h2
              · simp only [go_sem, Int.reduceToNat, Int.reduceLE, Int.reduceLT, Nat.reduceBEq, Nat.reduceLT, Nat.reduceAdd, Nat.reduceLeDiff, outE, outF, outT, Option.getD_none, List.map_nil, c20, Bool.and_self, Bool.and_true, Bool.and_false, Bool.true_and, Bool.false_and, Bool.or_self, Bool.or_true, Bool.or_false, Bool.true_or, Bool.false_or, Bool.not_true, Bool.not_false, Bool.true_beq, Bool.false_beq]
                refine hK _ _ (i + 1) (by omega) (by first | omega | (simp only []; omega) | (simp; omega)) ?_; (try dsimp only); (try simp only [ hw, ho1, ho2, outT, outF, outE, Option.getD_none, Option.getD_some, List.map_nil]); exact ghk1
              · have hz2 := vF_size (by omega) ((k2 true (fun _ => rfl)).red h2 ho2).1.V ((k2 true (fun _ => rfl)).red h2 ho2).2
                simp only [go_sem, Int.reduceToNat, Int.reduceLE, Int.reduceLT, Nat.reduceBEq, Nat.reduceLT, Nat.reduceAdd, Nat.reduceLeDiff, outE, outF, outT, Option.getD_some, Bool.and_self, Bool.and_true, Bool.and_false, Bool.true_and, Bool.false_and, Bool.or_self, Bool.or_true, Bool.or_false, Bool.true_or, Bool.false_or, Bool.not_true, Bool.not_false, Bool.true_beq, Bool.false_beq]
                refine (holds07_spec x h2 .unk .unk _ (by omega) hz2.1.1 hz2.1.2).is ?_
                rw [m2 h2 ho2 x, hp, hq]
                simp only [go_sem, Int.reduceToNat, Int.reduceLE, Int.reduceLT, Nat.reduceBEq, Nat.reduceLT, Nat.reduceAdd, Nat.reduceLeDiff, Bool.and_self, Bool.and_true, Bool.and_false, Bool.true_and, Bool.false_and, Bool.or_self, Bool.or_true, Bool.or_false, Bool.true_or, Bool.false_or, Bool.not_true, Bool.not_false, Bool.true_beq, Bool.false_beq]
                refine hK _ _ (i + 1) (by omega) (by first | omega | (simp only []; omega) | (simp; omega)) ?_; (try dsimp only); (try simp only [ hw, ho1, ho2, outT, outF, outE, Option.getD_none, Option.getD_some, List.map_nil]); exact ghk1
            · have hz1 := vF_size (by omega) ((k1 true (fun _ => rfl)).red h1 ho1).1.V ((k1 true (fun _ => rfl)).red h1 ho1).2
              simp only [go_sem, Int.reduceToNat, Int.reduceLE, Int.reduceLT, Nat.reduceBEq, Nat.reduceLT, Nat.reduceAdd, Nat.reduceLeDiff, outE, outF, outT, Option.getD_some, Bool.and_self, Bool.and_true, Bool.and_false, Bool.true_and, Bool.false_and, Bool.or_self, Bool.or_true, Bool.or_false, Bool.true_or, Bool.false_or, Bool.not_true, Bool.not_false, Bool.true_beq, Bool.false_beq]
              refine (holds07_spec x h1 .unk .unk _ (by omega) hz1.1.1 hz1.1.2).is ?_
              rw [m1 h1 ho1 x, hp, hq]
              simp only [go_sem, Int.reduceToNat, Int.reduceLE, Int.reduceLT, Nat.reduceBEq, Nat.reduceLT, Nat.reduceAdd, Nat.reduceLeDiff, Bool.and_self, Bool.and_true, Bool.and_false, Bool.true_and, Bool.false_and, Bool.or_self, Bool.or_true, Bool.or_false, Bool.true_or, Bool.false_or, Bool.not_true, Bool.not_false, Bool.true_beq, Bool.false_beq]
              rcases ho2 : o2 with _ | h2
              · simp only [go_sem, Int.reduceToNat, Int.reduceLE, Int.reduceLT, Nat.reduceBEq, Nat.reduceLT, Nat.reduceAdd, Nat.reduceLeDiff, outE, outF, outT, Option.getD_none, List.map_nil, c20, Bool.and_self, Bool.and_true, Bool.and_false, Bool.true_and, Bool.false_and, Bool.or_self, Bool.or_true, Bool.or_false, Bool.true_or, Bool.false_or, Bool.not_true, Bool.not_false, Bool.true_beq, Bool.false_beq]
                refine hK _ _ (i + 1) (by omega) (by first | omega | (simp only []; omega) | (simp; omega)) ?_; (try dsimp only); (try simp only [ hw, ho1, ho2, outT, outF, outE, Option.getD_none, Option.getD_some, List.map_nil]); exact ghk1
              · have hz2 := vF_size (by omega) ((k2 true (fun _ => rfl)).red h2 ho2).1.V ((k2 true (fun _ => rfl)).red h2 ho2).2
                simp only [go_sem, Int.reduceToNat, Int.reduceLE, Int.reduceLT, Nat.reduceBEq, Nat.reduceLT, Nat.reduceAdd, Nat.reduceLeDiff, outE, outF, outT, Option.getD_some, Bool.and_self, Bool.and_true, Bool.and_false, Bool.true_and, Bool.false_and, Bool.or_self, Bool.or_true, Bool.or_false, Bool.true_or, Bool.false_or, Bool.not_true, Bool.not_false, Bool.true_beq, Bool.false_beq]
                refine (holds07_spec x h2 .unk .unk _ (by omega) hz2.1.1 hz2.1.2).is ?_
                rw [m2 h2 ho2 x, hp, hq]
                simp only [go_sem, Int.reduceToNat, Int.reduceLE, Int.reduceLT, Nat.reduceBEq, Nat.reduceLT, Nat.reduceAdd, Nat.reduceLeDiff, Bool.and_self, Bool.and_true, Bool.and_false, Bool.true_and, Bool.false_and, Bool.or_self, Bool.or_true, Bool.or_false, Bool.true_or, Bool.false_or, Bool.not_true, Bool.not_false, Bool.true_beq, Bool.false_beq]
                refine hK _ _ (i + 1) (by omega) (by first | omega | (simp only []; omega) | (simp; omega)) ?_; (try dsimp only); (try simp only [ hw, ho1, ho2, outT, outF, outE, Option.getD_none, Option.getD_some, List.map_nil]); exact ghk1
      · have hlt : ¬ ((i : Int) < ((statesOf n l).length : Int)) := by omega
        simp only [go_sem, Int.reduceToNat, Int.reduceLE, Int.reduceLT, Nat.reduceBEq, Nat.reduceLT, Nat.reduceAdd, Nat.reduceLeDiff, hlt, hE]
        refine (awake_spec _).is ?_
        simp only [go_sem, Int.reduceToNat, Int.reduceLE, Int.reduceLT, Nat.reduceBEq, Nat.reduceLT, Nat.reduceAdd, Nat.reduceLeDiff]
        first | exact rtk (.bool true) ⟨rfl, rfl⟩ | exact rtk0 (.bool true) ⟨rfl, rfl⟩
    · simp only [go_sem, Int.reduceToNat, Int.reduceLE, Int.reduceLT, Nat.reduceBEq, Nat.reduceLT, Nat.reduceAdd, Nat.reduceLeDiff, hk0, hk1, hN, h4, hk2, hak, encA, encTask]
      refine ACalls.is (hr1 _ _ (fun q => absurd q h4)) ?_
      simp only [go_sem, Int.reduceToNat, Int.reduceLE, Int.reduceLT, Nat.reduceBEq, Nat.reduceLT, Nat.reduceAdd, Nat.reduceLeDiff, encTask]
      refine ACalls.is (hr2 _ _ (fun q => absurd q h4)) ?_
      simp only [go_sem, Int.reduceToNat, Int.reduceLE, Int.reduceLT, Nat.reduceBEq, Nat.reduceLT, Nat.reduceAdd, Nat.reduceLeDiff, encTask]
      refine ACalls.is (hst _ (by omega) (fun s hs => (hl.2 s hs).1)) ?_
      simp only [go_sem, Int.reduceToNat, Int.reduceLE, Int.reduceLT, Nat.reduceBEq, Nat.reduceLT, Nat.reduceAdd, Nat.reduceLeDiff]
      refine wpc_while (fun (i : Nat) => [(1, .int .i64 k), (2, .slice .unk (f.map encC)), (4, .ptr σ.length 0), (9, .slice (outT o1) ((outF o1).map encC)), (10, .int .i64 (outE o1)), (11, .slice (outT o2) ((outF o2).map encC)), (12, .int .i64 (outE o2)), (118, .slice .unk ((statesOf n l).map encL)), (119, .int .i64 (statesOf n l).length), (120, .int .i64 i)]) (fun _ => σ ++ [.row (encTask t)]) (fun i => i ≤ (statesOf n l).length) (fun i => (statesOf n l).length - i) 0 (Nat.zero_le _) (by (try dsimp only); exact ghk1) ?_
      intro i hi K hK hE hR
      by_cases h : i < (statesOf n l).length
      · obtain ⟨x, hx⟩ := get_ex h
        have hxm := statesOf_mem (List.mem_of_getElem? hx)
        have hxl : x.length ≤ 1048576 := by rcases risingB_len x _ hxm with h | h; simp [h]; omega
        have hxr : ∀ y ∈ x, 0 ≤ y ∧ y < (n : Int) := fun y hy => by have := risingB_mem hxm y hy; omega
        have hlt : ((i : Int) < ((statesOf n l).length : Int)) := by omega
        have hw : IntKind.i64.wrap ((i : Int) + 1) = ((i + 1 : Nat) : Int) := by rw [wrap_ok (by omega)]; omega
        simp only [go_sem, Int.reduceToNat, Int.reduceLE, Int.reduceLT, Nat.reduceBEq, Nat.reduceLT, Nat.reduceAdd, Nat.reduceLeDiff, hlt, hx, encL, encTask, hk2, hak, encA]
        refine (holds02_spec x a.pre .unk .unk _ (by omega) (by omega)).is ?_
        generalize hp : condHolds x a.pre = p
        generalize hq : formHolds (afterL n x a) f = q
        cases p
        · simp only [go_sem, Int.reduceToNat, Int.reduceLE, Int.reduceLT, Nat.reduceBEq, Nat.reduceLT, Nat.reduceAdd, Nat.reduceLeDiff]
          rcases ho1 : o1 with _ | h1
          · simp only [go_sem, Int.reduceToNat, Int.reduceLE, Int.reduceLT, Nat.reduceBEq, Nat.reduceLT, Nat.reduceAdd, Nat.reduceLeDiff, outE, outF, outT, Option.getD_none, List.map_nil, c20, Bool.and_self, Bool.and_true, Bool.and_false, Bool.true_and, Bool.false_and, Bool.or_self, Bool.or_true, Bool.or_false, Bool.true_or, Bool.false_or, Bool.not_true, Bool.not_false, Bool.true_beq, Bool.false_beq]
            rcases ho2 : o2 with _ | h2
            · simp only [go_sem, Int.reduceToNat, Int.reduceLE, Int.reduceLT, Nat.reduceBEq, Nat.reduceLT, Nat.reduceAdd, Nat.reduceLeDiff, outE, outF, outT, Option.getD_none, List.map_nil, c20, Bool.and_self, Bool.and_true, Bool.and_false, Bool.true_and, Bool.false_and, Bool.or_self, Bool.or_true, Bool.or_false, Bool.true_or, Bool.false_or, Bool.not_true, Bool.not_false, Bool.true_beq, Bool.false_beq]
              refine hK _ _ (i + 1) (by omega) (by first | omega | (simp only []; omega) | (simp; omega)) ?_; (try dsimp only); (try simp only [ hw, ho1, ho2, outT, outF, outE, Option.getD_none, Option.getD_some, List.map_nil]); exact ghk1
            · have hz2 := vF_size (by omega) ((k2 true (fun _ => rfl)).red h2 ho2).1.V ((k2 true (fun _ => rfl)).red h2 ho2).2
              simp only [go_sem, Int.reduceToNat, Int.reduceLE, Int.reduceLT, Nat.reduceBEq, Nat.reduceLT, Nat.reduceAdd, Nat.reduceLeDiff, outE, outF, outT, Option.getD_some, Bool.and_self, Bool.and_true, Bool.and_false, Bool.true_and, Bool.false_and, Bool.or_self, Bool.or_true, Bool.or_false, Bool.true_or, Bool.false_or, Bool.not_true, Bool.not_false, Bool.true_beq, Bool.false_beq]
              refine (holds07_spec x h2 .unk .unk _ (by omega) hz2.1.1 hz2.1.2).is ?_
              rw [m2 h2 ho2 x, hp, hq]
              simp only [go_sem, Int.reduceToNat, Int.reduceLE, Int.reduceLT, Nat.reduceBEq, Nat.reduceLT, Nat.reduceAdd, Nat.reduceLeDiff, Bool.and_self, Bool.and_true, Bool.and_false, Bool.true_and, Bool.false_and, Bool.or_self, Bool.or_true, Bool.or_false, Bool.true_or, Bool.false_or, Bool.not_true, Bool.not_false, Bool.true_beq, Bool.false_beq]
              refine hK _ _ (i + 1) (by omega) (by first | omega | (simp only []; omega) | (simp; omega)) ?_; (try dsimp only); (try simp only [ hw, ho1, ho2, outT, outF, outE, Option.getD_none, Option.getD_some, List.map_nil]); exact ghk1
          · have hz1 := vF_size (by omega) ((k1 true (fun _ => rfl)).red h1 ho1).1.V ((k1 true (fun _ => rfl)).red h1 ho1).2
            simp only [go_sem, Int.reduceToNat, Int.reduceLE, Int.reduceLT, Nat.reduceBEq, Nat.reduceLT, Nat.reduceAdd, Nat.reduceLeDiff, outE, outF, outT, Option.getD_some, Bool.and_self, Bool.and_true, Bool.and_false, Bool.true_and, Bool.false_and, Bool.or_self, Bool.or_true, Bool.or_false, Bool.true_or, Bool.false_or, Bool.not_true, Bool.not_false, Bool.true_beq, Bool.false_beq]
            refine (holds07_spec x h1 .unk .unk _ (by omega) hz1.1.1 hz1.1.2).is ?_
            rw [m1 h1 ho1 x, hp, hq]
            simp only [go_sem, Int.reduceToNat, Int.reduceLE, Int.reduceLT, Nat.reduceBEq, Nat.reduceLT, Nat.reduceAdd, Nat.reduceLeDiff, Bool.and_self, Bool.and_true, Bool.and_false, Bool.true_and, Bool.false_and, Bool.or_self, Bool.or_true, Bool.or_false, Bool.true_or, Bool.false_or, Bool.not_true, Bool.not_false, Bool.true_beq, Bool.false_beq]
            rcases ho2 : o2 with _ | h2
            · simp only [go_sem, Int.reduceToNat, Int.reduceLE, Int.reduceLT, Nat.reduceBEq, Nat.reduceLT, Nat.reduceAdd, Nat.reduceLeDiff, outE, outF, outT, Option.getD_none, List.map_nil, c20, Bool.and_self, Bool.and_true, Bool.and_false, Bool.true_and, Bool.false_and, Bool.or_self, Bool.or_true, Bool.or_false, Bool.true_or, Bool.false_or, Bool.not_true, Bool.not_false, Bool.true_beq, Bool.false_beq]
              refine hK _ _ (i + 1) (by omega) (by first | omega | (simp only []; omega) | (simp; omega)) ?_; (try dsimp only); (try simp only [ hw, ho1, ho2, outT, outF, outE, Option.getD_none, Option.getD_some, List.map_nil]); exact ghk1
            · have hz2 := vF_size (by omega) ((k2 true (fun _ => rfl)).red h2 ho2).1.V ((k2 true (fun _ => rfl)).red h2 ho2).2
              simp only [go_sem, Int.reduceToNat, Int.reduceLE, Int.reduceLT, Nat.reduceBEq, Nat.reduceLT, Nat.reduceAdd, Nat.reduceLeDiff, outE, outF, outT, Option.getD_some, Bool.and_self, Bool.and_true, Bool.and_false, Bool.true_and, Bool.false_and, Bool.or_self, Bool.or_true, Bool.or_false, Bool.true_or, Bool.false_or, Bool.not_true, Bool.not_false, Bool.true_beq, Bool.false_beq]
              refine (holds07_spec x h2 .unk .unk _ (by omega) hz2.1.1 hz2.1.2).is ?_
              rw [m2 h2 ho2 x, hp, hq]
              simp only [go_sem, Int.reduceToNat, Int.reduceLE, Int.reduceLT, Nat.reduceBEq, Nat.reduceLT, Nat.reduceAdd, Nat.reduceLeDiff, Bool.and_self, Bool.and_true, Bool.and_false, Bool.true_and, Bool.false_and, Bool.or_self, Bool.or_true, Bool.or_false, Bool.true_or, Bool.false_or, Bool.not_true, Bool.not_false, Bool.true_beq, Bool.false_beq]
              refine hK _ _ (i + 1) (by omega) (by first | omega | (simp only []; omega) | (simp; omega)) ?_; (try dsimp only); (try simp only [ hw, ho1, ho2, outT, outF, outE, Option.getD_none, Option.getD_some, List.map_nil]); exact ghk1
        · simp only [go_sem, Int.reduceToNat, Int.reduceLE, Int.reduceLT, Nat.reduceBEq, Nat.reduceLT, Nat.reduceAdd, Nat.reduceLeDiff, encTask]
          refine ACalls.is (haft x _ (by omega) hxr hxl hk2 hak hael heff) ?_
          simp only [go_sem, Int.reduceToNat, Int.reduceLE, Int.reduceLT, Nat.reduceBEq, Nat.reduceLT, Nat.reduceAdd, Nat.reduceLeDiff]
          refine (holds07_spec (afterL n x a) f .unk .unk _ (by have := afterL_len (n := n) x a; omega) hf.1 hf.2).is ?_
          rw [hq]
          cases q
          · simp only [go_sem, Int.reduceToNat, Int.reduceLE, Int.reduceLT, Nat.reduceBEq, Nat.reduceLT, Nat.reduceAdd, Nat.reduceLeDiff]
            rcases ho1 : o1 with _ | h1
            · simp only [go_sem, Int.reduceToNat, Int.reduceLE, Int.reduceLT, Nat.reduceBEq, Nat.reduceLT, Nat.reduceAdd, Nat.reduceLeDiff, outE, outF, outT, Option.getD_none, List.map_nil, c20, Bool.and_self, Bool.and_true, Bool.and_false, Bool.true_and, Bool.false_and, Bool.or_self, Bool.or_true, Bool.or_false, Bool.true_or, Bool.false_or, Bool.not_true, Bool.not_false, Bool.true_beq, Bool.false_beq]
              rcases ho2 : o2 with _ | h2
              · simp only [go_sem, Int.reduceToNat, Int.reduceLE, Int.reduceLT, Nat.reduceBEq, Nat.reduceLT, Nat.reduceAdd, Nat.reduceLeDiff, outE, outF, outT, Option.getD_none, List.map_nil, c20, Bool.and_self, Bool.and_true, Bool.and_false, Bool.true_and, Bool.false_and, Bool.or_self, Bool.or_true, Bool.or_false, Bool.true_or, Bool.false_or, Bool.not_true, Bool.not_false, Bool.true_beq, Bool.false_beq]
                refine hK _ _ (i + 1) (by omega) (by first | omega | (simp only []; omega) | (simp; omega)) ?_; (try dsimp only); (try simp only [ hw, ho1, ho2, outT, outF, outE, Option.getD_none, Option.getD_some, List.map_nil]); exact ghk1
              · have hz2 := vF_size (by omega) ((k2 true (fun _ => rfl)).red h2 ho2).1.V ((k2 true (fun _ => rfl)).red h2 ho2).2
                simp only [go_sem, Int.reduceToNat, Int.reduceLE, Int.reduceLT, Nat.reduceBEq, Nat.reduceLT, Nat.reduceAdd, Nat.reduceLeDiff, outE, outF, outT, Option.getD_some, Bool.and_self, Bool.and_true, Bool.and_false, Bool.true_and, Bool.false_and, Bool.or_self, Bool.or_true, Bool.or_false, Bool.true_or, Bool.false_or, Bool.not_true, Bool.not_false, Bool.true_beq, Bool.false_beq]
                refine (holds07_spec x h2 .unk .unk _ (by omega) hz2.1.1 hz2.1.2).is ?_
                rw [m2 h2 ho2 x, hp, hq]
                simp only [go_sem, Int.reduceToNat, Int.reduceLE, Int.reduceLT, Nat.reduceBEq, Nat.reduceLT, Nat.reduceAdd, Nat.reduceLeDiff, Bool.and_self, Bool.and_true, Bool.and_false, Bool.true_and, Bool.false_and, Bool.or_self, Bool.or_true, Bool.or_false, Bool.true_or, Bool.false_or, Bool.not_true, Bool.not_false, Bool.true_beq, Bool.false_beq]
                refine hK _ _ (i + 1) (by omega) (by first | omega | (simp only []; omega) | (simp; omega)) ?_; (try dsimp only); (try simp only [ hw, ho1, ho2, outT, outF, outE, Option.getD_none, Option.getD_some, List.map_nil]); exact ghk1
            · have hz1 := vF_size (by omega) ((k1 true (fun _ => rfl)).red h1 ho1).1.V ((k1 true (fun _ => rfl)).red h1 ho1).2
              simp only [go_sem, Int.reduceToNat, Int.reduceLE, Int.reduceLT, Nat.reduceBEq, Nat.reduceLT, Nat.reduceAdd, Nat.reduceLeDiff, outE, outF, outT, Option.getD_some, Bool.and_self, Bool.and_true, Bool.and_false, Bool.true_and, Bool.false_and, Bool.or_self, Bool.or_true, Bool.or_false, Bool.true_or, Bool.false_or, Bool.not_true, Bool.not_false, Bool.true_beq, Bool.false_beq]
              refine (holds07_spec x h1 .unk .unk _ (by omega) hz1.1.1 hz1.1.2).is ?_
              rw [m1 h1 ho1 x, hp, hq]
              simp only [go_sem, Int.reduceToNat, Int.reduceLE, Int.reduceLT, Nat.reduceBEq, Nat.reduceLT, Nat.reduceAdd, Nat.reduceLeDiff, Bool.and_self, Bool.and_true, Bool.and_false, Bool.true_and, Bool.false_and, Bool.or_self, Bool.or_true, Bool.or_false, Bool.true_or, Bool.false_or, Bool.not_true, Bool.not_false, Bool.true_beq, Bool.false_beq]
              rcases ho2 : o2 with _ | h2
              · simp only [go_sem, Int.reduceToNat, Int.reduceLE, Int.reduceLT, Nat.reduceBEq, Nat.reduceLT, Nat.reduceAdd, Nat.reduceLeDiff, outE, outF, outT, Option.getD_none, List.map_nil, c20, Bool.and_self, Bool.and_true, Bool.and_false, Bool.true_and, Bool.false_and, Bool.or_self, Bool.or_true, Bool.or_false, Bool.true_or, Bool.false_or, Bool.not_true, Bool.not_false, Bool.true_beq, Bool.false_beq]
                refine hK _ _ (i + 1) (by omega) (by first | omega | (simp only []; omega) | (simp; omega)) ?_; (try dsimp only); (try simp only [ hw, ho1, ho2, outT, outF, outE, Option.getD_none, Option.getD_some, List.map_nil]); exact ghk1
              · have hz2 := vF_size (by omega) ((k2 true (fun _ => rfl)).red h2 ho2).1.V ((k2 true (fun _ => rfl)).red h2 ho2).2
                simp only [go_sem, Int.reduceToNat, Int.reduceLE, Int.reduceLT, Nat.reduceBEq, Nat.reduceLT, Nat.reduceAdd, Nat.reduceLeDiff, outE, outF, outT, Option.getD_some, Bool.and_self, Bool.and_true, Bool.and_false, Bool.true_and, Bool.false_and, Bool.or_self, Bool.or_true, Bool.or_false, Bool.true_or, Bool.false_or, Bool.not_true, Bool.not_false, Bool.true_beq, Bool.false_beq]
                refine (holds07_spec x h2 .unk .unk _ (by omega) hz2.1.1 hz2.1.2).is ?_
                rw [m2 h2 ho2 x, hp, hq]
                simp only [go_sem, Int.reduceToNat, Int.reduceLE, Int.reduceLT, Nat.reduceBEq, Nat.reduceLT, Nat.reduceAdd, Nat.reduceLeDiff, Bool.and_self, Bool.and_true, Bool.and_false, Bool.true_and, Bool.false_and, Bool.or_self, Bool.or_true, Bool.or_false, Bool.true_or, Bool.false_or, Bool.not_true, Bool.not_false, Bool.true_beq, Bool.false_beq]
                refine hK _ _ (i + 1) (by omega) (by first | omega | (simp only []; omega) | (simp; omega)) ?_; (try dsimp only); (try simp only [ hw, ho1, ho2, outT, outF, outE, Option.getD_none, Option.getD_some, List.map_nil]); exact ghk1
          · simp only [go_sem, Int.reduceToNat, Int.reduceLE, Int.reduceLT, Nat.reduceBEq, Nat.reduceLT, Nat.reduceAdd, Nat.reduceLeDiff]
            rcases ho1 : o1 with _ | h1
            · simp only [go_sem, Int.reduceToNat, Int.reduceLE, Int.reduceLT, Nat.reduceBEq, Nat.reduceLT, Nat.reduceAdd, Nat.reduceLeDiff, outE, outF, outT, Option.getD_none, List.map_nil, c20, Bool.and_self, Bool.and_true, Bool.and_false, Bool.true_and, Bool.false_and, Bool.or_self, Bool.or_true, Bool.or_false, Bool.true_or, Bool.false_or, Bool.not_true, Bool.not_false, Bool.true_beq, Bool.false_beq]
              rcases ho2 : o2 with _ | h2
              · simp only [go_sem, Int.reduceToNat, Int.reduceLE, Int.reduceLT, Nat.reduceBEq, Nat.reduceLT, Nat.reduceAdd, Nat.reduceLeDiff, outE, outF, outT, Option.getD_none, List.map_nil, c20, Bool.and_self, Bool.and_true, Bool.and_false, Bool.true_and, Bool.false_and, Bool.or_self, Bool.or_true, Bool.or_false, Bool.true_or, Bool.false_or, Bool.not_true, Bool.not_false, Bool.true_beq, Bool.false_beq]
                refine hK _ _ (i + 1) (by omega) (by first | omega | (simp only []; omega) | (simp; omega)) ?_; (try dsimp only); (try simp only [ hw, ho1, ho2, outT, outF, outE, Option.getD_none, Option.getD_some, List.map_nil]); exact ghk1
              · have hz2 := vF_size (by omega) ((k2 true (fun _ => rfl)).red h2 ho2).1.V ((k2 true (fun _ => rfl)).red h2 ho2).2
                simp only [go_sem, Int.reduceToNat, Int.reduceLE, Int.reduceLT, Nat.reduceBEq, Nat.reduceLT, Nat.reduceAdd, Nat.reduceLeDiff, outE, outF, outT, Option.getD_some, Bool.and_self, Bool.and_true, Bool.and_false, Bool.true_and, Bool.false_and, Bool.or_self, Bool.or_true, Bool.or_false, Bool.true_or, Bool.false_or, Bool.not_true, Bool.not_false, Bool.true_beq, Bool.false_beq]
                refine (holds07_spec x h2 .unk .unk _ (by omega) hz2.1.1 hz2.1.2).is ?_
                rw [m2 h2 ho2 x, hp, hq]
                simp only [go_sem, Int.reduceToNat, Int.reduceLE, Int.reduceLT, Nat.reduceBEq, Nat.reduceLT, Nat.reduceAdd, Nat.reduceLeDiff, Bool.and_self, Bool.and_true, Bool.and_false, Bool.true_and, Bool.false_and, Bool.or_self, Bool.or_true, Bool.or_false, Bool.true_or, Bool.false_or, Bool.not_true, Bool.not_false, Bool.true_beq, Bool.false_beq]
                refine hK _ _ (i + 1) (by omega) (by first | omega | (simp only []; omega) | (simp; omega)) ?_; (try dsimp only); (try simp only [ hw, ho1, ho2, outT, outF, outE, Option.getD_none, Option.getD_some, List.map_nil]); exact ghk1
            · have hz1 := vF_size (by omega) ((k1 true (fun _ => rfl)).red h1 ho1).1.V ((k1 true (fun _ => rfl)).red h1 ho1).2
              simp only [go_sem, Int.reduceToNat, Int.reduceLE, Int.reduceLT, Nat.reduceBEq, Nat.reduceLT, Nat.reduceAdd, Nat.reduceLeDiff, outE, outF, outT, Option.getD_some, Bool.and_self, Bool.and_true, Bool.and_false, Bool.true_and, Bool.false_and, Bool.or_self, Bool.or_true, Bool.or_false, Bool.true_or, Bool.false_or, Bool.not_true, Bool.not_false, Bool.true_beq, Bool.false_beq]
              refine (holds07_spec x h1 .unk .unk _ (by omega) hz1.1.1 hz1.1.2).is ?_
              rw [m1 h1 ho1 x, hp, hq]
              simp only [go_sem, Int.reduceToNat, Int.reduceLE, Int.reduceLT, Nat.reduceBEq, Nat.reduceLT, Nat.reduceAdd, Nat.reduceLeDiff, Bool.and_self, Bool.and_true, Bool.and_false, Bool.true_and, Bool.false_and, Bool.or_self, Bool.or_true, Bool.or_false, Bool.true_or, Bool.false_or, Bool.not_true, Bool.not_false, Bool.true_beq, Bool.false_beq]
              rcases ho2 : o2 with _ | h2
              · simp only [go_sem, Int.reduceToNat, Int.reduceLE, Int.reduceLT, Nat.reduceBEq, Nat.reduceLT, Nat.reduceAdd, Nat.reduceLeDiff, outE, outF, outT, Option.getD_none, List.map_nil, c20, Bool.and_self, Bool.and_true, Bool.and_false, Bool.true_and, Bool.false_and, Bool.or_self, Bool.or_true, Bool.or_false, Bool.true_or, Bool.false_or, Bool.not_true, Bool.not_false, Bool.true_beq, Bool.false_beq]
                refine hK _ _ (i + 1) (by omega) (by first | omega | (simp only []; omega) | (simp; omega)) ?_; (try dsimp only); (try simp only [ hw, ho1, ho2, outT, outF, outE, Option.getD_none, Option.getD_some, List.map_nil]); exact ghk1
              · have hz2 := vF_size (by omega) ((k2 true (fun _ => rfl)).red h2 ho2).1.V ((k2 true (fun _ => rfl)).red h2 ho2).2
                simp only [go_sem, Int.reduceToNat, Int.reduceLE, Int.reduceLT, Nat.reduceBEq, Nat.reduceLT, Nat.reduceAdd, Nat.reduceLeDiff, outE, outF, outT, Option.getD_some, Bool.and_self, Bool.and_true, Bool.and_false, Bool.true_and, Bool.false_and, Bool.or_self, Bool.or_true, Bool.or_false, Bool.true_or, Bool.false_or, Bool.not_true, Bool.not_false, Bool.true_beq, Bool.false_beq]
                refine (holds07_spec x h2 .unk .unk _ (by omega) hz2.1.1 hz2.1.2).is ?_
                rw [m2 h2 ho2 x, hp, hq]
                simp only [go_sem, Int.reduceToNat, Int.reduceLE, Int.reduceLT, Nat.reduceBEq, Nat.reduceLT, Nat.reduceAdd, Nat.reduceLeDiff, Bool.and_self, Bool.and_true, Bool.and_false, Bool.true_and, Bool.false_and, Bool.or_self, Bool.or_true, Bool.or_false, Bool.true_or, Bool.false_or, Bool.not_true, Bool.not_false, Bool.true_beq, Bool.false_beq]
                refine hK _ _ (i + 1) (by omega) (by first | omega | (simp only []; omega) | (simp; omega)) ?_; (try dsimp only); (try simp only [ hw, ho1, ho2, outT, outF, outE, Option.getD_none, Option.getD_some, List.map_nil]); exact ghk1
      · have hlt : ¬ ((i : Int) < ((statesOf n l).length : Int)) := by omega
        simp only [go_sem, Int.reduceToNat, Int.reduceLE, Int.reduceLT, Nat.reduceBEq, Nat.reduceLT, Nat.reduceAdd, Nat.reduceLeDiff, hlt, hE]
        refine (awake_spec _).is ?_
        simp only [go_sem, Int.reduceToNat, Int.reduceLE, Int.reduceLT, Nat.reduceBEq, Nat.reduceLT, Nat.reduceAdd, Nat.reduceLeDiff]
        first | exact rtk (.bool true) ⟨rfl, rfl⟩ | exact rtk0 (.bool true) ⟨rfl, rfl⟩
  · have h1' : (fineE t [f] != 0) = true := by simpa using h1
    have h1f : (fineE t [f] == 0) = false := by simpa using h1
    have h1'' : (fineE t [f] == fineE t [f]) = true := beq_self_eq_true _
    have ha : actE t k f = fineE t [f] := by rw [fineE_one] at h1 ⊢; rw [actE, if_neg h1]
    rw [ha, retF_ne h1] at hReg hWk
    refine ACalls.is (hReg _ ht hf) ?_
    simp only [go_sem, Int.reduceToNat, Int.reduceLE, Int.reduceLT, Nat.reduceBEq, Nat.reduceLT, Nat.reduceAdd, Nat.reduceLeDiff, encTask]
    refine ACalls.is (hWk _ ht hf) ?_
    simp only [go_sem, Int.reduceToNat, Int.reduceLE, Int.reduceLT, Nat.reduceBEq, Nat.reduceLT, Nat.reduceAdd, Nat.reduceLeDiff, encTask]
    refine ACalls.is (ACalls.wk (hflt _ ht (by simp) hfs) (.cons (.refl _) (WkL.one (wk_one _ _ _)))) ?_
    simp only [go_sem, Int.reduceToNat, Int.reduceLE, Int.reduceLT, Nat.reduceBEq, Nat.reduceLT, Nat.reduceAdd, Nat.reduceLeDiff, h1', h1f, h1'', w0]
    refine (awake_spec _).is ?_
    simp only [go_sem, Int.reduceToNat, Int.reduceLE, Int.reduceLT, Nat.reduceBEq, Nat.reduceLT, Nat.reduceAdd, Nat.reduceLeDiff]
    first | exact rtk (.bool true) ⟨rfl, rfl⟩ | exact rtk0 (.bool true) ⟨rfl, rfl⟩
theorem law_reads : ReadsAll Try.prog Try.f4.params.toList (fun avs => ACalls Try.prog 4 avs [] (isR (.bool true) [])) := by
  rw [show Try.f4.params.toList = [27, 3, 28, 29] by kernel_rfl]
  exact .cons ra_task fun t ht => .cons ra_int fun k _ => .cons ra_form fun f hf => .cons ra_intss fun l hl => .nil (law_spec t k f l ht hf hl [])
set_option maxRecDepth 100000 in
theorem lifted (os : Os) (started : os.Started) (H : Type) (enc : TypeId × Value → H) :
    ReturnsInHanded {} Try.checked os 4 .any (Rows.regressActionsSpec.pre6 enc Try.prog Try.f4 Rows.regressActionsRow.domain false) (Rows.regressActionsSpec.post enc Try.prog Try.f4 false true false false) := by
  refine returnsInHanded_of_change_sized (C := Try.checked) own started (by kernel_rfl) Try.func4
    (ChangeSpec.witness6 (enc := enc) (C := Try.checked) false ⟨#[], #[.agg #[.slice none 0 0, .slice none 0 0, .slice none 0 0, .slice none 0 0], .int .i64 0, .slice none 0 0, .slice none 0 0], []⟩ 8 (by kernel_rfl) (by kernel_rfl) (by kernel_rfl) (by kernel_rfl)) ?_
  intro W base args ds gs before hval hW _ hsz _
  refine law_post (P := Try.prog) Try.func4 (by kernel_rfl) (by decide) rfl ?_ laidOut (rdble (by kernel_rfl)) (by kernel_rfl) Try.underlying4 law_reads hval hW hsz
  intro ds h
  rw [show Try.f4.params.size = 4 by kernel_rfl] at h
  match ds, h with
  | [a, b, c, d], _ => rfl
theorem holds : Rows.RegressActionsSaid :=
  OpenClaim.holds_of_wide 4 Try.f4 rfl rfl rfl rfl rfl rfl rfl ⟨rfl, rfl, rfl, rfl, rfl⟩ rfl rfl rfl rfl rfl (by kernel_rfl) Try.func4 (by kernel_rfl)
    (of_decide_eq_true (by kernel_rfl)) (by unfold Func.isWrapper; first | (rw [if_pos (by decide +kernel)]; kernel_rfl) | (rw [if_neg (by decide +kernel)]; exact ⟨rfl, rfl⟩))
    (fun os started H enc _ => lifted os started H enc)
end Go.Proofs.Ytbnhijapbnfohaa
