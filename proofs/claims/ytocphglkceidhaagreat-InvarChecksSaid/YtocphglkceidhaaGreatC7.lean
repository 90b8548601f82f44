/- For every task and clauses (within the bounds that the statement itself names) the law InvarChecks returns true and does not panic; no further condition. -/
import Derived.Test.YtocphglkceidhaaGreatBase6
set_option linter.unusedVariables false
set_option linter.unusedSimpArgs false
namespace Go.Proofs.YtocphglkceidhaaGreat
open Go.Ahl Go.ChangeShapes Go.WideShapes Go.ChangeAt Go.RowKit
theorem taskSize_acts {t : FTask} (h : taskSize t ≤ 300) : t.actions.length ≤ 300 := by
  unfold taskSize at h; omega
theorem flt_one (t : FTask) (l : List (List FLit)) : (if validB t then (if [l].all (isClauses t.facts.length) then 0 else 70) else 10 : Int) = clE t l := by
  unfold clE; simp
/-- The error of clauses and of one more. -/
def clE2 (t : FTask) (l : List (List FLit)) (c : List FLit) : Int := if clE t l = 0 then (if condB t.facts.length (-1) c then 0 else 70) else clE t l
theorem flt_two (t : FTask) (l : List (List FLit)) (c : List FLit) : (if validB t then (if [l, [c]].all (isClauses t.facts.length) then 0 else 70) else 10 : Int) = clE2 t l c := by
  unfold clE2 clE
  have h1 : isClauses t.facts.length [c] = condB t.facts.length (-1) c := by simp [isClauses, formB]
  cases validB t
  · simp
  · cases h2 : isClauses t.facts.length l
    · simp [h2]
    · simp [h2, h1]
theorem few8_facts {t : FTask} {fs : List (List (List FLit))} (h : few8B t fs = true) : taskSize t ≤ 300 ∧ (fs.map formSize).sum ≤ 300 ∧ (validB t = true → t.facts.length ≤ 8) := by
  unfold few8B fewT at h
  simp only [Bool.and_eq_true, decide_eq_true_eq, Bool.or_eq_true, Bool.not_eq_true'] at h
  obtain ⟨⟨h1, _⟩, h2, h3⟩ := h
  exact ⟨h1, h2, fun hv => by rcases h3 with h3 | h3; exact h3; rw [hv] at h3; simp at h3⟩
theorem ra_lits : RArg Tryz.prog 24 (fun l : List FLit => .slice .unk (l.map encLit)) (okL fun _ => True) := .one rd_lits (by intro d h; rw [Tryz.underlying24] at h; injection h with h; subst h; rfl)
theorem clE_cases (t : FTask) (l : List (List FLit)) (h : clE t l ≠ 0) : (clE t l = 10 ∧ validB t = false) ∨ (clE t l = 70 ∧ validB t = true) := by
  unfold clE at h ⊢
  cases hv : validB t
  · exact .inl ⟨rfl, rfl⟩
  · rw [hv] at h
    cases h2 : isClauses t.facts.length l
    · exact .inr ⟨rfl, rfl⟩
    · rw [h2] at h; exact absurd rfl h
def c_law : CCode := .seq (.ops [⟨some 5, .box (.tmp 0), none, []⟩, ⟨some 10, .move (.lit (.bool false)), none, []⟩]) (.seq (.seq (.ops [⟨some 18, .load (some 4) (.tmp 5), none, []⟩, ⟨some 19, .move (.tmp 1), none, []⟩, ⟨some 20, .move (.tmp 4), none, []⟩, ⟨some 21, .bslice 1 [.tmp 20] false, none, []⟩, ⟨some 22, .bslice 1 [.tmp 19, .tmp 21] false, none, []⟩, ⟨some 23, .call (.lit (.func 8 [])) [.tmp 18, .tmp 22], none, []⟩, ⟨some 24, .un .not (.tmp 23), none, []⟩, ⟨some 25, .move (.tmp 24), none, []⟩, ⟨some 26, .move (.tmp 2), some (some 25, false), []⟩, ⟨some 27, .blen 1 (.tmp 26), some (some 25, false), []⟩, ⟨some 28, .bin .gtr .none (.tmp 27) (.lit (.int .i64 300)), some (some 25, false), []⟩, ⟨some 29, .pick (.tmp 25) (.lit (.bool true)) (.tmp 28), none, []⟩]) (.cond (.tmp 29) (.seq (.ops [⟨some 30, .call (.lit (.func 9 [])) [], none, []⟩, ⟨some 10, .move (.tmp 30), none, []⟩]) .ret) .skip)) (.seq (.ops [⟨some 32, .load (some 4) (.tmp 5), none, []⟩, ⟨some 33, .move (.tmp 2), none, []⟩, ⟨some 34, .move (.tmp 1), none, []⟩, ⟨some 35, .call (.lit (.func 25 [])) [.tmp 32, .tmp 33, .tmp 34], none, []⟩, ⟨some 31, .move (.tmp 35), none, []⟩, ⟨some 36, .extract (.tmp 31) 0, none, []⟩, ⟨some 37, .extract (.tmp 31) 1, none, []⟩, ⟨some 11, .move (.tmp 36), none, []⟩, ⟨some 12, .move (.tmp 37), none, []⟩]) (.seq (.ops [⟨some 39, .load (some 4) (.tmp 5), none, []⟩, ⟨some 40, .move (.tmp 1), none, []⟩, ⟨some 41, .call (.lit (.func 22 [])) [.tmp 39, .tmp 40], none, []⟩, ⟨some 38, .move (.tmp 41), none, []⟩, ⟨some 42, .extract (.tmp 38) 0, none, []⟩, ⟨some 43, .extract (.tmp 38) 1, none, []⟩, ⟨some 13, .move (.tmp 42), none, []⟩, ⟨some 14, .move (.tmp 43), none, []⟩]) (.seq (.ops [⟨some 45, .load (some 4) (.tmp 5), none, []⟩, ⟨some 46, .move (.tmp 1), none, []⟩, ⟨some 47, .move (.tmp 3), none, []⟩, ⟨some 48, .move (.tmp 4), none, []⟩, ⟨some 49, .call (.lit (.func 23 [])) [.tmp 45, .tmp 46, .tmp 47, .tmp 48], none, []⟩, ⟨some 44, .move (.tmp 49), none, []⟩, ⟨some 50, .extract (.tmp 44) 0, none, []⟩, ⟨some 51, .extract (.tmp 44) 1, none, []⟩, ⟨some 15, .move (.tmp 50), none, []⟩, ⟨some 16, .move (.tmp 51), none, []⟩]) (.seq (.ops [⟨some 52, .load (some 4) (.tmp 5), none, []⟩, ⟨some 53, .move (.tmp 1), none, []⟩, ⟨some 54, .bslice 1 [.tmp 53] false, none, []⟩, ⟨some 55, .call (.lit (.func 11 [])) [.tmp 52, .tmp 54], none, []⟩, ⟨some 17, .move (.tmp 55), none, []⟩]) (.seq (.seq (.ops [⟨some 56, .move (.tmp 14), none, []⟩, ⟨some 57, .move (.tmp 17), none, []⟩, ⟨some 58, .bin .neq .none (.tmp 56) (.tmp 57), none, []⟩, ⟨some 59, .move (.tmp 58), none, []⟩, ⟨some 60, .move (.tmp 13), some (some 59, false), []⟩, ⟨some 61, .move (.tmp 17), some (some 59, false), []⟩, ⟨some 62, .bin .eql .none (.tmp 61) (.lit (.int .i64 0)), some (some 59, false), []⟩, ⟨some 63, .move (.tmp 62), some (some 59, false), []⟩, ⟨some 64, .load (some 4) (.tmp 5), some (some 63, true), []⟩, ⟨some 65, .move (.tmp 1), some (some 63, true), []⟩, ⟨some 66, .call (.lit (.func 26 [])) [.tmp 64, .tmp 65], some (some 63, true), []⟩, ⟨some 67, .pick (.tmp 63) (.tmp 66) (.lit (.bool false)), some (some 59, false), []⟩, ⟨some 68, .bin .neq .bool (.tmp 60) (.tmp 67), some (some 59, false), []⟩, ⟨some 69, .pick (.tmp 59) (.lit (.bool true)) (.tmp 68), none, []⟩]) (.cond (.tmp 69) (.seq (.ops [⟨some 10, .move (.lit (.bool false)), none, []⟩]) .ret) .skip)) (.seq (.seq (.ops [⟨some 70, .move (.tmp 17), none, []⟩, ⟨some 71, .bin .neq .none (.tmp 70) (.lit (.int .i64 10)), none, []⟩, ⟨some 72, .move (.tmp 71), none, []⟩, ⟨some 73, .load (some 4) (.tmp 5), some (some 72, true), []⟩, ⟨some 74, .move (.tmp 2), some (some 72, true), []⟩, ⟨some 75, .call (.lit (.func 27 [])) [.tmp 73, .tmp 74], some (some 72, true), []⟩, ⟨some 76, .un .not (.tmp 75), some (some 72, true), []⟩, ⟨some 77, .pick (.tmp 72) (.tmp 76) (.lit (.bool false)), none, []⟩]) (.cond (.tmp 77) (.seq (.ops [⟨some 78, .move (.tmp 12), none, []⟩, ⟨some 79, .bin .neq .none (.tmp 78) (.lit (.int .i64 20)), none, []⟩, ⟨some 80, .move (.tmp 79), none, []⟩, ⟨some 81, .move (.tmp 11), some (some 80, false), []⟩, ⟨some 82, .pick (.tmp 80) (.lit (.bool true)) (.tmp 81), none, []⟩]) (.cond (.tmp 82) (.seq (.ops [⟨some 10, .move (.lit (.bool false)), none, []⟩]) .ret) .skip)) (.seq (.ops [⟨some 83, .move (.tmp 12), none, []⟩, ⟨some 84, .move (.tmp 17), none, []⟩, ⟨some 85, .bin .neq .none (.tmp 83) (.tmp 84), none, []⟩, ⟨some 86, .move (.tmp 85), none, []⟩, ⟨some 87, .move (.tmp 11), some (some 86, false), []⟩, ⟨some 88, .move (.tmp 17), some (some 86, false), []⟩, ⟨some 89, .bin .eql .none (.tmp 88) (.lit (.int .i64 0)), some (some 86, false), []⟩, ⟨some 90, .move (.tmp 89), some (some 86, false), []⟩, ⟨some 91, .move (.tmp 2), some (some 90, true), []⟩, ⟨some 92, .move (.tmp 1), some (some 90, true), []⟩, ⟨some 93, .call (.lit (.func 28 [])) [.tmp 91, .tmp 92], some (some 90, true), []⟩, ⟨some 94, .pick (.tmp 90) (.tmp 93) (.lit (.bool false)), some (some 86, false), []⟩, ⟨some 95, .bin .neq .bool (.tmp 87) (.tmp 94), some (some 86, false), []⟩, ⟨some 96, .pick (.tmp 86) (.lit (.bool true)) (.tmp 95), none, []⟩]) (.cond (.tmp 96) (.seq (.ops [⟨some 10, .move (.lit (.bool false)), none, []⟩]) .ret) .skip)))) (.seq (.ops [⟨some 97, .load (some 4) (.tmp 5), none, []⟩, ⟨some 98, .move (.tmp 1), none, []⟩, ⟨some 99, .move (.tmp 4), none, []⟩, ⟨some 100, .bslice 1 [.tmp 99] false, none, []⟩, ⟨some 101, .bslice 1 [.tmp 98, .tmp 100] false, none, []⟩, ⟨some 102, .call (.lit (.func 11 [])) [.tmp 97, .tmp 101], none, []⟩, ⟨some 17, .move (.tmp 102), none, []⟩]) (.seq (.seq (.ops [⟨some 103, .move (.tmp 17), none, []⟩, ⟨some 104, .bin .eql .none (.tmp 103) (.lit (.int .i64 0)), none, []⟩, ⟨some 105, .move (.tmp 104), none, []⟩, ⟨some 106, .move (.tmp 3), some (some 105, true), []⟩, ⟨some 107, .bin .lss .none (.tmp 106) (.lit (.int .i64 0)), some (some 105, true), []⟩, ⟨some 108, .move (.tmp 107), some (some 105, true), []⟩, ⟨some 109, .move (.tmp 3), some (some 108, false), []⟩, ⟨some 110, .faddr 3 (.tmp 5), some (some 108, false), []⟩, ⟨some 111, .load none (.tmp 110), some (some 108, false), []⟩, ⟨some 112, .blen 1 (.tmp 111), some (some 108, false), []⟩, ⟨some 113, .bin .geq .none (.tmp 109) (.tmp 112), some (some 108, false), []⟩, ⟨some 114, .pick (.tmp 108) (.lit (.bool true)) (.tmp 113), some (some 105, true), []⟩, ⟨some 115, .pick (.tmp 105) (.tmp 114) (.lit (.bool false)), none, []⟩]) (.cond (.tmp 115) (.ops [⟨some 17, .move (.lit (.int .i64 1)), none, []⟩]) .skip)) (.seq (.ops [⟨some 116, .move (.tmp 16), none, []⟩, ⟨some 117, .move (.tmp 17), none, []⟩, ⟨some 118, .bin .eql .none (.tmp 116) (.tmp 117), none, []⟩, ⟨some 119, .move (.tmp 118), none, []⟩, ⟨some 120, .move (.tmp 15), some (some 119, true), []⟩, ⟨some 121, .move (.tmp 17), some (some 119, true), []⟩, ⟨some 122, .bin .eql .none (.tmp 121) (.lit (.int .i64 0)), some (some 119, true), []⟩, ⟨some 123, .move (.tmp 122), some (some 119, true), []⟩, ⟨some 124, .load (some 4) (.tmp 5), some (some 123, true), []⟩, ⟨some 125, .move (.tmp 1), some (some 123, true), []⟩, ⟨some 126, .move (.tmp 3), some (some 123, true), []⟩, ⟨some 127, .move (.tmp 4), some (some 123, true), []⟩, ⟨some 128, .call (.lit (.func 29 [])) [.tmp 124, .tmp 125, .tmp 126, .tmp 127], some (some 123, true), []⟩, ⟨some 129, .pick (.tmp 123) (.tmp 128) (.lit (.bool false)), some (some 119, true), []⟩, ⟨some 130, .bin .eql .bool (.tmp 120) (.tmp 129), some (some 119, true), []⟩, ⟨some 131, .pick (.tmp 119) (.tmp 130) (.lit (.bool false)), none, []⟩, ⟨some 132, .move (.tmp 131), none, []⟩, ⟨some 133, .call (.lit (.func 9 [])) [], some (some 132, true), []⟩, ⟨some 134, .pick (.tmp 132) (.tmp 133) (.lit (.bool false)), none, []⟩, ⟨some 10, .move (.tmp 134), none, []⟩]) .ret))))))))))
set_option maxRecDepth 20000 in
set_option maxHeartbeats 4000000 in
theorem law_spec (t : FTask) (f : List (List FLit)) (s : List Int) (k : Int) (c : List FLit) (ht : TB t) (hf : FB f) (hs : okL okI s) (hc : okL (fun _ => True) c) (hko : okI k) (σ : Store) :
    ACalls Tryz.prog 6 [.agg (encTask t), .slice .unk (f.map encC), .slice .unk (s.map Ahl.encI), .int .i64 k, .slice .unk (c.map encLit)] σ (isR (.bool true) σ) := by
  refine ACalls.intro (rs := [(.tmp 10)]) (by kernel_rfl) { own := [], ghosts := [] } Tryz.func6 (c := Tryz.f6.body.getD .skip) (by kernel_rfl) (by decide) (by rw [show Tryz.f6.ntmps = 135 by kernel_rfl]; exact Nat.le_of_ble_eq_true rfl) (by kernel_rfl) ?_
  intro hσ hids
  rw [show comp Tryz.prog { own := [], ghosts := [] } (Tryz.f6.body.getD .skip) = c_law by kernel_rfl, show Tryz.f6.ntmps = 135 by kernel_rfl]
  unfold c_law
  have hsl := hs.1
  have hcl := hc.1
  have hfs : ∀ x ∈ [f], FB x := by intro x hx; simp at hx; subst hx; exact hf
  have hfc : ∀ x ∈ [f, [c]], FB x := by
    intro x hx
    simp at hx
    rcases hx with rfl | rfl
    · exact hf
    · exact ⟨by simp, fun y hy => by simp at hy; subst hy; exact hcl⟩
  simp only [go_sem, Int.reduceToNat, Int.reduceLE, Int.reduceLT, Nat.reduceBEq, Nat.reduceLT, Nat.reduceAdd, Nat.reduceLeDiff, encTask]
  refine ACalls.is (ACalls.wk (few8_spec t [f, [c]] .unk _ ht (by simp) hfc) (.cons (.refl _) (WkL.one (wk_two _ _ _ f [c])))) ?_
  cases hfew : few8B t [f, [c]]
  · simp only [go_sem, Int.reduceToNat, Int.reduceLE, Int.reduceLT, Nat.reduceBEq, Nat.reduceLT, Nat.reduceAdd, Nat.reduceLeDiff]
    refine (awake8_spec _).is ?_
    simp only [go_sem, Int.reduceToNat, Int.reduceLE, Int.reduceLT, Nat.reduceBEq, Nat.reduceLT, Nat.reduceAdd, Nat.reduceLeDiff]
    first | exact rtk (.bool true) ⟨rfl, rfl⟩ | exact rtk0 (.bool true) ⟨rfl, rfl⟩
  obtain ⟨hsz, hfz, h8⟩ := few8_facts hfew
  by_cases h300 : (s.length : Int) > 300
  · simp only [go_sem, Int.reduceToNat, Int.reduceLE, Int.reduceLT, Nat.reduceBEq, Nat.reduceLT, Nat.reduceAdd, Nat.reduceLeDiff, h300]
    refine (awake8_spec _).is ?_
    simp only [go_sem, Int.reduceToNat, Int.reduceLE, Int.reduceLT, Nat.reduceBEq, Nat.reduceLT, Nat.reduceAdd, Nat.reduceLeDiff]
    first | exact rtk (.bool true) ⟨rfl, rfl⟩ | exact rtk0 (.bool true) ⟨rfl, rfl⟩
  have hflt := fun tok σ => fault8_spec t [f] tok σ ht (by simp) hfs
  rw [flt_one] at hflt
  have hflt2 := fun tok σ => fault8_spec t [f, [c]] tok σ ht (by simp) hfc
  rw [flt_two] at hflt2
  have h12 : validB t = true → t.facts.length ≤ 12 := fun hv => by have := h8 hv; omega
  have hall := taskSize_acts hsz
  simp only [go_sem, Int.reduceToNat, Int.reduceLE, Int.reduceLT, Nat.reduceBEq, Nat.reduceLT, Nat.reduceAdd, Nat.reduceLeDiff, h300, encTask]
  have hBB : (false == false) = true := rfl
  have hBT : (true == true) = true := rfl
  by_cases h1 : clE t f = 0
  · obtain ⟨hv, hfl, hvf⟩ := clE_zero h1
    have hI : (f.all (stayB t f) == f.all (stayB t f)) = true := beq_self_eq_true _
    have hH : (clausesT s f == clausesT s f) = true := beq_self_eq_true _
    have hind : indR t f = .tuple [.bool (f.all (stayB t f)), .int .i64 0] := by rw [indR, if_pos h1]
    cases hcc : condB t.facts.length (-1) c
    · have hf2 : clE2 t f c = 70 := by rw [clE2, if_pos h1, hcc]; rfl
      have hist : istR t f k c = .tuple [.bool false, .int .i64 70] := by rw [istR, if_pos h1, hcc]; rfl
      cases hr : risingB t.facts.length (-1) s
      · have hih : ihR t s f = .tuple [.bool false, .int .i64 20] := by rw [ihR, stE, hv, hr]; rfl
        refine (iHolds_spec t s f .unk .unk _ ht hsl hf).is ?_
        rw [hih]
        simp only [go_sem, Int.reduceToNat, Int.reduceLE, Int.reduceLT, Nat.reduceBEq, Nat.reduceLT, Nat.reduceAdd, Nat.reduceLeDiff, encTask]
        refine (Inductive_spec t f .unk _ ht hf h12).is ?_
        rw [hind]
        simp only [go_sem, Int.reduceToNat, Int.reduceLE, Int.reduceLT, Nat.reduceBEq, Nat.reduceLT, Nat.reduceAdd, Nat.reduceLeDiff, encTask]
        refine (iStep_spec t f k c .unk .unk _ ht hf hcl h12).is ?_
        rw [hist]
        simp only [go_sem, Int.reduceToNat, Int.reduceLE, Int.reduceLT, Nat.reduceBEq, Nat.reduceLT, Nat.reduceAdd, Nat.reduceLeDiff, encTask]
        refine ACalls.is (hflt _ _) ?_
        rw [h1]
        simp only [go_sem, Int.reduceToNat, Int.reduceLE, Int.reduceLT, Nat.reduceBEq, Nat.reduceLT, Nat.reduceAdd, Nat.reduceLeDiff, Int.reduceBEq, Int.reduceBNe, encTask]
        refine (Inductive08_spec t f .unk _ ht.init (h8 hv) (by omega) (fun a ha => valid_AOk hv ha) hf (by omega)).is ?_
        simp only [go_sem, Int.reduceToNat, Int.reduceLE, Int.reduceLT, Nat.reduceBEq, Nat.reduceLT, Nat.reduceAdd, Nat.reduceLeDiff, hI, Int.reduceBEq, Int.reduceBNe, encTask]
        refine (state02_spec t s .unk _ hsl).is ?_
        rw [hr]
        simp only [go_sem, Int.reduceToNat, Int.reduceLE, Int.reduceLT, Nat.reduceBEq, Nat.reduceLT, Nat.reduceAdd, Nat.reduceLeDiff, Int.reduceBEq, Int.reduceBNe, encTask]
        refine ACalls.is (ACalls.wk (hflt2 .unk _) (.cons (.refl _) (WkL.one (wk_two _ _ _ f [c])))) ?_
        rw [hf2]
        simp only [go_sem, Int.reduceToNat, Int.reduceLE, Int.reduceLT, Nat.reduceBEq, Nat.reduceLT, Nat.reduceAdd, Nat.reduceLeDiff, Int.reduceBEq, Int.reduceBNe, hBB]
        refine (awake8_spec _).is ?_
        simp only [go_sem, Int.reduceToNat, Int.reduceLE, Int.reduceLT, Nat.reduceBEq, Nat.reduceLT, Nat.reduceAdd, Nat.reduceLeDiff]
        first | exact rtk (.bool true) ⟨rfl, rfl⟩ | exact rtk0 (.bool true) ⟨rfl, rfl⟩
      · have hih : ihR t s f = .tuple [.bool (clausesT s f), .int .i64 0] := by rw [ihR, stE, hv, hr, h1]; rfl
        refine (iHolds_spec t s f .unk .unk _ ht hsl hf).is ?_
        rw [hih]
        simp only [go_sem, Int.reduceToNat, Int.reduceLE, Int.reduceLT, Nat.reduceBEq, Nat.reduceLT, Nat.reduceAdd, Nat.reduceLeDiff, encTask]
        refine (Inductive_spec t f .unk _ ht hf h12).is ?_
        rw [hind]
        simp only [go_sem, Int.reduceToNat, Int.reduceLE, Int.reduceLT, Nat.reduceBEq, Nat.reduceLT, Nat.reduceAdd, Nat.reduceLeDiff, encTask]
        refine (iStep_spec t f k c .unk .unk _ ht hf hcl h12).is ?_
        rw [hist]
        simp only [go_sem, Int.reduceToNat, Int.reduceLE, Int.reduceLT, Nat.reduceBEq, Nat.reduceLT, Nat.reduceAdd, Nat.reduceLeDiff, encTask]
        refine ACalls.is (hflt _ _) ?_
        rw [h1]
        simp only [go_sem, Int.reduceToNat, Int.reduceLE, Int.reduceLT, Nat.reduceBEq, Nat.reduceLT, Nat.reduceAdd, Nat.reduceLeDiff, Int.reduceBEq, Int.reduceBNe, encTask]
        refine (Inductive08_spec t f .unk _ ht.init (h8 hv) (by omega) (fun a ha => valid_AOk hv ha) hf (by omega)).is ?_
        simp only [go_sem, Int.reduceToNat, Int.reduceLE, Int.reduceLT, Nat.reduceBEq, Nat.reduceLT, Nat.reduceAdd, Nat.reduceLeDiff, hI, Int.reduceBEq, Int.reduceBNe, encTask]
        refine (state02_spec t s .unk _ hsl).is ?_
        rw [hr]
        simp only [go_sem, Int.reduceToNat, Int.reduceLE, Int.reduceLT, Nat.reduceBEq, Nat.reduceLT, Nat.reduceAdd, Nat.reduceLeDiff, Int.reduceBEq, Int.reduceBNe, encTask]
        refine (Holds08_spec s f .unk .unk _ hsl hf).is ?_
        simp only [go_sem, Int.reduceToNat, Int.reduceLE, Int.reduceLT, Nat.reduceBEq, Nat.reduceLT, Nat.reduceAdd, Nat.reduceLeDiff, hH, encTask]
        refine ACalls.is (ACalls.wk (hflt2 .unk _) (.cons (.refl _) (WkL.one (wk_two _ _ _ f [c])))) ?_
        rw [hf2]
        simp only [go_sem, Int.reduceToNat, Int.reduceLE, Int.reduceLT, Nat.reduceBEq, Nat.reduceLT, Nat.reduceAdd, Nat.reduceLeDiff, Int.reduceBEq, Int.reduceBNe, hBB]
        refine (awake8_spec _).is ?_
        simp only [go_sem, Int.reduceToNat, Int.reduceLE, Int.reduceLT, Nat.reduceBEq, Nat.reduceLT, Nat.reduceAdd, Nat.reduceLeDiff]
        first | exact rtk (.bool true) ⟨rfl, rfl⟩ | exact rtk0 (.bool true) ⟨rfl, rfl⟩
    · have hf2 : clE2 t f c = 0 := by rw [clE2, if_pos h1, hcc]; rfl
      by_cases hk0 : k < 0
      · have hist : istR t f k c = .tuple [.bool false, .int .i64 1] := by rw [istR, if_pos h1, hcc, if_pos rfl, if_neg (by omega)]
        cases hr : risingB t.facts.length (-1) s
        · have hih : ihR t s f = .tuple [.bool false, .int .i64 20] := by rw [ihR, stE, hv, hr]; rfl
          refine (iHolds_spec t s f .unk .unk _ ht hsl hf).is ?_
          rw [hih]
          simp only [go_sem, Int.reduceToNat, Int.reduceLE, Int.reduceLT, Nat.reduceBEq, Nat.reduceLT, Nat.reduceAdd, Nat.reduceLeDiff, encTask]
          refine (Inductive_spec t f .unk _ ht hf h12).is ?_
          rw [hind]
          simp only [go_sem, Int.reduceToNat, Int.reduceLE, Int.reduceLT, Nat.reduceBEq, Nat.reduceLT, Nat.reduceAdd, Nat.reduceLeDiff, encTask]
          refine (iStep_spec t f k c .unk .unk _ ht hf hcl h12).is ?_
          rw [hist]
          simp only [go_sem, Int.reduceToNat, Int.reduceLE, Int.reduceLT, Nat.reduceBEq, Nat.reduceLT, Nat.reduceAdd, Nat.reduceLeDiff, encTask]
          refine ACalls.is (hflt _ _) ?_
          rw [h1]
          simp only [go_sem, Int.reduceToNat, Int.reduceLE, Int.reduceLT, Nat.reduceBEq, Nat.reduceLT, Nat.reduceAdd, Nat.reduceLeDiff, Int.reduceBEq, Int.reduceBNe, encTask]
          refine (Inductive08_spec t f .unk _ ht.init (h8 hv) (by omega) (fun a ha => valid_AOk hv ha) hf (by omega)).is ?_
          simp only [go_sem, Int.reduceToNat, Int.reduceLE, Int.reduceLT, Nat.reduceBEq, Nat.reduceLT, Nat.reduceAdd, Nat.reduceLeDiff, hI, Int.reduceBEq, Int.reduceBNe, encTask]
          refine (state02_spec t s .unk _ hsl).is ?_
          rw [hr]
          simp only [go_sem, Int.reduceToNat, Int.reduceLE, Int.reduceLT, Nat.reduceBEq, Nat.reduceLT, Nat.reduceAdd, Nat.reduceLeDiff, Int.reduceBEq, Int.reduceBNe, encTask]
          refine ACalls.is (ACalls.wk (hflt2 .unk _) (.cons (.refl _) (WkL.one (wk_two _ _ _ f [c])))) ?_
          rw [hf2]
          simp only [go_sem, Int.reduceToNat, Int.reduceLE, Int.reduceLT, Nat.reduceBEq, Nat.reduceLT, Nat.reduceAdd, Nat.reduceLeDiff, Int.reduceBEq, Int.reduceBNe, hBB, hk0]
          refine (awake8_spec _).is ?_
          simp only [go_sem, Int.reduceToNat, Int.reduceLE, Int.reduceLT, Nat.reduceBEq, Nat.reduceLT, Nat.reduceAdd, Nat.reduceLeDiff]
          first | exact rtk (.bool true) ⟨rfl, rfl⟩ | exact rtk0 (.bool true) ⟨rfl, rfl⟩
        · have hih : ihR t s f = .tuple [.bool (clausesT s f), .int .i64 0] := by rw [ihR, stE, hv, hr, h1]; rfl
          refine (iHolds_spec t s f .unk .unk _ ht hsl hf).is ?_
          rw [hih]
          simp only [go_sem, Int.reduceToNat, Int.reduceLE, Int.reduceLT, Nat.reduceBEq, Nat.reduceLT, Nat.reduceAdd, Nat.reduceLeDiff, encTask]
          refine (Inductive_spec t f .unk _ ht hf h12).is ?_
          rw [hind]
          simp only [go_sem, Int.reduceToNat, Int.reduceLE, Int.reduceLT, Nat.reduceBEq, Nat.reduceLT, Nat.reduceAdd, Nat.reduceLeDiff, encTask]
          refine (iStep_spec t f k c .unk .unk _ ht hf hcl h12).is ?_
          rw [hist]
          simp only [go_sem, Int.reduceToNat, Int.reduceLE, Int.reduceLT, Nat.reduceBEq, Nat.reduceLT, Nat.reduceAdd, Nat.reduceLeDiff, encTask]
          refine ACalls.is (hflt _ _) ?_
          rw [h1]
          simp only [go_sem, Int.reduceToNat, Int.reduceLE, Int.reduceLT, Nat.reduceBEq, Nat.reduceLT, Nat.reduceAdd, Nat.reduceLeDiff, Int.reduceBEq, Int.reduceBNe, encTask]
          refine (Inductive08_spec t f .unk _ ht.init (h8 hv) (by omega) (fun a ha => valid_AOk hv ha) hf (by omega)).is ?_
          simp only [go_sem, Int.reduceToNat, Int.reduceLE, Int.reduceLT, Nat.reduceBEq, Nat.reduceLT, Nat.reduceAdd, Nat.reduceLeDiff, hI, Int.reduceBEq, Int.reduceBNe, encTask]
          refine (state02_spec t s .unk _ hsl).is ?_
          rw [hr]
          simp only [go_sem, Int.reduceToNat, Int.reduceLE, Int.reduceLT, Nat.reduceBEq, Nat.reduceLT, Nat.reduceAdd, Nat.reduceLeDiff, Int.reduceBEq, Int.reduceBNe, encTask]
          refine (Holds08_spec s f .unk .unk _ hsl hf).is ?_
          simp only [go_sem, Int.reduceToNat, Int.reduceLE, Int.reduceLT, Nat.reduceBEq, Nat.reduceLT, Nat.reduceAdd, Nat.reduceLeDiff, hH, encTask]
          refine ACalls.is (ACalls.wk (hflt2 .unk _) (.cons (.refl _) (WkL.one (wk_two _ _ _ f [c])))) ?_
          rw [hf2]
          simp only [go_sem, Int.reduceToNat, Int.reduceLE, Int.reduceLT, Nat.reduceBEq, Nat.reduceLT, Nat.reduceAdd, Nat.reduceLeDiff, Int.reduceBEq, Int.reduceBNe, hBB, hk0]
          refine (awake8_spec _).is ?_
          simp only [go_sem, Int.reduceToNat, Int.reduceLE, Int.reduceLT, Nat.reduceBEq, Nat.reduceLT, Nat.reduceAdd, Nat.reduceLeDiff]
          first | exact rtk (.bool true) ⟨rfl, rfl⟩ | exact rtk0 (.bool true) ⟨rfl, rfl⟩
      · by_cases hk1 : k ≥ (t.actions.length : Int)
        · have hist : istR t f k c = .tuple [.bool false, .int .i64 1] := by rw [istR, if_pos h1, hcc, if_pos rfl, if_neg (by omega)]
          cases hr : risingB t.facts.length (-1) s
          · have hih : ihR t s f = .tuple [.bool false, .int .i64 20] := by rw [ihR, stE, hv, hr]; rfl
            refine (iHolds_spec t s f .unk .unk _ ht hsl hf).is ?_
            rw [hih]
            simp only [go_sem, Int.reduceToNat, Int.reduceLE, Int.reduceLT, Nat.reduceBEq, Nat.reduceLT, Nat.reduceAdd, Nat.reduceLeDiff, encTask]
            refine (Inductive_spec t f .unk _ ht hf h12).is ?_
            rw [hind]
            simp only [go_sem, Int.reduceToNat, Int.reduceLE, Int.reduceLT, Nat.reduceBEq, Nat.reduceLT, Nat.reduceAdd, Nat.reduceLeDiff, encTask]
            refine (iStep_spec t f k c .unk .unk _ ht hf hcl h12).is ?_
            rw [hist]
            simp only [go_sem, Int.reduceToNat, Int.reduceLE, Int.reduceLT, Nat.reduceBEq, Nat.reduceLT, Nat.reduceAdd, Nat.reduceLeDiff, encTask]
            refine ACalls.is (hflt _ _) ?_
            rw [h1]
            simp only [go_sem, Int.reduceToNat, Int.reduceLE, Int.reduceLT, Nat.reduceBEq, Nat.reduceLT, Nat.reduceAdd, Nat.reduceLeDiff, Int.reduceBEq, Int.reduceBNe, encTask]
            refine (Inductive08_spec t f .unk _ ht.init (h8 hv) (by omega) (fun a ha => valid_AOk hv ha) hf (by omega)).is ?_
            simp only [go_sem, Int.reduceToNat, Int.reduceLE, Int.reduceLT, Nat.reduceBEq, Nat.reduceLT, Nat.reduceAdd, Nat.reduceLeDiff, hI, Int.reduceBEq, Int.reduceBNe, encTask]
            refine (state02_spec t s .unk _ hsl).is ?_
            rw [hr]
            simp only [go_sem, Int.reduceToNat, Int.reduceLE, Int.reduceLT, Nat.reduceBEq, Nat.reduceLT, Nat.reduceAdd, Nat.reduceLeDiff, Int.reduceBEq, Int.reduceBNe, encTask]
            refine ACalls.is (ACalls.wk (hflt2 .unk _) (.cons (.refl _) (WkL.one (wk_two _ _ _ f [c])))) ?_
            rw [hf2]
            simp only [go_sem, Int.reduceToNat, Int.reduceLE, Int.reduceLT, Nat.reduceBEq, Nat.reduceLT, Nat.reduceAdd, Nat.reduceLeDiff, Int.reduceBEq, Int.reduceBNe, hBB, hk0, hk1, encTask]
            refine (awake8_spec _).is ?_
            simp only [go_sem, Int.reduceToNat, Int.reduceLE, Int.reduceLT, Nat.reduceBEq, Nat.reduceLT, Nat.reduceAdd, Nat.reduceLeDiff]
            first | exact rtk (.bool true) ⟨rfl, rfl⟩ | exact rtk0 (.bool true) ⟨rfl, rfl⟩
          · have hih : ihR t s f = .tuple [.bool (clausesT s f), .int .i64 0] := by rw [ihR, stE, hv, hr, h1]; rfl
            refine (iHolds_spec t s f .unk .unk _ ht hsl hf).is ?_
            rw [hih]
            simp only [go_sem, Int.reduceToNat, Int.reduceLE, Int.reduceLT, Nat.reduceBEq, Nat.reduceLT, Nat.reduceAdd, Nat.reduceLeDiff, encTask]
            refine (Inductive_spec t f .unk _ ht hf h12).is ?_
            rw [hind]
            simp only [go_sem, Int.reduceToNat, Int.reduceLE, Int.reduceLT, Nat.reduceBEq, Nat.reduceLT, Nat.reduceAdd, Nat.reduceLeDiff, encTask]
            refine (iStep_spec t f k c .unk .unk _ ht hf hcl h12).is ?_
            rw [hist]
            simp only [go_sem, Int.reduceToNat, Int.reduceLE, Int.reduceLT, Nat.reduceBEq, Nat.reduceLT, Nat.reduceAdd, Nat.reduceLeDiff, encTask]
            refine ACalls.is (hflt _ _) ?_
            rw [h1]
            simp only [go_sem, Int.reduceToNat, Int.reduceLE, Int.reduceLT, Nat.reduceBEq, Nat.reduceLT, Nat.reduceAdd, Nat.reduceLeDiff, Int.reduceBEq, Int.reduceBNe, encTask]
            refine (Inductive08_spec t f .unk _ ht.init (h8 hv) (by omega) (fun a ha => valid_AOk hv ha) hf (by omega)).is ?_
            simp only [go_sem, Int.reduceToNat, Int.reduceLE, Int.reduceLT, Nat.reduceBEq, Nat.reduceLT, Nat.reduceAdd, Nat.reduceLeDiff, hI, Int.reduceBEq, Int.reduceBNe, encTask]
            refine (state02_spec t s .unk _ hsl).is ?_
            rw [hr]
            simp only [go_sem, Int.reduceToNat, Int.reduceLE, Int.reduceLT, Nat.reduceBEq, Nat.reduceLT, Nat.reduceAdd, Nat.reduceLeDiff, Int.reduceBEq, Int.reduceBNe, encTask]
            refine (Holds08_spec s f .unk .unk _ hsl hf).is ?_
            simp only [go_sem, Int.reduceToNat, Int.reduceLE, Int.reduceLT, Nat.reduceBEq, Nat.reduceLT, Nat.reduceAdd, Nat.reduceLeDiff, hH, encTask]
            refine ACalls.is (ACalls.wk (hflt2 .unk _) (.cons (.refl _) (WkL.one (wk_two _ _ _ f [c])))) ?_
            rw [hf2]
            simp only [go_sem, Int.reduceToNat, Int.reduceLE, Int.reduceLT, Nat.reduceBEq, Nat.reduceLT, Nat.reduceAdd, Nat.reduceLeDiff, Int.reduceBEq, Int.reduceBNe, hBB, hk0, hk1, encTask]
            refine (awake8_spec _).is ?_
            simp only [go_sem, Int.reduceToNat, Int.reduceLE, Int.reduceLT, Nat.reduceBEq, Nat.reduceLT, Nat.reduceAdd, Nat.reduceLeDiff]
            first | exact rtk (.bool true) ⟨rfl, rfl⟩ | exact rtk0 (.bool true) ⟨rfl, rfl⟩
        · obtain ⟨a, ha⟩ := get_ex (show k.toNat < t.actions.length by omega)
          have hga : t.actions.getD k.toNat aZero = a := by rw [List.getD_eq_getElem?_getD, ha]; rfl
          have hS : (stepB t.facts.length f a c == stepB t.facts.length f a c) = true := beq_self_eq_true _
          have hist : istR t f k c = .tuple [.bool (stepB t.facts.length f a c), .int .i64 0] := by rw [istR, if_pos h1, hcc, if_pos rfl, if_pos (by omega), hga]
          cases hr : risingB t.facts.length (-1) s
          · have hih : ihR t s f = .tuple [.bool false, .int .i64 20] := by rw [ihR, stE, hv, hr]; rfl
            refine (iHolds_spec t s f .unk .unk _ ht hsl hf).is ?_
            rw [hih]
            simp only [go_sem, Int.reduceToNat, Int.reduceLE, Int.reduceLT, Nat.reduceBEq, Nat.reduceLT, Nat.reduceAdd, Nat.reduceLeDiff, encTask]
            refine (Inductive_spec t f .unk _ ht hf h12).is ?_
            rw [hind]
            simp only [go_sem, Int.reduceToNat, Int.reduceLE, Int.reduceLT, Nat.reduceBEq, Nat.reduceLT, Nat.reduceAdd, Nat.reduceLeDiff, encTask]
            refine (iStep_spec t f k c .unk .unk _ ht hf hcl h12).is ?_
            rw [hist]
            simp only [go_sem, Int.reduceToNat, Int.reduceLE, Int.reduceLT, Nat.reduceBEq, Nat.reduceLT, Nat.reduceAdd, Nat.reduceLeDiff, encTask]
            refine ACalls.is (hflt _ _) ?_
            rw [h1]
            simp only [go_sem, Int.reduceToNat, Int.reduceLE, Int.reduceLT, Nat.reduceBEq, Nat.reduceLT, Nat.reduceAdd, Nat.reduceLeDiff, Int.reduceBEq, Int.reduceBNe, encTask]
            refine (Inductive08_spec t f .unk _ ht.init (h8 hv) (by omega) (fun a ha => valid_AOk hv ha) hf (by omega)).is ?_
            simp only [go_sem, Int.reduceToNat, Int.reduceLE, Int.reduceLT, Nat.reduceBEq, Nat.reduceLT, Nat.reduceAdd, Nat.reduceLeDiff, hI, Int.reduceBEq, Int.reduceBNe, encTask]
            refine (state02_spec t s .unk _ hsl).is ?_
            rw [hr]
            simp only [go_sem, Int.reduceToNat, Int.reduceLE, Int.reduceLT, Nat.reduceBEq, Nat.reduceLT, Nat.reduceAdd, Nat.reduceLeDiff, Int.reduceBEq, Int.reduceBNe, encTask]
            refine ACalls.is (ACalls.wk (hflt2 .unk _) (.cons (.refl _) (WkL.one (wk_two _ _ _ f [c])))) ?_
            rw [hf2]
            simp only [go_sem, Int.reduceToNat, Int.reduceLE, Int.reduceLT, Nat.reduceBEq, Nat.reduceLT, Nat.reduceAdd, Nat.reduceLeDiff, Int.reduceBEq, Int.reduceBNe, hBB, hk0, hk1, encTask]
            refine (Step08_spec t f k a c .unk .unk _ (h8 hv) hf hcl (by omega) ha (valid_AOk hv (List.mem_of_getElem? ha))).is ?_
            simp only [go_sem, Int.reduceToNat, Int.reduceLE, Int.reduceLT, Nat.reduceBEq, Nat.reduceLT, Nat.reduceAdd, Nat.reduceLeDiff, hS]
            refine (awake8_spec _).is ?_
            simp only [go_sem, Int.reduceToNat, Int.reduceLE, Int.reduceLT, Nat.reduceBEq, Nat.reduceLT, Nat.reduceAdd, Nat.reduceLeDiff]
            first | exact rtk (.bool true) ⟨rfl, rfl⟩ | exact rtk0 (.bool true) ⟨rfl, rfl⟩
          · have hih : ihR t s f = .tuple [.bool (clausesT s f), .int .i64 0] := by rw [ihR, stE, hv, hr, h1]; rfl
            refine (iHolds_spec t s f .unk .unk _ ht hsl hf).is ?_
            rw [hih]
            simp only [go_sem, Int.reduceToNat, Int.reduceLE, Int.reduceLT, Nat.reduceBEq, Nat.reduceLT, Nat.reduceAdd, Nat.reduceLeDiff, encTask]
            refine (Inductive_spec t f .unk _ ht hf h12).is ?_
            rw [hind]
            simp only [go_sem, Int.reduceToNat, Int.reduceLE, Int.reduceLT, Nat.reduceBEq, Nat.reduceLT, Nat.reduceAdd, Nat.reduceLeDiff, encTask]
            refine (iStep_spec t f k c .unk .unk _ ht hf hcl h12).is ?_
            rw [hist]
            simp only [go_sem, Int.reduceToNat, Int.reduceLE, Int.reduceLT, Nat.reduceBEq, Nat.reduceLT, Nat.reduceAdd, Nat.reduceLeDiff, encTask]
            refine ACalls.is (hflt _ _) ?_
            rw [h1]
            simp only [go_sem, Int.reduceToNat, Int.reduceLE, Int.reduceLT, Nat.reduceBEq, Nat.reduceLT, Nat.reduceAdd, Nat.reduceLeDiff, Int.reduceBEq, Int.reduceBNe, encTask]
            refine (Inductive08_spec t f .unk _ ht.init (h8 hv) (by omega) (fun a ha => valid_AOk hv ha) hf (by omega)).is ?_
            simp only [go_sem, Int.reduceToNat, Int.reduceLE, Int.reduceLT, Nat.reduceBEq, Nat.reduceLT, Nat.reduceAdd, Nat.reduceLeDiff, hI, Int.reduceBEq, Int.reduceBNe, encTask]
            refine (state02_spec t s .unk _ hsl).is ?_
            rw [hr]
            simp only [go_sem, Int.reduceToNat, Int.reduceLE, Int.reduceLT, Nat.reduceBEq, Nat.reduceLT, Nat.reduceAdd, Nat.reduceLeDiff, Int.reduceBEq, Int.reduceBNe, encTask]
            refine (Holds08_spec s f .unk .unk _ hsl hf).is ?_
            simp only [go_sem, Int.reduceToNat, Int.reduceLE, Int.reduceLT, Nat.reduceBEq, Nat.reduceLT, Nat.reduceAdd, Nat.reduceLeDiff, hH, encTask]
            refine ACalls.is (ACalls.wk (hflt2 .unk _) (.cons (.refl _) (WkL.one (wk_two _ _ _ f [c])))) ?_
            rw [hf2]
            simp only [go_sem, Int.reduceToNat, Int.reduceLE, Int.reduceLT, Nat.reduceBEq, Nat.reduceLT, Nat.reduceAdd, Nat.reduceLeDiff, Int.reduceBEq, Int.reduceBNe, hBB, hk0, hk1, encTask]
            refine (Step08_spec t f k a c .unk .unk _ (h8 hv) hf hcl (by omega) ha (valid_AOk hv (List.mem_of_getElem? ha))).is ?_
            simp only [go_sem, Int.reduceToNat, Int.reduceLE, Int.reduceLT, Nat.reduceBEq, Nat.reduceLT, Nat.reduceAdd, Nat.reduceLeDiff, hS]
            refine (awake8_spec _).is ?_
            simp only [go_sem, Int.reduceToNat, Int.reduceLE, Int.reduceLT, Nat.reduceBEq, Nat.reduceLT, Nat.reduceAdd, Nat.reduceLeDiff]
            first | exact rtk (.bool true) ⟨rfl, rfl⟩ | exact rtk0 (.bool true) ⟨rfl, rfl⟩
  · have hind : indR t f = .tuple [.bool false, .int .i64 (clE t f)] := by rw [indR, if_neg h1]
    have hist : istR t f k c = .tuple [.bool false, .int .i64 (clE t f)] := by rw [istR, if_neg h1]
    have hf2 : clE2 t f c = clE t f := by rw [clE2, if_neg h1]
    rcases clE_cases t f h1 with ⟨hw, hv⟩ | ⟨hw, hv⟩
    · have hih : ihR t s f = .tuple [.bool false, .int .i64 10] := by rw [ihR, stE, hv]; rfl
      rw [hw] at hind hist hf2
      refine (iHolds_spec t s f .unk .unk _ ht hsl hf).is ?_
      rw [hih]
      simp only [go_sem, Int.reduceToNat, Int.reduceLE, Int.reduceLT, Nat.reduceBEq, Nat.reduceLT, Nat.reduceAdd, Nat.reduceLeDiff, encTask]
      refine (Inductive_spec t f .unk _ ht hf h12).is ?_
      rw [hind]
      simp only [go_sem, Int.reduceToNat, Int.reduceLE, Int.reduceLT, Nat.reduceBEq, Nat.reduceLT, Nat.reduceAdd, Nat.reduceLeDiff, encTask]
      refine (iStep_spec t f k c .unk .unk _ ht hf hcl h12).is ?_
      rw [hist]
      simp only [go_sem, Int.reduceToNat, Int.reduceLE, Int.reduceLT, Nat.reduceBEq, Nat.reduceLT, Nat.reduceAdd, Nat.reduceLeDiff, encTask]
      refine ACalls.is (hflt _ _) ?_
      rw [hw]
      simp only [go_sem, Int.reduceToNat, Int.reduceLE, Int.reduceLT, Nat.reduceBEq, Nat.reduceLT, Nat.reduceAdd, Nat.reduceLeDiff, Int.reduceBEq, Int.reduceBNe, hBB, encTask, Bool.not_true, Bool.not_false]
      refine ACalls.is (ACalls.wk (hflt2 .unk _) (.cons (.refl _) (WkL.one (wk_two _ _ _ f [c])))) ?_
      rw [hf2]
      simp only [go_sem, Int.reduceToNat, Int.reduceLE, Int.reduceLT, Nat.reduceBEq, Nat.reduceLT, Nat.reduceAdd, Nat.reduceLeDiff, Int.reduceBEq, Int.reduceBNe, hBB]
      refine (awake8_spec _).is ?_
      simp only [go_sem, Int.reduceToNat, Int.reduceLE, Int.reduceLT, Nat.reduceBEq, Nat.reduceLT, Nat.reduceAdd, Nat.reduceLeDiff]
      first | exact rtk (.bool true) ⟨rfl, rfl⟩ | exact rtk0 (.bool true) ⟨rfl, rfl⟩
    · rw [hw] at hind hist hf2
      cases hr : risingB t.facts.length (-1) s
      · have hih : ihR t s f = .tuple [.bool false, .int .i64 20] := by rw [ihR, stE, hv, hr]; rfl
        refine (iHolds_spec t s f .unk .unk _ ht hsl hf).is ?_
        rw [hih]
        simp only [go_sem, Int.reduceToNat, Int.reduceLE, Int.reduceLT, Nat.reduceBEq, Nat.reduceLT, Nat.reduceAdd, Nat.reduceLeDiff, encTask]
        refine (Inductive_spec t f .unk _ ht hf h12).is ?_
        rw [hind]
        simp only [go_sem, Int.reduceToNat, Int.reduceLE, Int.reduceLT, Nat.reduceBEq, Nat.reduceLT, Nat.reduceAdd, Nat.reduceLeDiff, encTask]
        refine (iStep_spec t f k c .unk .unk _ ht hf hcl h12).is ?_
        rw [hist]
        simp only [go_sem, Int.reduceToNat, Int.reduceLE, Int.reduceLT, Nat.reduceBEq, Nat.reduceLT, Nat.reduceAdd, Nat.reduceLeDiff, encTask]
        refine ACalls.is (hflt _ _) ?_
        rw [hw]
        simp only [go_sem, Int.reduceToNat, Int.reduceLE, Int.reduceLT, Nat.reduceBEq, Nat.reduceLT, Nat.reduceAdd, Nat.reduceLeDiff, Int.reduceBEq, Int.reduceBNe, hBB, encTask, Bool.not_true, Bool.not_false]
        refine (state02_spec t s .unk _ hsl).is ?_
        rw [hr]
        simp only [go_sem, Int.reduceToNat, Int.reduceLE, Int.reduceLT, Nat.reduceBEq, Nat.reduceLT, Nat.reduceAdd, Nat.reduceLeDiff, Int.reduceBEq, Int.reduceBNe, encTask]
        refine ACalls.is (ACalls.wk (hflt2 .unk _) (.cons (.refl _) (WkL.one (wk_two _ _ _ f [c])))) ?_
        rw [hf2]
        simp only [go_sem, Int.reduceToNat, Int.reduceLE, Int.reduceLT, Nat.reduceBEq, Nat.reduceLT, Nat.reduceAdd, Nat.reduceLeDiff, Int.reduceBEq, Int.reduceBNe, hBB]
        refine (awake8_spec _).is ?_
        simp only [go_sem, Int.reduceToNat, Int.reduceLE, Int.reduceLT, Nat.reduceBEq, Nat.reduceLT, Nat.reduceAdd, Nat.reduceLeDiff]
        first | exact rtk (.bool true) ⟨rfl, rfl⟩ | exact rtk0 (.bool true) ⟨rfl, rfl⟩
      · have hih : ihR t s f = .tuple [.bool false, .int .i64 70] := by rw [ihR, stE, hv, hr, hw]; rfl
        refine (iHolds_spec t s f .unk .unk _ ht hsl hf).is ?_
        rw [hih]
        simp only [go_sem, Int.reduceToNat, Int.reduceLE, Int.reduceLT, Nat.reduceBEq, Nat.reduceLT, Nat.reduceAdd, Nat.reduceLeDiff, encTask]
        refine (Inductive_spec t f .unk _ ht hf h12).is ?_
        rw [hind]
        simp only [go_sem, Int.reduceToNat, Int.reduceLE, Int.reduceLT, Nat.reduceBEq, Nat.reduceLT, Nat.reduceAdd, Nat.reduceLeDiff, encTask]
        refine (iStep_spec t f k c .unk .unk _ ht hf hcl h12).is ?_
        rw [hist]
        simp only [go_sem, Int.reduceToNat, Int.reduceLE, Int.reduceLT, Nat.reduceBEq, Nat.reduceLT, Nat.reduceAdd, Nat.reduceLeDiff, encTask]
        refine ACalls.is (hflt _ _) ?_
        rw [hw]
        simp only [go_sem, Int.reduceToNat, Int.reduceLE, Int.reduceLT, Nat.reduceBEq, Nat.reduceLT, Nat.reduceAdd, Nat.reduceLeDiff, Int.reduceBEq, Int.reduceBNe, hBB, encTask, Bool.not_true, Bool.not_false]
        refine (state02_spec t s .unk _ hsl).is ?_
        rw [hr]
        simp only [go_sem, Int.reduceToNat, Int.reduceLE, Int.reduceLT, Nat.reduceBEq, Nat.reduceLT, Nat.reduceAdd, Nat.reduceLeDiff, Int.reduceBEq, Int.reduceBNe, hBB, encTask, Bool.not_true, Bool.not_false]
        refine ACalls.is (ACalls.wk (hflt2 .unk _) (.cons (.refl _) (WkL.one (wk_two _ _ _ f [c])))) ?_
        rw [hf2]
        simp only [go_sem, Int.reduceToNat, Int.reduceLE, Int.reduceLT, Nat.reduceBEq, Nat.reduceLT, Nat.reduceAdd, Nat.reduceLeDiff, Int.reduceBEq, Int.reduceBNe, hBB]
        refine (awake8_spec _).is ?_
        simp only [go_sem, Int.reduceToNat, Int.reduceLE, Int.reduceLT, Nat.reduceBEq, Nat.reduceLT, Nat.reduceAdd, Nat.reduceLeDiff]
        first | exact rtk (.bool true) ⟨rfl, rfl⟩ | exact rtk0 (.bool true) ⟨rfl, rfl⟩
theorem law_reads : ReadsAll Tryz.prog Tryz.f6.params.toList (fun avs => ACalls Tryz.prog 6 avs [] (isR (.bool true) [])) := by
  rw [show Tryz.f6.params.toList = [27, 28, 23, 3, 24] by kernel_rfl]
  exact .cons ra_task fun t ht => .cons ra_form fun f hf => .cons ra_ints fun s hs => .cons ra_int fun k hk => .cons ra_lits fun c hc => .nil (law_spec t f s k c ht hf hs hc hk [])
set_option maxRecDepth 100000 in
theorem lifted (os : Os) (started : os.Started) (H : Type) (enc : TypeId × Value → H) :
    ReturnsInHanded {} Tryz.checked os 6 .any (Rows.invarChecksSpec.pre6 enc Tryz.prog Tryz.f6 Rows.invarChecksRow.domain false) (Rows.invarChecksSpec.post enc Tryz.prog Tryz.f6 false true false false) := by
  refine returnsInHanded_of_change_sized (C := Tryz.checked) own started (by kernel_rfl) Tryz.func6
    (ChangeSpec.witness6 (enc := enc) (C := Tryz.checked) false ⟨#[], #[.agg #[.slice none 0 0, .slice none 0 0, .slice none 0 0, .slice none 0 0], .slice none 0 0, .slice none 0 0, .int .i64 0, .slice none 0 0], []⟩ 8 (by kernel_rfl) (by kernel_rfl) (by kernel_rfl) (by kernel_rfl)) ?_
  intro W base args ds gs before hval hW _ hsz _
  refine law_post (P := Tryz.prog) Tryz.func6 (by kernel_rfl) (by decide) rfl ?_ laidOut (rdble (by kernel_rfl)) (by kernel_rfl) Tryz.underlying4 law_reads hval hW hsz
  intro ds h
  rw [show Tryz.f6.params.size = 5 by kernel_rfl] at h
  match ds, h with
  | [a, b, c, d, e], _ => rfl
theorem holds : Rows.InvarChecksSaid :=
  OpenClaim.holds_of_wide 6 Tryz.f6 rfl rfl rfl rfl rfl rfl rfl ⟨rfl, rfl, rfl, rfl, rfl⟩ rfl rfl rfl rfl rfl (by kernel_rfl) Tryz.func6 (by kernel_rfl)
    (of_decide_eq_true (by kernel_rfl)) (by unfold Func.isWrapper; first | (rw [if_pos (by decide +kernel)]; kernel_rfl) | (rw [if_neg (by decide +kernel)]; exact ⟨rfl, rfl⟩))
    (fun os started H enc _ => lifted os started H enc)
end Go.Proofs.YtocphglkceidhaaGreat
