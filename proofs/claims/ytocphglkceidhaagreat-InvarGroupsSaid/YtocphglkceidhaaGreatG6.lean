/- For every task and clauses (within the bounds that the statement itself names) the law InvarGroups returns true and does not panic; no further condition. -/
import Derived.Test.YtocphglkceidhaaGreatBase5
set_option linter.unusedVariables false
set_option linter.unusedSimpArgs false
namespace Go.Proofs.YtocphglkceidhaaGreat
open Go.Ahl Go.ChangeShapes Go.WideShapes Go.ChangeAt Go.RowKit
theorem flt_one (t : FTask) (l : List (List FLit)) : (if validB t then (if [l].all (isClauses t.facts.length) then 0 else 70) else 10 : Int) = clE t l := by
  unfold clE; simp
theorem few8_facts {t : FTask} {fs : List (List (List FLit))} (h : few8B t fs = true) : taskSize t ≤ 300 ∧ (fs.map formSize).sum ≤ 300 ∧ (validB t = true → t.facts.length ≤ 8) := by
  unfold few8B fewT at h
  simp only [Bool.and_eq_true, decide_eq_true_eq, Bool.or_eq_true, Bool.not_eq_true'] at h
  obtain ⟨⟨h1, _⟩, h2, h3⟩ := h
  exact ⟨h1, h2, fun hv => by rcases h3 with h3 | h3; exact h3; rw [hv] at h3; simp at h3⟩
theorem insL_folds : ∀ (l out : List (List Int)), (l.foldl insL out).length = out.length + l.length
  | [], out => by simp
  | x :: l, out => by
    have hi : insAt out x ≤ out.length := by
      unfold insAt; exact (List.takeWhile_sublist _).length_le
    rw [List.foldl_cons, insL_folds l]
    unfold insL
    rw [List.length_append, List.length_append, List.length_take, List.length_drop, List.length_singleton, List.length_cons]; omega
def c_law : CCode := .seq (.ops [⟨some 2, .box (.tmp 0), none, []⟩, ⟨some 4, .move (.lit (.bool false)), none, []⟩]) (.seq (.seq (.ops [⟨some 9, .load (some 4) (.tmp 2), none, []⟩, ⟨some 10, .move (.tmp 1), none, []⟩, ⟨some 11, .bslice 1 [.tmp 10] false, none, []⟩, ⟨some 12, .call (.lit (.func 8 [])) [.tmp 9, .tmp 11], none, []⟩, ⟨some 13, .un .not (.tmp 12), none, []⟩]) (.cond (.tmp 13) (.seq (.ops [⟨some 14, .call (.lit (.func 9 [])) [], none, []⟩, ⟨some 4, .move (.tmp 14), none, []⟩]) .ret) .skip)) (.seq (.ops [⟨some 16, .load (some 4) (.tmp 2), none, []⟩, ⟨some 17, .move (.tmp 1), none, []⟩, ⟨some 18, .call (.lit (.func 10 [])) [.tmp 16, .tmp 17], none, []⟩, ⟨some 15, .move (.tmp 18), none, []⟩, ⟨some 19, .extract (.tmp 15) 0, none, []⟩, ⟨some 20, .extract (.tmp 15) 1, none, []⟩, ⟨some 5, .move (.tmp 19), none, []⟩, ⟨some 6, .move (.tmp 20), none, []⟩]) (.seq (.ops [⟨some 21, .load (some 4) (.tmp 2), none, []⟩, ⟨some 22, .move (.tmp 1), none, []⟩, ⟨some 23, .bslice 1 [.tmp 22] false, none, []⟩, ⟨some 24, .call (.lit (.func 11 [])) [.tmp 21, .tmp 23], none, []⟩, ⟨some 7, .move (.tmp 24), none, []⟩]) (.seq (.ops [⟨some 8, .move (.lit (.slice .nil [])), none, []⟩]) (.seq (.seq (.ops [⟨some 25, .move (.tmp 7), none, []⟩, ⟨some 26, .bin .eql .none (.tmp 25) (.lit (.int .i64 0)), none, []⟩]) (.cond (.tmp 26) (.ops [⟨some 27, .load (some 4) (.tmp 2), none, []⟩, ⟨some 28, .move (.tmp 1), none, []⟩, ⟨some 29, .call (.lit (.func 12 [])) [.tmp 27, .tmp 28], none, []⟩, ⟨some 8, .move (.tmp 29), none, []⟩]) .skip)) (.seq (.ops [⟨some 30, .move (.tmp 6), none, []⟩, ⟨some 31, .move (.tmp 7), none, []⟩, ⟨some 32, .bin .eql .none (.tmp 30) (.tmp 31), none, []⟩, ⟨some 33, .move (.tmp 32), none, []⟩, ⟨some 34, .move (.tmp 5), some (some 33, true), []⟩, ⟨some 35, .move (.tmp 8), some (some 33, true), []⟩, ⟨some 36, .call (.lit (.func 13 [])) [.tmp 34, .tmp 35], some (some 33, true), []⟩, ⟨some 37, .pick (.tmp 33) (.tmp 36) (.lit (.bool false)), none, []⟩, ⟨some 38, .move (.tmp 37), none, []⟩, ⟨some 39, .call (.lit (.func 9 [])) [], some (some 38, true), []⟩, ⟨some 40, .pick (.tmp 38) (.tmp 39) (.lit (.bool false)), none, []⟩, ⟨some 4, .move (.tmp 40), none, []⟩]) .ret))))))
set_option maxRecDepth 20000 in
set_option maxHeartbeats 1000000 in
theorem law_spec (t : FTask) (f : List (List FLit)) (ht : TB t) (hf : FB f) (σ : Store) :
    ACalls Tryz.prog 3 [.agg (encTask t), .slice .unk (f.map encC)] σ (isR (.bool true) σ) := by
  refine ACalls.intro (rs := [(.tmp 4)]) (by kernel_rfl) { own := [], ghosts := [] } Tryz.func3 (c := Tryz.f3.body.getD .skip) (by kernel_rfl) (by decide) (by rw [show Tryz.f3.ntmps = 41 by kernel_rfl]; exact Nat.le_of_ble_eq_true rfl) (by kernel_rfl) ?_
  intro hσ hids
  rw [show comp Tryz.prog { own := [], ghosts := [] } (Tryz.f3.body.getD .skip) = c_law by kernel_rfl, show Tryz.f3.ntmps = 41 by kernel_rfl]
  unfold c_law
  have hfs : ∀ x ∈ [f], FB x := by intro x hx; simp at hx; subst hx; exact hf
  simp only [go_sem, Int.reduceToNat, Int.reduceLE, Int.reduceLT, Nat.reduceBEq, Nat.reduceLT, Nat.reduceAdd, Nat.reduceLeDiff, encTask]
  refine ACalls.is (few8_spec t [f] _ _ ht (by simp) hfs) ?_
  cases hfew : few8B t [f]
  · simp only [go_sem, Int.reduceToNat, Int.reduceLE, Int.reduceLT, Nat.reduceBEq, Nat.reduceLT, Nat.reduceAdd, Nat.reduceLeDiff]
    refine (awake8_spec _).is ?_
    simp only [go_sem, Int.reduceToNat, Int.reduceLE, Int.reduceLT, Nat.reduceBEq, Nat.reduceLT, Nat.reduceAdd, Nat.reduceLeDiff]
    first | exact rtk (.bool true) ⟨rfl, rfl⟩ | exact rtk0 (.bool true) ⟨rfl, rfl⟩
  obtain ⟨hsz, hfz, h8⟩ := few8_facts hfew
  have hflt := fun tok σ => fault8_spec t [f] tok σ ht (by simp) hfs
  rw [flt_one] at hflt
  simp only [go_sem, Int.reduceToNat, Int.reduceLE, Int.reduceLT, Nat.reduceBEq, Nat.reduceLT, Nat.reduceAdd, Nat.reduceLeDiff, encTask]
  refine (iGroups_spec t f .unk _ ht hf h8).is ?_
  by_cases h1 : clE t f = 0
  · obtain ⟨hv, _, _⟩ := clE_zero h1
    rw [groR, if_pos h1]
    simp only [go_sem, Int.reduceToNat, Int.reduceLE, Int.reduceLT, Nat.reduceBEq, Nat.reduceLT, Nat.reduceAdd, Nat.reduceLeDiff, encTask]
    refine ACalls.is (hflt _ _) ?_
    rw [h1]
    have h0 : ((0 : Int) == 0) = true := rfl
    simp only [go_sem, Int.reduceToNat, Int.reduceLE, Int.reduceLT, Nat.reduceBEq, Nat.reduceLT, Nat.reduceAdd, Nat.reduceLeDiff, h0, encTask]
    refine (Groups08_spec t f .unk _ (h8 hv) hf).is ?_
    have hgl : (groupsL t.facts.length f).length ≤ 140737488355328 ∧ ∀ x ∈ groupsL t.facts.length f, x.length ≤ 140737488355328 := by
      obtain ⟨q1, q2⟩ := insAll ((statesL t.facts.length).filter (isGroupB t.facts.length f)) [] (by simp) ((statesL_nodup _).filter _) (by simp)
      have hsub : ∀ x ∈ groupsL t.facts.length f, x ∈ statesL t.facts.length := fun x hx => by
        rcases (q2 x).1 hx with h | h
        · exact (List.mem_filter.1 h).1
        · simp at h
      refine ⟨?_, fun x hx => ?_⟩
      · have h256 : (2 : Nat) ^ t.facts.length ≤ 2 ^ 8 := Nat.pow_le_pow_right (by omega) (h8 hv)
        have h1 := insL_folds ((statesL t.facts.length).filter (isGroupB t.facts.length f)) []
        have h2 := List.length_filter_le (isGroupB t.facts.length f) (statesL t.facts.length)
        have h3 : (groupsL t.facts.length f).length = ((statesL t.facts.length).filter (isGroupB t.facts.length f)).length := by
          unfold groupsL; rw [h1]; simp
        rw [statesL_len] at h2; omega
      · have := (statesL_mem _ x (hsub x hx)).1
        have := h8 hv; omega
    simp only [go_sem, Int.reduceToNat, Int.reduceLE, Int.reduceLT, Nat.reduceBEq, Nat.reduceLT, Nat.reduceAdd, Nat.reduceLeDiff, h0]
    refine (sameLists_spec _ _ .unk .unk _ hgl hgl).is ?_
    rw [decide_eq_true rfl]
    simp only [go_sem, Int.reduceToNat, Int.reduceLE, Int.reduceLT, Nat.reduceBEq, Nat.reduceLT, Nat.reduceAdd, Nat.reduceLeDiff]
    refine (awake8_spec _).is ?_
    simp only [go_sem, Int.reduceToNat, Int.reduceLE, Int.reduceLT, Nat.reduceBEq, Nat.reduceLT, Nat.reduceAdd, Nat.reduceLeDiff]
    first | exact rtk (.bool true) ⟨rfl, rfl⟩ | exact rtk0 (.bool true) ⟨rfl, rfl⟩
  · rw [groR, if_neg h1]
    simp only [go_sem, Int.reduceToNat, Int.reduceLE, Int.reduceLT, Nat.reduceBEq, Nat.reduceLT, Nat.reduceAdd, Nat.reduceLeDiff, encTask]
    refine ACalls.is (hflt _ _) ?_
    have h0 : (clE t f == 0) = false := by simpa using h1
    have h0' : (clE t f == clE t f) = true := beq_self_eq_true _
    simp only [go_sem, Int.reduceToNat, Int.reduceLE, Int.reduceLT, Nat.reduceBEq, Nat.reduceLT, Nat.reduceAdd, Nat.reduceLeDiff, h0, h0']
    refine (sameLists_spec [] [] .nil .nil _ ⟨by simp, by simp⟩ ⟨by simp, by simp⟩).is ?_
    simp only [go_sem, Int.reduceToNat, Int.reduceLE, Int.reduceLT, Nat.reduceBEq, Nat.reduceLT, Nat.reduceAdd, Nat.reduceLeDiff, decide_true]
    refine (awake8_spec _).is ?_
    simp only [go_sem, Int.reduceToNat, Int.reduceLE, Int.reduceLT, Nat.reduceBEq, Nat.reduceLT, Nat.reduceAdd, Nat.reduceLeDiff]
    first | exact rtk (.bool true) ⟨rfl, rfl⟩ | exact rtk0 (.bool true) ⟨rfl, rfl⟩
theorem law_reads : ReadsAll Tryz.prog Tryz.f3.params.toList (fun avs => ACalls Tryz.prog 3 avs [] (isR (.bool true) [])) := by
  rw [show Tryz.f3.params.toList = [27, 28] by kernel_rfl]
  exact .cons ra_task fun t ht => .cons ra_form fun f hf => .nil (law_spec t f ht hf [])
set_option maxRecDepth 100000 in
theorem lifted (os : Os) (started : os.Started) (H : Type) (enc : TypeId × Value → H) :
    ReturnsInHanded {} Tryz.checked os 3 .any (Rows.invarGroupsSpec.pre6 enc Tryz.prog Tryz.f3 Rows.invarGroupsRow.domain false) (Rows.invarGroupsSpec.post enc Tryz.prog Tryz.f3 false true false false) := by
  refine returnsInHanded_of_change_sized (C := Tryz.checked) own started (by kernel_rfl) Tryz.func3
    (ChangeSpec.witness6 (enc := enc) (C := Tryz.checked) false ⟨#[], #[.agg #[.slice none 0 0, .slice none 0 0, .slice none 0 0, .slice none 0 0], .slice none 0 0], []⟩ 8 (by kernel_rfl) (by kernel_rfl) (by kernel_rfl) (by kernel_rfl)) ?_
  intro W base args ds gs before hval hW _ hsz _
  refine law_post (P := Tryz.prog) Tryz.func3 (by kernel_rfl) (by decide) rfl ?_ laidOut (rdble (by kernel_rfl)) (by kernel_rfl) Tryz.underlying4 law_reads hval hW hsz
  intro ds h
  rw [show Tryz.f3.params.size = 2 by kernel_rfl] at h
  match ds, h with
  | [a, b], _ => rfl
theorem holds : Rows.InvarGroupsSaid :=
  OpenClaim.holds_of_wide 3 Tryz.f3 rfl rfl rfl rfl rfl rfl rfl ⟨rfl, rfl, rfl, rfl, rfl⟩ rfl rfl rfl rfl rfl (by kernel_rfl) Tryz.func3 (by kernel_rfl)
    (of_decide_eq_true (by kernel_rfl)) (by unfold Func.isWrapper; first | (rw [if_pos (by decide +kernel)]; kernel_rfl) | (rw [if_neg (by decide +kernel)]; exact ⟨rfl, rfl⟩))
    (fun os started H enc _ => lifted os started H enc)
end Go.Proofs.YtocphglkceidhaaGreat
