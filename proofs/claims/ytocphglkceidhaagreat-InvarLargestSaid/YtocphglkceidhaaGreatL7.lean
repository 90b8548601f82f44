/- For every task and clauses (within the bounds that the statement itself names) the law InvarLargest returns true and does not panic; no further condition. -/
import Derived.Test.YtocphglkceidhaaGreatBase6
set_option linter.unusedVariables false
set_option linter.unusedSimpArgs false
namespace Go.Proofs.YtocphglkceidhaaGreat
open Go.Ahl Go.ChangeShapes Go.WideShapes Go.ChangeAt Go.RowKit
theorem taskSize_acts {t : FTask} (h : taskSize t ≤ 300) : t.actions.length ≤ 300 := by
  unfold taskSize at h; omega
theorem flt_one (t : FTask) (l : List (List FLit)) : (if validB t then (if [l].all (isClauses t.facts.length) then 0 else 70) else 10 : Int) = clE t l := by
  unfold clE; simp
theorem flt_none (t : FTask) : (if validB t then (if ([] : List (List (List FLit))).all (isClauses t.facts.length) then 0 else 70) else 10 : Int) = if validB t then 0 else 10 := by simp
theorem few8_facts {t : FTask} {fs : List (List (List FLit))} (h : few8B t fs = true) : taskSize t ≤ 300 ∧ (fs.map formSize).sum ≤ 300 ∧ (validB t = true → t.facts.length ≤ 8) := by
  unfold few8B fewT at h
  simp only [Bool.and_eq_true, decide_eq_true_eq, Bool.or_eq_true, Bool.not_eq_true'] at h
  obtain ⟨⟨h1, _⟩, h2, h3⟩ := h
  exact ⟨h1, h2, fun hv => by rcases h3 with h3 | h3; exact h3; rw [hv] at h3; simp at h3⟩
theorem leanStep_or (out : List (List FLit)) (c : List FLit) : leanStep out c = out ∨ leanStep out c = out ++ [c] := by
  by_cases h : c.length = 1
  · exact .inr (leanStep_one h)
  · match c, h with
    | [], _ => exact .inl rfl
    | [a], h => exact absurd rfl h
    | [a, b], _ =>
      rw [leanStep_two]
      split
      · exact .inl rfl
      · exact .inr rfl
    | _ :: _ :: _ :: _, h => exact .inl (if_neg h)
theorem leanL_sub : ∀ (l out : List (List FLit)), (leanL out l).length ≤ out.length + l.length ∧ ∀ c ∈ leanL out l, c ∈ out ∨ c ∈ l
  | [], out => ⟨by simp [leanL], fun c hc => .inl hc⟩
  | x :: l, out => by
    obtain ⟨h1, h2⟩ := leanL_sub l (leanStep out x)
    have hs : (leanStep out x).length ≤ out.length + 1 ∧ ∀ c ∈ leanStep out x, c ∈ out ∨ c = x := by
      rcases leanStep_or out x with e | e
      · rw [e]; exact ⟨by omega, fun c hc => .inl hc⟩
      · rw [e]
        refine ⟨by simp, fun c hc => ?_⟩
        rcases List.mem_append.1 hc with hc | hc
        · exact .inl hc
        · exact .inr (List.mem_singleton.1 hc)
    refine ⟨by rw [List.length_cons]; have := h1; show (leanL (leanStep out x) l).length ≤ _; omega, fun c hc => ?_⟩
    rcases h2 c hc with h | h
    · rcases hs.2 c h with h | h
      · exact .inl h
      · exact .inr (by rw [h]; exact List.mem_cons_self)
    · exact .inr (List.mem_cons_of_mem _ h)
theorem largeL_sub (t : FTask) (l : List (List FLit)) : (largeL t l).length ≤ l.length ∧ ∀ c ∈ largeL t l, c ∈ l := by
  obtain ⟨p, e, _, _⟩ := progL_spec (clauseT t.init) (keepB t.facts.length t.actions) (keepB_mono _ _) l.length l (Nat.le_refl _)
  unfold largeL
  rw [e]
  exact ⟨List.length_filter_le _ _, fun c hc => (List.mem_filter.1 hc).1⟩
theorem pairs_FB (t : FTask) (h : t.facts.length ≤ 12) : FB (leanL [] (largeL t (singles (2 * t.facts.length) ++ pairsL (2 * t.facts.length)))) := by
  obtain ⟨q1, q2⟩ := largeL_sub t (singles (2 * t.facts.length) ++ pairsL (2 * t.facts.length))
  obtain ⟨q3, q4⟩ := leanL_sub (largeL t (singles (2 * t.facts.length) ++ pairsL (2 * t.facts.length))) []
  have h1 := belowL_len (2 * t.facts.length) (2 * t.facts.length)
  have h2 : (2 * t.facts.length) * (2 * t.facts.length) ≤ 24 * 24 := Nat.mul_le_mul (by omega) (by omega)
  have h3 : (singles (2 * t.facts.length) ++ pairsL (2 * t.facts.length)).length ≤ 1000 := by
    rw [List.length_append]
    rw [show pairsL (2 * t.facts.length) = belowL (2 * t.facts.length) (2 * t.facts.length) from rfl]
    have : (singles (2 * t.facts.length)).length = 2 * t.facts.length := by simp [singles]
    omega
  refine ⟨by simp only [List.length_nil] at q3; omega, fun c hc => ?_⟩
  have hm : c ∈ singles (2 * t.facts.length) ++ pairsL (2 * t.facts.length) := by
    rcases q4 c hc with h | h
    · simp at h
    · exact q2 c h
  rcases List.mem_append.1 hm with h | h
  · obtain ⟨i, _, rfl⟩ := List.mem_map.1 h; simp
  · obtain ⟨i, _, hi⟩ := List.mem_flatMap.1 h
    obtain ⟨k, _, _, _, rfl⟩ := pairsFrom_mem.1 hi; simp
def c_law : CCode := .seq (.ops [⟨some 2, .box (.tmp 0), none, []⟩, ⟨some 4, .move (.lit (.bool false)), none, []⟩]) (.seq (.seq (.ops [⟨some 12, .load (some 4) (.tmp 2), none, []⟩, ⟨some 13, .move (.tmp 1), none, []⟩, ⟨some 14, .bslice 1 [.tmp 13] false, none, []⟩, ⟨some 15, .call (.lit (.func 8 [])) [.tmp 12, .tmp 14], none, []⟩, ⟨some 16, .un .not (.tmp 15), none, []⟩]) (.cond (.tmp 16) (.seq (.ops [⟨some 17, .call (.lit (.func 9 [])) [], none, []⟩, ⟨some 4, .move (.tmp 17), none, []⟩]) .ret) .skip)) (.seq (.ops [⟨some 19, .load (some 4) (.tmp 2), none, []⟩, ⟨some 20, .move (.tmp 1), none, []⟩, ⟨some 21, .call (.lit (.func 14 [])) [.tmp 19, .tmp 20], none, []⟩, ⟨some 18, .move (.tmp 21), none, []⟩, ⟨some 22, .extract (.tmp 18) 0, none, []⟩, ⟨some 23, .extract (.tmp 18) 1, none, []⟩, ⟨some 5, .move (.tmp 22), none, []⟩, ⟨some 6, .move (.tmp 23), none, []⟩]) (.seq (.ops [⟨some 25, .load (some 4) (.tmp 2), none, []⟩, ⟨some 26, .call (.lit (.func 15 [])) [.tmp 25], none, []⟩, ⟨some 24, .move (.tmp 26), none, []⟩, ⟨some 27, .extract (.tmp 24) 0, none, []⟩, ⟨some 28, .extract (.tmp 24) 1, none, []⟩, ⟨some 7, .move (.tmp 27), none, []⟩, ⟨some 8, .move (.tmp 28), none, []⟩]) (.seq (.ops [⟨some 29, .load (some 4) (.tmp 2), none, []⟩, ⟨some 30, .move (.tmp 1), none, []⟩, ⟨some 31, .bslice 1 [.tmp 30] false, none, []⟩, ⟨some 32, .call (.lit (.func 11 [])) [.tmp 29, .tmp 31], none, []⟩, ⟨some 9, .move (.tmp 32), none, []⟩]) (.seq (.ops [⟨some 10, .move (.lit (.slice .nil [])), none, []⟩, ⟨some 11, .move (.lit (.slice .nil [])), none, []⟩]) (.seq (.seq (.ops [⟨some 33, .move (.tmp 9), none, []⟩, ⟨some 34, .bin .eql .none (.tmp 33) (.lit (.int .i64 0)), none, []⟩]) (.cond (.tmp 34) (.ops [⟨some 35, .load (some 4) (.tmp 2), none, []⟩, ⟨some 36, .move (.tmp 1), none, []⟩, ⟨some 37, .call (.lit (.func 16 [])) [.tmp 35, .tmp 36], none, []⟩, ⟨some 10, .move (.tmp 37), none, []⟩]) .skip)) (.seq (.seq (.ops [⟨some 38, .load (some 4) (.tmp 2), none, []⟩, ⟨some 39, .call (.lit (.func 11 [])) [.tmp 38, .lit (.slice .nil [])], none, []⟩, ⟨some 40, .bin .eql .none (.tmp 39) (.lit (.int .i64 0)), none, []⟩]) (.cond (.tmp 40) (.ops [⟨some 41, .load (some 4) (.tmp 2), none, []⟩, ⟨some 42, .call (.lit (.func 17 [])) [.tmp 41], none, []⟩, ⟨some 11, .move (.tmp 42), none, []⟩]) .skip)) (.seq (.ops [⟨some 43, .move (.tmp 6), none, []⟩, ⟨some 44, .move (.tmp 9), none, []⟩, ⟨some 45, .bin .eql .none (.tmp 43) (.tmp 44), none, []⟩, ⟨some 46, .move (.tmp 45), none, []⟩, ⟨some 47, .move (.tmp 5), some (some 46, true), []⟩, ⟨some 48, .move (.tmp 10), some (some 46, true), []⟩, ⟨some 49, .call (.lit (.func 18 [])) [.tmp 47, .tmp 48], some (some 46, true), []⟩, ⟨some 50, .pick (.tmp 46) (.tmp 49) (.lit (.bool false)), none, []⟩, ⟨some 51, .move (.tmp 50), none, []⟩, ⟨some 52, .move (.tmp 8), some (some 51, true), []⟩, ⟨some 53, .load (some 4) (.tmp 2), some (some 51, true), []⟩, ⟨some 54, .call (.lit (.func 11 [])) [.tmp 53, .lit (.slice .nil [])], some (some 51, true), []⟩, ⟨some 55, .bin .eql .none (.tmp 52) (.tmp 54), some (some 51, true), []⟩, ⟨some 56, .pick (.tmp 51) (.tmp 55) (.lit (.bool false)), none, []⟩, ⟨some 57, .move (.tmp 56), none, []⟩, ⟨some 58, .move (.tmp 7), some (some 57, true), []⟩, ⟨some 59, .move (.tmp 11), some (some 57, true), []⟩, ⟨some 60, .call (.lit (.func 18 [])) [.tmp 58, .tmp 59], some (some 57, true), []⟩, ⟨some 61, .pick (.tmp 57) (.tmp 60) (.lit (.bool false)), none, []⟩, ⟨some 62, .move (.tmp 61), none, []⟩, ⟨some 63, .call (.lit (.func 9 [])) [], some (some 62, true), []⟩, ⟨some 64, .pick (.tmp 62) (.tmp 63) (.lit (.bool false)), none, []⟩, ⟨some 4, .move (.tmp 64), none, []⟩]) .ret))))))))
set_option maxRecDepth 20000 in
set_option maxHeartbeats 2000000 in
theorem law_spec (t : FTask) (f : List (List FLit)) (ht : TB t) (hf : FB f) (σ : Store) :
    ACalls Tryz.prog 4 [.agg (encTask t), .slice .unk (f.map encC)] σ (isR (.bool true) σ) := by
  refine ACalls.intro (rs := [(.tmp 4)]) (by kernel_rfl) { own := [], ghosts := [] } Tryz.func4 (c := Tryz.f4.body.getD .skip) (by kernel_rfl) (by decide) (by rw [show Tryz.f4.ntmps = 65 by kernel_rfl]; exact Nat.le_of_ble_eq_true rfl) (by kernel_rfl) ?_
  intro hσ hids
  rw [show comp Tryz.prog { own := [], ghosts := [] } (Tryz.f4.body.getD .skip) = c_law by kernel_rfl, show Tryz.f4.ntmps = 65 by kernel_rfl]
  unfold c_law
  have hfs : ∀ x ∈ [f], FB x := by intro x hx; simp at hx; subst hx; exact hf
  simp only [go_sem, Int.reduceToNat, Int.reduceLE, Int.reduceLT, Nat.reduceBEq, Nat.reduceLT, Nat.reduceAdd, Nat.reduceLeDiff, encTask]
  refine ACalls.is (few8_spec t [f] _ _ ht (by simp) hfs) ?_
  cases hfew : few8B t [f]
  · simp only [go_sem, Int.reduceToNat, Int.reduceLE, Int.reduceLT, Nat.reduceBEq, Nat.reduceLT, Nat.reduceAdd, Nat.reduceLeDiff]
    refine (awake8_spec _).is ?_
    simp only [go_sem, Int.reduceToNat, Int.reduceLE, Int.reduceLT, Nat.reduceBEq, Nat.reduceLT, Nat.reduceAdd, Nat.reduceLeDiff]
    first | exact rtk (.bool true) ⟨rfl, rfl⟩ | exact rtk0 (.bool true) ⟨rfl, rfl⟩
  obtain ⟨hsz, hfz, h8⟩ := few8_facts hfew
  have hflt := fun tok σ => fault8_spec t [f] tok σ ht (by simp) hfs
  have hfln := fun tok σ => fault8_spec t [] tok σ ht (by simp) (by simp)
  rw [flt_one] at hflt
  rw [flt_none] at hfln
  have h12 : validB t = true → t.facts.length ≤ 12 := fun hv => by have := h8 hv; omega
  simp only [go_sem, Int.reduceToNat, Int.reduceLE, Int.reduceLT, Nat.reduceBEq, Nat.reduceLT, Nat.reduceAdd, Nat.reduceLeDiff, encTask]
  refine (Largest_spec t f .unk _ ht hf h12).is ?_
  by_cases h1 : clE t f = 0
  · obtain ⟨hv, hfl, hvf⟩ := clE_zero h1
    rw [larR, if_pos h1]
    simp only [go_sem, Int.reduceToNat, Int.reduceLE, Int.reduceLT, Nat.reduceBEq, Nat.reduceLT, Nat.reduceAdd, Nat.reduceLeDiff, encTask]
    refine (Pairs_spec t _ ht h12).is ?_
    rw [pairsR, hv, if_pos rfl]
    simp only [go_sem, Int.reduceToNat, Int.reduceLE, Int.reduceLT, Nat.reduceBEq, Nat.reduceLT, Nat.reduceAdd, Nat.reduceLeDiff, encTask]
    refine ACalls.is (hflt _ _) ?_
    rw [h1]
    have h0 : ((0 : Int) == 0) = true := rfl
    have hall := taskSize_acts hsz
    simp only [go_sem, Int.reduceToNat, Int.reduceLE, Int.reduceLT, Nat.reduceBEq, Nat.reduceLT, Nat.reduceAdd, Nat.reduceLeDiff, h0, encTask]
    refine (Largest08_spec t f .unk _ ht.init (h8 hv) (by omega) (fun a ha => valid_AOk hv ha) hf (by omega)).is ?_
    simp only [go_sem, Int.reduceToNat, Int.reduceLE, Int.reduceLT, Nat.reduceBEq, Nat.reduceLT, Nat.reduceAdd, Nat.reduceLeDiff, h0, encTask]
    refine (hfln _ _).is ?_
    rw [hv, if_pos rfl]
    simp only [go_sem, Int.reduceToNat, Int.reduceLE, Int.reduceLT, Nat.reduceBEq, Nat.reduceLT, Nat.reduceAdd, Nat.reduceLeDiff, h0, encTask]
    refine (Pairs08_spec t _ (h8 hv) hv ht.init (by omega) (fun a ha => valid_AOk hv ha)).is ?_
    have hFl : FB (largeL t f) := by
      obtain ⟨q1, q2⟩ := largeL_sub t f
      exact ⟨by omega, fun c hc => hf.2 c (q2 c hc)⟩
    have hFp := pairs_FB t (h12 hv)
    simp only [go_sem, Int.reduceToNat, Int.reduceLE, Int.reduceLT, Nat.reduceBEq, Nat.reduceLT, Nat.reduceAdd, Nat.reduceLeDiff, h0, encTask]
    refine (same07_spec _ _ .unk .unk _ hFl hFl).is ?_
    simp only [go_sem, Int.reduceToNat, Int.reduceLE, Int.reduceLT, Nat.reduceBEq, Nat.reduceLT, Nat.reduceAdd, Nat.reduceLeDiff, h0, encTask, decide_true]
    refine (hfln _ _).is ?_
    rw [hv, if_pos rfl]
    simp only [go_sem, Int.reduceToNat, Int.reduceLE, Int.reduceLT, Nat.reduceBEq, Nat.reduceLT, Nat.reduceAdd, Nat.reduceLeDiff, h0]
    refine (same07_spec _ _ .unk .unk _ hFp hFp).is ?_
    simp only [go_sem, Int.reduceToNat, Int.reduceLE, Int.reduceLT, Nat.reduceBEq, Nat.reduceLT, Nat.reduceAdd, Nat.reduceLeDiff, decide_true]
    refine (awake8_spec _).is ?_
    simp only [go_sem, Int.reduceToNat, Int.reduceLE, Int.reduceLT, Nat.reduceBEq, Nat.reduceLT, Nat.reduceAdd, Nat.reduceLeDiff]
    first | exact rtk (.bool true) ⟨rfl, rfl⟩ | exact rtk0 (.bool true) ⟨rfl, rfl⟩
  · rw [larR, if_neg h1]
    have h0 : (clE t f == 0) = false := by simpa using h1
    have h0' : (clE t f == clE t f) = true := beq_self_eq_true _
    have hall := taskSize_acts hsz
    have h00 : ((0 : Int) == 0) = true := rfl
    have h100 : ((10 : Int) == 0) = false := rfl
    have h110 : ((10 : Int) == 10) = true := rfl
    have hF0 : FB [] := ⟨by simp, by simp⟩
    simp only [go_sem, Int.reduceToNat, Int.reduceLE, Int.reduceLT, Nat.reduceBEq, Nat.reduceLT, Nat.reduceAdd, Nat.reduceLeDiff, encTask]
    refine (Pairs_spec t _ ht h12).is ?_
    rw [pairsR]
    cases hv : validB t
    · simp only [go_sem, Int.reduceToNat, Int.reduceLE, Int.reduceLT, Nat.reduceBEq, Nat.reduceLT, Nat.reduceAdd, Nat.reduceLeDiff, encTask]
      refine ACalls.is (hflt _ _) ?_
      simp only [go_sem, Int.reduceToNat, Int.reduceLE, Int.reduceLT, Nat.reduceBEq, Nat.reduceLT, Nat.reduceAdd, Nat.reduceLeDiff, h0, encTask]
      refine (hfln _ _).is ?_
      rw [hv]
      simp only [go_sem, Int.reduceToNat, Int.reduceLE, Int.reduceLT, Nat.reduceBEq, Nat.reduceLT, Nat.reduceAdd, Nat.reduceLeDiff, h100, h0']
      refine (same07_spec [] [] .nil .nil _ hF0 hF0).is ?_
      simp only [go_sem, Int.reduceToNat, Int.reduceLE, Int.reduceLT, Nat.reduceBEq, Nat.reduceLT, Nat.reduceAdd, Nat.reduceLeDiff, decide_true, encTask]
      refine (hfln _ _).is ?_
      rw [hv]
      simp only [go_sem, Int.reduceToNat, Int.reduceLE, Int.reduceLT, Nat.reduceBEq, Nat.reduceLT, Nat.reduceAdd, Nat.reduceLeDiff, h110]
      refine (same07_spec [] [] .nil .nil _ hF0 hF0).is ?_
      simp only [go_sem, Int.reduceToNat, Int.reduceLE, Int.reduceLT, Nat.reduceBEq, Nat.reduceLT, Nat.reduceAdd, Nat.reduceLeDiff, decide_true]
      refine (awake8_spec _).is ?_
      simp only [go_sem, Int.reduceToNat, Int.reduceLE, Int.reduceLT, Nat.reduceBEq, Nat.reduceLT, Nat.reduceAdd, Nat.reduceLeDiff]
      first | exact rtk (.bool true) ⟨rfl, rfl⟩ | exact rtk0 (.bool true) ⟨rfl, rfl⟩
    · have hFp := pairs_FB t (h12 hv)
      simp only [go_sem, Int.reduceToNat, Int.reduceLE, Int.reduceLT, Nat.reduceBEq, Nat.reduceLT, Nat.reduceAdd, Nat.reduceLeDiff, encTask]
      refine ACalls.is (hflt _ _) ?_
      simp only [go_sem, Int.reduceToNat, Int.reduceLE, Int.reduceLT, Nat.reduceBEq, Nat.reduceLT, Nat.reduceAdd, Nat.reduceLeDiff, h0, encTask]
      refine (hfln _ _).is ?_
      rw [hv, if_pos rfl]
      simp only [go_sem, Int.reduceToNat, Int.reduceLE, Int.reduceLT, Nat.reduceBEq, Nat.reduceLT, Nat.reduceAdd, Nat.reduceLeDiff, h00, encTask]
      refine (Pairs08_spec t _ (h8 hv) hv ht.init (by omega) (fun a ha => valid_AOk hv ha)).is ?_
      simp only [go_sem, Int.reduceToNat, Int.reduceLE, Int.reduceLT, Nat.reduceBEq, Nat.reduceLT, Nat.reduceAdd, Nat.reduceLeDiff, h0']
      refine (same07_spec [] [] .nil .nil _ hF0 hF0).is ?_
      simp only [go_sem, Int.reduceToNat, Int.reduceLE, Int.reduceLT, Nat.reduceBEq, Nat.reduceLT, Nat.reduceAdd, Nat.reduceLeDiff, decide_true, encTask]
      refine (hfln _ _).is ?_
      rw [hv, if_pos rfl]
      simp only [go_sem, Int.reduceToNat, Int.reduceLE, Int.reduceLT, Nat.reduceBEq, Nat.reduceLT, Nat.reduceAdd, Nat.reduceLeDiff, h00]
      refine (same07_spec _ _ .unk .unk _ hFp hFp).is ?_
      simp only [go_sem, Int.reduceToNat, Int.reduceLE, Int.reduceLT, Nat.reduceBEq, Nat.reduceLT, Nat.reduceAdd, Nat.reduceLeDiff, decide_true]
      refine (awake8_spec _).is ?_
      simp only [go_sem, Int.reduceToNat, Int.reduceLE, Int.reduceLT, Nat.reduceBEq, Nat.reduceLT, Nat.reduceAdd, Nat.reduceLeDiff]
      first | exact rtk (.bool true) ⟨rfl, rfl⟩ | exact rtk0 (.bool true) ⟨rfl, rfl⟩
theorem law_reads : ReadsAll Tryz.prog Tryz.f4.params.toList (fun avs => ACalls Tryz.prog 4 avs [] (isR (.bool true) [])) := by
  rw [show Tryz.f4.params.toList = [27, 28] by kernel_rfl]
  exact .cons ra_task fun t ht => .cons ra_form fun f hf => .nil (law_spec t f ht hf [])
set_option maxRecDepth 100000 in
theorem lifted (os : Os) (started : os.Started) (H : Type) (enc : TypeId × Value → H) :
    ReturnsInHanded {} Tryz.checked os 4 .any (Rows.invarLargestSpec.pre6 enc Tryz.prog Tryz.f4 Rows.invarLargestRow.domain false) (Rows.invarLargestSpec.post enc Tryz.prog Tryz.f4 false true false false) := by
  refine returnsInHanded_of_change_sized (C := Tryz.checked) own started (by kernel_rfl) Tryz.func4
    (ChangeSpec.witness6 (enc := enc) (C := Tryz.checked) false ⟨#[], #[.agg #[.slice none 0 0, .slice none 0 0, .slice none 0 0, .slice none 0 0], .slice none 0 0], []⟩ 8 (by kernel_rfl) (by kernel_rfl) (by kernel_rfl) (by kernel_rfl)) ?_
  intro W base args ds gs before hval hW _ hsz _
  refine law_post (P := Tryz.prog) Tryz.func4 (by kernel_rfl) (by decide) rfl ?_ laidOut (rdble (by kernel_rfl)) (by kernel_rfl) Tryz.underlying4 law_reads hval hW hsz
  intro ds h
  rw [show Tryz.f4.params.size = 2 by kernel_rfl] at h
  match ds, h with
  | [a, b], _ => rfl
theorem holds : Rows.InvarLargestSaid :=
  OpenClaim.holds_of_wide 4 Tryz.f4 rfl rfl rfl rfl rfl rfl rfl ⟨rfl, rfl, rfl, rfl, rfl⟩ rfl rfl rfl rfl rfl (by kernel_rfl) Tryz.func4 (by kernel_rfl)
    (of_decide_eq_true (by kernel_rfl)) (by unfold Func.isWrapper; first | (rw [if_pos (by decide +kernel)]; kernel_rfl) | (rw [if_neg (by decide +kernel)]; exact ⟨rfl, rfl⟩))
    (fun os started H enc _ => lifted os started H enc)
end Go.Proofs.YtocphglkceidhaaGreat
