/- For every task and clauses (within the bounds that the statement itself names) the law InvarOwn returns true and does not panic; no further condition. -/
import Derived.Test.YtocphglkceidhaaGreatBase6
set_option linter.unusedVariables false
set_option linter.unusedSimpArgs false
namespace Go.Proofs.YtocphglkceidhaaGreat
open Go.Ahl Go.ChangeShapes Go.WideShapes Go.ChangeAt Go.RowKit
theorem le_sum_of_mem {l : List Nat} {x : Nat} (h : x ∈ l) : x ≤ l.sum := by
  induction l with
  | nil => simp at h
  | cons y l ih =>
    rw [List.sum_cons]
    rcases List.mem_cons.1 h with rfl | h
    · omega
    · have := ih h; omega
theorem CB_of {t : FTask} (h : taskSize t ≤ 400) : CB t := by
  unfold taskSize at h
  refine ⟨by omega, by omega, by omega, by omega, fun a ha => ?_⟩
  have h1 := le_sum_of_mem (List.mem_map_of_mem (f := actSize) ha)
  have h2 : actSize a ≤ 400 := by omega
  unfold actSize whenSize at h2
  refine ⟨by omega, by omega, fun e he => ?_⟩
  have := le_sum_of_mem (List.mem_map_of_mem (f := fun e : FEff => e.when_.length) he)
  omega
def c_spoil : CCode := .seq (.ops [⟨some 5, .move (.tmp 0), none, []⟩, ⟨some 6, .blen 1 (.tmp 5), none, []⟩, ⟨some 7, .move (.lit (.int .i64 0)), none, []⟩]) (.block 0 (.loop (.seq (.ops [⟨some 8, .bin .lss .none (.tmp 7) (.tmp 6), none, []⟩]) (.seq (.cond (.tmp 8) .skip (.exit 0)) (.seq (.block 1 (.seq (.ops [⟨some 9, .iaddr 1 (.tmp 5) (.tmp 7), none, []⟩, ⟨some 10, .load none (.tmp 9), none, []⟩, ⟨some 3, .move (.tmp 10), none, []⟩]) (.seq (.ops [⟨some 11, .move (.tmp 3), none, []⟩, ⟨some 12, .blen 1 (.tmp 11), none, []⟩, ⟨some 13, .move (.lit (.int .i64 0)), none, []⟩]) (.block 2 (.loop (.seq (.ops [⟨some 14, .bin .lss .none (.tmp 13) (.tmp 12), none, []⟩]) (.seq (.cond (.tmp 14) .skip (.exit 2)) (.seq (.block 3 (.seq (.ops [⟨some 15, .move (.tmp 13), none, []⟩, ⟨some 4, .move (.tmp 15), none, []⟩]) (.ops [⟨some 16, .move (.tmp 3), none, []⟩, ⟨some 17, .move (.tmp 4), none, []⟩, ⟨some 18, .iaddr 2 (.tmp 16) (.tmp 17), none, []⟩, ⟨some 19, .faddr 0 (.tmp 18), none, []⟩, ⟨none, .store 1 (.tmp 19) (.lit (.int .i64 (-7))), none, []⟩]))) (.ops [⟨some 20, .bin .add .none (.tmp 13) (.lit (.int .i64 1)), none, []⟩, ⟨some 13, .move (.tmp 20), none, []⟩]))))))))) (.ops [⟨some 21, .bin .add .none (.tmp 7) (.lit (.int .i64 1)), none, []⟩, ⟨some 7, .move (.tmp 21), none, []⟩]))))))
set_option maxRecDepth 20000 in
theorem spoil_spec (f : List (List FLit)) (σ : Store) (hf : f.length ≤ 1000000 ∧ ∀ l ∈ f, l.length ≤ 1000000) : ACalls Tryz.prog 21 [.wslice (f.map wC)] σ (isR (.tuple []) σ) := by
  refine ACalls.intro (rs := []) (by kernel_rfl) { own := [], ghosts := [] } Tryz.func21 (c := Tryz.f21.body.getD .skip) (by kernel_rfl) (by decide) (by rw [show Tryz.f21.ntmps = 22 by kernel_rfl]; exact Nat.le_of_ble_eq_true rfl) (by kernel_rfl) ?_
  intro hσ hids
  rw [show comp Tryz.prog { own := [], ghosts := [] } (Tryz.f21.body.getD .skip) = c_spoil by kernel_rfl, show Tryz.f21.ntmps = 22 by kernel_rfl]
  unfold c_spoil
  have hif : Ids σ.length (.wslice (f.map wC)) := hids _ (by simp)
  have hf1 := hf.1
  simp only [go_sem, Int.reduceToNat, Int.reduceLE, Int.reduceLT, Nat.reduceBEq, Nat.reduceLT, Nat.reduceAdd, Nat.reduceLeDiff]
  refine wpc_while (fun (i : Nat) => [(5, .wslice (f.map wC)), (6, .int .i64 f.length), (7, .int .i64 (i : Nat))]) (fun _ => σ) (fun i => i ≤ f.length) (fun i => f.length - i) 0 (Nat.zero_le _) (by (try dsimp only); first | exact ghk | exact ghk0) ?_
  intro i hi K hK hE hR
  by_cases h : i < f.length
  · obtain ⟨l, hx⟩ := get_ex h; have hlt : ((i : Int) < (f.length : Int)) := (by omega); have hw : IntKind.i64.wrap ((i : Int) + 1) = ((i + 1 : Nat) : Int) := (by rw [wrap_ok (by omega)]; omega)
    have hl := hf.2 l (List.mem_of_getElem? hx)
    have hil : Ids σ.length (.wslice (l.map wLit)) := by
      cases hif with
      | wslice _ hn hh => exact hh i _ (by rw [List.getElem?_map, hx]; rfl) 0 _ rfl
    simp only [go_sem, Int.reduceToNat, Int.reduceLE, Int.reduceLT, Nat.reduceBEq, Nat.reduceLT, Nat.reduceAdd, Nat.reduceLeDiff, hlt, hx, wC]
    refine wpc_while (fun (j : Nat) => [(3, .wslice (l.map wLit)), (5, .wslice (f.map wC)), (6, .int .i64 f.length), (7, .int .i64 (i : Nat)), (12, .int .i64 l.length), (13, .int .i64 (j : Nat))]) (fun _ => σ) (fun j => j ≤ l.length) (fun j => l.length - j) 0 (Nat.zero_le _) (by (try dsimp only); first | exact ghk | exact ghk0) ?_
    intro j hj' K' hK' hE' hR'
    by_cases hj : j < l.length
    · obtain ⟨x, hxj⟩ := get_ex hj; have hltj : ((j : Int) < (l.length : Int)) := (by omega); have hwj : IntKind.i64.wrap ((j : Int) + 1) = ((j + 1 : Nat) : Int) := (by rw [wrap_ok (by omega)]; omega)
      simp only [go_sem, Int.reduceToNat, Int.reduceLE, Int.reduceLT, Nat.reduceBEq, Nat.reduceLT, Nat.reduceAdd, Nat.reduceLeDiff, hltj, hxj, wLit]
      refine hK' _ _ (j + 1) (by omega) (by omega) ?_
      exact (by (try dsimp only); (try simp only [hwj]); first | exact ghk | exact ghk0)
    · have hltj : ¬ ((j : Int) < (l.length : Int)) := by omega
      simp only [go_sem, Int.reduceToNat, Int.reduceLE, Int.reduceLT, Nat.reduceBEq, Nat.reduceLT, Nat.reduceAdd, Nat.reduceLeDiff, hltj, hE']
      refine hK _ _ (i + 1) (by omega) (by first | omega | (simp only []; omega) | (simp; omega)) ?_; (try dsimp only); (try simp only [ hw]); first | exact ghk | exact ghk0
  · have hlt : ¬ ((i : Int) < (f.length : Int)) := by omega
    simp only [go_sem, Int.reduceToNat, Int.reduceLE, Int.reduceLT, Nat.reduceBEq, Nat.reduceLT, Nat.reduceAdd, Nat.reduceLeDiff, hlt, hE]
    exact ret_gh0 (Ghost.keep0 (s' := []) (Nat.le_refl _) trivial hσ) (Nat.le_refl _) hσ ⟨rfl, rfl⟩
theorem pairs_small (t : FTask) (h : t.facts.length ≤ 12) : (leanL [] (largeL t (singles (2 * t.facts.length) ++ pairsL (2 * t.facts.length)))).length ≤ 1000000 ∧ ∀ x ∈ leanL [] (largeL t (singles (2 * t.facts.length) ++ pairsL (2 * t.facts.length))), x.length ≤ 1000000 := by
  obtain ⟨q1, q2⟩ := largeL_sub t (singles (2 * t.facts.length) ++ pairsL (2 * t.facts.length))
  obtain ⟨q3, q4⟩ := leanL_sub (largeL t (singles (2 * t.facts.length) ++ pairsL (2 * t.facts.length))) []
  have h1 := belowL_len (2 * t.facts.length) (2 * t.facts.length)
  have h2 : (2 * t.facts.length) * (2 * t.facts.length) ≤ 24 * 24 := Nat.mul_le_mul (by omega) (by omega)
  have h3 : (singles (2 * t.facts.length) ++ pairsL (2 * t.facts.length)).length ≤ 1000 := by
    rw [List.length_append]
    rw [show pairsL (2 * t.facts.length) = belowL (2 * t.facts.length) (2 * t.facts.length) from rfl]
    have : (singles (2 * t.facts.length)).length = 2 * t.facts.length := by simp [singles]
    omega
  refine ⟨by simp only [List.length_nil] at q3; omega, fun c hc => ?_⟩
  have hm : c ∈ singles (2 * t.facts.length) ++ pairsL (2 * t.facts.length) := by
    rcases q4 c hc with h | h
    · simp at h
    · exact q2 c h
  rcases List.mem_append.1 hm with h | h
  · obtain ⟨i, _, rfl⟩ := List.mem_map.1 h; simp
  · obtain ⟨i, _, hi⟩ := List.mem_flatMap.1 h
    obtain ⟨k, _, _, _, rfl⟩ := pairsFrom_mem.1 hi; simp
theorem insL_foldsU : ∀ (l out : List (List Int)), (l.foldl insL out).length = out.length + l.length
  | [], out => by simp
  | x :: l, out => by
    have hi : insAt out x ≤ out.length := by
      unfold insAt; exact (List.takeWhile_sublist _).length_le
    rw [List.foldl_cons, insL_foldsU l]
    unfold insL
    rw [List.length_append, List.length_append, List.length_take, List.length_drop, List.length_singleton, List.length_cons]; omega
theorem groups_small (n : Nat) (f : List (List FLit)) (h8 : n ≤ 8) : (groupsL n f).length ≤ 1000000 ∧ ∀ x ∈ groupsL n f, x.length ≤ 1000000 := by
  obtain ⟨q1, q2⟩ := insAll ((statesL n).filter (isGroupB n f)) [] (by simp) ((statesL_nodup _).filter _) (by simp)
  have hsub : ∀ x ∈ groupsL n f, x ∈ statesL n := fun x hx => by
    rcases (q2 x).1 hx with h | h
    · exact (List.mem_filter.1 h).1
    · simp at h
  refine ⟨?_, fun x hx => ?_⟩
  · have h256 : (2 : Nat) ^ n ≤ 2 ^ 8 := Nat.pow_le_pow_right (by omega) h8
    have h1 := insL_foldsU ((statesL n).filter (isGroupB n f)) []
    have h2 := List.length_filter_le (isGroupB n f) (statesL n)
    have h3 : (groupsL n f).length = ((statesL n).filter (isGroupB n f)).length := by
      unfold groupsL; rw [h1]; simp
    rw [statesL_len] at h2; omega
  · have := (statesL_mem _ x (hsub x hx)).1
    omega
theorem ids_wL {n : Nat} (hn : 0 < n) (f : List (List Int)) : Ids n (.wslice (f.map wL)) := .wslice _ hn fun i e h j x hx => by
  rw [List.getElem?_map] at h
  cases q : f[i]? with
  | none => rw [q] at h; simp at h
  | some l =>
    rw [q] at h; simp at h; subst h
    match j with
    | 0 =>
      simp [wL] at hx; subst hx
      refine .wslice _ hn fun i e h j x hx => ?_
      rw [List.getElem?_map] at h
      cases q : l[i]? with
      | none => rw [q] at h; simp at h
      | some y =>
        rw [q] at h; simp at h; subst h
        match j with
        | 0 => simp [wI] at hx; subst hx; exact .cell _
        | j + 1 => simp [wI] at hx
    | j + 1 => simp [wL] at hx
/-- What Largest leaves, by the error. -/
def larX (t : FTask) (l : List (List FLit)) : List (List FLit) := if clE t l = 0 then largeL t l else []
theorem larRf_wkn (t : FTask) (l : List (List FLit)) : WknT (larRf t l) (.tuple [.wslice ((larX t l).map wC), .int .i64 (clE t l)]) := by
  unfold larRf larX
  by_cases h : clE t l = 0
  · rw [if_pos h, if_pos h, h]; exact .two (.inl (wkn_clauses _)) (.flat rfl)
  · rw [if_neg h, if_neg h]; exact .two (.inl .nil) (.flat rfl)
def c_law : CCode := .seq (.ops [⟨some 2, .box (.tmp 0), none, []⟩, ⟨some 4, .move (.lit (.bool false)), none, []⟩]) (.seq (.seq (.ops [⟨some 19, .load (some 4) (.tmp 2), none, []⟩, ⟨some 20, .move (.tmp 1), none, []⟩, ⟨some 21, .bslice 1 [.tmp 20] false, none, []⟩, ⟨some 22, .call (.lit (.func 8 [])) [.tmp 19, .tmp 21], none, []⟩, ⟨some 23, .un .not (.tmp 22), none, []⟩]) (.cond (.tmp 23) (.seq (.ops [⟨some 24, .call (.lit (.func 9 [])) [], none, []⟩, ⟨some 4, .move (.tmp 24), none, []⟩]) .ret) .skip)) (.seq (.ops [⟨some 25, .load (some 4) (.tmp 2), none, []⟩, ⟨some 26, .call (.lit (.func 19 [])) [.tmp 25], none, []⟩, ⟨some 27, .move (.tmp 1), none, []⟩, ⟨some 28, .call (.lit (.func 20 [])) [.tmp 27], none, []⟩, ⟨some 5, .alloc (.agg [.slice .nil [], .slice .nil [], .slice .nil [], .slice .nil []]), none, []⟩, ⟨none, .store 4 (.tmp 5) (.tmp 26), none, []⟩, ⟨some 6, .move (.tmp 28), none, []⟩]) (.seq (.ops [⟨some 30, .load (some 4) (.tmp 2), none, []⟩, ⟨some 31, .move (.tmp 1), none, []⟩, ⟨some 32, .call (.lit (.func 14 [])) [.tmp 30, .tmp 31], none, []⟩, ⟨some 29, .move (.tmp 32), none, []⟩, ⟨some 33, .extract (.tmp 29) 0, none, []⟩, ⟨some 34, .extract (.tmp 29) 1, none, []⟩, ⟨some 7, .move (.tmp 33), none, []⟩, ⟨some 8, .move (.tmp 34), none, []⟩]) (.seq (.ops [⟨some 35, .move (.tmp 7), none, []⟩, ⟨some 36, .blen 1 (.tmp 35), none, []⟩, ⟨some 9, .move (.tmp 36), none, []⟩]) (.seq (.ops [⟨some 37, .move (.tmp 7), none, []⟩, ⟨some 38, .call (.lit (.func 21 [])) [.tmp 37], none, []⟩]) (.seq (.ops [⟨some 40, .load (some 4) (.tmp 2), none, []⟩, ⟨some 41, .call (.lit (.func 15 [])) [.tmp 40], none, []⟩, ⟨some 39, .move (.tmp 41), none, []⟩, ⟨some 42, .extract (.tmp 39) 0, none, []⟩, ⟨some 43, .extract (.tmp 39) 1, none, []⟩, ⟨some 10, .move (.tmp 42), none, []⟩, ⟨some 11, .move (.tmp 43), none, []⟩]) (.seq (.ops [⟨some 44, .move (.tmp 10), none, []⟩, ⟨some 45, .call (.lit (.func 21 [])) [.tmp 44], none, []⟩]) (.seq (.ops [⟨some 47, .load (some 4) (.tmp 2), none, []⟩, ⟨some 48, .move (.tmp 1), none, []⟩, ⟨some 49, .call (.lit (.func 10 [])) [.tmp 47, .tmp 48], none, []⟩, ⟨some 46, .move (.tmp 49), none, []⟩, ⟨some 50, .extract (.tmp 46) 0, none, []⟩, ⟨some 51, .extract (.tmp 46) 1, none, []⟩, ⟨some 12, .move (.tmp 50), none, []⟩, ⟨some 13, .move (.tmp 51), none, []⟩]) (.seq (.seq (.ops [⟨some 52, .move (.tmp 12), none, []⟩, ⟨some 53, .blen 1 (.tmp 52), none, []⟩, ⟨some 54, .move (.lit (.int .i64 0)), none, []⟩]) (.block 0 (.loop (.seq (.ops [⟨some 55, .bin .lss .none (.tmp 54) (.tmp 53), none, []⟩]) (.seq (.cond (.tmp 55) .skip (.exit 0)) (.seq (.block 1 (.seq (.ops [⟨some 56, .iaddr 1 (.tmp 52) (.tmp 54), none, []⟩, ⟨some 57, .load none (.tmp 56), none, []⟩, ⟨some 15, .move (.tmp 57), none, []⟩]) (.seq (.ops [⟨some 58, .move (.tmp 15), none, []⟩, ⟨some 59, .blen 1 (.tmp 58), none, []⟩, ⟨some 60, .move (.lit (.int .i64 0)), none, []⟩]) (.block 2 (.loop (.seq (.ops [⟨some 61, .bin .lss .none (.tmp 60) (.tmp 59), none, []⟩]) (.seq (.cond (.tmp 61) .skip (.exit 2)) (.seq (.block 3 (.seq (.ops [⟨some 62, .move (.tmp 60), none, []⟩, ⟨some 16, .move (.tmp 62), none, []⟩]) (.ops [⟨some 63, .move (.tmp 15), none, []⟩, ⟨some 64, .move (.tmp 16), none, []⟩, ⟨some 65, .iaddr 1 (.tmp 63) (.tmp 64), none, []⟩, ⟨none, .store 1 (.tmp 65) (.lit (.int .i64 (-7))), none, []⟩]))) (.ops [⟨some 66, .bin .add .none (.tmp 60) (.lit (.int .i64 1)), none, []⟩, ⟨some 60, .move (.tmp 66), none, []⟩]))))))))) (.ops [⟨some 67, .bin .add .none (.tmp 54) (.lit (.int .i64 1)), none, []⟩, ⟨some 54, .move (.tmp 67), none, []⟩]))))))) (.seq (.ops [⟨some 68, .load (some 4) (.tmp 2), none, []⟩, ⟨some 69, .move (.tmp 1), none, []⟩, ⟨some 70, .call (.lit (.func 22 [])) [.tmp 68, .tmp 69], none, []⟩]) (.seq (.ops [⟨some 71, .load (some 4) (.tmp 2), none, []⟩, ⟨some 72, .move (.tmp 1), none, []⟩, ⟨some 73, .call (.lit (.func 23 [])) [.tmp 71, .tmp 72, .lit (.int .i64 0), .lit (.slice .nil [])], none, []⟩]) (.seq (.ops [⟨some 75, .load (some 4) (.tmp 2), none, []⟩, ⟨some 76, .move (.tmp 1), none, []⟩, ⟨some 77, .call (.lit (.func 14 [])) [.tmp 75, .tmp 76], none, []⟩, ⟨some 74, .move (.tmp 77), none, []⟩, ⟨some 78, .extract (.tmp 74) 0, none, []⟩, ⟨some 79, .extract (.tmp 74) 1, none, []⟩, ⟨some 17, .move (.tmp 78), none, []⟩, ⟨some 18, .move (.tmp 79), none, []⟩]) (.seq (.ops [⟨some 80, .load (some 4) (.tmp 5), none, []⟩, ⟨some 81, .load (some 4) (.tmp 2), none, []⟩, ⟨some 82, .call (.lit (.func 24 [])) [.tmp 80, .tmp 81], none, []⟩, ⟨some 83, .move (.tmp 82), none, []⟩, ⟨some 84, .move (.tmp 6), some (some 83, true), []⟩, ⟨some 85, .move (.tmp 1), some (some 83, true), []⟩, ⟨some 86, .call (.lit (.func 18 [])) [.tmp 84, .tmp 85], some (some 83, true), []⟩, ⟨some 87, .pick (.tmp 83) (.tmp 86) (.lit (.bool false)), none, []⟩, ⟨some 88, .move (.tmp 87), none, []⟩, ⟨some 89, .move (.tmp 8), some (some 88, true), []⟩, ⟨some 90, .move (.tmp 18), some (some 88, true), []⟩, ⟨some 91, .bin .eql .none (.tmp 89) (.tmp 90), some (some 88, true), []⟩, ⟨some 92, .pick (.tmp 88) (.tmp 91) (.lit (.bool false)), none, []⟩, ⟨some 93, .move (.tmp 92), none, []⟩, ⟨some 94, .move (.tmp 17), some (some 93, true), []⟩, ⟨some 95, .blen 1 (.tmp 94), some (some 93, true), []⟩, ⟨some 96, .move (.tmp 9), some (some 93, true), []⟩, ⟨some 97, .bin .eql .none (.tmp 95) (.tmp 96), some (some 93, true), []⟩, ⟨some 98, .pick (.tmp 93) (.tmp 97) (.lit (.bool false)), none, []⟩, ⟨some 99, .move (.tmp 98), none, []⟩, ⟨some 100, .call (.lit (.func 9 [])) [], some (some 99, true), []⟩, ⟨some 101, .pick (.tmp 99) (.tmp 100) (.lit (.bool false)), none, []⟩, ⟨some 4, .move (.tmp 101), none, []⟩]) .ret)))))))))))))
set_option maxRecDepth 20000 in
set_option maxHeartbeats 2000000 in
theorem law_spec (t : FTask) (f : List (List FLit)) (ht : TB t) (hf : FB f) (σ : Store) :
    ACalls Tryz.prog 5 [.agg (encTask t), .slice .unk (f.map encC)] σ (isR (.bool true) σ) := by
  refine ACalls.intro (rs := [(.tmp 4)]) (by kernel_rfl) { own := [], ghosts := [] } Tryz.func5 (c := Tryz.f5.body.getD .skip) (by kernel_rfl) (by decide) (by rw [show Tryz.f5.ntmps = 102 by kernel_rfl]; exact Nat.le_of_ble_eq_true rfl) (by kernel_rfl) ?_
  intro hσ hids
  rw [show comp Tryz.prog { own := [], ghosts := [] } (Tryz.f5.body.getD .skip) = c_law by kernel_rfl, show Tryz.f5.ntmps = 102 by kernel_rfl]
  unfold c_law
  have hfs : ∀ x ∈ [f], FB x := by intro x hx; simp at hx; subst hx; exact hf
  simp only [go_sem, Int.reduceToNat, Int.reduceLE, Int.reduceLT, Nat.reduceBEq, Nat.reduceLT, Nat.reduceAdd, Nat.reduceLeDiff, encTask]
  refine ACalls.is (few8_spec t [f] _ _ ht (by simp) hfs) ?_
  cases hfew : few8B t [f]
  · simp only [go_sem, Int.reduceToNat, Int.reduceLE, Int.reduceLT, Nat.reduceBEq, Nat.reduceLT, Nat.reduceAdd, Nat.reduceLeDiff]
    refine (awake8_spec _).is ?_
    simp only [go_sem, Int.reduceToNat, Int.reduceLE, Int.reduceLT, Nat.reduceBEq, Nat.reduceLT, Nat.reduceAdd, Nat.reduceLeDiff]
    first | exact rtk (.bool true) ⟨rfl, rfl⟩ | exact rtk0 (.bool true) ⟨rfl, rfl⟩
  obtain ⟨hsz, hfz, h8⟩ := few8_facts hfew
  have h12 : validB t = true → t.facts.length ≤ 12 := fun hv => by have := h8 hv; omega
  have hcb := CB_of (t := t) (by omega)
  have it : Ids 0 (.agg (encTask t)) := ids_agg (ids_encTask t)
  have if' : Ids 0 (.slice .unk (f.map encC)) := ids_map ids_encC f
  have ut := unf_task t
  have uf : Unf (.slice .unk (f.map encC)) := .map unf_encC f
  have a1 : ∀ x ∈ [AV.agg (encTask t)], Ids 0 x := by intro x hx; simp at hx; subst hx; assumption
  have a2 : ∀ x ∈ [AV.agg (encTask t), .slice .unk (f.map encC)], Ids 0 x := by intro x hx; simp at hx; rcases hx with rfl | rfl <;> assumption
  have u1 : UnfL [AV.agg (encTask t)] := .cons ut .nil
  have u2 : UnfL [AV.agg (encTask t), .slice .unk (f.map encC)] := .cons ut (.cons uf .nil)
  have hkf : f.length ≤ 1000000 ∧ ∀ x ∈ f, x.length ≤ 1000000 := by
    simp at hfz
    unfold formSize at hfz
    refine ⟨by omega, fun x hx => ?_⟩
    have := le_sum_of_mem (List.mem_map_of_mem (f := List.length) hx)
    omega
  have wLar := fun σ => (Largest_specF t f .unk [] ht hf h12).weak (Q := fun r => r = .tuple [.wslice ((larX t f).map wC), .int .i64 (clE t f)]) (fun r σ' hr => by obtain ⟨rfl, _⟩ := hr; exact ⟨_, larRf_wkn t f, rfl⟩) a2 u2 σ
  have hX : (larX t f).length ≤ 1000000 ∧ ∀ x ∈ larX t f, x.length ≤ 1000000 := by
    unfold larX
    split
    · have := largeL_sub t f
      exact ⟨by omega, fun x hx => hkf.2 x (this.2 x hx)⟩
    · exact ⟨by simp, by simp⟩
  have wPair := fun σ => (Pairs_specF t [] ht h12).weak (Q := fun r => ∃ ps k, (ps.length ≤ 1000000 ∧ ∀ x ∈ ps, x.length ≤ 1000000) ∧ r = .tuple [.wslice (List.map wC ps), .int .i64 k]) (fun r σ' hr => by
    obtain ⟨rfl, _⟩ := hr
    unfold pairsRf
    split
    · have hFp := pairs_FB t (h12 ‹_›)
      exact ⟨_, .two (.inl (wkn_clauses _)) (.flat rfl), _, _, pairs_small t (h12 ‹_›), rfl⟩
    · exact ⟨_, .two (.inl .nil) (.flat rfl), [], _, ⟨by simp, by simp⟩, rfl⟩) a1 u1 σ
  have wGro := fun σ => (iGroups_specF t f .unk [] ht hf h8).weak (Q := fun r => ∃ gs k, (gs.length ≤ 1000000 ∧ ∀ x ∈ gs, x.length ≤ 1000000) ∧ r = .tuple [.wslice (List.map wL gs), .int .i64 k]) (fun r σ' hr => by
    obtain ⟨rfl, _⟩ := hr
    unfold groRf
    split
    · have hG : (groupsL t.facts.length f).length ≤ 1000000 ∧ ∀ x ∈ groupsL t.facts.length f, x.length ≤ 1000000 := groups_small _ _ (h8 (clE_zero ‹_›).1)
      exact ⟨_, .two (.inl (wkn_lists _)) (.flat rfl), _, _, hG, rfl⟩
    · exact ⟨_, .two (.inl .nil) (.flat rfl), [], _, ⟨by simp, by simp⟩, rfl⟩) a2 u2 σ
  have hcp := copyTask_spec t
  have hst := same01_self t
  have hsf : ∀ σ, ACalls Tryz.prog 18 [.slice .unk (f.map encC), .slice .unk (f.map encC)] σ (isR (.bool true) σ) := fun σ => by
    have := same07_spec f f .unk .unk σ hf hf; simpa using this
  have hind := fun σ => Inductive_spec t f .unk σ ht hf h12
  have hstp := fun σ => iStep_spec t f 0 [] .unk .nil σ ht hf (by simp) h12
  have hlar := fun σ => Largest_spec t f .unk σ ht hf h12
  simp only [encTask, List.map_nil] at wLar wPair wGro hcp hst hind hstp hlar
  simp only [go_sem, Int.reduceToNat, Int.reduceLE, Int.reduceLT, Nat.reduceBEq, Nat.reduceLT, Nat.reduceAdd, Nat.reduceLeDiff, encTask]
  refine (hcp _ hcb).is ?_
  simp only [go_sem, Int.reduceToNat, Int.reduceLE, Int.reduceLT, Nat.reduceBEq, Nat.reduceLT, Nat.reduceAdd, Nat.reduceLeDiff]
  refine (copy07_spec f .unk _ hkf).is ?_
  simp only [go_sem, Int.reduceToNat, Int.reduceLE, Int.reduceLT, Nat.reduceBEq, Nat.reduceLT, Nat.reduceAdd, Nat.reduceLeDiff]
  refine (wLar _).mono ?_
  rintro _ _ ⟨rfl, rfl⟩
  simp only [go_sem, Int.reduceToNat, Int.reduceLE, Int.reduceLT, Nat.reduceBEq, Nat.reduceLT, Nat.reduceAdd, Nat.reduceLeDiff]
  refine (spoil_spec _ _ hX).is ?_
  simp only [go_sem, Int.reduceToNat, Int.reduceLE, Int.reduceLT, Nat.reduceBEq, Nat.reduceLT, Nat.reduceAdd, Nat.reduceLeDiff]
  refine (wPair _).mono ?_
  rintro _ _ ⟨⟨ps, k1, hps, rfl⟩, rfl⟩
  simp only [go_sem, Int.reduceToNat, Int.reduceLE, Int.reduceLT, Nat.reduceBEq, Nat.reduceLT, Nat.reduceAdd, Nat.reduceLeDiff]
  refine (spoil_spec _ _ hps).is ?_
  simp only [go_sem, Int.reduceToNat, Int.reduceLE, Int.reduceLT, Nat.reduceBEq, Nat.reduceLT, Nat.reduceAdd, Nat.reduceLeDiff]
  refine (wGro _).mono ?_
  rintro _ _ ⟨⟨gs, k2, hgs, rfl⟩, rfl⟩
  simp only [go_sem, Int.reduceToNat, Int.reduceLE, Int.reduceLT, Nat.reduceBEq, Nat.reduceLT, Nat.reduceAdd, Nat.reduceLeDiff]
  let L : Store := [.row (encTask t), .grow 1 1, .row (encTask t), .dead, .dead, .dead]
  have hL : IdsS (σ ++ L).length (σ ++ L) := idsS_app _ hσ (by
    intro o ho
    simp only [L, List.mem_cons, List.not_mem_nil, or_false] at ho
    rcases ho with rfl | rfl | rfl | rfl | rfl | rfl <;> first | exact idsO_row (ids_encTask t) | trivial)
  have hgl := hgs.1
  have hig : Ids (σ.length + 6) (.wslice (gs.map wL)) := ids_wL (by omega) gs
  refine wpc_while (fun (i : Nat) => [(1, .slice .unk (f.map encC)), (2, .ptr σ.length 0), (5, .ptr (σ.length + 2) 0), (6, .slice .unk (f.map encC)), (8, .int .i64 (clE t f)), (9, .int .i64 (larX t f).length), (52, .wslice (gs.map wL)), (53, .int .i64 gs.length), (54, .int .i64 (i : Nat))]) (fun _ => σ ++ L) (fun i => i ≤ gs.length) (fun i => gs.length - i) 0 (Nat.zero_le _) (by simp only [L, encTask] at hL ⊢; exact (by (try dsimp only); first | exact ghL (hL) | exact ghL0 (hL))) ?_
  intro i hi K hK hE hR
  by_cases h : i < gs.length
  · obtain ⟨l, hx⟩ := get_ex h; have hlt : ((i : Int) < (gs.length : Int)) := (by omega); have hw : IntKind.i64.wrap ((i : Int) + 1) = ((i + 1 : Nat) : Int) := (by rw [wrap_ok (by omega)]; omega)
    have hl := hgs.2 l (List.mem_of_getElem? hx)
    have hil : Ids (σ.length + 6) (.wslice (l.map wI)) := by
      cases hig with
      | wslice _ hn hh => exact hh i _ (by rw [List.getElem?_map, hx]; rfl) 0 _ rfl
    simp only [go_sem, Int.reduceToNat, Int.reduceLE, Int.reduceLT, Nat.reduceBEq, Nat.reduceLT, Nat.reduceAdd, Nat.reduceLeDiff, L, hlt, hx, wL, encTask]
    refine wpc_while (fun (j : Nat) => [(1, .slice .unk (f.map encC)), (2, .ptr σ.length 0), (5, .ptr (σ.length + 2) 0), (6, .slice .unk (f.map encC)), (8, .int .i64 (clE t f)), (9, .int .i64 (larX t f).length), (15, .wslice (l.map wI)), (52, .wslice (gs.map wL)), (53, .int .i64 gs.length), (54, .int .i64 (i : Nat)), (59, .int .i64 l.length), (60, .int .i64 (j : Nat))]) (fun _ => σ ++ L) (fun j => j ≤ l.length) (fun j => l.length - j) 0 (Nat.zero_le _) (by simp only [L, encTask] at hL ⊢; exact (by (try dsimp only); first | exact ghL (hL) | exact ghL0 (hL))) ?_
    intro j hj' K' hK' hE' hR'
    by_cases hj : j < l.length
    · obtain ⟨x, hxj⟩ := get_ex hj; have hltj : ((j : Int) < (l.length : Int)) := (by omega); have hwj : IntKind.i64.wrap ((j : Int) + 1) = ((j + 1 : Nat) : Int) := (by rw [wrap_ok (by omega)]; omega)
      simp only [go_sem, Int.reduceToNat, Int.reduceLE, Int.reduceLT, Nat.reduceBEq, Nat.reduceLT, Nat.reduceAdd, Nat.reduceLeDiff, L, hltj, hxj, wI, encTask]
      refine hK' _ _ (j + 1) (by omega) (by omega) ?_
      simp only [L, encTask] at hL ⊢
      exact (by (try dsimp only); (try simp only [ hwj]); first | exact ghL (hL) | exact ghL0 (hL))
    · have hltj : ¬ ((j : Int) < (l.length : Int)) := by omega
      simp only [go_sem, Int.reduceToNat, Int.reduceLE, Int.reduceLT, Nat.reduceBEq, Nat.reduceLT, Nat.reduceAdd, Nat.reduceLeDiff, L, hltj, hE', encTask]
      refine hK _ _ (i + 1) (by omega) (by omega) ?_
      simp only [L, encTask] at hL ⊢
      exact (by (try dsimp only); (try simp only [ hw]); first | exact ghL (hL) | exact ghL0 (hL))
  · have hlt : ¬ ((i : Int) < (gs.length : Int)) := by omega
    simp only [go_sem, Int.reduceToNat, Int.reduceLE, Int.reduceLT, Nat.reduceBEq, Nat.reduceLT, Nat.reduceAdd, Nat.reduceLeDiff, L, hlt, hE, encTask]
    refine (hind _).is ?_
    simp only [go_sem, Int.reduceToNat, Int.reduceLE, Int.reduceLT, Nat.reduceBEq, Nat.reduceLT, Nat.reduceAdd, Nat.reduceLeDiff]
    refine (hstp _).is ?_
    simp only [go_sem, Int.reduceToNat, Int.reduceLE, Int.reduceLT, Nat.reduceBEq, Nat.reduceLT, Nat.reduceAdd, Nat.reduceLeDiff]
    refine (hlar _).is ?_
    unfold larR
    by_cases h1 : clE t f = 0
    · have hxl : larX t f = largeL t f := if_pos h1
      rw [if_pos h1, h1, hxl]
      simp only [go_sem, Int.reduceToNat, Int.reduceLE, Int.reduceLT, Nat.reduceBEq, Nat.reduceLT, Nat.reduceAdd, Nat.reduceLeDiff]
      refine (hst _ hcb).is ?_
      simp only [go_sem, Int.reduceToNat, Int.reduceLE, Int.reduceLT, Nat.reduceBEq, Nat.reduceLT, Nat.reduceAdd, Nat.reduceLeDiff]
      refine (hsf _).is ?_
      simp only [go_sem, Int.reduceToNat, Int.reduceLE, Int.reduceLT, Nat.reduceBEq, Nat.reduceLT, Nat.reduceAdd, Nat.reduceLeDiff, beq_self_eq_true]
      refine (awake8_spec _).is ?_
      simp only [go_sem, Int.reduceToNat, Int.reduceLE, Int.reduceLT, Nat.reduceBEq, Nat.reduceLT, Nat.reduceAdd, Nat.reduceLeDiff]
      first | exact rtk (.bool true) ⟨rfl, rfl⟩ | exact rtk0 (.bool true) ⟨rfl, rfl⟩
    · have hxl : larX t f = [] := if_neg h1
      rw [if_neg h1, hxl]
      simp only [go_sem, Int.reduceToNat, Int.reduceLE, Int.reduceLT, Nat.reduceBEq, Nat.reduceLT, Nat.reduceAdd, Nat.reduceLeDiff]
      refine (hst _ hcb).is ?_
      simp only [go_sem, Int.reduceToNat, Int.reduceLE, Int.reduceLT, Nat.reduceBEq, Nat.reduceLT, Nat.reduceAdd, Nat.reduceLeDiff]
      refine (hsf _).is ?_
      simp only [go_sem, Int.reduceToNat, Int.reduceLE, Int.reduceLT, Nat.reduceBEq, Nat.reduceLT, Nat.reduceAdd, Nat.reduceLeDiff, beq_self_eq_true]
      refine (awake8_spec _).is ?_
      simp only [go_sem, Int.reduceToNat, Int.reduceLE, Int.reduceLT, Nat.reduceBEq, Nat.reduceLT, Nat.reduceAdd, Nat.reduceLeDiff]
      first | exact rtk (.bool true) ⟨rfl, rfl⟩ | exact rtk0 (.bool true) ⟨rfl, rfl⟩
theorem law_reads : ReadsAll Tryz.prog Tryz.f5.params.toList (fun avs => ACalls Tryz.prog 5 avs [] (isR (.bool true) [])) := by
  rw [show Tryz.f5.params.toList = [27, 28] by kernel_rfl]
  exact .cons ra_task fun t ht => .cons ra_form fun f hf => .nil (law_spec t f ht hf [])
set_option maxRecDepth 100000 in
theorem lifted (os : Os) (started : os.Started) (H : Type) (enc : TypeId × Value → H) :
    ReturnsInHanded {} Tryz.checked os 5 .any (Rows.invarOwnSpec.pre6 enc Tryz.prog Tryz.f5 Rows.invarOwnRow.domain false) (Rows.invarOwnSpec.post enc Tryz.prog Tryz.f5 false true false false) := by
  refine returnsInHanded_of_change_sized (C := Tryz.checked) own started (by kernel_rfl) Tryz.func5
    (ChangeSpec.witness6 (enc := enc) (C := Tryz.checked) false ⟨#[], #[.agg #[.slice none 0 0, .slice none 0 0, .slice none 0 0, .slice none 0 0], .slice none 0 0], []⟩ 8 (by kernel_rfl) (by kernel_rfl) (by kernel_rfl) (by kernel_rfl)) ?_
  intro W base args ds gs before hval hW _ hsz _
  refine law_post (P := Tryz.prog) Tryz.func5 (by kernel_rfl) (by decide) rfl ?_ laidOut (rdble (by kernel_rfl)) (by kernel_rfl) Tryz.underlying4 law_reads hval hW hsz
  intro ds h
  rw [show Tryz.f5.params.size = 2 by kernel_rfl] at h
  match ds, h with
  | [a, b], _ => rfl
theorem holds : Rows.InvarOwnSaid :=
  OpenClaim.holds_of_wide 5 Tryz.f5 rfl rfl rfl rfl rfl rfl rfl ⟨rfl, rfl, rfl, rfl, rfl⟩ rfl rfl rfl rfl rfl (by kernel_rfl) Tryz.func5 (by kernel_rfl)
    (of_decide_eq_true (by kernel_rfl)) (by unfold Func.isWrapper; first | (rw [if_pos (by decide +kernel)]; kernel_rfl) | (rw [if_neg (by decide +kernel)]; exact ⟨rfl, rfl⟩))
    (fun os started H enc _ => lifted os started H enc)
end Go.Proofs.YtocphglkceidhaaGreat
