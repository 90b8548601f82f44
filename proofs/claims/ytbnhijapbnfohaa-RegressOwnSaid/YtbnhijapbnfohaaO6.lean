/- For every task, action and formulas (within the bounds that the statement itself names) the law RegressOwn returns true and does not panic; no further condition. -/
import Derived.Test.YtbnhijapbnfohaaBase5
set_option linter.unusedVariables false
set_option linter.unusedSimpArgs false
namespace Go.Proofs.Ytbnhijapbnfohaa
open Go.Ahl Go.ChangeShapes Go.WideShapes Go.ChangeAt Go.RowKit
theorem le_sum_of_mem {l : List Nat} {x : Nat} (h : x ∈ l) : x ≤ l.sum := by
  induction l with
  | nil => simp at h
  | cons y l ih =>
    rw [List.sum_cons]
    rcases List.mem_cons.1 h with rfl | h
    · omega
    · have := ih h; omega
theorem CB_of {t : FTask} (h : taskSize t ≤ 400) : CB t := by
  unfold taskSize at h
  refine ⟨by omega, by omega, by omega, by omega, fun a ha => ?_⟩
  have h1 := le_sum_of_mem (List.mem_map_of_mem (f := actSize) ha)
  have h2 : actSize a ≤ 400 := by omega
  unfold actSize whenSize at h2
  refine ⟨by omega, by omega, fun e he => ?_⟩
  have := le_sum_of_mem (List.mem_map_of_mem (f := fun e : FEff => e.when_.length) he)
  omega
def OkF (f : List (List FLit)) : Prop := f.length ≤ 1000000 ∧ ∀ l ∈ f, l.length ≤ 1000000
theorem OkF_of {n : Int} (hn : n ≤ 1000000) {h : List (List FLit)} (hv : vF n h) (hl : h.length ≤ 400) : OkF h := ⟨by omega, fun l hl => cV_len hn (hv l hl)⟩
theorem weak_ret {f : FuncId} {args : List AV} {e : Int} {o : Option (List (List FLit))} (h : ACalls Try.prog f args [] (isR (retFf e o) [])) (ho : e = 0 → ∀ h, o = some h → OkF h) (hi : ∀ x ∈ args, Ids 0 x) (hu : UnfL args) (σ : Store) :
    ACalls Try.prog f args σ (fun r σ' => (∃ fh k, OkF fh ∧ r = .tuple [.wslice (fh.map wC), .int .i64 k]) ∧ σ' = σ ++ [.dead]) := by
  refine h.weak (fun r σ' hr => ?_) hi hu σ
  obtain ⟨rfl, rfl⟩ := hr
  unfold retFf
  have h0 : OkF [] := ⟨by simp, by simp⟩
  by_cases he : e = 0
  · rw [if_pos he]
    cases o with
    | none => exact ⟨_, WknT.two (.inl .nil) (.flat rfl), [], _, h0, rfl⟩
    | some k => exact ⟨_, WknT.two (.inl (wkn_clauses k)) (.flat rfl), k, _, ho he k rfl, rfl⟩
  · rw [if_neg he]
    exact ⟨_, WknT.two (.inl .nil) (.flat rfl), [], _, h0, rfl⟩
def c_law : CCode := .seq (.ops [⟨some 4, .box (.tmp 0), none, []⟩, ⟨some 8, .move (.lit (.bool false)), none, []⟩]) (.seq (.seq (.ops [⟨some 18, .load (some 4) (.tmp 4), none, []⟩, ⟨some 19, .move (.tmp 2), none, []⟩, ⟨some 20, .move (.tmp 3), none, []⟩, ⟨some 21, .bslice 1 [.tmp 19, .tmp 20] false, none, []⟩, ⟨some 22, .call (.lit (.func 7 [])) [.tmp 18, .tmp 21], none, []⟩, ⟨some 23, .un .not (.tmp 22), none, []⟩, ⟨some 24, .move (.tmp 23), none, []⟩, ⟨some 25, .faddr 0 (.tmp 4), some (some 24, false), []⟩, ⟨some 26, .load none (.tmp 25), some (some 24, false), []⟩, ⟨some 27, .blen 1 (.tmp 26), some (some 24, false), []⟩, ⟨some 28, .bin .gtr .none (.tmp 27) (.lit (.int .i64 16)), some (some 24, false), []⟩, ⟨some 29, .pick (.tmp 24) (.lit (.bool true)) (.tmp 28), none, []⟩]) (.cond (.tmp 29) (.seq (.ops [⟨some 30, .call (.lit (.func 8 [])) [], none, []⟩, ⟨some 8, .move (.tmp 30), none, []⟩]) .ret) .skip)) (.seq (.ops [⟨some 31, .load (some 4) (.tmp 4), none, []⟩, ⟨some 32, .call (.lit (.func 22 [])) [.tmp 31], none, []⟩, ⟨some 33, .move (.tmp 2), none, []⟩, ⟨some 34, .call (.lit (.func 23 [])) [.tmp 33], none, []⟩, ⟨some 35, .move (.tmp 3), none, []⟩, ⟨some 36, .call (.lit (.func 23 [])) [.tmp 35], none, []⟩, ⟨some 9, .alloc (.agg [.slice .nil [], .slice .nil [], .slice .nil [], .slice .nil []]), none, []⟩, ⟨none, .store 4 (.tmp 9) (.tmp 32), none, []⟩, ⟨some 10, .move (.tmp 34), none, []⟩, ⟨some 11, .move (.tmp 36), none, []⟩]) (.seq (.ops [⟨some 38, .load (some 4) (.tmp 4), none, []⟩, ⟨some 39, .move (.tmp 2), none, []⟩, ⟨some 40, .move (.tmp 3), none, []⟩, ⟨some 41, .call (.lit (.func 19 [])) [.tmp 38, .tmp 39, .tmp 40], none, []⟩, ⟨some 37, .move (.tmp 41), none, []⟩, ⟨some 42, .extract (.tmp 37) 0, none, []⟩, ⟨some 43, .extract (.tmp 37) 1, none, []⟩, ⟨some 12, .move (.tmp 42), none, []⟩, ⟨some 13, .move (.tmp 43), none, []⟩]) (.seq (.ops [⟨some 44, .move (.tmp 12), none, []⟩, ⟨some 45, .call (.lit (.func 24 [])) [.tmp 44], none, []⟩]) (.seq (.ops [⟨some 47, .load (some 4) (.tmp 4), none, []⟩, ⟨some 48, .move (.tmp 2), none, []⟩, ⟨some 49, .move (.tmp 3), none, []⟩, ⟨some 50, .call (.lit (.func 20 [])) [.tmp 47, .tmp 48, .tmp 49], none, []⟩, ⟨some 46, .move (.tmp 50), none, []⟩, ⟨some 51, .extract (.tmp 46) 0, none, []⟩, ⟨some 52, .extract (.tmp 46) 1, none, []⟩, ⟨some 12, .move (.tmp 51), none, []⟩]) (.seq (.ops [⟨some 53, .move (.tmp 12), none, []⟩, ⟨some 54, .call (.lit (.func 24 [])) [.tmp 53], none, []⟩]) (.seq (.ops [⟨some 56, .load (some 4) (.tmp 4), none, []⟩, ⟨some 57, .move (.tmp 2), none, []⟩, ⟨some 58, .call (.lit (.func 21 [])) [.tmp 56, .tmp 57], none, []⟩, ⟨some 55, .move (.tmp 58), none, []⟩, ⟨some 59, .extract (.tmp 55) 0, none, []⟩, ⟨some 60, .extract (.tmp 55) 1, none, []⟩, ⟨some 12, .move (.tmp 59), none, []⟩]) (.seq (.ops [⟨some 61, .move (.tmp 12), none, []⟩, ⟨some 62, .call (.lit (.func 24 [])) [.tmp 61], none, []⟩]) (.seq (.ops [⟨some 64, .load (some 4) (.tmp 4), none, []⟩, ⟨some 65, .move (.tmp 2), none, []⟩, ⟨some 66, .call (.lit (.func 25 [])) [.tmp 64, .tmp 65], none, []⟩, ⟨some 63, .move (.tmp 66), none, []⟩, ⟨some 67, .extract (.tmp 63) 0, none, []⟩, ⟨some 68, .extract (.tmp 63) 1, none, []⟩, ⟨some 12, .move (.tmp 67), none, []⟩]) (.seq (.ops [⟨some 69, .move (.tmp 12), none, []⟩, ⟨some 70, .call (.lit (.func 24 [])) [.tmp 69], none, []⟩]) (.seq (.ops [⟨some 72, .load (some 4) (.tmp 4), none, []⟩, ⟨some 73, .move (.tmp 1), none, []⟩, ⟨some 74, .move (.tmp 2), none, []⟩, ⟨some 75, .call (.lit (.func 14 [])) [.tmp 72, .tmp 73, .tmp 74], none, []⟩, ⟨some 71, .move (.tmp 75), none, []⟩, ⟨some 76, .extract (.tmp 71) 0, none, []⟩, ⟨some 77, .extract (.tmp 71) 1, none, []⟩, ⟨some 12, .move (.tmp 76), none, []⟩]) (.seq (.ops [⟨some 78, .move (.tmp 12), none, []⟩, ⟨some 79, .call (.lit (.func 24 [])) [.tmp 78], none, []⟩]) (.seq (.ops [⟨some 81, .load (some 4) (.tmp 4), none, []⟩, ⟨some 82, .move (.tmp 1), none, []⟩, ⟨some 83, .move (.tmp 2), none, []⟩, ⟨some 84, .call (.lit (.func 15 [])) [.tmp 81, .tmp 82, .tmp 83], none, []⟩, ⟨some 80, .move (.tmp 84), none, []⟩, ⟨some 85, .extract (.tmp 80) 0, none, []⟩, ⟨some 86, .extract (.tmp 80) 1, none, []⟩, ⟨some 12, .move (.tmp 85), none, []⟩]) (.seq (.ops [⟨some 87, .move (.tmp 12), none, []⟩, ⟨some 88, .call (.lit (.func 24 [])) [.tmp 87], none, []⟩]) (.seq (.ops [⟨some 89, .load (some 4) (.tmp 4), none, []⟩, ⟨some 90, .move (.tmp 2), none, []⟩, ⟨some 91, .call (.lit (.func 26 [])) [.tmp 89, .tmp 90], none, []⟩]) (.seq (.ops [⟨some 93, .load (some 4) (.tmp 4), none, []⟩, ⟨some 94, .move (.tmp 2), none, []⟩, ⟨some 95, .move (.tmp 3), none, []⟩, ⟨some 96, .call (.lit (.func 9 [])) [.tmp 93, .tmp 94, .tmp 95], none, []⟩, ⟨some 92, .move (.tmp 96), none, []⟩, ⟨some 97, .extract (.tmp 92) 0, none, []⟩, ⟨some 98, .extract (.tmp 92) 1, none, []⟩, ⟨some 99, .extract (.tmp 92) 2, none, []⟩, ⟨some 14, .move (.tmp 97), none, []⟩, ⟨some 15, .move (.tmp 98), none, []⟩, ⟨some 16, .move (.tmp 99), none, []⟩]) (.seq (.seq (.ops [⟨some 100, .move (.tmp 15), none, []⟩, ⟨some 101, .blen 1 (.tmp 100), none, []⟩, ⟨some 102, .move (.lit (.int .i64 0)), none, []⟩]) (.block 0 (.loop (.seq (.ops [⟨some 103, .bin .lss .none (.tmp 102) (.tmp 101), none, []⟩]) (.seq (.cond (.tmp 103) .skip (.exit 0)) (.seq (.block 1 (.seq (.ops [⟨some 104, .move (.tmp 102), none, []⟩, ⟨some 17, .move (.tmp 104), none, []⟩]) (.ops [⟨some 105, .move (.tmp 15), none, []⟩, ⟨some 106, .move (.tmp 17), none, []⟩, ⟨some 107, .iaddr 1 (.tmp 105) (.tmp 106), none, []⟩, ⟨none, .store 1 (.tmp 107) (.lit (.int .i64 (-7))), none, []⟩]))) (.ops [⟨some 108, .bin .add .none (.tmp 102) (.lit (.int .i64 1)), none, []⟩, ⟨some 102, .move (.tmp 108), none, []⟩]))))))) (.seq (.ops [⟨some 109, .load (some 4) (.tmp 9), none, []⟩, ⟨some 110, .load (some 4) (.tmp 4), none, []⟩, ⟨some 111, .call (.lit (.func 27 [])) [.tmp 109, .tmp 110], none, []⟩, ⟨some 112, .move (.tmp 111), none, []⟩, ⟨some 113, .move (.tmp 10), some (some 112, true), []⟩, ⟨some 114, .move (.tmp 2), some (some 112, true), []⟩, ⟨some 115, .call (.lit (.func 28 [])) [.tmp 113, .tmp 114], some (some 112, true), []⟩, ⟨some 116, .pick (.tmp 112) (.tmp 115) (.lit (.bool false)), none, []⟩, ⟨some 117, .move (.tmp 116), none, []⟩, ⟨some 118, .move (.tmp 11), some (some 117, true), []⟩, ⟨some 119, .move (.tmp 3), some (some 117, true), []⟩, ⟨some 120, .call (.lit (.func 28 [])) [.tmp 118, .tmp 119], some (some 117, true), []⟩, ⟨some 121, .pick (.tmp 117) (.tmp 120) (.lit (.bool false)), none, []⟩, ⟨some 122, .move (.tmp 121), none, []⟩, ⟨some 123, .call (.lit (.func 8 [])) [], some (some 122, true), []⟩, ⟨some 124, .pick (.tmp 122) (.tmp 123) (.lit (.bool false)), none, []⟩, ⟨some 8, .move (.tmp 124), none, []⟩]) .ret))))))))))))))))))
set_option maxRecDepth 20000 in
set_option maxHeartbeats 4000000 in
theorem law_spec (t : FTask) (ac : Int) (f g : List (List FLit)) (ht : TB t) (hf : FB f) (hg : FB g) (σ : Store) :
    ACalls Try.prog 6 [.agg (encTask t), .int .i64 ac, .slice .unk (f.map encC), .slice .unk (g.map encC)] σ (isR (.bool true) σ) := by
  refine ACalls.intro (rs := [(.tmp 8)]) (by kernel_rfl) { own := [], ghosts := [] } Try.func6 (c := Try.f6.body.getD .skip) (by kernel_rfl) (by decide) (by rw [show Try.f6.ntmps = 125 by kernel_rfl]; exact Nat.le_of_ble_eq_true rfl) (by kernel_rfl) ?_
  intro hσ hids
  rw [show comp Try.prog { own := [], ghosts := [] } (Try.f6.body.getD .skip) = c_law by kernel_rfl, show Try.f6.ntmps = 125 by kernel_rfl]
  unfold c_law
  have hfs : ∀ x ∈ [f, g], FB x := by intro x hx; simp at hx; rcases hx with rfl | rfl; exact hf; exact hg
  simp only [go_sem, Int.reduceToNat, Int.reduceLE, Int.reduceLT, Nat.reduceBEq, Nat.reduceLT, Nat.reduceAdd, Nat.reduceLeDiff, encTask]
  refine ACalls.is (ACalls.wk (few_spec t [f, g] .unk _ ht (by simp) hfs) (.cons (.refl _) (WkL.one (wk_two _ _ _ _ _)))) ?_
  cases hfew : fewB t [f, g]
  · simp only [go_sem, Int.reduceToNat, Int.reduceLE, Int.reduceLT, Nat.reduceBEq, Nat.reduceLT, Nat.reduceAdd, Nat.reduceLeDiff]
    refine (awake_spec _).is ?_
    simp only [go_sem, Int.reduceToNat, Int.reduceLE, Int.reduceLT, Nat.reduceBEq, Nat.reduceLT, Nat.reduceAdd, Nat.reduceLeDiff]
    first | exact rtk (.bool true) ⟨rfl, rfl⟩ | exact rtk0 (.bool true) ⟨rfl, rfl⟩
  obtain ⟨hsz, hszf⟩ := fewB_size hfew
  by_cases h16 : (t.facts.length : Int) > 16
  · simp only [go_sem, Int.reduceToNat, Int.reduceLE, Int.reduceLT, Nat.reduceBEq, Nat.reduceLT, Nat.reduceAdd, Nat.reduceLeDiff, h16, encTask]
    refine (awake_spec _).is ?_
    simp only [go_sem, Int.reduceToNat, Int.reduceLE, Int.reduceLT, Nat.reduceBEq, Nat.reduceLT, Nat.reduceAdd, Nat.reduceLeDiff]
    first | exact rtk (.bool true) ⟨rfl, rfl⟩ | exact rtk0 (.bool true) ⟨rfl, rfl⟩
  have hcb := CB_of hsz
  have it : Ids 0 (.agg (encTask t)) := ids_agg (ids_encTask t)
  have if' : Ids 0 (.slice .unk (f.map encC)) := ids_map ids_encC f
  have ig : Ids 0 (.slice .unk (g.map encC)) := ids_map ids_encC g
  have ut := unf_task t
  have uf : Unf (.slice .unk (f.map encC)) := .map unf_encC f
  have ug : Unf (.slice .unk (g.map encC)) := .map unf_encC g
  have hf0 : formSize f ≤ 2400 ∧ formSize g ≤ 2400 := by simp at hszf; omega
  have hok : ∀ f : List (List FLit), formSize f ≤ 2400 → f.length ≤ 1000000 ∧ ∀ x ∈ f, x.length ≤ 1000000 := fun f h => by
    unfold formSize at h
    refine ⟨by omega, fun x hx => ?_⟩
    have := le_sum_of_mem (List.mem_map_of_mem (f := List.length) hx)
    omega
  have hkf := hok f hf0.1
  have hkg := hok g hf0.2
  have up : ∀ o h, upTo o = some h → o = some h ∧ h.length ≤ 400 := by
    intro o h e
    unfold upTo at e
    cases o with
    | none => simp at e
    | some k =>
      simp only at e
      split at e
      · injection e with e; subst e; exact ⟨rfl, ‹_›⟩
      · simp at e
  have a3 : ∀ x ∈ [AV.agg (encTask t), .slice .unk (f.map encC), .slice .unk (g.map encC)], Ids 0 x := by intro x hx; simp at hx; rcases hx with rfl | rfl | rfl <;> assumption
  have a2 : ∀ x ∈ [AV.agg (encTask t), .slice .unk (f.map encC)], Ids 0 x := by intro x hx; simp at hx; rcases hx with rfl | rfl <;> assumption
  have a4 : ∀ x ∈ [AV.agg (encTask t), .int .i64 ac, .slice .unk (f.map encC)], Ids 0 x := by intro x hx; simp at hx; rcases hx with rfl | rfl | rfl <;> first | assumption | exact .int _ _
  have u3 : UnfL [AV.agg (encTask t), .slice .unk (f.map encC), .slice .unk (g.map encC)] := .cons ut (.cons uf (.cons ug .nil))
  have u2 : UnfL [AV.agg (encTask t), .slice .unk (f.map encC)] := .cons ut (.cons uf .nil)
  have u4 : UnfL [AV.agg (encTask t), .int .i64 ac, .slice .unk (f.map encC)] := .cons ut (.cons (.int _ _) (.cons uf .nil))
  have wAnd := weak_ret (And_specF t f g .unk .unk [] ht hf hg) (fun h1 h e => by
    obtain ⟨hn, _, l1, l2, v1, v2⟩ := fine_two h1
    have := up _ _ e
    exact OkF_of (by omega) (bothF_V this.1 v1 v2) this.2) a3 u3
  have wOr := weak_ret (Or_specF t f g .unk .unk [] ht hf hg) (fun h1 h e => by
    obtain ⟨hn, _, l1, l2, v1, v2⟩ := fine_two h1
    have := up _ _ e
    injection this.1 with q; subst q
    exact OkF_of (by omega) (reducedL_V (append_V v1 v2)) this.2) a3 u3
  have wNot := weak_ret (Not_specF t f .unk [] ht hf) (fun h1 h e => by
    obtain ⟨hn, _, l1, v1⟩ := fine_one h1
    exact OkF_of (by omega) (negF_V v1 e) (negF_len e)) a2 u2
  have wRed := weak_ret (Reduce_specF t f .unk [] ht hf) (fun h1 h e => by
    obtain ⟨hn, _, l1, v1⟩ := fine_one h1
    injection e with q; subst q
    exact OkF_of (by omega) (reducedL_V v1) (by have := reducedL_len f; omega)) a2 u2
  have act0 : actE t ac f = 0 → ∃ a, t.actions.getD ac.toNat ⟨.empty, 0, [], []⟩ = a ∧ AV_ t.facts.length a ∧ vF t.facts.length f ∧ (t.facts.length : Int) ≤ 200 := fun h0 => by
    unfold actE at h0
    by_cases hc : checkE t f = 0
    · rw [if_pos hc] at h0
      by_cases hi : 0 ≤ ac ∧ ac < t.actions.length
      · have hv := checkE_zero hc
        obtain ⟨a, ha⟩ : ∃ a, t.actions[ac.toNat]? = some a := get_ex (by omega)
        exact ⟨a, by rw [List.getD_eq_getElem?_getD, ha]; rfl, valid_act hv.1 (List.mem_of_getElem? ha), (isForm_V hv.2).2, valid_facts hv.1⟩
      · rw [if_neg hi] at h0; simp at h0
    · rw [if_neg hc] at h0; exact absurd h0 hc
  have wReg := weak_ret (Regress_specF t ac f .unk [] ht hf) (fun h1 h e => by
    obtain ⟨a, q1, q2, q3, q4⟩ := act0 h1
    rw [q1] at e
    have := backF_V q2 q3 e
    exact OkF_of (by omega) this.1 this.2) a4 u4
  have wWk := weak_ret (Weakest_specF t ac f .unk [] ht hf) (fun h1 h e => by
    obtain ⟨a, q1, q2, q3, q4⟩ := act0 h1
    rw [q1] at e
    unfold aheadF at e
    cases hq : backF a f with
    | none => rw [hq] at e; simp at e
    | some k =>
      rw [hq] at e; simp only at e
      have hb := backF_V q2 q3 hq
      obtain ⟨k2, hk2⟩ := neg_one (by omega) q2.pre
      rw [hk2] at e
      split at e
      · injection e with e; subst e
        exact OkF_of (by omega) (reducedL_V (append_V (negF_V (one_V q2.pre) hk2) hb.1)) (by simpa using ‹_›)
      · simp at e) a4 u4
  have wImp : ∀ σ, ACalls Try.prog 9 [.agg (encTask t), .slice .unk (f.map encC), .slice .unk (g.map encC)] σ (fun r σ' => (∃ (b : Bool) (k : Int) (s : List Int), s.length ≤ 1000 ∧ r = .tuple [.bool b, .wslice (s.map wI), .int .i64 k]) ∧ σ' = σ ++ [.dead]) := fun σ =>
    (Implies_specF t f g .unk .unk [] ht hf hg (by omega)).weak (fun r σ' hr => by
      obtain ⟨_, ⟨_, rfl⟩ | ⟨_, ⟨rfl, _⟩ | ⟨s, _, hl, rfl, _⟩⟩⟩ := hr
      · exact ⟨_, WknT.three (.flat rfl) (.inl .nil) (.flat rfl), _, _, [], by simp, rfl⟩
      · exact ⟨_, WknT.three (.flat rfl) (.inl .nil) (.flat rfl), _, _, [], by simp, rfl⟩
      · exact ⟨_, WknT.three (.flat rfl) (.inl (wkn_ints s)) (.flat rfl), _, _, s, by omega, rfl⟩) a3 u3 σ
  have hsf : ∀ σ, ACalls Try.prog 28 [.slice .unk (f.map encC), .slice .unk (f.map encC)] σ (isR (.bool true) σ) := fun σ => by
    have := same07_spec f f .unk .unk σ hf hf; simpa using this
  have hsg : ∀ σ, ACalls Try.prog 28 [.slice .unk (g.map encC), .slice .unk (g.map encC)] σ (isR (.bool true) σ) := fun σ => by
    have := same07_spec g g .unk .unk σ hg hg; simpa using this
  have hcp := copyTask_spec t
  have hst := same01_self t
  have hck := check07_spec t f .unk
  simp only [encTask] at wAnd wOr wNot wRed wReg wWk wImp hcp hst hck
  simp only [go_sem, Int.reduceToNat, Int.reduceLE, Int.reduceLT, Nat.reduceBEq, Nat.reduceLT, Nat.reduceAdd, Nat.reduceLeDiff, h16, encTask]
  refine (hcp _ hcb).is ?_
  simp only [go_sem, Int.reduceToNat, Int.reduceLE, Int.reduceLT, Nat.reduceBEq, Nat.reduceLT, Nat.reduceAdd, Nat.reduceLeDiff]
  refine (copy07_spec f .unk _ hkf).is ?_
  simp only [go_sem, Int.reduceToNat, Int.reduceLE, Int.reduceLT, Nat.reduceBEq, Nat.reduceLT, Nat.reduceAdd, Nat.reduceLeDiff]
  refine (copy07_spec g .unk _ hkg).is ?_
  simp only [go_sem, Int.reduceToNat, Int.reduceLE, Int.reduceLT, Nat.reduceBEq, Nat.reduceLT, Nat.reduceAdd, Nat.reduceLeDiff]
  refine (wAnd _).mono ?_
  rintro _ _ ⟨⟨r1, k1, hr1, rfl⟩, rfl⟩
  simp only [go_sem, Int.reduceToNat, Int.reduceLE, Int.reduceLT, Nat.reduceBEq, Nat.reduceLT, Nat.reduceAdd, Nat.reduceLeDiff]
  refine (spoil_spec r1 _ hr1).is ?_
  simp only [go_sem, Int.reduceToNat, Int.reduceLE, Int.reduceLT, Nat.reduceBEq, Nat.reduceLT, Nat.reduceAdd, Nat.reduceLeDiff]
  refine (wOr _).mono ?_
  rintro _ _ ⟨⟨r2, k2, hr2, rfl⟩, rfl⟩
  simp only [go_sem, Int.reduceToNat, Int.reduceLE, Int.reduceLT, Nat.reduceBEq, Nat.reduceLT, Nat.reduceAdd, Nat.reduceLeDiff]
  refine (spoil_spec r2 _ hr2).is ?_
  simp only [go_sem, Int.reduceToNat, Int.reduceLE, Int.reduceLT, Nat.reduceBEq, Nat.reduceLT, Nat.reduceAdd, Nat.reduceLeDiff]
  refine (wNot _).mono ?_
  rintro _ _ ⟨⟨r3, k3, hr3, rfl⟩, rfl⟩
  simp only [go_sem, Int.reduceToNat, Int.reduceLE, Int.reduceLT, Nat.reduceBEq, Nat.reduceLT, Nat.reduceAdd, Nat.reduceLeDiff]
  refine (spoil_spec r3 _ hr3).is ?_
  simp only [go_sem, Int.reduceToNat, Int.reduceLE, Int.reduceLT, Nat.reduceBEq, Nat.reduceLT, Nat.reduceAdd, Nat.reduceLeDiff]
  refine (wRed _).mono ?_
  rintro _ _ ⟨⟨r4, k4, hr4, rfl⟩, rfl⟩
  simp only [go_sem, Int.reduceToNat, Int.reduceLE, Int.reduceLT, Nat.reduceBEq, Nat.reduceLT, Nat.reduceAdd, Nat.reduceLeDiff]
  refine (spoil_spec r4 _ hr4).is ?_
  simp only [go_sem, Int.reduceToNat, Int.reduceLE, Int.reduceLT, Nat.reduceBEq, Nat.reduceLT, Nat.reduceAdd, Nat.reduceLeDiff]
  refine (wReg _).mono ?_
  rintro _ _ ⟨⟨r5, k5, hr5, rfl⟩, rfl⟩
  simp only [go_sem, Int.reduceToNat, Int.reduceLE, Int.reduceLT, Nat.reduceBEq, Nat.reduceLT, Nat.reduceAdd, Nat.reduceLeDiff]
  refine (spoil_spec r5 _ hr5).is ?_
  simp only [go_sem, Int.reduceToNat, Int.reduceLE, Int.reduceLT, Nat.reduceBEq, Nat.reduceLT, Nat.reduceAdd, Nat.reduceLeDiff]
  refine (wWk _).mono ?_
  rintro _ _ ⟨⟨r6, k6, hr6, rfl⟩, rfl⟩
  simp only [go_sem, Int.reduceToNat, Int.reduceLE, Int.reduceLT, Nat.reduceBEq, Nat.reduceLT, Nat.reduceAdd, Nat.reduceLeDiff]
  refine (spoil_spec r6 _ hr6).is ?_
  simp only [go_sem, Int.reduceToNat, Int.reduceLE, Int.reduceLT, Nat.reduceBEq, Nat.reduceLT, Nat.reduceAdd, Nat.reduceLeDiff]
  refine (hck _ ht hf.1 hf.2).is ?_
  simp only [go_sem, Int.reduceToNat, Int.reduceLE, Int.reduceLT, Nat.reduceBEq, Nat.reduceLT, Nat.reduceAdd, Nat.reduceLeDiff]
  refine (wImp _).mono ?_
  rintro _ _ ⟨⟨bb, k7, sv, hsv, rfl⟩, rfl⟩
  simp only [go_sem, Int.reduceToNat, Int.reduceLE, Int.reduceLT, Nat.reduceBEq, Nat.reduceLT, Nat.reduceAdd, Nat.reduceLeDiff]
  have hiw : Ids (σ.length + 10) (.wslice (sv.map wI)) := .wslice _ (by omega) fun i e h j x hx => by
    rw [List.getElem?_map] at h
    cases q : sv[i]? with
    | none => rw [q] at h; simp at h
    | some y =>
      rw [q] at h; simp at h; subst h
      match j with
      | 0 => simp [wI] at hx; subst hx; exact .cell _
      | j + 1 => simp [wI] at hx
  let L : Store := [.row (encTask t), .grow 1 2, .row (encTask t), .dead, .dead, .dead, .dead, .dead, .dead, .dead]
  have hL : IdsS (σ ++ L).length (σ ++ L) := idsS_app _ hσ (by
    intro o ho
    simp only [L, List.mem_cons, List.not_mem_nil, or_false] at ho
    rcases ho with rfl | rfl | rfl | rfl | rfl | rfl | rfl | rfl | rfl | rfl <;> first | exact idsO_row (ids_encTask t) | trivial)
  refine wpc_while (fun (i : Nat) => [(2, .slice .unk (f.map encC)), (3, .slice .unk (g.map encC)), (4, .ptr σ.length 0), (9, .ptr (σ.length + 2) 0), (10, .slice .unk (f.map encC)), (11, .slice .unk (g.map encC)), (15, .wslice (sv.map wI)), (101, .int .i64 sv.length), (102, .int .i64 (i : Nat))]) (fun _ => σ ++ L) (fun i => i ≤ sv.length) (fun i => sv.length - i) 0 (Nat.zero_le _) ?_ ?_
  · simp only [L, encTask] at hL ⊢
    exact (by (try dsimp only); first | exact ghL (hL) | exact ghL0 (hL))
  intro i hi K hK hE hR
  by_cases h : i < sv.length
  · obtain ⟨x, hx⟩ := get_ex h; have hlt : ((i : Int) < (sv.length : Int)) := (by omega); have hw : IntKind.i64.wrap ((i : Int) + 1) = ((i + 1 : Nat) : Int) := (by rw [wrap_ok (by omega)]; omega)
    simp only [go_sem, Int.reduceToNat, Int.reduceLE, Int.reduceLT, Nat.reduceBEq, Nat.reduceLT, Nat.reduceAdd, Nat.reduceLeDiff, L, hlt, hx, wI, encTask]
    refine hK _ _ (i + 1) (by omega) (by omega) ?_
    simp only [L, encTask] at hL ⊢
    exact (by (try dsimp only); (try simp only [ hw]); first | exact ghL (hL) | exact ghL0 (hL))
  · have hlt : ¬ ((i : Int) < (sv.length : Int)) := by omega
    simp only [go_sem, Int.reduceToNat, Int.reduceLE, Int.reduceLT, Nat.reduceBEq, Nat.reduceLT, Nat.reduceAdd, Nat.reduceLeDiff, L, hlt, hE, encTask]
    refine (hst _ hcb).is ?_
    simp only [go_sem, Int.reduceToNat, Int.reduceLE, Int.reduceLT, Nat.reduceBEq, Nat.reduceLT, Nat.reduceAdd, Nat.reduceLeDiff]
    refine (hsf _).is ?_
    simp only [go_sem, Int.reduceToNat, Int.reduceLE, Int.reduceLT, Nat.reduceBEq, Nat.reduceLT, Nat.reduceAdd, Nat.reduceLeDiff]
    refine (hsg _).is ?_
    simp only [go_sem, Int.reduceToNat, Int.reduceLE, Int.reduceLT, Nat.reduceBEq, Nat.reduceLT, Nat.reduceAdd, Nat.reduceLeDiff]
    refine (awake_spec _).is ?_
    simp only [go_sem, Int.reduceToNat, Int.reduceLE, Int.reduceLT, Nat.reduceBEq, Nat.reduceLT, Nat.reduceAdd, Nat.reduceLeDiff]
    first | exact rtk (.bool true) ⟨rfl, rfl⟩ | exact rtk0 (.bool true) ⟨rfl, rfl⟩
theorem law_reads : ReadsAll Try.prog Try.f6.params.toList (fun avs => ACalls Try.prog 6 avs [] (isR (.bool true) [])) := by
  rw [show Try.f6.params.toList = [27, 3, 28, 28] by kernel_rfl]
  exact .cons ra_task fun t ht => .cons ra_int fun k _ => .cons ra_form fun f hf => .cons ra_form fun g hg => .nil (law_spec t k f g ht hf hg [])
set_option maxRecDepth 100000 in
theorem lifted (os : Os) (started : os.Started) (H : Type) (enc : TypeId × Value → H) :
    ReturnsInHanded {} Try.checked os 6 .any (Rows.regressOwnSpec.pre6 enc Try.prog Try.f6 Rows.regressOwnRow.domain false) (Rows.regressOwnSpec.post enc Try.prog Try.f6 false true false false) := by
  refine returnsInHanded_of_change_sized (C := Try.checked) own started (by kernel_rfl) Try.func6
    (ChangeSpec.witness6 (enc := enc) (C := Try.checked) false ⟨#[], #[.agg #[.slice none 0 0, .slice none 0 0, .slice none 0 0, .slice none 0 0], .int .i64 0, .slice none 0 0, .slice none 0 0], []⟩ 8 (by kernel_rfl) (by kernel_rfl) (by kernel_rfl) (by kernel_rfl)) ?_
  intro W base args ds gs before hval hW _ hsz _
  refine law_post (P := Try.prog) Try.func6 (by kernel_rfl) (by decide) rfl ?_ laidOut (rdble (by kernel_rfl)) (by kernel_rfl) Try.underlying4 law_reads hval hW hsz
  intro ds h
  rw [show Try.f6.params.size = 4 by kernel_rfl] at h
  match ds, h with
  | [a, b, c, d], _ => rfl
theorem holds : Rows.RegressOwnSaid :=
  OpenClaim.holds_of_wide 6 Try.f6 rfl rfl rfl rfl rfl rfl rfl ⟨rfl, rfl, rfl, rfl, rfl⟩ rfl rfl rfl rfl rfl (by kernel_rfl) Try.func6 (by kernel_rfl)
    (of_decide_eq_true (by kernel_rfl)) (by unfold Func.isWrapper; first | (rw [if_pos (by decide +kernel)]; kernel_rfl) | (rw [if_neg (by decide +kernel)]; exact ⟨rfl, rfl⟩))
    (fun os started H enc _ => lifted os started H enc)
end Go.Proofs.Ytbnhijapbnfohaa
