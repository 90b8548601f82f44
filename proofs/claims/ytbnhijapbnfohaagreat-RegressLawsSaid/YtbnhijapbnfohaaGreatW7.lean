/- For every task, action, formulas, state and plan (within the bounds that the statement itself names) the law RegressLaws returns true and does not panic; no further condition. -/
import Derived.Test.YtbnhijapbnfohaaGreatBase6
set_option linter.unusedVariables false
set_option linter.unusedSimpArgs false
namespace Go.Proofs.YtbnhijapbnfohaaGreat
open Go.Ahl Go.ChangeShapes Go.WideShapes Go.ChangeAt Go.RowKit
theorem retF_split (e : Int) (o : Option (List (List FLit))) : (∃ c, c ≠ 0 ∧ retF e o = .tuple [.slice .nil [], .int .i64 c]) ∨ ∃ h, e = 0 ∧ o = some h ∧ retF e o = .tuple [.slice .unk (h.map encC), .int .i64 0] := by
  by_cases h : e = 0
  · subst h
    cases o with
    | none => exact .inl ⟨2, by decide, rfl⟩
    | some h => exact .inr ⟨h, rfl, rfl, rfl⟩
  · exact .inl ⟨e, h, retF_ne h o⟩
theorem actE_zero {t : FTask} {i : Int} {f : List (List FLit)} (h : actE t i f = 0) : checkE t f = 0 ∧ 0 ≤ i ∧ i < t.actions.length := by
  unfold actE at h
  by_cases h1 : checkE t f = 0
  · rw [if_pos h1] at h
    by_cases h2 : 0 ≤ i ∧ i < t.actions.length
    · exact ⟨h1, h2.1, h2.2⟩
    · rw [if_neg h2] at h; simp at h
  · rw [if_neg h1] at h; exact absurd h h1
theorem vF_FB16 {n : Nat} (hn : n ≤ 16) {h : List (List FLit)} (hl : h.length ≤ 1000000) (hv : vF (n : Int) h) : FB h := by
  refine ⟨by omega, fun c hc => ?_⟩
  rcases condB_len (hv c hc) with rfl | q
  · simp
  · omega
def c_same : CCode := .seq (.ops [⟨some 3, .box (.tmp 0), none, []⟩, ⟨some 6, .move (.lit (.bool false)), none, []⟩]) (.seq (.ops [⟨some 14, .load (some 4) (.tmp 3), none, []⟩, ⟨some 15, .move (.tmp 1), none, []⟩, ⟨some 16, .move (.tmp 2), none, []⟩, ⟨some 17, .call (.lit (.func 23 [])) [.tmp 14, .tmp 15, .tmp 16], none, []⟩, ⟨some 13, .move (.tmp 17), none, []⟩, ⟨some 18, .extract (.tmp 13) 0, none, []⟩, ⟨some 19, .extract (.tmp 13) 1, none, []⟩, ⟨some 20, .extract (.tmp 13) 2, none, []⟩, ⟨some 7, .move (.tmp 18), none, []⟩, ⟨some 8, .move (.tmp 19), none, []⟩, ⟨some 9, .move (.tmp 20), none, []⟩]) (.seq (.ops [⟨some 22, .load (some 4) (.tmp 3), none, []⟩, ⟨some 23, .move (.tmp 2), none, []⟩, ⟨some 24, .move (.tmp 1), none, []⟩, ⟨some 25, .call (.lit (.func 23 [])) [.tmp 22, .tmp 23, .tmp 24], none, []⟩, ⟨some 21, .move (.tmp 25), none, []⟩, ⟨some 26, .extract (.tmp 21) 0, none, []⟩, ⟨some 27, .extract (.tmp 21) 1, none, []⟩, ⟨some 28, .extract (.tmp 21) 2, none, []⟩, ⟨some 10, .move (.tmp 26), none, []⟩, ⟨some 11, .move (.tmp 27), none, []⟩, ⟨some 12, .move (.tmp 28), none, []⟩]) (.seq (.ops [⟨some 29, .move (.tmp 9), none, []⟩, ⟨some 30, .bin .neq .none (.tmp 29) (.lit (.int .i64 0)), none, []⟩, ⟨some 31, .move (.tmp 30), none, []⟩, ⟨some 32, .move (.tmp 12), some (some 31, false), []⟩, ⟨some 33, .bin .neq .none (.tmp 32) (.lit (.int .i64 0)), some (some 31, false), []⟩, ⟨some 34, .pick (.tmp 31) (.lit (.bool true)) (.tmp 33), none, []⟩, ⟨some 35, .move (.tmp 34), none, []⟩, ⟨some 36, .move (.tmp 7), some (some 35, false), []⟩, ⟨some 37, .move (.tmp 36), some (some 35, false), []⟩, ⟨some 38, .move (.tmp 10), some (some 37, true), []⟩, ⟨some 39, .pick (.tmp 37) (.tmp 38) (.lit (.bool false)), some (some 35, false), []⟩, ⟨some 40, .pick (.tmp 35) (.lit (.bool true)) (.tmp 39), none, []⟩, ⟨some 6, .move (.tmp 40), none, []⟩]) .ret)))
set_option maxRecDepth 20000 in
theorem same_spec (t : FTask) (f g : List (List FLit)) (tok tok' : Tok) (σ : Store) (ht : TB t) (hf : FB f) (hg : FB g) (h16 : t.facts.length ≤ 16) (hfg : ∀ a : Int → Bool, formT a f = formT a g) :
    ACalls Tryz.prog 17 [.agg (encTask t), .slice tok (f.map encC), .slice tok' (g.map encC)] σ (isR (.bool true) σ) := by
  refine ACalls.intro (rs := [(.tmp 6)]) (by kernel_rfl) { own := [], ghosts := [] } Tryz.func17 (c := Tryz.f17.body.getD .skip) (by kernel_rfl) (by decide) (by rw [show Tryz.f17.ntmps = 41 by kernel_rfl]; exact Nat.le_of_ble_eq_true rfl) (by kernel_rfl) ?_
  intro hσ hids
  rw [show comp Tryz.prog { own := [], ghosts := [] } (Tryz.f17.body.getD .skip) = c_same by kernel_rfl, show Tryz.f17.ntmps = 41 by kernel_rfl]
  unfold c_same
  have hif : Ids σ.length (.slice tok (f.map encC)) := hids _ (by simp)
  have hig : Ids σ.length (.slice tok' (g.map encC)) := hids _ (by simp)
  simp only [go_sem, Int.reduceToNat, Int.reduceLE, Int.reduceLT, Nat.reduceBEq, Nat.reduceLT, Nat.reduceAdd, Nat.reduceLeDiff, encTask]
  refine (Implies_spec t f g tok tok' _ ht hf hg h16).mono ?_
  rintro r _ ⟨rfl, h⟩
  have key : ∀ (f g : List (List FLit)) (r : AV), (∀ a : Int → Bool, formT a f = formT a g) → ((fineE t [f, g] ≠ 0 ∧ r = .tuple [.bool false, .slice .nil [], .int .i64 (fineE t [f, g])]) ∨ (fineE t [f, g] = 0 ∧ ImpPost t.facts.length f g r)) →
      (∃ c, c ≠ 0 ∧ r = .tuple [.bool false, .slice .nil [], .int .i64 c]) ∨ r = .tuple [.bool true, .slice .nil [], .int .i64 0] := by
    rintro f g r hfg (⟨h1, rfl⟩ | ⟨_, ⟨rfl, _⟩ | ⟨s, _, _, rfl, h3, h4⟩⟩)
    · exact .inl ⟨_, h1, rfl⟩
    · exact .inr rfl
    · rw [formHolds_T] at h3 h4
      rw [hfg, h4] at h3; simp at h3
  have k1 := key f g r hfg h
  have h2 : ∀ r, _ → _ := fun r => key g f r (fun a => (hfg a).symm)
  rcases k1 with ⟨c, hc, rfl⟩ | rfl
  · simp only [go_sem, Int.reduceToNat, Int.reduceLE, Int.reduceLT, Nat.reduceBEq, Nat.reduceLT, Nat.reduceAdd, Nat.reduceLeDiff, encTask]
    refine (Implies_spec t g f tok' tok _ ht hg hf h16).mono ?_
    rintro r _ ⟨rfl, h⟩
    have hc' : (c != 0) = true := by simpa using hc
    rcases h2 r h with ⟨d, hd, rfl⟩ | rfl
    · simp only [go_sem, Int.reduceToNat, Int.reduceLE, Int.reduceLT, Nat.reduceBEq, Nat.reduceLT, Nat.reduceAdd, Nat.reduceLeDiff, hc']
      first | exact rtk (.bool true) ⟨rfl, rfl⟩ | exact rtk0 (.bool true) ⟨rfl, rfl⟩
    · simp only [go_sem, Int.reduceToNat, Int.reduceLE, Int.reduceLT, Nat.reduceBEq, Nat.reduceLT, Nat.reduceAdd, Nat.reduceLeDiff, hc']
      first | exact rtk (.bool true) ⟨rfl, rfl⟩ | exact rtk0 (.bool true) ⟨rfl, rfl⟩
  · simp only [go_sem, Int.reduceToNat, Int.reduceLE, Int.reduceLT, Nat.reduceBEq, Nat.reduceLT, Nat.reduceAdd, Nat.reduceLeDiff, encTask]
    refine (Implies_spec t g f tok' tok _ ht hg hf h16).mono ?_
    rintro r _ ⟨rfl, h⟩
    rcases h2 r h with ⟨d, hd, rfl⟩ | rfl
    · have hd' : (d != 0) = true := by simpa using hd
      simp only [go_sem, Int.reduceToNat, Int.reduceLE, Int.reduceLT, Nat.reduceBEq, Nat.reduceLT, Nat.reduceAdd, Nat.reduceLeDiff, hd']
      first | exact rtk (.bool true) ⟨rfl, rfl⟩ | exact rtk0 (.bool true) ⟨rfl, rfl⟩
    · simp only [go_sem, Int.reduceToNat, Int.reduceLE, Int.reduceLT, Nat.reduceBEq, Nat.reduceLT, Nat.reduceAdd, Nat.reduceLeDiff]
      first | exact rtk (.bool true) ⟨rfl, rfl⟩ | exact rtk0 (.bool true) ⟨rfl, rfl⟩
/-- Does a list of actions lead to the goal? -/
def runsB (t : FTask) : List Int → List Int → Bool
  | s, [] => condHolds s t.goal
  | s, n :: p => match t.actions[n.toNat]? with
    | some a => condHolds s a.pre && runsB t (afterL t.facts.length s a) p
    | none => false
theorem runs_stk {t : FTask} (he : EOk t) {s p : List Int} (hs : risingB t.facts.length (-1) s = true) : ∀ k, k ≤ stopN t s p → runsB t s p = runsB t (stk t s p k) (p.drop k)
  | 0, _ => rfl
  | k + 1, hk => by
    rw [runs_stk he hs k (by omega)]
    obtain ⟨h1, h2⟩ := stopN_lt.1 (show k < stopN t s p by omega)
    have hc := h2 k (Nat.le_refl _)
    obtain ⟨n, hn⟩ := get_ex h1
    unfold canB at hc
    rw [hn, Option.bind_some] at hc
    cases ha : t.actions[n.toNat]? with
    | none => rw [ha] at hc; simp at hc
    | some a =>
      rw [ha] at hc
      rw [stk_next he hs hn ha, drop_cons hn, runsB, ha]
      simp only at hc ⊢
      rw [hc, Bool.true_and]
theorem runs_stop {t : FTask} (he : EOk t) {s p : List Int} (hs : risingB t.facts.length (-1) s = true) :
    runsB t s p = (decide (stopN t s p = p.length) && condHolds (stk t s p (stopN t s p)) t.goal) := by
  rw [runs_stk he hs _ (Nat.le_refl _)]
  have hle := stopN_le t s p
  by_cases h : stopN t s p = p.length
  · rw [decide_eq_true h, Bool.true_and, List.drop_of_length_le (by omega), runsB]
  · rw [decide_eq_false h, Bool.false_and]
    obtain ⟨n, hn⟩ := get_ex (show stopN t s p < p.length by omega)
    rw [drop_cons hn, runsB]
    cases ha : t.actions[n.toNat]? with
    | none => rfl
    | some a =>
      simp only
      have hcb : canB t s p (stopN t s p) = condHolds (stk t s p (stopN t s p)) a.pre := by unfold canB; rw [hn, Option.bind_some, ha]
      cases hc : condHolds (stk t s p (stopN t s p)) a.pre
      · rfl
      · have := stopN_yes (Nat.le_refl _) (show stopN t s p < p.length by omega) (hcb.trans hc)
        omega
theorem upTo_some {f h : List (List FLit)} (e : upTo (some f) = some h) : h = f ∧ f.length ≤ 400 := by
  simp only [upTo] at e
  split at e
  · injection e with e; exact ⟨e.symm, ‹_›⟩
  · simp at e
theorem taskSize_acts7 {t : FTask} (h : taskSize t ≤ 400) : t.actions.length ≤ 400 := by unfold taskSize at h; omega
theorem valid_rng {t : FTask} (h : validB t = true) {a : FAct} (ha : a ∈ t.actions) : ∀ e ∈ a.effects, 0 ≤ e.lit.fact ∧ e.lit.fact < (t.facts.length : Int) := by
  simp only [validB, Bool.and_eq_true] at h
  have := List.all_eq_true.1 h.2.2.2.2.2.2 a ha
  simp only [actB, Bool.and_eq_true, decide_eq_true_eq] at this
  intro e he
  have h5 := List.all_eq_true.1 this.2.2.2.2 e he
  simp only [effB, Bool.and_eq_true, decide_eq_true_eq] at h5
  exact ⟨h5.2.1, h5.2.2⟩
def d_law_0 : List COp := [⟨some 192, .load (some 4) (.tmp 6), none, []⟩, ⟨some 193, .move (.tmp 5), none, []⟩, ⟨some 194, .move (.tmp 30), none, []⟩, ⟨some 195, .iaddr 1 (.tmp 193) (.tmp 194), none, [1, 2]⟩, ⟨some 196, .load none (.tmp 195), none, [3]⟩, ⟨some 197, .move (.tmp 29), none, []⟩, ⟨some 198, .call (.lit (.func 15 [])) [.tmp 192, .tmp 196, .tmp 197], none, [0, 4, 5]⟩, ⟨some 191, .move (.tmp 198), none, [6]⟩, ⟨some 199, .extract (.tmp 191) 0, none, [7]⟩, ⟨some 200, .extract (.tmp 191) 1, none, [7]⟩, ⟨some 31, .move (.tmp 199), none, [8, 6, 0, 1, 2, 3, 4, 5, 6, 7, 8]⟩, ⟨some 32, .move (.tmp 200), none, [9, 10, 0, 1, 2, 3, 4, 5, 6, 7, 8, 9, 10]⟩]
theorem dr_law_0 (P : Program) (nt n0 : Nat) (Q : Post) (s : Slots) (σ : Store) : wpc P nt n0 (.draw d_law_0) Q s σ = aOpsD P nt [⟨some 192, .load (some 4) (.tmp 6), none, []⟩, ⟨some 193, .move (.tmp 5), none, []⟩, ⟨some 194, .move (.tmp 30), none, []⟩, ⟨some 195, .iaddr 1 (.tmp 193) (.tmp 194), none, [1, 2]⟩, ⟨some 196, .load none (.tmp 195), none, [3]⟩, ⟨some 197, .move (.tmp 29), none, []⟩, ⟨some 198, .call (.lit (.func 15 [])) [.tmp 192, .tmp 196, .tmp 197], none, [0, 4, 5]⟩, ⟨some 191, .move (.tmp 198), none, [6]⟩, ⟨some 199, .extract (.tmp 191) 0, none, [7]⟩, ⟨some 200, .extract (.tmp 191) 1, none, [7]⟩, ⟨some 31, .move (.tmp 199), none, [8, 6, 0, 1, 2, 3, 4, 5, 6, 7, 8]⟩, ⟨some 32, .move (.tmp 200), none, [9, 10, 0, 1, 2, 3, 4, 5, 6, 7, 8, 9, 10]⟩] (Q .normal) s σ := wpc_draw _ (by decide)
def r_law_1 : CCode := .seq (.ghost (.ops [⟨some 181, .faddr 2 (.tmp 6), none, []⟩, ⟨some 182, .load none (.tmp 181), none, []⟩, ⟨some 183, .bsliceC 1 [.tmp 182], none, []⟩, ⟨some 29, .move (.tmp 183), none, []⟩])) (.seq (.seq (.ops [⟨some 184, .move (.tmp 5), none, []⟩, ⟨some 185, .blen 1 (.tmp 184), none, []⟩, ⟨some 186, .bin .sub .none (.tmp 185) (.lit (.int .i64 1)), none, []⟩, ⟨some 30, .move (.tmp 186), none, []⟩]) (.block 0 (.loop (.seq (.seq (.ops [⟨some 187, .move (.tmp 30), none, []⟩, ⟨some 188, .bin .geq .none (.tmp 187) (.lit (.int .i64 0)), none, []⟩]) (.cond (.tmp 188) .skip (.exit 0))) (.seq (.block 1 (.seq (.draw d_law_0) (.seq (.seq (.ops [⟨some 201, .move (.tmp 32), none, []⟩, ⟨some 202, .bin .neq .none (.tmp 201) (.lit (.int .i64 0)), none, []⟩]) (.cond (.tmp 202) (.seq (.ops [⟨some 203, .call (.lit (.func 6 [])) [], none, []⟩, ⟨some 12, .move (.tmp 203), none, []⟩]) .ret) .skip)) (.ops [⟨some 204, .move (.tmp 31), none, []⟩, ⟨some 29, .move (.tmp 204), none, []⟩])))) (.ops [⟨some 189, .move (.tmp 30), none, []⟩, ⟨some 190, .bin .sub .none (.tmp 189) (.lit (.int .i64 1)), none, []⟩, ⟨some 30, .move (.tmp 190), none, []⟩])))))) (.seq (.ops [⟨some 206, .load (some 4) (.tmp 6), none, []⟩, ⟨some 207, .move (.tmp 4), none, []⟩, ⟨some 208, .move (.tmp 29), none, []⟩, ⟨some 209, .call (.lit (.func 7 [])) [.tmp 206, .tmp 207, .tmp 208], none, []⟩, ⟨some 205, .move (.tmp 209), none, []⟩, ⟨some 210, .extract (.tmp 205) 0, none, []⟩, ⟨some 211, .extract (.tmp 205) 1, none, []⟩, ⟨some 33, .move (.tmp 210), none, []⟩, ⟨some 14, .move (.tmp 211), none, []⟩]) (.seq (.seq (.ops [⟨some 212, .move (.tmp 14), none, []⟩, ⟨some 213, .bin .neq .none (.tmp 212) (.lit (.int .i64 0)), none, []⟩]) (.cond (.tmp 213) (.seq (.ops [⟨some 214, .call (.lit (.func 6 [])) [], none, []⟩, ⟨some 12, .move (.tmp 214), none, []⟩]) .ret) .skip)) (.seq (.ops [⟨some 216, .load (some 4) (.tmp 6), none, []⟩, ⟨some 217, .move (.tmp 4), none, []⟩, ⟨some 218, .move (.tmp 5), none, []⟩, ⟨some 219, .call (.lit (.func 20 [])) [.tmp 216, .tmp 217, .tmp 218], none, []⟩, ⟨some 215, .move (.tmp 219), none, []⟩, ⟨some 220, .extract (.tmp 215) 0, none, []⟩, ⟨some 221, .extract (.tmp 215) 1, none, []⟩, ⟨some 222, .extract (.tmp 215) 2, none, []⟩, ⟨some 34, .alloc (.agg [.slice .nil [], .int .i64 0, .bool false]), none, []⟩, ⟨none, .store 3 (.tmp 34) (.tmp 220), none, []⟩, ⟨some 35, .move (.tmp 221), none, []⟩, ⟨some 14, .move (.tmp 222), none, []⟩]) (.seq (.ops [⟨some 223, .move (.tmp 14), none, []⟩, ⟨some 224, .bin .eql .none (.tmp 223) (.lit (.int .i64 0)), none, []⟩, ⟨some 225, .move (.tmp 224), none, []⟩, ⟨some 226, .move (.tmp 33), some (some 225, true), []⟩, ⟨some 227, .move (.tmp 35), some (some 225, true), []⟩, ⟨some 228, .bin .lss .none (.tmp 227) (.lit (.int .i64 0)), some (some 225, true), []⟩, ⟨some 229, .move (.tmp 228), some (some 225, true), []⟩, ⟨some 230, .faddr 2 (.tmp 34), some (some 229, true), []⟩, ⟨some 231, .load none (.tmp 230), some (some 229, true), []⟩, ⟨some 232, .pick (.tmp 229) (.tmp 231) (.lit (.bool false)), some (some 225, true), []⟩, ⟨some 233, .bin .eql .bool (.tmp 226) (.tmp 232), some (some 225, true), []⟩, ⟨some 234, .pick (.tmp 225) (.tmp 233) (.lit (.bool false)), none, []⟩, ⟨some 235, .move (.tmp 234), none, []⟩, ⟨some 236, .call (.lit (.func 6 [])) [], some (some 235, true), []⟩, ⟨some 237, .pick (.tmp 235) (.tmp 236) (.lit (.bool false)), none, []⟩, ⟨some 12, .move (.tmp 237), none, []⟩]) .ret)))))
def r_law_0 : CCode := .seq (.ghost (.ops [⟨some 137, .load (some 4) (.tmp 6), none, []⟩, ⟨some 138, .move (.tmp 1), none, []⟩, ⟨some 139, .move (.tmp 2), none, []⟩, ⟨some 140, .call (.lit (.func 18 [])) [.tmp 137, .tmp 138, .tmp 139], none, []⟩, ⟨some 136, .move (.tmp 140), none, []⟩, ⟨some 141, .extract (.tmp 136) 0, none, []⟩, ⟨some 142, .extract (.tmp 136) 1, none, []⟩, ⟨some 23, .move (.tmp 141), none, []⟩, ⟨some 14, .move (.tmp 142), none, []⟩])) (.seq (.ops [⟨some 144, .load (some 4) (.tmp 6), none, []⟩, ⟨some 145, .move (.tmp 2), none, []⟩, ⟨some 146, .call (.lit (.func 19 [])) [.tmp 144, .tmp 145], none, []⟩, ⟨some 143, .move (.tmp 146), none, []⟩, ⟨some 147, .extract (.tmp 143) 0, none, []⟩, ⟨some 148, .extract (.tmp 143) 1, none, []⟩, ⟨some 24, .move (.tmp 147), none, []⟩, ⟨some 16, .move (.tmp 148), none, []⟩]) (.seq (.seq (.ops [⟨some 149, .move (.tmp 14), none, []⟩, ⟨some 150, .bin .eql .none (.tmp 149) (.lit (.int .i64 0)), none, []⟩, ⟨some 151, .move (.tmp 150), none, []⟩, ⟨some 152, .move (.tmp 16), some (some 151, true), []⟩, ⟨some 153, .bin .eql .none (.tmp 152) (.lit (.int .i64 0)), some (some 151, true), []⟩, ⟨some 154, .pick (.tmp 151) (.tmp 153) (.lit (.bool false)), none, []⟩]) (.cond (.tmp 154) (.seq (.ops [⟨some 156, .load (some 4) (.tmp 6), none, []⟩, ⟨some 157, .move (.tmp 23), none, []⟩, ⟨some 158, .call (.lit (.func 19 [])) [.tmp 156, .tmp 157], none, []⟩, ⟨some 155, .move (.tmp 158), none, []⟩, ⟨some 159, .extract (.tmp 155) 0, none, []⟩, ⟨some 160, .extract (.tmp 155) 1, none, []⟩, ⟨some 25, .move (.tmp 159), none, []⟩, ⟨some 26, .move (.tmp 160), none, []⟩]) (.seq (.ops [⟨some 162, .load (some 4) (.tmp 6), none, []⟩, ⟨some 163, .move (.tmp 1), none, []⟩, ⟨some 164, .move (.tmp 24), none, []⟩, ⟨some 165, .call (.lit (.func 15 [])) [.tmp 162, .tmp 163, .tmp 164], none, []⟩, ⟨some 161, .move (.tmp 165), none, []⟩, ⟨some 166, .extract (.tmp 161) 0, none, []⟩, ⟨some 167, .extract (.tmp 161) 1, none, []⟩, ⟨some 27, .move (.tmp 166), none, []⟩, ⟨some 28, .move (.tmp 167), none, []⟩]) (.seq (.ops [⟨some 168, .move (.tmp 26), none, []⟩, ⟨some 169, .bin .eql .none (.tmp 168) (.lit (.int .i64 0)), none, []⟩, ⟨some 170, .move (.tmp 169), none, []⟩, ⟨some 171, .move (.tmp 28), some (some 170, true), []⟩, ⟨some 172, .bin .eql .none (.tmp 171) (.lit (.int .i64 0)), some (some 170, true), []⟩, ⟨some 173, .pick (.tmp 170) (.tmp 172) (.lit (.bool false)), none, []⟩, ⟨some 174, .move (.tmp 173), none, []⟩, ⟨some 175, .load (some 4) (.tmp 6), some (some 174, true), []⟩, ⟨some 176, .move (.tmp 25), some (some 174, true), []⟩, ⟨some 177, .move (.tmp 27), some (some 174, true), []⟩, ⟨some 178, .call (.lit (.func 17 [])) [.tmp 175, .tmp 176, .tmp 177], some (some 174, true), []⟩, ⟨some 179, .un .not (.tmp 178), some (some 174, true), []⟩, ⟨some 180, .pick (.tmp 174) (.tmp 179) (.lit (.bool false)), none, []⟩]) (.cond (.tmp 180) (.seq (.ops [⟨some 12, .move (.lit (.bool false)), none, []⟩]) .ret) .skip)))) .skip)) r_law_1))
def c_law : CCode := .seq (.ops [⟨some 6, .box (.tmp 0), none, []⟩, ⟨some 12, .move (.lit (.bool false)), none, []⟩]) (.seq (.seq (.ops [⟨some 36, .load (some 4) (.tmp 6), none, []⟩, ⟨some 37, .move (.tmp 2), none, []⟩, ⟨some 38, .move (.tmp 3), none, []⟩, ⟨some 39, .bsliceC 1 [.tmp 37, .tmp 38], none, []⟩, ⟨some 40, .call (.lit (.func 5 [])) [.tmp 36, .tmp 39], none, []⟩, ⟨some 41, .un .not (.tmp 40), none, []⟩, ⟨some 42, .move (.tmp 41), none, []⟩, ⟨some 43, .faddr 0 (.tmp 6), some (some 42, false), []⟩, ⟨some 44, .load none (.tmp 43), some (some 42, false), []⟩, ⟨some 45, .blen 1 (.tmp 44), some (some 42, false), []⟩, ⟨some 46, .bin .gtr .none (.tmp 45) (.lit (.int .i64 16)), some (some 42, false), []⟩, ⟨some 47, .pick (.tmp 42) (.lit (.bool true)) (.tmp 46), none, []⟩, ⟨some 48, .move (.tmp 47), none, []⟩, ⟨some 49, .move (.tmp 5), some (some 48, false), []⟩, ⟨some 50, .blen 1 (.tmp 49), some (some 48, false), []⟩, ⟨some 51, .bin .gtr .none (.tmp 50) (.lit (.int .i64 6)), some (some 48, false), []⟩, ⟨some 52, .pick (.tmp 48) (.lit (.bool true)) (.tmp 51), none, []⟩, ⟨some 53, .move (.tmp 52), none, []⟩, ⟨some 54, .move (.tmp 4), some (some 53, false), []⟩, ⟨some 55, .blen 1 (.tmp 54), some (some 53, false), []⟩, ⟨some 56, .bin .gtr .none (.tmp 55) (.lit (.int .i64 400)), some (some 53, false), []⟩, ⟨some 57, .pick (.tmp 53) (.lit (.bool true)) (.tmp 56), none, []⟩, ⟨some 58, .move (.tmp 57), none, []⟩, ⟨some 59, .load (some 4) (.tmp 6), some (some 58, false), []⟩, ⟨some 60, .move (.tmp 2), some (some 58, false), []⟩, ⟨some 61, .move (.tmp 3), some (some 58, false), []⟩, ⟨some 62, .bsliceC 1 [.tmp 60, .tmp 61], some (some 58, false), []⟩, ⟨some 63, .call (.lit (.func 9 [])) [.tmp 59, .tmp 62], some (some 58, false), []⟩, ⟨some 64, .bin .neq .none (.tmp 63) (.lit (.int .i64 0)), some (some 58, false), []⟩, ⟨some 65, .pick (.tmp 58) (.lit (.bool true)) (.tmp 64), none, []⟩, ⟨some 66, .move (.tmp 65), none, []⟩, ⟨some 67, .move (.tmp 1), some (some 66, false), []⟩, ⟨some 68, .bin .lss .none (.tmp 67) (.lit (.int .i64 0)), some (some 66, false), []⟩, ⟨some 69, .pick (.tmp 66) (.lit (.bool true)) (.tmp 68), none, []⟩, ⟨some 70, .move (.tmp 69), none, []⟩, ⟨some 71, .move (.tmp 1), some (some 70, false), []⟩, ⟨some 72, .faddr 3 (.tmp 6), some (some 70, false), []⟩, ⟨some 73, .load none (.tmp 72), some (some 70, false), []⟩, ⟨some 74, .blen 1 (.tmp 73), some (some 70, false), []⟩, ⟨some 75, .bin .geq .none (.tmp 71) (.tmp 74), some (some 70, false), []⟩, ⟨some 76, .pick (.tmp 70) (.lit (.bool true)) (.tmp 75), none, []⟩]) (.cond (.tmp 76) (.seq (.ops [⟨some 77, .call (.lit (.func 6 [])) [], none, []⟩, ⟨some 12, .move (.tmp 77), none, []⟩]) .ret) .skip)) (.seq (.ops [⟨some 79, .load (some 4) (.tmp 6), none, []⟩, ⟨some 80, .move (.tmp 1), none, []⟩, ⟨some 81, .move (.tmp 2), none, []⟩, ⟨some 82, .call (.lit (.func 15 [])) [.tmp 79, .tmp 80, .tmp 81], none, []⟩, ⟨some 78, .move (.tmp 82), none, []⟩, ⟨some 83, .extract (.tmp 78) 0, none, []⟩, ⟨some 84, .extract (.tmp 78) 1, none, []⟩, ⟨some 13, .move (.tmp 83), none, []⟩, ⟨some 14, .move (.tmp 84), none, []⟩]) (.seq (.ops [⟨some 86, .load (some 4) (.tmp 6), none, []⟩, ⟨some 87, .move (.tmp 1), none, []⟩, ⟨some 88, .move (.tmp 3), none, []⟩, ⟨some 89, .call (.lit (.func 15 [])) [.tmp 86, .tmp 87, .tmp 88], none, []⟩, ⟨some 85, .move (.tmp 89), none, []⟩, ⟨some 90, .extract (.tmp 85) 0, none, []⟩, ⟨some 91, .extract (.tmp 85) 1, none, []⟩, ⟨some 15, .move (.tmp 90), none, []⟩, ⟨some 16, .move (.tmp 91), none, []⟩]) (.seq (.ops [⟨some 93, .load (some 4) (.tmp 6), none, []⟩, ⟨some 94, .move (.tmp 2), none, []⟩, ⟨some 95, .move (.tmp 3), none, []⟩, ⟨some 96, .call (.lit (.func 16 [])) [.tmp 93, .tmp 94, .tmp 95], none, []⟩, ⟨some 92, .move (.tmp 96), none, []⟩, ⟨some 97, .extract (.tmp 92) 0, none, []⟩, ⟨some 98, .extract (.tmp 92) 1, none, []⟩, ⟨some 17, .move (.tmp 97), none, []⟩, ⟨some 18, .move (.tmp 98), none, []⟩]) (.seq (.seq (.ops [⟨some 99, .move (.tmp 14), none, []⟩, ⟨some 100, .bin .eql .none (.tmp 99) (.lit (.int .i64 0)), none, []⟩, ⟨some 101, .move (.tmp 100), none, []⟩, ⟨some 102, .move (.tmp 16), some (some 101, true), []⟩, ⟨some 103, .bin .eql .none (.tmp 102) (.lit (.int .i64 0)), some (some 101, true), []⟩, ⟨some 104, .pick (.tmp 101) (.tmp 103) (.lit (.bool false)), none, []⟩, ⟨some 105, .move (.tmp 104), none, []⟩, ⟨some 106, .move (.tmp 18), some (some 105, true), []⟩, ⟨some 107, .bin .eql .none (.tmp 106) (.lit (.int .i64 0)), some (some 105, true), []⟩, ⟨some 108, .pick (.tmp 105) (.tmp 107) (.lit (.bool false)), none, []⟩]) (.cond (.tmp 108) (.seq (.ops [⟨some 110, .load (some 4) (.tmp 6), none, []⟩, ⟨some 111, .move (.tmp 1), none, []⟩, ⟨some 112, .move (.tmp 17), none, []⟩, ⟨some 113, .call (.lit (.func 15 [])) [.tmp 110, .tmp 111, .tmp 112], none, []⟩, ⟨some 109, .move (.tmp 113), none, []⟩, ⟨some 114, .extract (.tmp 109) 0, none, []⟩, ⟨some 115, .extract (.tmp 109) 1, none, []⟩, ⟨some 19, .move (.tmp 114), none, []⟩, ⟨some 20, .move (.tmp 115), none, []⟩]) (.seq (.ops [⟨some 117, .load (some 4) (.tmp 6), none, []⟩, ⟨some 118, .move (.tmp 13), none, []⟩, ⟨some 119, .move (.tmp 15), none, []⟩, ⟨some 120, .call (.lit (.func 16 [])) [.tmp 117, .tmp 118, .tmp 119], none, []⟩, ⟨some 116, .move (.tmp 120), none, []⟩, ⟨some 121, .extract (.tmp 116) 0, none, []⟩, ⟨some 122, .extract (.tmp 116) 1, none, []⟩, ⟨some 21, .move (.tmp 121), none, []⟩, ⟨some 22, .move (.tmp 122), none, []⟩]) (.seq (.ops [⟨some 123, .move (.tmp 20), none, []⟩, ⟨some 124, .bin .eql .none (.tmp 123) (.lit (.int .i64 0)), none, []⟩, ⟨some 125, .move (.tmp 124), none, []⟩, ⟨some 126, .move (.tmp 22), some (some 125, true), []⟩, ⟨some 127, .bin .eql .none (.tmp 126) (.lit (.int .i64 0)), some (some 125, true), []⟩, ⟨some 128, .pick (.tmp 125) (.tmp 127) (.lit (.bool false)), none, []⟩, ⟨some 129, .move (.tmp 128), none, []⟩, ⟨some 130, .load (some 4) (.tmp 6), some (some 129, true), []⟩, ⟨some 131, .move (.tmp 19), some (some 129, true), []⟩, ⟨some 132, .move (.tmp 21), some (some 129, true), []⟩, ⟨some 133, .call (.lit (.func 17 [])) [.tmp 130, .tmp 131, .tmp 132], some (some 129, true), []⟩, ⟨some 134, .un .not (.tmp 133), some (some 129, true), []⟩, ⟨some 135, .pick (.tmp 129) (.tmp 134) (.lit (.bool false)), none, []⟩]) (.cond (.tmp 135) (.seq (.ops [⟨some 12, .move (.lit (.bool false)), none, []⟩]) .ret) .skip)))) .skip)) r_law_0)))))
set_option maxRecDepth 20000 in
set_option maxHeartbeats 4000000 in
theorem law_spec (t : FTask) (k : Int) (f g : List (List FLit)) (st p : List Int) (ht : TB t) (hf : FB f) (hg : FB g) (hs : okL okI st) (hp : okL okI p) (σ : Store) :
    ACalls Tryz.prog 4 [.agg (encTask t), .int .i64 k, .slice .unk (f.map encC), .slice .unk (g.map encC), .slice .unk (st.map Ahl.encI), .slice .unk (p.map Ahl.encI)] σ (isR (.bool true) σ) := by
  refine ACalls.intro (rs := [(.tmp 12)]) (by kernel_rfl) { own := [], ghosts := [11, 18], cold := [(1, 3), (1, 26), (18, 2)] } Tryz.func4 (c := Tryz.f4.body.getD .skip) (by kernel_rfl) (by decide) (by rw [show Tryz.f4.ntmps = 238 by kernel_rfl]; exact Nat.le_of_ble_eq_true rfl) (by kernel_rfl) ?_
  intro hσ hids
  rw [show comp Tryz.prog { own := [], ghosts := [11, 18], cold := [(1, 3), (1, 26), (18, 2)] } (Tryz.f4.body.getD .skip) = c_law by kernel_rfl, show Tryz.f4.ntmps = 238 by kernel_rfl]
  unfold c_law
  have hpl := hp.1
  have hsl := hs.1
  have hfs : ∀ x ∈ [f, g], FB x := by intro x hx; simp at hx; rcases hx with rfl | rfl <;> assumption
  have hrow : IdsS (σ ++ [AObj.row (encTask t)]).length (σ ++ [AObj.row (encTask t)]) := idsS_push hσ (idsO_row (ids_encTask t))
  simp only [encTask] at hrow
  simp only [go_sem, Int.reduceToNat, Int.reduceLE, Int.reduceLT, Nat.reduceBEq, Nat.reduceLT, Nat.reduceAdd, Nat.reduceLeDiff, dr_law_0, encTask]
  refine ACalls.is (ACalls.wk (few_spec t [f, g] .unk _ ht (by simp) hfs) (.cons (.refl _) (WkL.one (wk_two _ _ _ f g)))) ?_
  cases hfew : fewB t [f, g]
  · simp only [go_sem, Int.reduceToNat, Int.reduceLE, Int.reduceLT, Nat.reduceBEq, Nat.reduceLT, Nat.reduceAdd, Nat.reduceLeDiff, dr_law_0]
    refine (awake_spec _).is ?_
    simp only [go_sem, Int.reduceToNat, Int.reduceLE, Int.reduceLT, Nat.reduceBEq, Nat.reduceLT, Nat.reduceAdd, Nat.reduceLeDiff, dr_law_0]
    first | exact rtk (.bool true) ⟨rfl, rfl⟩ | exact rtk0 (.bool true) ⟨rfl, rfl⟩
  obtain ⟨hsz, hfz⟩ := fewB_size hfew
  by_cases h16 : (t.facts.length : Int) > 16
  · simp only [go_sem, Int.reduceToNat, Int.reduceLE, Int.reduceLT, Nat.reduceBEq, Nat.reduceLT, Nat.reduceAdd, Nat.reduceLeDiff, dr_law_0, h16, encTask]
    refine (awake_spec _).is ?_
    simp only [go_sem, Int.reduceToNat, Int.reduceLE, Int.reduceLT, Nat.reduceBEq, Nat.reduceLT, Nat.reduceAdd, Nat.reduceLeDiff, dr_law_0]
    first | exact rtk (.bool true) ⟨rfl, rfl⟩ | exact rtk0 (.bool true) ⟨rfl, rfl⟩
  by_cases h6 : (p.length : Int) > 6
  · simp only [go_sem, Int.reduceToNat, Int.reduceLE, Int.reduceLT, Nat.reduceBEq, Nat.reduceLT, Nat.reduceAdd, Nat.reduceLeDiff, dr_law_0, h16, h6, encTask]
    refine (awake_spec _).is ?_
    simp only [go_sem, Int.reduceToNat, Int.reduceLE, Int.reduceLT, Nat.reduceBEq, Nat.reduceLT, Nat.reduceAdd, Nat.reduceLeDiff, dr_law_0]
    first | exact rtk (.bool true) ⟨rfl, rfl⟩ | exact rtk0 (.bool true) ⟨rfl, rfl⟩
  by_cases h400 : (st.length : Int) > 400
  · simp only [go_sem, Int.reduceToNat, Int.reduceLE, Int.reduceLT, Nat.reduceBEq, Nat.reduceLT, Nat.reduceAdd, Nat.reduceLeDiff, dr_law_0, h16, h6, h400, encTask]
    refine (awake_spec _).is ?_
    simp only [go_sem, Int.reduceToNat, Int.reduceLE, Int.reduceLT, Nat.reduceBEq, Nat.reduceLT, Nat.reduceAdd, Nat.reduceLeDiff, dr_law_0]
    first | exact rtk (.bool true) ⟨rfl, rfl⟩ | exact rtk0 (.bool true) ⟨rfl, rfl⟩
  have hflt := fun σ => fault_spec t [f, g] .unk σ ht (by simp) hfs
  rw [← fineE_fault t [f, g] (by simp)] at hflt
  simp only [go_sem, Int.reduceToNat, Int.reduceLE, Int.reduceLT, Nat.reduceBEq, Nat.reduceLT, Nat.reduceAdd, Nat.reduceLeDiff, dr_law_0, h16, h6, h400, encTask]
  refine ACalls.is (ACalls.wk (hflt _) (.cons (.refl _) (WkL.one (wk_two _ _ _ f g)))) ?_
  by_cases h1 : ¬ fineE t [f, g] = 0
  · have h0 : (fineE t [f, g] != 0) = true := by simpa using h1
    simp only [go_sem, Int.reduceToNat, Int.reduceLE, Int.reduceLT, Nat.reduceBEq, Nat.reduceLT, Nat.reduceAdd, Nat.reduceLeDiff, dr_law_0, h0]
    refine (awake_spec _).is ?_
    simp only [go_sem, Int.reduceToNat, Int.reduceLE, Int.reduceLT, Nat.reduceBEq, Nat.reduceLT, Nat.reduceAdd, Nat.reduceLeDiff, dr_law_0]
    first | exact rtk (.bool true) ⟨rfl, rfl⟩ | exact rtk0 (.bool true) ⟨rfl, rfl⟩
  replace h1 := Decidable.not_not.1 h1
  rw [h1]
  by_cases hk0 : k < 0
  · simp only [go_sem, Int.reduceToNat, Int.reduceLE, Int.reduceLT, Nat.reduceBEq, Nat.reduceLT, Nat.reduceAdd, Nat.reduceLeDiff, dr_law_0, hk0]
    refine (awake_spec _).is ?_
    simp only [go_sem, Int.reduceToNat, Int.reduceLE, Int.reduceLT, Nat.reduceBEq, Nat.reduceLT, Nat.reduceAdd, Nat.reduceLeDiff, dr_law_0]
    first | exact rtk (.bool true) ⟨rfl, rfl⟩ | exact rtk0 (.bool true) ⟨rfl, rfl⟩
  by_cases hk1 : k ≥ t.actions.length
  · simp only [go_sem, Int.reduceToNat, Int.reduceLE, Int.reduceLT, Nat.reduceBEq, Nat.reduceLT, Nat.reduceAdd, Nat.reduceLeDiff, dr_law_0, hk0, hk1, encTask]
    refine (awake_spec _).is ?_
    simp only [go_sem, Int.reduceToNat, Int.reduceLE, Int.reduceLT, Nat.reduceBEq, Nat.reduceLT, Nat.reduceAdd, Nat.reduceLeDiff, dr_law_0]
    first | exact rtk (.bool true) ⟨rfl, rfl⟩ | exact rtk0 (.bool true) ⟨rfl, rfl⟩
  simp only [go_sem, Int.reduceToNat, Int.reduceLE, Int.reduceLT, Nat.reduceBEq, Nat.reduceLT, Nat.reduceAdd, Nat.reduceLeDiff, dr_law_0, hk0, hk1, encTask]
  obtain ⟨hn, hvd, lf, lg, vf, vg⟩ := fine_two h1
  have hn16 : t.facts.length ≤ 16 := by omega
  obtain ⟨a, hak⟩ : ∃ a, t.actions[k.toNat]? = some a := get_ex (by omega)
  have ham := List.mem_of_getElem? hak
  have hA := valid_act hvd ham
  have hga : t.actions.getD k.toNat ⟨.empty, 0, [], []⟩ = a := by rw [List.getD_eq_getElem?_getD, hak]; rfl
  have hreg := fun (f : List (List FLit)) (tok : Tok) (σ : Store) (hf : FB f) => Regress_spec t k f tok σ ht hf
  rw [hga] at hreg
  have hback : ∀ {f h : List (List FLit)}, vF t.facts.length f → backF a f = some h → vF t.facts.length h ∧ FB h := fun hf e => ⟨(backF_V hA hf e).1, vF_FB16 hn16 (by have := (backF_V hA hf e).2; omega) (backF_V hA hf e).1⟩
  -- behind the second part
  have hrest2 : ∀ S S', Ghost σ.length 238 S S' [(4, .slice .unk (st.map Ahl.encI)), (5, .slice .unk (p.map Ahl.encI)), (6, .ptr σ.length 0)] (σ ++ [.row (encTask t)]) → wpc Tryz.prog 238 σ.length r_law_1 (bodyK [.tmp 12] σ.length 238 (isR (.bool true) σ)) S S' := by
    intro S S' hgh
    unfold r_law_1
    simp only [go_sem, Int.reduceToNat, Int.reduceLE, Int.reduceLT, Nat.reduceBEq, Nat.reduceLT, Nat.reduceAdd, Nat.reduceLeDiff, dr_law_0]
    refine Gh.of hgh ?_
    simp only [go_sem, Int.reduceToNat, Int.reduceLE, Int.reduceLT, Nat.reduceBEq, Nat.reduceLT, Nat.reduceAdd, Nat.reduceLeDiff, dr_law_0, encTask]
    have hactB := taskSize_acts7 hsz
    have hAOk : ∀ b ∈ t.actions, AV_ t.facts.length b ∧ ∀ e ∈ b.effects, 0 ≤ e.lit.fact ∧ e.lit.fact < (t.facts.length : Int) := fun b hb => ⟨valid_act hvd hb, valid_rng hvd hb⟩
    have hcl : ∀ {c : List FLit}, cV t.facts.length c → c.length ≤ 1000 := fun hc => by
      rcases condB_len hc with rfl | q
      · simp
      · omega
    have hSB : SB t := ⟨by omega, ht.pre, fun b hb => by have := (hAOk b hb).1.many; omega, fun b hb e he => by have := hcl ((hAOk b hb).1.whens e he); omega⟩
    have hEO : EOk t := ⟨fun b hb => (hAOk b hb).2⟩
    have hvg : cV t.facts.length t.goal := by
      have := hvd
      unfold validB at this
      simp only [Bool.and_eq_true] at this
      exact this.2.2.2.1
    refine wpc_while (α := Nat × List (List FLit)) (fun q => [(4, .slice .unk (st.map Ahl.encI)), (5, .slice .unk (p.map Ahl.encI)), (6, .ptr σ.length 0), (29, .slice .unk (q.2.map encC)), (30, .int .i64 ((q.1 : Nat) - 1))]) (fun _ => σ ++ [.row (encTask t)])
      (fun q => q.1 ≤ p.length ∧ q.2.length ≤ 1000000 ∧ vF t.facts.length q.2 ∧ (∀ (i : Nat) n, q.1 ≤ i → p[i]? = some n → 0 ≤ n ∧ n < t.actions.length) ∧ ∀ s, formHolds s q.2 = runsB t s (p.drop q.1)) (fun q => q.1) (p.length, [t.goal]) ⟨Nat.le_refl _, by simp, by intro c hc; simp at hc; subst hc; exact hvg, fun i n h1 h2 => by have := lt_of_get h2; simp only at h1; omega, fun s => by rw [List.drop_of_length_le (Nat.le_refl _), runsB]; simp [formHolds]⟩ ?_ ?_
    · rw [show IntKind.i64.wrap ((p.length : Int) - 1) = (p.length : Int) - 1 from wrap_ok (by omega)]
      simp only [encTask]
      refine ghL hrow (h1 := ?_)
      simp only [TellW, lk, Nat.reduceBEq, cond_true, cond_false, and_true, List.length_cons, List.length_nil, Nat.reduceAdd]
      exact ⟨⟨.refl _, ids_map ids_encI _⟩, ⟨.refl _, ids_map ids_encI _⟩, ⟨.refl _, .ptr _ _ (by omega)⟩, ⟨.refl _, ids_map ids_encC _⟩, ⟨.refl _, .int _ _⟩⟩
    rintro ⟨j, R⟩ ⟨hj, hRl, hRv, hrng, hR⟩ K hK hE hRet
    have hRF : FB R := vF_FB16 hn16 hRl hRv
    simp only
    by_cases h : 0 < j
    · have hge : decide ((j : Int) - 1 ≥ 0) = true := decide_eq_true (by omega)
      have h00 : (0 : Int) ≤ (j : Int) - 1 := by omega
      have hjn : ((j : Int) - 1).toNat = j - 1 := by omega
      obtain ⟨n, hx⟩ := get_ex (show j - 1 < p.length by omega)
      have hreg := Regress_spec t n R .unk
      simp only [go_sem, Int.reduceToNat, Int.reduceLE, Int.reduceLT, Nat.reduceBEq, Nat.reduceLT, Nat.reduceAdd, Nat.reduceLeDiff, dr_law_0, hge, h00, hjn, hx, Ahl.encI, encTask]
      refine ⟨_, Regress_spec t n R .unk _ ht hRF, ?_⟩
      rcases retF_split (actE t n R) (backF (t.actions.getD n.toNat ⟨.empty, 0, [], []⟩) R) with ⟨c, hc, e⟩ | ⟨h2, e1, e2, e⟩
      · have hc' : (c != 0) = true := by simpa using hc
        rw [e]
        simp only [go_sem, Int.reduceToNat, Int.reduceLE, Int.reduceLT, Nat.reduceBEq, Nat.reduceLT, Nat.reduceAdd, Nat.reduceLeDiff, dr_law_0, hc']
        refine (awake_spec _).is ?_
        simp only [go_sem, Int.reduceToNat, Int.reduceLE, Int.reduceLT, Nat.reduceBEq, Nat.reduceLT, Nat.reduceAdd, Nat.reduceLeDiff, dr_law_0, hRet]
        first | exact rtk (.bool true) ⟨rfl, rfl⟩ | exact rtk0 (.bool true) ⟨rfl, rfl⟩
      · rw [e]
        simp only [go_sem, Int.reduceToNat, Int.reduceLE, Int.reduceLT, Nat.reduceBEq, Nat.reduceLT, Nat.reduceAdd, Nat.reduceLeDiff, dr_law_0, encTask]
        obtain ⟨q1, q2, q3⟩ := actE_zero e1
        obtain ⟨b, hb⟩ : ∃ b, t.actions[n.toNat]? = some b := get_ex (by omega)
        have hbm := List.mem_of_getElem? hb
        rw [show t.actions.getD n.toNat ⟨.empty, 0, [], []⟩ = b by rw [List.getD_eq_getElem?_getD, hb]; rfl] at e2
        obtain ⟨v1, v2⟩ := backF_V (hAOk b hbm).1 hRv e2
        have hwr : IntKind.i64.wrap ((j : Int) - 1 - 1) = ((j - 1 : Nat) : Int) - 1 := by rw [wrap_ok (by omega)]; omega
        refine hK _ _ (j - 1, h2) ⟨by simp only; omega, by simp only; omega, v1, ?_, ?_⟩ (by simp only; omega) ?_
        · intro i m hi hm
          simp only at hi
          by_cases hij : i = j - 1
          · subst hij; rw [hx] at hm; injection hm with hm; subst hm; exact ⟨q2, q3⟩
          · exact hrng i m (by omega) hm
        · intro s
          simp only
          rw [drop_cons hx, runsB, hb]
          simp only
          rw [show j - 1 + 1 = j by omega, ← hR, formHolds_T, afterL_T s b hRv, condHolds_term]
          exact backF_T _ e2
        · simp only [encTask]
          exact (by (try dsimp only); (try simp only [ hwr]); first | exact ghL (hrow) | exact ghL0 (hrow))
    · have hj0 : j = 0 := by omega
      subst hj0
      rw [List.drop_zero] at hR
      simp only [go_sem, Int.reduceToNat, Int.reduceLE, Int.reduceLT, Nat.reduceBEq, Nat.reduceLT, Nat.reduceAdd, Nat.reduceLeDiff, dr_law_0, hE, encTask]
      refine (rHolds_spec t st R .unk .unk _ ht (by omega) hRF).is ?_
      unfold rhR
      by_cases hst0 : ¬ stE t st = 0
      · have h0 : (stE t st != 0) = true := by simpa using hst0
        rw [if_neg hst0]
        simp only [go_sem, Int.reduceToNat, Int.reduceLE, Int.reduceLT, Nat.reduceBEq, Nat.reduceLT, Nat.reduceAdd, Nat.reduceLeDiff, dr_law_0, h0]
        refine (awake_spec _).is ?_
        simp only [go_sem, Int.reduceToNat, Int.reduceLE, Int.reduceLT, Nat.reduceBEq, Nat.reduceLT, Nat.reduceAdd, Nat.reduceLeDiff, dr_law_0]
        first | exact rtk (.bool true) ⟨rfl, rfl⟩ | exact rtk0 (.bool true) ⟨rfl, rfl⟩
      replace hst0 := Decidable.not_not.1 hst0
      rw [if_pos hst0]
      cases hfo : isForm t.facts.length R
      · rw [if_neg (by simp)]
        simp only [go_sem, Int.reduceToNat, Int.reduceLE, Int.reduceLT, Nat.reduceBEq, Nat.reduceLT, Nat.reduceAdd, Nat.reduceLeDiff, dr_law_0]
        refine (awake_spec _).is ?_
        simp only [go_sem, Int.reduceToNat, Int.reduceLE, Int.reduceLT, Nat.reduceBEq, Nat.reduceLT, Nat.reduceAdd, Nat.reduceLeDiff, dr_law_0]
        first | exact rtk (.bool true) ⟨rfl, rfl⟩ | exact rtk0 (.bool true) ⟨rfl, rfl⟩
      rw [if_pos rfl]
      simp only [go_sem, Int.reduceToNat, Int.reduceLE, Int.reduceLT, Nat.reduceBEq, Nat.reduceLT, Nat.reduceAdd, Nat.reduceLeDiff, dr_law_0, encTask]
      have hri : risingB t.facts.length (-1) st = true := by
        unfold stE at hst0
        rw [hvd, if_pos rfl] at hst0
        cases q : risingB t.facts.length (-1) st
        · rw [q] at hst0; simp at hst0
        · rfl
      have hpr : ∀ n ∈ p, 0 ≤ n ∧ n < t.actions.length := fun n hn => by
        obtain ⟨i, hi, e⟩ := List.mem_iff_getElem.1 hn
        exact hrng i n (Nat.zero_le _) (by rw [List.getElem?_eq_getElem hi, e])
      have hli : slistedB t p = true := by
        unfold slistedB
        rw [decide_eq_true (by omega), Bool.true_and, Bool.not_eq_true', List.any_eq_false]
        intro n hn
        have := hpr n hn
        unfold offB
        rw [decide_eq_false (by omega), decide_eq_false (by omega)]; simp
      refine (exec_spec t st p _ ht hSB (by omega) (by omega) (fun _ _ k => stk_ok hEO (by omega) hri k)).is ?_
      unfold execR
      rw [if_neg (by rw [hst0]; simp), if_neg (by rw [hli]; simp)]
      have hrs := runs_stop hEO (p := p) hri
      rw [hR, hrs]
      by_cases hstop : stopN t st p = p.length
      · rw [if_pos hstop, decide_eq_true hstop]
        have hbb : (condHolds (stk t st p (stopN t st p)) t.goal == condHolds (stk t st p (stopN t st p)) t.goal) = true := beq_self_eq_true _
        simp only [go_sem, Int.reduceToNat, Int.reduceLE, Int.reduceLT, Nat.reduceBEq, Nat.reduceLT, Nat.reduceAdd, Nat.reduceLeDiff, dr_law_0, Bool.true_and, hbb]
        refine (awake_spec _).is ?_
        simp only [go_sem, Int.reduceToNat, Int.reduceLE, Int.reduceLT, Nat.reduceBEq, Nat.reduceLT, Nat.reduceAdd, Nat.reduceLeDiff, dr_law_0]
        first | exact rtk (.bool true) ⟨rfl, rfl⟩ | exact rtk0 (.bool true) ⟨rfl, rfl⟩
      · rw [if_neg hstop, decide_eq_false hstop]
        have hlt0 : decide (((stopN t st p : Nat) : Int) < 0) = false := decide_eq_false (by omega)
        simp only [go_sem, Int.reduceToNat, Int.reduceLE, Int.reduceLT, Nat.reduceBEq, Nat.reduceLT, Nat.reduceAdd, Nat.reduceLeDiff, dr_law_0, Bool.false_and, hlt0]
        refine (awake_spec _).is ?_
        simp only [go_sem, Int.reduceToNat, Int.reduceLE, Int.reduceLT, Nat.reduceBEq, Nat.reduceLT, Nat.reduceAdd, Nat.reduceLeDiff, dr_law_0]
        first | exact rtk (.bool true) ⟨rfl, rfl⟩ | exact rtk0 (.bool true) ⟨rfl, rfl⟩
  -- behind the first part
  have hrest1 : ∀ S S', Ghost σ.length 238 S S' [(1, .int .i64 k), (2, .slice .unk (f.map encC)), (4, .slice .unk (st.map Ahl.encI)), (5, .slice .unk (p.map Ahl.encI)), (6, .ptr σ.length 0)] (σ ++ [.row (encTask t)]) → wpc Tryz.prog 238 σ.length r_law_0 (bodyK [.tmp 12] σ.length 238 (isR (.bool true) σ)) S S' := by
    intro S S' hgh
    unfold r_law_0
    simp only [go_sem, Int.reduceToNat, Int.reduceLE, Int.reduceLT, Nat.reduceBEq, Nat.reduceLT, Nat.reduceAdd, Nat.reduceLeDiff, dr_law_0]
    refine Gh.of hgh ?_
    simp only [go_sem, Int.reduceToNat, Int.reduceLE, Int.reduceLT, Nat.reduceBEq, Nat.reduceLT, Nat.reduceAdd, Nat.reduceLeDiff, dr_law_0, encTask]
    refine (Weakest_spec t k f .unk _ ht hf).is ?_
    rw [hga]
    rcases retF_split (actE t k f) (aheadF a f) with ⟨c, hc, e⟩ | ⟨K, _, eK, e⟩
    · have hc' : (c == 0) = false := by simpa using hc
      rw [e]
      simp only [go_sem, Int.reduceToNat, Int.reduceLE, Int.reduceLT, Nat.reduceBEq, Nat.reduceLT, Nat.reduceAdd, Nat.reduceLeDiff, dr_law_0, encTask]
      refine (Not_spec t f .unk _ ht hf).is ?_
      rcases retF_split (fineE t [f]) (negF f) with ⟨d, hd, e2⟩ | ⟨N, _, eN, e2⟩
      · rw [e2]
        simp only [go_sem, Int.reduceToNat, Int.reduceLE, Int.reduceLT, Nat.reduceBEq, Nat.reduceLT, Nat.reduceAdd, Nat.reduceLeDiff, dr_law_0, hc', encTask]
        exact hrest2 _ _ (by simp only [encTask]; exact (by (try dsimp only); first | exact ghL (hrow) | exact ghL0 (hrow)))
      · rw [e2]
        simp only [go_sem, Int.reduceToNat, Int.reduceLE, Int.reduceLT, Nat.reduceBEq, Nat.reduceLT, Nat.reduceAdd, Nat.reduceLeDiff, dr_law_0, hc', encTask]
        exact hrest2 _ _ (by simp only [encTask]; exact (by (try dsimp only); first | exact ghL (hrow) | exact ghL0 (hrow)))
    · rw [e]
      obtain ⟨rK, lK⟩ := aheadF_R (n := t.facts.length) (by omega) hA eK vf
      have vK := rK.V
      have fK : FB K := vF_FB16 hn16 (by omega) vK
      simp only [go_sem, Int.reduceToNat, Int.reduceLE, Int.reduceLT, Nat.reduceBEq, Nat.reduceLT, Nat.reduceAdd, Nat.reduceLeDiff, dr_law_0, encTask]
      refine (Not_spec t f .unk _ ht hf).is ?_
      rcases retF_split (fineE t [f]) (negF f) with ⟨d, hd, e2⟩ | ⟨N, _, eN, e2⟩
      · have hd' : (d == 0) = false := by simpa using hd
        rw [e2]
        simp only [go_sem, Int.reduceToNat, Int.reduceLE, Int.reduceLT, Nat.reduceBEq, Nat.reduceLT, Nat.reduceAdd, Nat.reduceLeDiff, dr_law_0, hd', encTask]
        exact hrest2 _ _ (by simp only [encTask]; exact (by (try dsimp only); first | exact ghL (hrow) | exact ghL0 (hrow)))
      · rw [e2]
        have vN := negF_V vf eN
        have fN : FB N := vF_FB16 hn16 (by have := negF_len eN; omega) vN
        simp only [go_sem, Int.reduceToNat, Int.reduceLE, Int.reduceLT, Nat.reduceBEq, Nat.reduceLT, Nat.reduceAdd, Nat.reduceLeDiff, dr_law_0, encTask]
        refine (Not_spec t K .unk _ ht fK).is ?_
        rcases retF_split (fineE t [K]) (negF K) with ⟨d, hd, e3⟩ | ⟨Z, _, eZ, e3⟩
        · have hd' : (d == 0) = false := by simpa using hd
          rw [e3]
          simp only [go_sem, Int.reduceToNat, Int.reduceLE, Int.reduceLT, Nat.reduceBEq, Nat.reduceLT, Nat.reduceAdd, Nat.reduceLeDiff, dr_law_0, encTask]
          refine (hreg N .unk _ fN).is ?_
          rcases retF_split (actE t k N) (backF a N) with ⟨d, hd, e4⟩ | ⟨U, _, eU, e4⟩
          · rw [e4]
            simp only [go_sem, Int.reduceToNat, Int.reduceLE, Int.reduceLT, Nat.reduceBEq, Nat.reduceLT, Nat.reduceAdd, Nat.reduceLeDiff, dr_law_0, hd', encTask]
            exact hrest2 _ _ (by simp only [encTask]; exact (by (try dsimp only); first | exact ghL (hrow) | exact ghL0 (hrow)))
          · rw [e4]
            simp only [go_sem, Int.reduceToNat, Int.reduceLE, Int.reduceLT, Nat.reduceBEq, Nat.reduceLT, Nat.reduceAdd, Nat.reduceLeDiff, dr_law_0, hd', encTask]
            exact hrest2 _ _ (by simp only [encTask]; exact (by (try dsimp only); first | exact ghL (hrow) | exact ghL0 (hrow)))
        · rw [e3]
          have vZ := negF_V vK eZ
          have fZ : FB Z := vF_FB16 hn16 (by have := negF_len eZ; omega) vZ
          simp only [go_sem, Int.reduceToNat, Int.reduceLE, Int.reduceLT, Nat.reduceBEq, Nat.reduceLT, Nat.reduceAdd, Nat.reduceLeDiff, dr_law_0, encTask]
          refine (hreg N .unk _ fN).is ?_
          rcases retF_split (actE t k N) (backF a N) with ⟨d, hd, e4⟩ | ⟨U, _, eU, e4⟩
          · have hd' : (d == 0) = false := by simpa using hd
            rw [e4]
            simp only [go_sem, Int.reduceToNat, Int.reduceLE, Int.reduceLT, Nat.reduceBEq, Nat.reduceLT, Nat.reduceAdd, Nat.reduceLeDiff, dr_law_0, hd', encTask]
            exact hrest2 _ _ (by simp only [encTask]; exact (by (try dsimp only); first | exact ghL (hrow) | exact ghL0 (hrow)))
          · rw [e4]
            obtain ⟨vU, fU⟩ := hback vN eU
            simp only [go_sem, Int.reduceToNat, Int.reduceLE, Int.reduceLT, Nat.reduceBEq, Nat.reduceLT, Nat.reduceAdd, Nat.reduceLeDiff, dr_law_0, encTask]
            refine (same_spec t Z U .unk .unk _ ht fZ fU hn16 (fun w => ?_)).is ?_
            · rw [negF_T w eZ, aheadF_T w (n := t.facts.length) (by omega) hA eK, backF_T w eU, negF_T (afterA w a) eN]
              cases termT w a.pre <;> cases formT (afterA w a) f <;> rfl
            simp only [go_sem, Int.reduceToNat, Int.reduceLE, Int.reduceLT, Nat.reduceBEq, Nat.reduceLT, Nat.reduceAdd, Nat.reduceLeDiff, dr_law_0, encTask]
            exact hrest2 _ _ (by simp only [encTask]; exact (by (try dsimp only); first | exact ghL (hrow) | exact ghL0 (hrow)))
  refine (hreg f .unk _ hf).is ?_
  rcases retF_split (actE t k f) (backF a f) with ⟨c, hc, e⟩ | ⟨X, _, eX, e⟩
  · have hc' : (c == 0) = false := by simpa using hc
    rw [e]
    simp only [go_sem, Int.reduceToNat, Int.reduceLE, Int.reduceLT, Nat.reduceBEq, Nat.reduceLT, Nat.reduceAdd, Nat.reduceLeDiff, dr_law_0, encTask]
    refine (hreg g .unk _ hg).is ?_
    rcases retF_split (actE t k g) (backF a g) with ⟨d, hd, e2⟩ | ⟨Y, _, eY, e2⟩ <;> rw [e2]
    · simp only [go_sem, Int.reduceToNat, Int.reduceLE, Int.reduceLT, Nat.reduceBEq, Nat.reduceLT, Nat.reduceAdd, Nat.reduceLeDiff, dr_law_0, encTask]
      refine (Or_spec t f g .unk .unk _ ht hf hg).is ?_
      rcases retF_split (fineE t [f, g]) (upTo (some (reducedL (f ++ g)))) with ⟨d, hd, e3⟩ | ⟨B, _, eB, e3⟩ <;> rw [e3]
      · simp only [go_sem, Int.reduceToNat, Int.reduceLE, Int.reduceLT, Nat.reduceBEq, Nat.reduceLT, Nat.reduceAdd, Nat.reduceLeDiff, dr_law_0, hc', encTask]
        exact hrest1 _ _ (by simp only [encTask]; exact (by (try dsimp only); first | exact ghL (hrow) | exact ghL0 (hrow)))
      · simp only [go_sem, Int.reduceToNat, Int.reduceLE, Int.reduceLT, Nat.reduceBEq, Nat.reduceLT, Nat.reduceAdd, Nat.reduceLeDiff, dr_law_0, hc', encTask]
        exact hrest1 _ _ (by simp only [encTask]; exact (by (try dsimp only); first | exact ghL (hrow) | exact ghL0 (hrow)))
    · simp only [go_sem, Int.reduceToNat, Int.reduceLE, Int.reduceLT, Nat.reduceBEq, Nat.reduceLT, Nat.reduceAdd, Nat.reduceLeDiff, dr_law_0, encTask]
      refine (Or_spec t f g .unk .unk _ ht hf hg).is ?_
      rcases retF_split (fineE t [f, g]) (upTo (some (reducedL (f ++ g)))) with ⟨d, hd, e3⟩ | ⟨B, _, eB, e3⟩ <;> rw [e3]
      · simp only [go_sem, Int.reduceToNat, Int.reduceLE, Int.reduceLT, Nat.reduceBEq, Nat.reduceLT, Nat.reduceAdd, Nat.reduceLeDiff, dr_law_0, hc', encTask]
        exact hrest1 _ _ (by simp only [encTask]; exact (by (try dsimp only); first | exact ghL (hrow) | exact ghL0 (hrow)))
      · simp only [go_sem, Int.reduceToNat, Int.reduceLE, Int.reduceLT, Nat.reduceBEq, Nat.reduceLT, Nat.reduceAdd, Nat.reduceLeDiff, dr_law_0, hc', encTask]
        exact hrest1 _ _ (by simp only [encTask]; exact (by (try dsimp only); first | exact ghL (hrow) | exact ghL0 (hrow)))
  obtain ⟨vX, fX⟩ := hback vf eX
  rw [e]
  simp only [go_sem, Int.reduceToNat, Int.reduceLE, Int.reduceLT, Nat.reduceBEq, Nat.reduceLT, Nat.reduceAdd, Nat.reduceLeDiff, dr_law_0, encTask]
  refine (hreg g .unk _ hg).is ?_
  rcases retF_split (actE t k g) (backF a g) with ⟨d, hd, e2⟩ | ⟨Y, _, eY, e2⟩ <;> rw [e2]
  · have hd' : (d == 0) = false := by simpa using hd
    simp only [go_sem, Int.reduceToNat, Int.reduceLE, Int.reduceLT, Nat.reduceBEq, Nat.reduceLT, Nat.reduceAdd, Nat.reduceLeDiff, dr_law_0, encTask]
    refine (Or_spec t f g .unk .unk _ ht hf hg).is ?_
    rcases retF_split (fineE t [f, g]) (upTo (some (reducedL (f ++ g)))) with ⟨d, hd, e3⟩ | ⟨B, _, eB, e3⟩ <;> rw [e3]
    · simp only [go_sem, Int.reduceToNat, Int.reduceLE, Int.reduceLT, Nat.reduceBEq, Nat.reduceLT, Nat.reduceAdd, Nat.reduceLeDiff, dr_law_0, hd', encTask]
      exact hrest1 _ _ (by simp only [encTask]; exact (by (try dsimp only); first | exact ghL (hrow) | exact ghL0 (hrow)))
    · simp only [go_sem, Int.reduceToNat, Int.reduceLE, Int.reduceLT, Nat.reduceBEq, Nat.reduceLT, Nat.reduceAdd, Nat.reduceLeDiff, dr_law_0, hd', encTask]
      exact hrest1 _ _ (by simp only [encTask]; exact (by (try dsimp only); first | exact ghL (hrow) | exact ghL0 (hrow)))
  obtain ⟨vY, fY⟩ := hback vg eY
  simp only [go_sem, Int.reduceToNat, Int.reduceLE, Int.reduceLT, Nat.reduceBEq, Nat.reduceLT, Nat.reduceAdd, Nat.reduceLeDiff, dr_law_0, encTask]
  refine (Or_spec t f g .unk .unk _ ht hf hg).is ?_
  rcases retF_split (fineE t [f, g]) (upTo (some (reducedL (f ++ g)))) with ⟨d, hd, e3⟩ | ⟨B, _, eB, e3⟩ <;> rw [e3]
  · have hd' : (d == 0) = false := by simpa using hd
    simp only [go_sem, Int.reduceToNat, Int.reduceLE, Int.reduceLT, Nat.reduceBEq, Nat.reduceLT, Nat.reduceAdd, Nat.reduceLeDiff, dr_law_0, hd', encTask]
    exact hrest1 _ _ (by simp only [encTask]; exact (by (try dsimp only); first | exact ghL (hrow) | exact ghL0 (hrow)))
  obtain ⟨rfl, lB⟩ := upTo_some eB
  have vB : vF t.facts.length (reducedL (f ++ g)) := reducedL_V (append_V vf vg)
  have fB := vF_FB16 hn16 (by omega) vB
  simp only [go_sem, Int.reduceToNat, Int.reduceLE, Int.reduceLT, Nat.reduceBEq, Nat.reduceLT, Nat.reduceAdd, Nat.reduceLeDiff, dr_law_0, encTask]
  refine (hreg _ .unk _ fB).is ?_
  rcases retF_split (actE t k (reducedL (f ++ g))) (backF a (reducedL (f ++ g))) with ⟨d, hd, e4⟩ | ⟨Z, _, eZ, e4⟩ <;> rw [e4]
  · have hd' : (d == 0) = false := by simpa using hd
    simp only [go_sem, Int.reduceToNat, Int.reduceLE, Int.reduceLT, Nat.reduceBEq, Nat.reduceLT, Nat.reduceAdd, Nat.reduceLeDiff, dr_law_0, encTask]
    refine (Or_spec t X Y .unk .unk _ ht fX fY).is ?_
    rcases retF_split (fineE t [X, Y]) (upTo (some (reducedL (X ++ Y)))) with ⟨d, hd, e5⟩ | ⟨U, _, eU, e5⟩ <;> rw [e5]
    · simp only [go_sem, Int.reduceToNat, Int.reduceLE, Int.reduceLT, Nat.reduceBEq, Nat.reduceLT, Nat.reduceAdd, Nat.reduceLeDiff, dr_law_0, hd', encTask]
      exact hrest1 _ _ (by simp only [encTask]; exact (by (try dsimp only); first | exact ghL (hrow) | exact ghL0 (hrow)))
    · simp only [go_sem, Int.reduceToNat, Int.reduceLE, Int.reduceLT, Nat.reduceBEq, Nat.reduceLT, Nat.reduceAdd, Nat.reduceLeDiff, dr_law_0, hd', encTask]
      exact hrest1 _ _ (by simp only [encTask]; exact (by (try dsimp only); first | exact ghL (hrow) | exact ghL0 (hrow)))
  obtain ⟨vZ, fZ⟩ := hback vB eZ
  simp only [go_sem, Int.reduceToNat, Int.reduceLE, Int.reduceLT, Nat.reduceBEq, Nat.reduceLT, Nat.reduceAdd, Nat.reduceLeDiff, dr_law_0, encTask]
  refine (Or_spec t X Y .unk .unk _ ht fX fY).is ?_
  rcases retF_split (fineE t [X, Y]) (upTo (some (reducedL (X ++ Y)))) with ⟨d, hd, e5⟩ | ⟨U, _, eU, e5⟩ <;> rw [e5]
  · have hd' : (d == 0) = false := by simpa using hd
    simp only [go_sem, Int.reduceToNat, Int.reduceLE, Int.reduceLT, Nat.reduceBEq, Nat.reduceLT, Nat.reduceAdd, Nat.reduceLeDiff, dr_law_0, hd', encTask]
    exact hrest1 _ _ (by simp only [encTask]; exact (by (try dsimp only); first | exact ghL (hrow) | exact ghL0 (hrow)))
  obtain ⟨rfl, lU⟩ := upTo_some eU
  have vU : vF t.facts.length (reducedL (X ++ Y)) := reducedL_V (append_V vX vY)
  simp only [go_sem, Int.reduceToNat, Int.reduceLE, Int.reduceLT, Nat.reduceBEq, Nat.reduceLT, Nat.reduceAdd, Nat.reduceLeDiff, dr_law_0, encTask]
  refine (same_spec t Z (reducedL (X ++ Y)) .unk .unk _ ht fZ (vF_FB16 hn16 (by omega) vU) hn16 (fun w => ?_)).is ?_
  · rw [backF_T w eZ, reducedL_T, reducedL_T, formT_app, formT_app, backF_T w eX, backF_T w eY]
    cases termT w a.pre <;> rfl
  simp only [go_sem, Int.reduceToNat, Int.reduceLE, Int.reduceLT, Nat.reduceBEq, Nat.reduceLT, Nat.reduceAdd, Nat.reduceLeDiff, dr_law_0, encTask]
  exact hrest1 _ _ (by simp only [encTask]; exact (by (try dsimp only); first | exact ghL (hrow) | exact ghL0 (hrow)))
theorem law_reads : ReadsAll Tryz.prog Tryz.f4.params.toList (fun avs => ACalls Tryz.prog 4 avs [] (isR (.bool true) [])) := by
  rw [show Tryz.f4.params.toList = [27, 3, 28, 28, 23, 23] by kernel_rfl]
  exact .cons ra_task fun t ht => .cons ra_int fun k hk => .cons ra_form fun f hf => .cons ra_form fun g hg => .cons ra_ints fun s hs => .cons ra_ints fun p hp => .nil (law_spec t k f g s p ht hf hg hs hp [])
set_option maxRecDepth 100000 in
theorem lifted (os : Os) (started : os.Started) (H : Type) (enc : TypeId × Value → H) :
    ReturnsInHanded {} Tryz.checked os 4 .any (Rows.regressLawsSpec.pre6 enc Tryz.prog Tryz.f4 Rows.regressLawsRow.domain false) (Rows.regressLawsSpec.post enc Tryz.prog Tryz.f4 false true false false) := by
  refine returnsInHanded_of_change_sized (C := Tryz.checked) own started (by kernel_rfl) Tryz.func4
    (ChangeSpec.witness6 (enc := enc) (C := Tryz.checked) false ⟨#[], #[.agg #[.slice none 0 0, .slice none 0 0, .slice none 0 0, .slice none 0 0], .int .i64 0, .slice none 0 0, .slice none 0 0, .slice none 0 0, .slice none 0 0], []⟩ 8 (by kernel_rfl) (by kernel_rfl) (by kernel_rfl) (by kernel_rfl)) ?_
  intro W base args ds gs before hval hW _ hsz _
  refine law_post (P := Tryz.prog) Tryz.func4 (by kernel_rfl) (by decide) rfl ?_ laidOut (rdble (by kernel_rfl)) (by kernel_rfl) Tryz.underlying4 law_reads hval hW hsz
  intro ds h
  rw [show Tryz.f4.params.size = 6 by kernel_rfl] at h
  match ds, h with
  | [a, b, c, d, e, f], _ => rfl
theorem holds : Rows.RegressLawsSaid :=
  OpenClaim.holds_of_wide 4 Tryz.f4 rfl rfl rfl rfl rfl rfl rfl ⟨rfl, rfl, rfl, rfl, rfl⟩ rfl rfl rfl rfl rfl (by kernel_rfl) Tryz.func4 (by kernel_rfl)
    (of_decide_eq_true (by kernel_rfl)) (by unfold Func.isWrapper; first | (rw [if_pos (by decide +kernel)]; kernel_rfl) | (rw [if_neg (by decide +kernel)]; exact ⟨rfl, rfl⟩))
    (fun os started H enc _ => lifted os started H enc)
end Go.Proofs.YtbnhijapbnfohaaGreat
