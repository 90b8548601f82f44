/- Contracts of the given program's functions, and an abstract layer over the model; no condition. -/
import Derived.Test.YtbnhijapbnfohaaGreatBase5
set_option linter.unusedVariables false
set_option linter.unusedSimpArgs false
namespace Go.Proofs.YtbnhijapbnfohaaGreat
open Go.Ahl
def c_idxS : CCode := .seq (.ops [⟨some 4, .move (.lit (.int .i64 0)), none, []⟩]) (.seq (.seq (.ops [⟨some 6, .move (.tmp 0), none, []⟩, ⟨some 7, .blen 1 (.tmp 6), none, []⟩, ⟨some 8, .move (.lit (.int .i64 0)), none, []⟩]) (.block 0 (.loop (.seq (.ops [⟨some 9, .bin .lss .none (.tmp 8) (.tmp 7), none, []⟩]) (.seq (.cond (.tmp 9) .skip (.exit 0)) (.seq (.block 1 (.seq (.ops [⟨some 10, .move (.tmp 8), none, []⟩, ⟨some 5, .move (.tmp 10), none, []⟩]) (.seq (.ops [⟨some 11, .move (.tmp 1), none, []⟩, ⟨some 12, .move (.tmp 0), none, []⟩, ⟨some 13, .move (.tmp 5), none, []⟩, ⟨some 14, .iaddr 1 (.tmp 12) (.tmp 13), none, []⟩, ⟨some 15, .load none (.tmp 14), none, []⟩, ⟨some 16, .call (.tmp 11) [.tmp 15], none, []⟩]) (.cond (.tmp 16) (.seq (.ops [⟨some 17, .move (.tmp 5), none, []⟩, ⟨some 4, .move (.tmp 17), none, []⟩]) .ret) .skip)))) (.ops [⟨some 18, .bin .add .none (.tmp 8) (.lit (.int .i64 1)), none, []⟩, ⟨some 8, .move (.tmp 18), none, []⟩]))))))) (.seq (.ops [⟨some 4, .move (.lit (.int .i64 (-1))), none, []⟩]) .ret))
set_option maxRecDepth 20000 in
theorem idxS_spec (l : List Int) (g : FuncId) (cap : List AV) (p : Int → Bool) (tok : Tok) (σ : Store) (hl : l.length ≤ 140737488355328)
    (hp : ∀ x ∈ l, ACalls Tryz.prog g (.int .i64 x :: cap) σ (isR (.bool (p x)) σ)) :
    ACalls Tryz.prog 87 [.slice tok (l.map Ahl.encI), .func g cap] σ (isR (.int .i64 (idxFrom p 0 l)) σ) := by
  refine ACalls.intro (rs := [(.tmp 4)]) (by kernel_rfl) { own := [], ghosts := [] } Tryz.func87 (c := Tryz.f87.body.getD .skip) (by kernel_rfl) (by decide) (by rw [show Tryz.f87.ntmps = 19 by kernel_rfl]; exact Nat.le_of_ble_eq_true rfl) (by kernel_rfl) ?_
  intro hσ hids
  rw [show comp Tryz.prog { own := [], ghosts := [] } (Tryz.f87.body.getD .skip) = c_idxS by kernel_rfl, show Tryz.f87.ntmps = 19 by kernel_rfl]
  unfold c_idxS
  have hil : Ids σ.length (.slice tok (l.map Ahl.encI)) := hids _ (by simp)
  have hif : Ids σ.length (.func g cap) := hids _ (by simp)
  simp only [go_sem, Int.reduceToNat, Int.reduceLE, Int.reduceLT, Nat.reduceBEq, Nat.reduceLT, Nat.reduceAdd, Nat.reduceLeDiff]
  refine wpc_while (fun i => [(0, .slice tok (l.map Ahl.encI)), (1, .func g cap), (7, .int .i64 l.length), (8, .int .i64 (i : Nat))]) (fun _ => σ) (fun i => i ≤ l.length ∧ idxFrom p 0 l = idxFrom p i (l.drop i)) (fun i => l.length - i) 0 ⟨Nat.zero_le _, rfl⟩ (by (try dsimp only); first | exact ghk | exact ghk0) ?_
  rintro i ⟨hi, hv⟩ K hK hE hR
  by_cases h : i < l.length
  · obtain ⟨y, hx⟩ := get_ex h; have hlt : ((i : Int) < (l.length : Int)) := (by omega); have hw : IntKind.i64.wrap ((i : Int) + 1) = ((i + 1 : Nat) : Int) := (by rw [wrap_ok (by omega)]; omega)
    rw [drop_cons hx, idxFrom] at hv
    simp only [go_sem, Int.reduceToNat, Int.reduceLE, Int.reduceLT, Nat.reduceBEq, Nat.reduceLT, Nat.reduceAdd, Nat.reduceLeDiff, hlt, hx, Ahl.encI]
    refine (hp y (List.mem_of_getElem? hx)).is ?_
    cases h1 : p y
    · simp only [go_sem, Int.reduceToNat, Int.reduceLE, Int.reduceLT, Nat.reduceBEq, Nat.reduceLT, Nat.reduceAdd, Nat.reduceLeDiff]
      rw [h1, if_neg (by simp)] at hv
      refine hK _ _ (i + 1) (⟨by omega, by rw [hv]; norm_cast⟩) (by first | omega | (simp only []; omega) | (simp; omega)) ?_; (try dsimp only); (try simp only [ hw]); first | exact ghk | exact ghk0
    · rw [h1, if_pos rfl] at hv
      simp only [go_sem, Int.reduceToNat, Int.reduceLE, Int.reduceLT, Nat.reduceBEq, Nat.reduceLT, Nat.reduceAdd, Nat.reduceLeDiff, hR]
      first | exact rtk (.int .i64 i) ⟨by rw [hv], rfl⟩ | exact rtk0 (.int .i64 i) ⟨by rw [hv], rfl⟩
  · have hlt : ¬ ((i : Int) < (l.length : Int)) := by omega
    rw [drop_len h, idxFrom] at hv
    simp only [go_sem, Int.reduceToNat, Int.reduceLE, Int.reduceLT, Nat.reduceBEq, Nat.reduceLT, Nat.reduceAdd, Nat.reduceLeDiff, hlt, hE]
    first | exact rtk (.int .i64 (-1)) ⟨by rw [hv], rfl⟩ | exact rtk0 (.int .i64 (-1)) ⟨by rw [hv], rfl⟩
def c_contS : CCode := .seq (.ops [⟨some 4, .move (.lit (.bool false)), none, []⟩]) (.seq (.ops [⟨some 5, .move (.tmp 0), none, []⟩, ⟨some 6, .move (.tmp 1), none, []⟩, ⟨some 7, .call (.lit (.func 87 [])) [.tmp 5, .tmp 6], none, []⟩, ⟨some 8, .bin .geq .none (.tmp 7) (.lit (.int .i64 0)), none, []⟩, ⟨some 4, .move (.tmp 8), none, []⟩]) .ret)
set_option maxRecDepth 20000 in
theorem contS_spec (l : List Int) (g : FuncId) (cap : List AV) (p : Int → Bool) (tok : Tok) (σ : Store) (hl : l.length ≤ 140737488355328)
    (hp : ∀ x ∈ l, ACalls Tryz.prog g (.int .i64 x :: cap) σ (isR (.bool (p x)) σ)) :
    ACalls Tryz.prog 65 [.slice tok (l.map Ahl.encI), .func g cap] σ (isR (.bool (l.any p)) σ) := by
  refine ACalls.intro (rs := [(.tmp 4)]) (by kernel_rfl) { own := [], ghosts := [] } Tryz.func65 (c := Tryz.f65.body.getD .skip) (by kernel_rfl) (by decide) (by rw [show Tryz.f65.ntmps = 9 by kernel_rfl]; exact Nat.le_of_ble_eq_true rfl) (by kernel_rfl) ?_
  intro hσ hids
  rw [show comp Tryz.prog { own := [], ghosts := [] } (Tryz.f65.body.getD .skip) = c_contS by kernel_rfl, show Tryz.f65.ntmps = 9 by kernel_rfl]
  unfold c_contS
  simp only [go_sem, Int.reduceToNat, Int.reduceLE, Int.reduceLT, Nat.reduceBEq, Nat.reduceLT, Nat.reduceAdd, Nat.reduceLeDiff]
  refine (idxS_spec l g cap p tok σ hl hp).is ?_
  simp only [go_sem, Int.reduceToNat, Int.reduceLE, Int.reduceLT, Nat.reduceBEq, Nat.reduceLT, Nat.reduceAdd, Nat.reduceLeDiff, idxFrom_ge p l 0 (Int.le_refl _)]
  first | exact rtw (v := .bool _) wkS ⟨rfl, rfl⟩ | exact rtw0 (v := .bool _) wkS ⟨rfl, rfl⟩
def offB (t : FTask) (x : Int) : Bool := decide (x < 0) || decide (x ≥ t.actions.length)
def c_slisted1 : CCode := .seq (.ops [⟨some 3, .move (.lit (.bool false)), none, []⟩]) (.seq (.ops [⟨some 4, .move (.tmp 0), none, []⟩, ⟨some 5, .bin .lss .none (.tmp 4) (.lit (.int .i64 0)), none, []⟩, ⟨some 6, .move (.tmp 5), none, []⟩, ⟨some 7, .move (.tmp 0), some (some 6, false), []⟩, ⟨some 8, .faddr 3 (.tmp 1), some (some 6, false), []⟩, ⟨some 9, .load none (.tmp 8), some (some 6, false), []⟩, ⟨some 10, .blen 1 (.tmp 9), some (some 6, false), []⟩, ⟨some 11, .bin .geq .none (.tmp 7) (.tmp 10), some (some 6, false), []⟩, ⟨some 12, .pick (.tmp 6) (.lit (.bool true)) (.tmp 11), none, []⟩, ⟨some 3, .move (.tmp 12), none, []⟩]) .ret)
set_option maxRecDepth 20000 in
theorem slisted1_spec (t : FTask) (x : Int) (T : Nat) (σ : Store) (hT : σ[T]? = some (.row (encTask t))) :
    ACalls Tryz.prog 66 [.int .i64 x, .ptr T 0] σ (isR (.bool (offB t x)) σ) := by
  refine ACalls.intro (rs := [(.tmp 3)]) (by kernel_rfl) { own := [], ghosts := [] } Tryz.func66 (c := Tryz.f66.body.getD .skip) (by kernel_rfl) (by decide) (by rw [show Tryz.f66.ntmps = 13 by kernel_rfl]; exact Nat.le_of_ble_eq_true rfl) (by kernel_rfl) ?_
  intro hσ hids
  rw [show comp Tryz.prog { own := [], ghosts := [] } (Tryz.f66.body.getD .skip) = c_slisted1 by kernel_rfl, show Tryz.f66.ntmps = 13 by kernel_rfl]
  unfold c_slisted1
  have ht := lt_of_get hT
  cases h : decide (x < 0)
  · simp only [go_sem, Int.reduceToNat, Int.reduceLE, Int.reduceLT, Nat.reduceBEq, Nat.reduceLT, Nat.reduceAdd, Nat.reduceLeDiff, h, hT, encTask]
    first | exact rtw (v := .bool _) wkS ⟨by unfold offB; rw [h]; rfl, rfl⟩ | exact rtw0 (v := .bool _) wkS ⟨by unfold offB; rw [h]; rfl, rfl⟩
  · simp only [go_sem, Int.reduceToNat, Int.reduceLE, Int.reduceLT, Nat.reduceBEq, Nat.reduceLT, Nat.reduceAdd, Nat.reduceLeDiff, h, hT, encTask]
    first | exact rtw (v := .bool _) wkS ⟨by unfold offB; rw [h]; rfl, rfl⟩ | exact rtw0 (v := .bool _) wkS ⟨by unfold offB; rw [h]; rfl, rfl⟩
/-- May a list be executed at all? -/
def slistedB (t : FTask) (p : List Int) : Bool := decide (p.length ≤ 10000) && !(p.any (offB t))
def c_slisted : CCode := .seq (.ops [⟨some 2, .box (.tmp 0), none, []⟩, ⟨some 4, .move (.lit (.bool false)), none, []⟩]) (.seq (.ops [⟨some 5, .move (.tmp 1), none, []⟩, ⟨some 6, .blen 1 (.tmp 5), none, []⟩, ⟨some 7, .bin .leq .none (.tmp 6) (.lit (.int .i64 10000)), none, []⟩, ⟨some 8, .move (.tmp 7), none, []⟩, ⟨some 9, .move (.tmp 1), some (some 8, true), []⟩, ⟨some 10, .mkfunc 66 [.tmp 2], some (some 8, true), []⟩, ⟨some 11, .call (.lit (.func 65 [])) [.tmp 9, .tmp 10], some (some 8, true), []⟩, ⟨some 12, .un .not (.tmp 11), some (some 8, true), []⟩, ⟨some 13, .pick (.tmp 8) (.tmp 12) (.lit (.bool false)), none, []⟩, ⟨some 4, .move (.tmp 13), none, []⟩]) .ret)
set_option maxRecDepth 20000 in
theorem slisted_spec (t : FTask) (p : List Int) (σ : Store) (hp : p.length ≤ 1000000) :
    ACalls Tryz.prog 45 [.agg (encTask t), .slice .unk (p.map Ahl.encI)] σ (isR (.bool (slistedB t p)) σ) := by
  refine ACalls.intro (rs := [(.tmp 4)]) (by kernel_rfl) { own := [], ghosts := [] } Tryz.func45 (c := Tryz.f45.body.getD .skip) (by kernel_rfl) (by decide) (by rw [show Tryz.f45.ntmps = 14 by kernel_rfl]; exact Nat.le_of_ble_eq_true rfl) (by kernel_rfl) ?_
  intro hσ hids
  rw [show comp Tryz.prog { own := [], ghosts := [] } (Tryz.f45.body.getD .skip) = c_slisted by kernel_rfl, show Tryz.f45.ntmps = 14 by kernel_rfl]
  unfold c_slisted
  cases h : decide ((p.length : Int) ≤ 10000)
  · simp only [go_sem, Int.reduceToNat, Int.reduceLE, Int.reduceLT, Nat.reduceBEq, Nat.reduceLT, Nat.reduceAdd, Nat.reduceLeDiff, h, encTask]
    have : slistedB t p = false := by unfold slistedB; rw [show decide (p.length ≤ 10000) = false by rw [decide_eq_false_iff_not] at h ⊢; omega]; rfl
    first | exact rtw (v := .bool _) wkS ⟨by rw [this], rfl⟩ | exact rtw0 (v := .bool _) wkS ⟨by rw [this], rfl⟩
  · simp only [go_sem, Int.reduceToNat, Int.reduceLE, Int.reduceLT, Nat.reduceBEq, Nat.reduceLT, Nat.reduceAdd, Nat.reduceLeDiff, h, encTask]
    refine (contS_spec p _ _ (offB t) .unk _ (by omega) (fun x _ => slisted1_spec t x σ.length _ (by simp [encTask]))).is ?_
    simp only [go_sem, Int.reduceToNat, Int.reduceLE, Int.reduceLT, Nat.reduceBEq, Nat.reduceLT, Nat.reduceAdd, Nat.reduceLeDiff]
    have : slistedB t p = !(p.any (offB t)) := by unfold slistedB; rw [show decide (p.length ≤ 10000) = true by rw [decide_eq_true_eq] at h ⊢; omega]; rfl
    first | exact rtw (v := .bool _) wkS ⟨by rw [this], rfl⟩ | exact rtw0 (v := .bool _) wkS ⟨by rw [this], rfl⟩
/-- What Execute returns. -/
def execR (t : FTask) (s p : List Int) : AV :=
  if stE t s ≠ 0 then .tuple [.agg [.slice .nil [], .int .i64 0, .bool false], .int .i64 0, .int .i64 (stE t s)]
  else if slistedB t p = false then .tuple [.agg [.slice .nil [], .int .i64 0, .bool false], .int .i64 0, .int .i64 1]
  else .tuple [.agg [.slice .unk ((statesK t s p (stopN t s p)).map encL), .int .i64 (costK t p (stopN t s p)), .bool (condHolds (stk t s p (stopN t s p)) t.goal)], .int .i64 (if stopN t s p = p.length then -1 else (stopN t s p : Nat)), .int .i64 0]
def c_exec : CCode := .seq (.ops [⟨some 3, .box (.tmp 0), none, []⟩, ⟨some 6, .alloc (.agg [.slice .nil [], .int .i64 0, .bool false]), none, []⟩, ⟨some 7, .move (.lit (.int .i64 0)), none, []⟩, ⟨some 8, .move (.lit (.int .i64 0)), none, []⟩]) (.seq (.seq (.ops [⟨some 12, .load (some 4) (.tmp 3), none, []⟩, ⟨some 13, .move (.tmp 1), none, []⟩, ⟨some 14, .call (.lit (.func 25 [])) [.tmp 12, .tmp 13], none, []⟩, ⟨some 9, .move (.tmp 14), none, []⟩]) (.seq (.ops [⟨some 15, .move (.tmp 9), none, []⟩, ⟨some 16, .bin .neq .none (.tmp 15) (.lit (.int .i64 0)), none, []⟩]) (.cond (.tmp 16) (.seq (.ops [⟨some 17, .build [.slice .nil [], .int .i64 0, .bool false] [], none, []⟩, ⟨some 18, .move (.tmp 9), none, []⟩, ⟨none, .store 3 (.tmp 6) (.tmp 17), none, []⟩, ⟨some 7, .move (.lit (.int .i64 0)), none, []⟩, ⟨some 8, .move (.tmp 18), none, []⟩]) .ret) .skip))) (.seq (.seq (.ops [⟨some 19, .load (some 4) (.tmp 3), none, []⟩, ⟨some 20, .move (.tmp 2), none, []⟩, ⟨some 21, .call (.lit (.func 45 [])) [.tmp 19, .tmp 20], none, []⟩, ⟨some 22, .un .not (.tmp 21), none, []⟩]) (.cond (.tmp 22) (.seq (.ops [⟨some 23, .build [.slice .nil [], .int .i64 0, .bool false] [], none, []⟩, ⟨none, .store 3 (.tmp 6) (.tmp 23), none, []⟩, ⟨some 7, .move (.lit (.int .i64 0)), none, []⟩, ⟨some 8, .move (.lit (.int .i64 1)), none, []⟩]) .ret) .skip)) (.seq (.ops [⟨some 25, .load (some 4) (.tmp 3), none, []⟩, ⟨some 26, .move (.tmp 1), none, []⟩, ⟨some 27, .move (.tmp 2), none, []⟩, ⟨some 28, .call (.lit (.func 46 [])) [.tmp 25, .tmp 26, .tmp 27], none, []⟩, ⟨some 24, .move (.tmp 28), none, []⟩, ⟨some 29, .extract (.tmp 24) 0, none, []⟩, ⟨some 30, .extract (.tmp 24) 1, none, []⟩, ⟨some 10, .alloc (.agg [.slice .nil [], .int .i64 0, .bool false]), none, []⟩, ⟨none, .store 3 (.tmp 10) (.tmp 29), none, []⟩, ⟨some 11, .move (.tmp 30), none, []⟩]) (.seq (.ops [⟨some 31, .load (some 3) (.tmp 10), none, []⟩, ⟨some 32, .move (.tmp 11), none, []⟩, ⟨none, .store 3 (.tmp 6) (.tmp 31), none, []⟩, ⟨some 7, .move (.tmp 32), none, []⟩, ⟨some 8, .move (.lit (.int .i64 0)), none, []⟩]) .ret))))
set_option maxRecDepth 20000 in
theorem exec_spec (t : FTask) (s p : List Int) (σ : Store) (ht : TB t) (hb : SB t) (hl : s.length ≤ 140737488355328) (hpl : p.length ≤ 1000000)
    (hs : stE t s = 0 → (∀ n ∈ p, 0 ≤ n ∧ n < t.actions.length) → ∀ k, (stk t s p k).length ≤ 1000000 ∧ (stk t s p k).Pairwise (· < ·)) :
    ACalls Tryz.prog 20 [.agg (encTask t), .slice .unk (s.map Ahl.encI), .slice .unk (p.map Ahl.encI)] σ (isR (execR t s p) σ) := by
  refine ACalls.intro (rs := [(.cell (some 3) 6), (.tmp 7), (.tmp 8)]) (by kernel_rfl) { own := [], ghosts := [] } Tryz.func20 (c := Tryz.f20.body.getD .skip) (by kernel_rfl) (by decide) (by rw [show Tryz.f20.ntmps = 33 by kernel_rfl]; exact Nat.le_of_ble_eq_true rfl) (by kernel_rfl) ?_
  intro hσ hids
  rw [show comp Tryz.prog { own := [], ghosts := [] } (Tryz.f20.body.getD .skip) = c_exec by kernel_rfl, show Tryz.f20.ntmps = 33 by kernel_rfl]
  unfold c_exec
  have hids0 : Ids σ.length (.agg [.slice .nil [], .int .i64 0, .bool false]) := .agg _ fun j x hx => by match j, hx with | 0, hx => simp at hx; subst hx; exact ids_nil _ (by simp) | 1, hx => simp at hx; subst hx; exact .int _ _ | 2, hx => simp at hx; subst hx; exact .bool _
  have hfine := fun σ => sFine_spec t s .unk σ ht hl
  have hlist := fun σ => slisted_spec t p σ hpl
  simp only [encTask] at hfine hlist
  simp only [go_sem, Int.reduceToNat, Int.reduceLE, Int.reduceLT, Nat.reduceBEq, Nat.reduceLT, Nat.reduceAdd, Nat.reduceLeDiff, encTask]
  refine (hfine _).is ?_
  by_cases he : stE t s = 0
  · have h0 : (stE t s != 0) = false := by simp [he]
    simp only [go_sem, Int.reduceToNat, Int.reduceLE, Int.reduceLT, Nat.reduceBEq, Nat.reduceLT, Nat.reduceAdd, Nat.reduceLeDiff, h0]
    refine (hlist _).is ?_
    cases hli : slistedB t p
    · simp only [go_sem, Int.reduceToNat, Int.reduceLE, Int.reduceLT, Nat.reduceBEq, Nat.reduceLT, Nat.reduceAdd, Nat.reduceLeDiff]
      refine ret_cN3 (x := .int .i64 0) (y := .int .i64 1) (c0 := [.slice .nil [], .int .i64 0, .bool false]) (cells := [.slice .nil [], .int .i64 0, .bool false]) rfl (by simp) (by omega) (.refl _) rfl rfl rfl (by simp) hσ hids0 (.int _ _) (.int _ _) ⟨?_, rfl⟩
      simp [execR, he, hli]
    · simp only [go_sem, Int.reduceToNat, Int.reduceLE, Int.reduceLT, Nat.reduceBEq, Nat.reduceLT, Nat.reduceAdd, Nat.reduceLeDiff]
      have hp : ∀ n ∈ p, 0 ≤ n ∧ n < t.actions.length := by
        intro n hn
        simp only [slistedB, Bool.and_eq_true, decide_eq_true_eq, Bool.not_eq_true', List.any_eq_false] at hli
        have := hli.2 n hn
        simp only [offB, Bool.or_eq_true, decide_eq_true_eq] at this
        omega
      have hdone := fun σ => done_spec t s p σ hb ht.goal hp hpl (hs he hp)
      simp only [encTask, doneR] at hdone
      refine (hdone _).is ?_
      simp only [go_sem, Int.reduceToNat, Int.reduceLE, Int.reduceLT, Nat.reduceBEq, Nat.reduceLT, Nat.reduceAdd, Nat.reduceLeDiff]
      have hiu : Ids σ.length (.agg [.slice .unk ((statesK t s p (stopN t s p)).map encL), .int .i64 (costK t p (stopN t s p)), .bool (condHolds (stk t s p (stopN t s p)) t.goal)]) := .agg _ fun j x hx => by match j, hx with | 0, hx => simp at hx; subst hx; exact ids_map ids_encL _ | 1, hx => simp at hx; subst hx; exact .int _ _ | 2, hx => simp at hx; subst hx; exact .bool _
      refine ret_cN3 (x := .int .i64 (if stopN t s p = p.length then -1 else (stopN t s p : Nat))) (y := .int .i64 0) (c0 := [.slice .unk ((statesK t s p (stopN t s p)).map encL), .int .i64 (costK t p (stopN t s p)), .bool (condHolds (stk t s p (stopN t s p)) t.goal)]) (cells := [.slice .unk ((statesK t s p (stopN t s p)).map encL), .int .i64 (costK t p (stopN t s p)), .bool (condHolds (stk t s p (stopN t s p)) t.goal)]) rfl (by simp) (by omega) (.refl _) rfl rfl rfl (by simp) hσ hiu (.int _ _) (.int _ _) ⟨?_, rfl⟩
      simp [execR, he, hli]
  · have h0 : (stE t s != 0) = true := by simp [he]
    simp only [go_sem, Int.reduceToNat, Int.reduceLE, Int.reduceLT, Nat.reduceBEq, Nat.reduceLT, Nat.reduceAdd, Nat.reduceLeDiff, h0]
    refine ret_cN3 (x := .int .i64 0) (y := .int .i64 (stE t s)) (c0 := [.slice .nil [], .int .i64 0, .bool false]) (cells := [.slice .nil [], .int .i64 0, .bool false]) rfl (by simp) (by omega) (.refl _) rfl rfl rfl (by simp) hσ hids0 (.int _ _) (.int _ _) ⟨?_, rfl⟩
    simp [execR, he]
end Go.Proofs.YtbnhijapbnfohaaGreat
namespace Go.Proofs.YtbnhijapbnfohaaGreat
open Go.Ahl
theorem foldI_mem (p : FEff → Bool) (x : Int) : ∀ (es : List FEff) (l : List Int), x ∈ es.foldl (fun l e => if p e then insI l e.lit.fact else l) l ↔ x ∈ l ∨ ∃ e ∈ es, p e = true ∧ e.lit.fact = x
  | [], l => by simp
  | e :: es, l => by
    rw [List.foldl_cons, foldI_mem p x es]
    constructor
    · rintro (h | ⟨e', he, h⟩)
      · split at h
        · rcases insI_mem.1 h with h | rfl
          · exact .inl h
          · exact .inr ⟨e, List.mem_cons_self, ‹_›, rfl⟩
        · exact .inl h
      · exact .inr ⟨e', List.mem_cons_of_mem _ he, h⟩
    · rintro (h | ⟨e', he, h1, h2⟩)
      · left; split
        · exact insI_mem.2 (.inl h)
        · exact h
      · rcases List.mem_cons.1 he with rfl | he
        · left; rw [if_pos h1]; exact insI_mem.2 (.inr h2.symm)
        · exact .inr ⟨e', he, h1, h2⟩
theorem foldI_nodup (p : FEff → Bool) : ∀ (es : List FEff) (l : List Int), l.Nodup → (es.foldl (fun l e => if p e then insI l e.lit.fact else l) l).Nodup
  | [], l, h => h
  | e :: es, l, h => by
    rw [List.foldl_cons]
    refine foldI_nodup p es _ ?_
    split
    · exact insI_nodup h
    · exact h
theorem hits_iff (s : List Int) (neg : Bool) (es : List FEff) (i : Nat) : hits s neg es i = true ↔ ∃ e ∈ es, condHolds s e.when_ = true ∧ e.lit.neg = neg ∧ e.lit.fact = (i : Int) := by
  unfold hits
  rw [List.any_eq_true]
  constructor
  · rintro ⟨e, he, h⟩
    simp only [Bool.and_eq_true, beq_iff_eq] at h
    exact ⟨e, he, h.2.2, h.1, h.2.1⟩
  · rintro ⟨e, he, h1, h2, h3⟩
    exact ⟨e, he, by simp [h1, h2, h3]⟩
theorem addOf_mem {s : List Int} {es : List FEff} {i : Nat} : (i : Int) ∈ addOf s es ↔ hits s false es i = true := by
  rw [hits_iff, addOf, foldI_mem]
  simp only [List.not_mem_nil, false_or, Bool.and_eq_true, Bool.not_eq_true']
  constructor
  · rintro ⟨e, h, ⟨h1, h2⟩, h3⟩; exact ⟨e, h, h1, h2, h3⟩
  · rintro ⟨e, h, h1, h2, h3⟩; exact ⟨e, h, ⟨h1, h2⟩, h3⟩
theorem dropOf_mem {s : List Int} {es : List FEff} {i : Nat} : (i : Int) ∈ dropOf s es ↔ hits s true es i = true := by
  rw [hits_iff, dropOf, foldI_mem]
  simp only [List.not_mem_nil, false_or, Bool.and_eq_true]
  constructor
  · rintro ⟨e, h, ⟨h1, h2⟩, h3⟩; exact ⟨e, h, h1, h2, h3⟩
  · rintro ⟨e, h, h1, h2, h3⟩; exact ⟨e, h, ⟨h1, h2⟩, h3⟩
theorem afterL_rising (n : Nat) (s : List Int) (a : FAct) : risingB n (-1) (afterL n s a) = true := listB_rising n (afterB n s a) 0 (-1) (by omega) (by rw [afterB, genB_len]; omega)
theorem afterL_mem {n : Nat} {s : List Int} {a : FAct} {i : Nat} : (i : Int) ∈ afterL n s a ↔ i < n ∧ (hits s false a.effects i = true ∨ ((i : Int) ∈ s ∧ ¬ hits s true a.effects i = true)) := by
  rw [afterL, listB_mem]
  constructor
  · rintro ⟨j, h1, h2⟩
    obtain rfl : j = i := by omega
    have hl := lt_of_get h2
    rw [afterB, genB_len] at hl
    rw [afterB, genB_get hl] at h2
    simp only [Option.some.injEq, Bool.or_eq_true, Bool.and_eq_true, Bool.not_eq_true'] at h2
    refine ⟨hl, ?_⟩
    rcases h2 with h2 | ⟨h2, h3⟩
    · exact .inl h2
    · exact .inr ⟨List.contains_iff_mem.1 h2, by rw [h3]; simp⟩
  · rintro ⟨h1, h2⟩
    refine ⟨i, by simp, ?_⟩
    rw [afterB, genB_get h1]
    simp only [Option.some.injEq, Bool.or_eq_true, Bool.and_eq_true, Bool.not_eq_true']
    rcases h2 with h2 | ⟨h2, h3⟩
    · exact .inl h2
    · exact .inr ⟨List.contains_iff_mem.2 h2, by simpa using h3⟩
/-- The program's state after an action is the reference's. -/
theorem afterS_eq {n : Nat} {s : List Int} {a : FAct} (hs : risingB n (-1) s = true) (he : ∀ e ∈ a.effects, 0 ≤ e.lit.fact ∧ e.lit.fact < n) : afterS s a.effects = afterL n s a := by
  obtain ⟨hp, hb⟩ := rising_pw hs
  have hadd : ∀ x ∈ addOf s a.effects, 0 ≤ x ∧ x < n := by
    intro x hx
    rw [addOf, foldI_mem] at hx
    rcases hx with hx | ⟨e, h, _, rfl⟩
    · simp at hx
    · exact he e h
  have hr := rising_pw (afterL_rising n s a)
  refine sortI_eq ?_ (hr.1.imp (fun h => by omega))
  have hnd : (s.filter (stayS s a.effects) ++ (addOf s a.effects).filter fun x => !(s.contains x)).Nodup := by
    rw [List.nodup_append]
    refine ⟨(hp.imp (fun h => by omega)).filter _, (foldI_nodup _ _ _ .nil).filter _, ?_⟩
    rintro x hx _ hy rfl
    have h1 := (List.mem_filter.1 hx).1
    have h2 := (List.mem_filter.1 hy).2
    rw [List.contains_iff_mem.2 h1] at h2; simp at h2
  rw [List.perm_ext_iff_of_nodup (hr.1.imp (fun h => by omega)) hnd]
  intro x
  have hx0 : (x ∈ afterL n s a → 0 ≤ x) := fun h => by have := (hr.2 x h).1; omega
  by_cases h0 : 0 ≤ x
  · obtain ⟨i, rfl⟩ : ∃ i : Nat, x = (i : Int) := ⟨x.toNat, by omega⟩
    rw [afterL_mem, List.mem_append, List.mem_filter, List.mem_filter, ← addOf_mem, ← dropOf_mem]
    have hst : stayS s a.effects (i : Int) = true ↔ ¬ (i : Int) ∈ dropOf s a.effects ∨ (i : Int) ∈ addOf s a.effects := by
      unfold stayS; simp
    rw [hst]
    have hsb : (i : Int) ∈ s → i < n := fun h => by have := (hb _ h).2; omega
    have hab : (i : Int) ∈ addOf s a.effects → i < n := fun h => by have := (hadd _ h).2; omega
    have hc : (!(s.contains (i : Int))) = true ↔ ¬ (i : Int) ∈ s := by simp
    rw [hc]
    constructor
    · rintro ⟨h1, h2 | ⟨h2, h3⟩⟩
      · by_cases h4 : (i : Int) ∈ s
        · exact .inl ⟨h4, .inr h2⟩
        · exact .inr ⟨h2, h4⟩
      · exact .inl ⟨h2, .inl h3⟩
    · rintro (⟨h1, h2⟩ | ⟨h1, h2⟩)
      · refine ⟨hsb h1, ?_⟩
        by_cases h3 : (i : Int) ∈ addOf s a.effects
        · exact .inl h3
        · exact .inr ⟨h1, h2.resolve_right h3⟩
      · exact ⟨hab h1, .inl h1⟩
  · constructor
    · intro h; exact absurd (hx0 h) h0
    · intro h
      rcases List.mem_append.1 h with h | h
      · have := (hb x (List.mem_filter.1 h).1).1; omega
      · have := (hadd x (List.mem_filter.1 h).1).1; omega
/-! ### States by numbers -/
end Go.Proofs.YtbnhijapbnfohaaGreat
namespace Go.Proofs.YtbnhijapbnfohaaGreat
open Go.Ahl
/-- What a valid task's actions are like. -/
structure EOk (t : FTask) : Prop where
  rng : ∀ a ∈ t.actions, ∀ e ∈ a.effects, 0 ≤ e.lit.fact ∧ e.lit.fact < (t.facts.length : Int)
theorem stk_rising {t : FTask} (he : EOk t) {s p : List Int} (hs : risingB t.facts.length (-1) s = true) : ∀ k, risingB t.facts.length (-1) (stk t s p k) = true
  | 0 => hs
  | k + 1 => by
    have ih := stk_rising he (p := p) hs k
    rw [stk]
    cases hq : (p[k]?).bind fun n => t.actions[n.toNat]? with
    | none => exact ih
    | some a =>
      have ha : a ∈ t.actions := by
        cases hp : p[k]? with
        | none => rw [hp] at hq; simp at hq
        | some n => rw [hp] at hq; exact List.mem_of_getElem? hq
      show risingB _ (-1) (afterS (stk t s p k) a.effects) = true
      rw [afterS_eq (n := t.facts.length) (s := stk t s p k) (a := a) ih (he.rng a ha)]
      exact afterL_rising _ _ _
theorem rising_len {n : Nat} : ∀ {s : List Int} {p : Int}, risingB n p s = true → -1 ≤ p → p + s.length < n ∨ s = []
  | [], _, _, _ => .inr rfl
  | x :: s, p, h, hp => by
    rw [risingB, Bool.and_eq_true, Bool.and_eq_true] at h
    have h1 : p < x := of_decide_eq_true h.1.1
    have h2 : x < n := of_decide_eq_true h.1.2
    refine .inl ?_
    rw [List.length_cons]
    rcases rising_len h.2 (by omega) with q | q
    · push_cast; omega
    · subst q; simp; omega
theorem stk_ok {t : FTask} (he : EOk t) (hn : t.facts.length ≤ 1000000) {s p : List Int} (hs : risingB t.facts.length (-1) s = true) (k : Nat) : (stk t s p k).length ≤ 1000000 ∧ (stk t s p k).Pairwise (· < ·) := by
  have h := stk_rising he (p := p) hs k
  refine ⟨?_, (rising_pw h).1⟩
  rcases rising_len h (by omega) with q | q
  · omega
  · rw [q]; simp
/-- The next state, as the reference has it. -/
theorem stk_next {t : FTask} (he : EOk t) {s p : List Int} (hs : risingB t.facts.length (-1) s = true) {k : Nat} {n : Int} {a : FAct} (hp : p[k]? = some n) (ha : t.actions[n.toNat]? = some a) :
    stk t s p (k + 1) = afterL t.facts.length (stk t s p k) a := by
  rw [stk, hp, Option.bind_some, ha]
  exact afterS_eq (stk_rising he hs k) (he.rng a (List.mem_of_getElem? ha))
end Go.Proofs.YtbnhijapbnfohaaGreat
