/- Contracts of the given program's functions, and an abstract layer over the model; no condition. -/
import Derived.Test.YtcjgoomlaojljaaGreatBase4
set_option maxRecDepth 20000
set_option linter.unusedVariables false
set_option linter.unusedSimpArgs false
namespace Go.Proofs.YtcjgoomlaojljaaGreat
open Go.Ahl
def applyR (t : FTask) (b : List (List Int)) (a : Int) : AV := if bErr t b = 0 then (if 0 ≤ a ∧ a < t.actions.length then (match stB t b a.toNat with
  | none => .tuple [.slice .nil [], .bool false, .int .i64 0]
  | some u => .tuple [.slice .fresh (u.map encLf), .bool true, .int .i64 0]) else .tuple [.slice .nil [], .bool false, .int .i64 1])
 else .tuple [.slice .nil [], .bool false, .int .i64 (bErr t b)]
def c_bapply : CCode := .seq (.ops [oS 3 (.box (.tmp 0)), oS 6 (.move (.lit (.slice .nil []))), oS 7 (.move (.lit (.bool false))), oS 8 (.move (.lit (.int .i64 0)))]) (.seq (.seq (.ops [oS 12 (.load (some 4) (.tmp 3)), oS 13 (.move (.tmp 1)), oS 14 (.call (.lit (.func 36 [])) [.tmp 12, .tmp 13]), oS 9 (.move (.tmp 14))]) (.seq (.ops [oS 15 (.move (.tmp 9)), oS 16 (.bin .neq .none (.tmp 15) (.lit (.int .i64 0)))]) (.cond (.tmp 16) (.seq (.ops [oS 17 (.move (.tmp 9)), oS 6 (.move (.lit (.slice .nil []))), oS 7 (.move (.lit (.bool false))), oS 8 (.move (.tmp 17))]) .ret) .skip))) (.seq (.seq (.ops [oS 18 (.move (.tmp 2)), oS 19 (.bin .lss .none (.tmp 18) (.lit (.int .i64 0))), oS 20 (.move (.tmp 19)), oG 21 20 false (.move (.tmp 2)), oG 22 20 false (.faddr 3 (.tmp 3)), oG 23 20 false (.load none (.tmp 22)), oG 24 20 false (.blen 1 (.tmp 23)), oG 25 20 false (.bin .geq .none (.tmp 21) (.tmp 24)), oS 26 (.pick (.tmp 20) (.lit (.bool true)) (.tmp 25))]) (.cond (.tmp 26) (.seq (.ops [oS 6 (.move (.lit (.slice .nil []))), oS 7 (.move (.lit (.bool false))), oS 8 (.move (.lit (.int .i64 1)))]) .ret) .skip)) (.seq (.ops [oS 28 (.load (some 4) (.tmp 3)), oS 29 (.move (.tmp 1)), oS 30 (.move (.tmp 2)), oS 31 (.call (.lit (.func 45 [])) [.tmp 28, .tmp 29, .tmp 30]), oS 27 (.move (.tmp 31)), oS 32 (.extract (.tmp 27) 0), oS 33 (.extract (.tmp 27) 1), oS 10 (.move (.tmp 32)), oS 11 (.move (.tmp 33))]) (.seq (.ops [oS 34 (.move (.tmp 10)), oS 35 (.move (.tmp 11)), oS 6 (.move (.tmp 34)), oS 7 (.move (.tmp 35)), oS 8 (.move (.lit (.int .i64 0)))]) .ret))))
theorem bapply_specF (t : FTask) (b : List (List Int)) (a : Int) (tok : Tok) (σ : Store) (ht : TB t) (hb : LT b) :
  ACalls Tryz.prog 20 [.agg (encTask t), .slice tok (b.map encL), .int .i64 a] σ (isR (applyR t b a) σ) := by
 refine ACalls.intro (rs := [(.tmp 6), (.tmp 7), (.tmp 8)]) (by kernel_rfl) { own := [], ghosts := [] } Tryz.func20 (c := Tryz.f20.body.getD .skip) (by kernel_rfl) (by decide) (by rw [show Tryz.f20.ntmps = 36 by kernel_rfl]; exact Nat.le_of_ble_eq_true rfl) (by kernel_rfl) ?_
 intro hσ hids
 rw [show comp Tryz.prog { own := [], ghosts := [] } (Tryz.f20.body.getD .skip) = c_bapply by kernel_rfl, show Tryz.f20.ntmps = 36 by kernel_rfl]
 unfold c_bapply
 have hil : Ids σ.length (.slice tok (b.map encL)) := hids _ (by simp)
 simp only [go_sem, simprocAttr, encTask]
 refine (basks_spec t b tok _ ht hb).is ?_
 by_cases h0 : ¬ bErr t b = 0
 ·have h1 : (bErr t b != 0) = true := by simpa using h0
  simp only [go_sem, simprocAttr, h1]
  exact ret3 (.slice .nil []) (.bool false) (.int .i64 (bErr t b)) List.take_left ⟨by rw [applyR, if_neg h0], rfl⟩
 replace h0 := Decidable.not_not.1 h0
 obtain ⟨hv, hbel⟩ := bErr_zero h0
 rw [h0]
 by_cases hk0 : a < 0
 ·simp only [go_sem, simprocAttr, encTask, hk0]
  exact ret3 (.slice .nil []) (.bool false) (.int .i64 1) List.take_left ⟨by rw [applyR, if_pos h0, if_neg (by omega)], rfl⟩
 by_cases hk1 : a ≥ t.actions.length
 ·simp only [go_sem, simprocAttr, encTask, hk0, hk1]
  exact ret3 (.slice .nil []) (.bool false) (.int .i64 1) List.take_left ⟨by rw [applyR, if_pos h0, if_neg (by omega)], rfl⟩
 simp only [go_sem, simprocAttr, encTask, hk0, hk1]
 have haft := fun σ => bafter_specF t b a.toNat tok σ (valid_VT ht hv) (bel_ok hbel) (by omega)
 rw [show ((a.toNat : Nat) : Int) = a by omega] at haft
 simp only [encTask] at haft
 refine (haft _).is ?_
 have hr : applyR t b a = match stB t b a.toNat with
  | none => .tuple [.slice .nil [], .bool false, .int .i64 0]
  | some u => .tuple [.slice .fresh (u.map encLf), .bool true, .int .i64 0] := by rw [applyR, if_pos h0, if_pos ⟨by omega, by omega⟩]
 unfold aftR
 cases hs : stB t b a.toNat with
 | none =>
  simp only [go_sem, simprocAttr]
  exact ret3 (.slice .nil []) (.bool false) (.int .i64 0) List.take_left ⟨by rw [hr, hs], rfl⟩
 | some u =>
  simp only [go_sem, simprocAttr]
  exact ret3 (.slice .fresh (u.map encLf)) (.bool true) (.int .i64 0) List.take_left ⟨by rw [hr, hs], rfl⟩
def costB (t : FTask) (a : Int) : Int := (t.actions.getD a.toNat ⟨.empty, 0, [], []⟩).cost
def goB (t : FTask) : List (List Int) → Int → List Int → Option (List (List Int) × Int)
 | b, c, [] => some (b, c)
 | b, c, a :: p => match stB t b a.toNat with
  | none => none
  | some u => goB t u (c + costB t a) p
def planB (t : FTask) (b : List (List Int)) (p : List Int) : Int × Bool := match goB t b 0 p with
 | none => (0, false)
 | some r => if allH r.1 t.goal then (r.2, true) else (0, false)
def planR (t : FTask) (b : List (List Int)) (p : List Int) : AV := if bErr t b = 0 then (if slistedB t p then .tuple [.int .i64 (planB t b p).1, .bool (planB t b p).2, .int .i64 0] else .tuple [.int .i64 0, .bool false, .int .i64 1])
 else .tuple [.int .i64 0, .bool false, .int .i64 (bErr t b)]
theorem listed_in {t : FTask} {p : List Int} (h : slistedB t p = true) : p.length ≤ 10000 ∧ ∀ a ∈ p, 0 ≤ a ∧ a < (t.actions.length : Int) := by
 unfold slistedB at h
 rw [Bool.and_eq_true, decide_eq_true_eq] at h
 refine ⟨h.1, fun a ha => ?_⟩
 have := h.2
 simp only [Bool.not_eq_true', List.any_eq_false] at this
 have := this a ha
 unfold offB at this
 simp at this
 omega
theorem costB_ok {t : FTask} (h : VT t) {a : Int} (ha : 0 ≤ a ∧ a < (t.actions.length : Int)) : ∃ x, t.actions[a.toNat]? = some x ∧ costB t a = x.cost ∧ 0 ≤ x.cost ∧ x.cost ≤ 100000 := by
 obtain ⟨x, hx⟩ := get_ex (show a.toNat < t.actions.length by omega)
 refine ⟨x, hx, ?_, h.cost x (List.mem_of_getElem? hx)⟩
 unfold costB; rw [List.getD_eq_getElem?_getD, hx]; rfl
def c_bplan : CCode := .seq (.ops [oS 3 (.box (.tmp 0)), oS 6 (.move (.lit (.int .i64 0))), oS 7 (.move (.lit (.bool false))), oS 8 (.move (.lit (.int .i64 0)))]) (.seq (.seq (.ops [oS 15 (.load (some 4) (.tmp 3)), oS 16 (.move (.tmp 1)), oS 17 (.call (.lit (.func 36 [])) [.tmp 15, .tmp 16]), oS 9 (.move (.tmp 17))]) (.seq (.ops [oS 18 (.move (.tmp 9)), oS 19 (.bin .neq .none (.tmp 18) (.lit (.int .i64 0)))]) (.cond (.tmp 19) (.seq (.ops [oS 20 (.move (.tmp 9)), oS 6 (.move (.lit (.int .i64 0))), oS 7 (.move (.lit (.bool false))), oS 8 (.move (.tmp 20))]) .ret) .skip))) (.seq (.seq (.ops [oS 21 (.load (some 4) (.tmp 3)), oS 22 (.move (.tmp 2)), oS 23 (.call (.lit (.func 46 [])) [.tmp 21, .tmp 22]), oS 24 (.un .not (.tmp 23))]) (.cond (.tmp 24) (.seq (.ops [oS 6 (.move (.lit (.int .i64 0))), oS 7 (.move (.lit (.bool false))), oS 8 (.move (.lit (.int .i64 1)))]) .ret) .skip)) (.seq (.ops [oS 10 (.move (.lit (.int .i64 0)))]) (.seq (.seq (.ops [oS 25 (.move (.tmp 2)), oS 26 (.blen 1 (.tmp 25)), oS 27 (.move (.lit (.int .i64 0)))]) (.block 0 (.loop (.seq (.ops [oS 28 (.bin .lss .none (.tmp 27) (.tmp 26))]) (.seq (.cond (.tmp 28) .skip (.exit 0)) (.seq (.block 1 (.seq (.ops [oS 29 (.iaddr 1 (.tmp 25) (.tmp 27)), oS 30 (.load none (.tmp 29)), oS 12 (.move (.tmp 30))]) (.seq (.ops [oS 32 (.load (some 4) (.tmp 3)), oS 33 (.move (.tmp 1)), oS 34 (.move (.tmp 12)), oS 35 (.call (.lit (.func 45 [])) [.tmp 32, .tmp 33, .tmp 34]), oS 31 (.move (.tmp 35)), oS 36 (.extract (.tmp 31) 0), oS 37 (.extract (.tmp 31) 1), oS 13 (.move (.tmp 36)), oS 14 (.move (.tmp 37))]) (.seq (.seq (.ops [oS 38 (.move (.tmp 14)), oS 39 (.un .not (.tmp 38))]) (.cond (.tmp 39) (.seq (.ops [oS 6 (.move (.lit (.int .i64 0))), oS 7 (.move (.lit (.bool false))), oS 8 (.move (.lit (.int .i64 0)))]) .ret) .skip)) (.seq (.ops [oS 40 (.move (.tmp 13)), oS 1 (.move (.tmp 40))]) (.ops [oS 41 (.move (.tmp 10)), oS 42 (.faddr 3 (.tmp 3)), oS 43 (.load none (.tmp 42)), oS 44 (.move (.tmp 12)), oS 45 (.iaddr 4 (.tmp 43) (.tmp 44)), oS 46 (.faddr 1 (.tmp 45)), oS 47 (.load none (.tmp 46)), oS 48 (.bin .add .none (.tmp 41) (.tmp 47)), oS 10 (.move (.tmp 48))])))))) (.ops [oS 49 (.bin .add .none (.tmp 27) (.lit (.int .i64 1))), oS 27 (.move (.tmp 49))]))))))) (.seq (.seq (.ops [oS 50 (.move (.tmp 1)), oS 51 (.faddr 2 (.tmp 3)), oS 52 (.load none (.tmp 51)), oS 53 (.call (.lit (.func 37 [])) [.tmp 50, .tmp 52]), oS 54 (.un .not (.tmp 53))]) (.cond (.tmp 54) (.seq (.ops [oS 6 (.move (.lit (.int .i64 0))), oS 7 (.move (.lit (.bool false))), oS 8 (.move (.lit (.int .i64 0)))]) .ret) .skip)) (.seq (.ops [oS 55 (.move (.tmp 10)), oS 6 (.move (.tmp 55)), oS 7 (.move (.lit (.bool true))), oS 8 (.move (.lit (.int .i64 0)))]) .ret))))))
set_option maxHeartbeats 1000000 in
theorem bplan_spec (t : FTask) (b : List (List Int)) (p : List Int) (tok : Tok) (σ : Store) (ht : TB t) (hb : LT b) (hp : p.length ≤ 1000000) :
  ACalls Tryz.prog 21 [.agg (encTask t), .slice tok (b.map encL), .slice .unk (p.map Ahl.encI)] σ (isR (planR t b p) σ) := by
 refine ACalls.intro (rs := [(.tmp 6), (.tmp 7), (.tmp 8)]) (by kernel_rfl) { own := [], ghosts := [] } Tryz.func21 (c := Tryz.f21.body.getD .skip) (by kernel_rfl) (by decide) (by rw [show Tryz.f21.ntmps = 56 by kernel_rfl]; exact Nat.le_of_ble_eq_true rfl) (by kernel_rfl) ?_
 intro hσ hids
 rw [show comp Tryz.prog { own := [], ghosts := [] } (Tryz.f21.body.getD .skip) = c_bplan by kernel_rfl, show Tryz.f21.ntmps = 56 by kernel_rfl]
 unfold c_bplan
 have hil : Ids σ.length (.slice tok (b.map encL)) := hids _ (by simp)
 simp only [go_sem, simprocAttr, encTask]
 refine (basks_spec t b tok _ ht hb).is ?_
 by_cases h0 : ¬ bErr t b = 0
 ·have h1 : (bErr t b != 0) = true := by simpa using h0
  simp only [go_sem, simprocAttr, h1]
  exact ret3 (.int .i64 0) (.bool false) (.int .i64 (bErr t b)) List.take_left ⟨by rw [planR, if_neg h0], rfl⟩
 replace h0 := Decidable.not_not.1 h0
 obtain ⟨hv, hbel⟩ := bErr_zero h0
 have hVT := valid_VT ht hv
 have hbo := bel_ok hbel
 rw [h0]
 simp only [go_sem, simprocAttr, encTask]
 have hli := fun σ => slisted_spec t p σ hp
 simp only [encTask] at hli
 refine (hli _).is ?_
 cases hl : slistedB t p
 ·simp only [go_sem, simprocAttr]
  exact ret3 (.int .i64 0) (.bool false) (.int .i64 1) List.take_left ⟨by rw [planR, if_pos h0, hl]; rfl, rfl⟩
 have hr : planR t b p = .tuple [.int .i64 (planB t b p).1, .bool (planB t b p).2, .int .i64 0] := by rw [planR, if_pos h0, hl, if_pos rfl]
 obtain ⟨hpl, hpr⟩ := listed_in hl
 have hrow : IdsS (σ ++ [AObj.row (encTask t)]).length (σ ++ [AObj.row (encTask t)]) := idsS_push hσ (idsO_row (ids_encTask t))
 simp only [encTask] at hrow
 simp only [go_sem, simprocAttr, encTask]
 refine wpc_while (α := Nat × List (List Int) × Int) (fun q => [(1, .slice .unk (q.2.1.map encL)), (3, .ptr σ.length 0), (10, .int .i64 q.2.2), (25, .slice .unk (p.map Ahl.encI)), (26, .int .i64 p.length), (27, .int .i64 (q.1 : Nat))])
  (fun _ => σ ++ [.row (encTask t)]) (fun q => q.1 ≤ p.length ∧ goB t b 0 p = goB t q.2.1 q.2.2 (p.drop q.1) ∧ BelOk t.facts.length q.2.1 ∧ 0 ≤ q.2.2 ∧ q.2.2 ≤ 100000 * (q.1 : Int)) (fun q => p.length - q.1) (0, b, 0) ⟨Nat.zero_le _, rfl, hbo, by simp, by simp⟩ (by simp only [encTask]; exact ghL0 hrow) ?_
 rintro ⟨i, u, c⟩ ⟨hi, hgo, hu, hc0, hc1⟩ K hK hE hR
 dsimp only at hi hgo hu hc0 hc1 ⊢
 by_cases h : i < p.length
 ·obtain ⟨a, hx⟩ := get_ex h; have hlt : ((i : Int) < (p.length : Int)) := (by omega); have hw := wrapS (i := i) (by omega)
  have har := hpr a (List.mem_of_getElem? hx)
  obtain ⟨x, hxa, hcb, hx0, hx1⟩ := costB_ok hVT har
  rw [drop_cons hx, goB] at hgo
  have haft := fun σ => bafter_specF t u a.toNat .unk σ hVT hu (by omega)
  rw [show ((a.toNat : Nat) : Int) = a by omega] at haft
  simp only [encTask] at haft
  simp only [go_sem, simprocAttr, hlt, hx, Ahl.encI, encTask]
  refine (haft _).is ?_
  unfold aftR
  cases hs : stB t u a.toNat with
  | none =>
   rw [hs] at hgo
   simp only [go_sem, simprocAttr, hR]
   exact ret3 (.int .i64 0) (.bool false) (.int .i64 0) List.take_left ⟨by rw [hr, planB, hgo], rfl⟩
  | some v =>
   rw [hs, hcb] at hgo
   have hwc : IntKind.i64.wrap (c + x.cost) = c + x.cost := wrap_ok (by omega)
   have ha0 : 0 ≤ a := har.1
   simp only [go_sem, simprocAttr, hxa, encA, hwc, ha0]
   refine hK _ _ (i + 1, v, c + x.cost) ⟨by simp only []; omega, hgo, stB_ok hVT hu hs, by simp only []; omega, by simp only []; omega⟩ (by simp only []; omega) ?_
   (try dsimp only)
   rw [hw]
   simp only [encTask]
   refine Ghost.trans (Ghost.weak 1 (.slice .unk (v.map encL)) (Wk.lfu _ _)) ?_
   exact ghL0 hrow
 ·have hlt : ¬ ((i : Int) < (p.length : Int)) := by omega
  rw [drop_len h, goB] at hgo
  have hpw : ∀ s ∈ u, s.Pairwise (· < ·) := fun s hs => (rising_pw (hu.st s hs)).1
  simp only [go_sem, simprocAttr, hlt, hE, encTask]
  refine (bholds_spec u t.goal .unk .unk _ (ht.goal) (hu.lb hVT.nf) hpw).is ?_
  cases hg : allH u t.goal
  ·simp only [go_sem, simprocAttr]
   exact ret3 (.int .i64 0) (.bool false) (.int .i64 0) List.take_left ⟨by rw [hr, planB, hgo]; simp only; rw [hg]; rfl, rfl⟩
  ·simp only [go_sem, simprocAttr]
   exact ret3 (.int .i64 c) (.bool true) (.int .i64 0) List.take_left ⟨by rw [hr, planB, hgo]; simp only; rw [hg]; rfl, rfl⟩
theorem valid_when {t : FTask} (hv : validB t = true) {a : FAct} (ha : a ∈ t.actions) {e : FEff} (he : e ∈ a.effects) : e.when_.length ≤ 200 := by
 have := valid_facts hv
 rcases condB_len ((valid_act hv ha).whens e he) with q | q
 ·rw [q]; simp
 ·omega
def c_sorted17 : CCode := .seq (.ops [oS 2 (.move (.lit (.slice .nil [])))]) (.seq (.ops [oS 3 (.move (.lit (.slice .nil [])))]) (.seq (.seq (.ops [oS 6 (.move (.tmp 0)), oS 7 (.blen 1 (.tmp 6)), oS 8 (.move (.lit (.int .i64 0)))]) (.block 0 (.loop (.seq (.ops [oS 9 (.bin .lss .none (.tmp 8) (.tmp 7))]) (.seq (.cond (.tmp 9) .skip (.exit 0)) (.seq (.block 1 (.seq (.ops [oS 10 (.iaddr 1 (.tmp 6) (.tmp 8)), oS 11 (.load none (.tmp 10)), oS 5 (.move (.tmp 11))]) (.ops [oS 13 (.move (.tmp 3)), oS 14 (.move (.tmp 5)), oS 15 (.call (.lit (.func 76 [])) [.tmp 13, .tmp 14]), oS 12 (.move (.tmp 15)), oS 16 (.extract (.tmp 12) 0), oS 17 (.extract (.tmp 12) 1), oS 3 (.move (.tmp 16))]))) (.ops [oS 18 (.bin .add .none (.tmp 8) (.lit (.int .i64 1))), oS 8 (.move (.tmp 18))]))))))) (.seq (.ops [oS 19 (.move (.tmp 3)), oS 2 (.move (.tmp 19))]) .ret)))
theorem sorted17_spec (l : List (List Int)) (tok : Tok) (σ : Store) (hl : LB l) (hll : l.length ≤ 1000000) :
  ACalls Tryz.prog 41 [.slice tok (l.map encL)] σ (isR (.slice .unk ((mergeB l).map encL)) σ) := by
 refine ACalls.intro (rs := [(.tmp 2)]) (by kernel_rfl) { own := [], ghosts := [] } Tryz.func41 (c := Tryz.f41.body.getD .skip) (by kernel_rfl) (by decide) (by rw [show Tryz.f41.ntmps = 20 by kernel_rfl]; exact Nat.le_of_ble_eq_true rfl) (by kernel_rfl) ?_
 intro hσ hids
 rw [show comp Tryz.prog { own := [], ghosts := [] } (Tryz.f41.body.getD .skip) = c_sorted17 by kernel_rfl, show Tryz.f41.ntmps = 20 by kernel_rfl]
 unfold c_sorted17
 have hil : Ids σ.length (.slice tok (l.map encL)) := hids _ (by simp)
 obtain ⟨O, hO⟩ : ∃ O : Nat → List (List Int), ∀ i, O i = mergeB (l.take i) := ⟨_, fun _ => rfl⟩
 have hO0 : O 0 = [] := by rw [hO]; rfl
 have hOl : ∀ i, i ≤ l.length → (O i).length ≤ i := fun i hi => by rw [hO]; have := merge_len (l.take i); rw [List.length_take] at this; omega
 have hOm : ∀ i, ∀ y ∈ O i, y.length ≤ 140737488355328 := fun i y hy => by
  rw [hO, merge_mem] at hy; have := hl.2 y (List.mem_of_mem_take hy); omega
 simp only [go_sem, simprocAttr]
 refine wpc_while (fun (i : Nat) => [(3, .slice .unk ((O i).map encL)), (6, .slice tok (l.map encL)), (7, .int .i64 l.length), (8, .int .i64 (i : Nat))]) (fun _ => σ) (fun i => i ≤ l.length) (fun i => l.length - i) 0 (Nat.zero_le _) ?_ ?_
 ·rw [hO0]; exact (by (try dsimp only); exact ghA)
 intro i hi K hK hE hR
 by_cases h : i < l.length
 ·obtain ⟨s, hx⟩ := get_ex h; have hlt : ((i : Int) < (l.length : Int)) := (by omega); have hw := wrapS (i := i) (by omega)
  have hsl := hl.2 s (List.mem_of_getElem? hx)
  have hOi := hOl i hi
  simp only [go_sem, simprocAttr, hlt, hx, encL]
  refine (insert13_spec (O i) s .unk _ (by omega) (hOm i) (by omega) (by rw [hO]; exact merge_strict _)).is ?_
  have e : insN (O i) s = O (i + 1) := by rw [hO, hO, take_succ' hx, mergeB, mergeB, List.foldl_append]; rfl
  rw [e]
  simp only [go_sem, simprocAttr]
  refine hK _ _ (i + 1) (by omega) om ?_; (try dsimp only); (try simp only [ hw]); exact ghA
 ·have hlt : ¬ ((i : Int) < (l.length : Int)) := by omega
  have e : O i = mergeB l := by rw [hO, List.take_of_length_le (by omega)]
  simp only [go_sem, simprocAttr, hlt, hE, e]
  exact rt (.slice .unk ((mergeB l).map encL)) ⟨rfl, rfl⟩
def aft17R (t : FTask) (b : List (List Int)) (a : Nat) : AV := match stB t b a with
 | none => .tuple [.slice .nil [], .bool false]
 | some u => .tuple [.slice .unk (u.map encL), .bool true]
theorem nextB_len {t : FTask} (h : VT t) {b : List (List Int)} (hb : BelOk t.facts.length b) {x : FAct} (hx : x ∈ t.actions) {s : List Int} (hs : s ∈ b) : afterS s x.effects = afterL t.facts.length s x ∧ (afterS s x.effects).length ≤ 200 := by
 have e := afterS_eq (hb.st s hs) (h.eok.rng x hx)
 refine ⟨e, ?_⟩
 rw [e]
 have := afterL_len (n := t.facts.length) s x
 have := h.nf; omega
def c_apply17 : CCode := .seq (.ops [oS 3 (.box (.tmp 0)), oS 6 (.move (.lit (.slice .nil []))), oS 7 (.move (.lit (.bool false)))]) (.seq (.seq (.ops [oS 11 (.move (.tmp 1)), oS 12 (.faddr 3 (.tmp 3)), oS 13 (.load none (.tmp 12)), oS 14 (.move (.tmp 2)), oS 15 (.iaddr 4 (.tmp 13) (.tmp 14)), oS 16 (.faddr 2 (.tmp 15)), oS 17 (.load none (.tmp 16)), oS 18 (.call (.lit (.func 43 [])) [.tmp 11, .tmp 17]), oS 19 (.un .not (.tmp 18))]) (.cond (.tmp 19) (.seq (.ops [oS 6 (.move (.lit (.slice .nil []))), oS 7 (.move (.lit (.bool false)))]) .ret) .skip)) (.seq (.ops [oS 8 (.move (.lit (.slice .nil [])))]) (.seq (.seq (.ops [oS 20 (.move (.tmp 1)), oS 21 (.blen 1 (.tmp 20)), oS 22 (.move (.lit (.int .i64 0)))]) (.block 0 (.loop (.seq (.ops [oS 23 (.bin .lss .none (.tmp 22) (.tmp 21))]) (.seq (.cond (.tmp 23) .skip (.exit 0)) (.seq (.block 1 (.seq (.ops [oS 24 (.iaddr 1 (.tmp 20) (.tmp 22)), oS 25 (.load none (.tmp 24)), oS 10 (.move (.tmp 25))]) (.ops [oS 26 (.move (.tmp 8)), oS 27 (.load (some 4) (.tmp 3)), oS 28 (.move (.tmp 10)), oS 29 (.move (.tmp 2)), oS 30 (.call (.lit (.func 47 [])) [.tmp 27, .tmp 28, .tmp 29]), oS 31 (.bslice 1 [.tmp 30] false), oS 32 (.bappend 1 24 (.tmp 26) (.tmp 31) false), oS 8 (.move (.tmp 32))]))) (.ops [oS 33 (.bin .add .none (.tmp 22) (.lit (.int .i64 1))), oS 22 (.move (.tmp 33))]))))))) (.seq (.ops [oS 34 (.move (.tmp 8)), oS 35 (.call (.lit (.func 41 [])) [.tmp 34]), oS 6 (.move (.tmp 35)), oS 7 (.move (.lit (.bool true)))]) .ret))))
set_option maxHeartbeats 1000000 in
theorem apply17_spec (t : FTask) (b : List (List Int)) (a : Nat) (tok : Tok) (σ : Store) (hv : validB t = true) (ht : VT t) (hb : BelOk t.facts.length b) (ha : a < t.actions.length) :
  ACalls Tryz.prog 22 [.agg (encTask t), .slice tok (b.map encL), .int .i64 a] σ (isR (aft17R t b a) σ) := by
 refine ACalls.intro (rs := [(.tmp 6), (.tmp 7)]) (by kernel_rfl) { own := [], ghosts := [] } Tryz.func22 (c := Tryz.f22.body.getD .skip) (by kernel_rfl) (by decide) (by rw [show Tryz.f22.ntmps = 36 by kernel_rfl]; exact Nat.le_of_ble_eq_true rfl) (by kernel_rfl) ?_
 intro hσ hids
 rw [show comp Tryz.prog { own := [], ghosts := [] } (Tryz.f22.body.getD .skip) = c_apply17 by kernel_rfl, show Tryz.f22.ntmps = 36 by kernel_rfl]
 unfold c_apply17
 have hil : Ids σ.length (.slice tok (b.map encL)) := hids _ (by simp)
 have hbl := hb.le
 obtain ⟨x, hxa⟩ := get_ex ha
 have hxm := List.mem_of_getElem? hxa
 have hst : stB t b a = if allH b x.pre then some (nextB b x) else none := by unfold stB; rw [hxa]
 have ha0 : (0 : Int) ≤ (a : Int) := by omega
 simp only [go_sem, simprocAttr, encTask, hxa, encA, ha0]
 refine (holds17_spec b x.pre tok .unk _ (ht.tb.pre x hxm) (hb.lb ht.nf)).is ?_
 cases hc : allH b x.pre
 ·simp only [go_sem, simprocAttr]
  exact rT (.slice .nil []) (.bool false) ⟨by rw [aft17R, hst, hc]; rfl, rfl⟩
 rw [hc, if_pos rfl] at hst
 have hs1 : ∀ k : Nat, IdsS (σ ++ [AObj.row (encTask t), .grow 1 k]).length (σ ++ [AObj.row (encTask t), .grow 1 k]) := fun k => idsS_app _ hσ (all_cons' (idsO_row (ids_encTask t)) (all_cons' trivial all_nil'))
 obtain ⟨F, hF⟩ : ∃ F, F = b.map fun s => afterS s x.effects := ⟨_, rfl⟩
 have hFl : F.length = b.length := by rw [hF, List.length_map]
 have hrow := ids_grow hσ (ids_encTask t)
 simp only [encTask] at hs1 hrow
 simp only [go_sem, simprocAttr]
 refine wpc_while (fun (i : Nat) => [(8, .slice (.grow (σ.length + 1)) ((F.take i).map encL)), (2, .int .i64 a), (3, .ptr σ.length 0), (20, .slice tok (b.map encL)), (21, .int .i64 b.length), (22, .int .i64 (i : Nat))])
  (fun i => σ ++ [.row (encTask t), .grow 1 i]) (fun i => i ≤ b.length) (fun i => b.length - i) 0 (Nat.zero_le _) ?_ ?_
 ·simp only [encTask]
  exact Ghost.begin1 8 1 _ (Nat.le_refl _) tellT hrow
 intro i hi K hK hE hR
 have hlt' : (F.take i).length = i := List.length_take_of_le (by omega)
 by_cases h : i < b.length
 ·obtain ⟨s, hx⟩ := get_ex h; have hlt : ((i : Int) < (b.length : Int)) := (by omega); have hw := wrapS (i := i) (by omega)
  have hsm := List.mem_of_getElem? hx
  obtain ⟨hn1, hn2⟩ := nextB_len ht hb hxm hsm
  have hsl := rising_200 ht.nf (hb.st s hsm)
  have hbig : bigLen (i + 1) 24 := big_ok (by omega) (by omega)
  have hnf := ht.nf
  have haft := fun σ => after_spec t s a x .unk σ (by omega) (fun y hy => by have := (rising_pw (hb.st s hsm)).2 y hy; omega) (by omega) ha0 hxa (by have := ht.sb.effs x hxm; omega) (fun e hee => ⟨by have := valid_when hv hxm hee; omega, ht.eok.rng x hxm e hee⟩)
  simp only [encTask] at haft
  simp only [go_sem, simprocAttr, hlt, hx, encL, encTask]
  refine (haft _).is ?_
  rw [← hn1]
  have e3 : (F.take i).map encL ++ [[AV.slice .unk ((afterS s x.effects).map Ahl.encI)]] = (F.take (i + 1)).map encL := by
   rw [take_succ' (x := afterS s x.effects) (by rw [hF, List.getElem?_map, hx]; rfl), List.map_append]; rfl
  simp only [go_sem, simprocAttr, hlt', hbig, e3, encTask]
  refine hK _ _ (i + 1) (by omega) (by omega) ?_
  (try dsimp only)
  rw [hw]
  simp only [encTask]
  exact ghL (l := [.row _, .grow 1 _]) (hs1 _)
 ·have hlt : ¬ ((i : Int) < (b.length : Int)) := by omega
  rw [List.take_of_length_le (by omega)]
  simp only [go_sem, simprocAttr, hlt, hE, encTask]
  refine (sorted17_spec F _ _ ⟨by omega, fun y hy => by
   rw [hF] at hy
   obtain ⟨s, hs, rfl⟩ := List.mem_map.1 hy
   have := (nextB_len ht hb hxm hs).2; omega⟩ (by omega)).is ?_
  rw [show mergeB F = nextB b x by rw [hF]; rfl]
  simp only [go_sem, simprocAttr]
  exact rT (.slice .unk ((nextB b x).map encL)) (.bool true) ⟨by rw [aft17R, hst], rfl⟩
def c_same17 : CCode := .seq (.ops [oS 4 (.move (.lit (.bool false)))]) (.seq (.seq (.ops [oS 7 (.move (.tmp 0)), oS 8 (.blen 1 (.tmp 7)), oS 9 (.move (.tmp 1)), oS 10 (.blen 1 (.tmp 9)), oS 11 (.bin .neq .none (.tmp 8) (.tmp 10))]) (.cond (.tmp 11) (.seq (.ops [oS 4 (.move (.lit (.bool false)))]) .ret) .skip)) (.seq (.seq (.ops [oS 12 (.move (.tmp 0)), oS 13 (.blen 1 (.tmp 12)), oS 14 (.move (.lit (.int .i64 0)))]) (.block 0 (.loop (.seq (.ops [oS 15 (.bin .lss .none (.tmp 14) (.tmp 13))]) (.seq (.cond (.tmp 15) .skip (.exit 0)) (.seq (.block 1 (.seq (.ops [oS 16 (.move (.tmp 14)), oS 17 (.iaddr 1 (.tmp 12) (.tmp 14)), oS 18 (.load none (.tmp 17)), oS 5 (.move (.tmp 16)), oS 6 (.move (.tmp 18))]) (.seq (.ops [oS 19 (.move (.tmp 6)), oS 20 (.move (.tmp 1)), oS 21 (.move (.tmp 5)), oS 22 (.iaddr 1 (.tmp 20) (.tmp 21)), oS 23 (.load none (.tmp 22)), oS 24 (.call (.lit (.func 42 [])) [.tmp 19, .tmp 23]), oS 25 (.un .not (.tmp 24))]) (.cond (.tmp 25) (.seq (.ops [oS 4 (.move (.lit (.bool false)))]) .ret) .skip)))) (.ops [oS 26 (.bin .add .none (.tmp 14) (.lit (.int .i64 1))), oS 14 (.move (.tmp 26))]))))))) (.seq (.ops [oS 4 (.move (.lit (.bool true)))]) .ret)))
def fewN : List (List Int) → Int → Int
 | [], n => n
 | s :: r, n => if n ≤ 300 then fewN r (n + s.length) else n
theorem fewN_gt {l : List (List Int)} {n : Int} (h : ¬ n ≤ 300) : fewN l n = n := by cases l with
 | nil => rfl
 | cons s r => rw [fewN, if_neg h]
def few17B (t : FTask) (b : List (List Int)) : Bool := decide (fewN b b.length ≤ 600) && fewT 300 t
def c_few17 : CCode := .seq (.ops [oS 2 (.box (.tmp 0)), oS 4 (.move (.lit (.bool false)))]) (.seq (.ops [oS 7 (.move (.tmp 1)), oS 8 (.blen 1 (.tmp 7)), oS 5 (.move (.tmp 8))]) (.seq (.seq (.ops [oS 6 (.move (.lit (.int .i64 0)))]) (.block 0 (.loop (.seq (.seq (.ops [oS 9 (.move (.tmp 6)), oS 10 (.move (.tmp 1)), oS 11 (.blen 1 (.tmp 10)), oS 12 (.bin .lss .none (.tmp 9) (.tmp 11)), oS 13 (.move (.tmp 12)), oG 14 13 true (.move (.tmp 5)), oG 15 13 true (.bin .leq .none (.tmp 14) (.lit (.int .i64 300))), oS 16 (.pick (.tmp 13) (.tmp 15) (.lit (.bool false)))]) (.cond (.tmp 16) .skip (.exit 0))) (.seq (.block 1 (.ops [oS 19 (.move (.tmp 5)), oS 20 (.move (.tmp 1)), oS 21 (.move (.tmp 6)), oS 22 (.iaddr 1 (.tmp 20) (.tmp 21)), oS 23 (.load none (.tmp 22)), oS 24 (.blen 1 (.tmp 23)), oS 25 (.bin .add .none (.tmp 19) (.tmp 24)), oS 5 (.move (.tmp 25))])) (.ops [oS 17 (.move (.tmp 6)), oS 18 (.bin .add .none (.tmp 17) (.lit (.int .i64 1))), oS 6 (.move (.tmp 18))])))))) (.seq (.ops [oS 26 (.move (.tmp 5)), oS 27 (.bin .leq .none (.tmp 26) (.lit (.int .i64 600))), oS 28 (.move (.tmp 27)), oG 29 28 true (.load (some 4) (.tmp 2)), oG 30 28 true (.call (.lit (.func 30 [])) [.tmp 29, .lit (.int .i64 300)]), oS 31 (.pick (.tmp 28) (.tmp 30) (.lit (.bool false))), oS 4 (.move (.tmp 31))]) .ret)))
theorem few17_spec (t : FTask) (b : List (List Int)) (tok : Tok) (σ : Store) (ht : TB t) (hb : LT b) :
  ACalls Tryz.prog 7 [.agg (encTask t), .slice tok (b.map encL)] σ (isR (.bool (few17B t b)) σ) := by
 refine ACalls.intro (rs := [(.tmp 4)]) (by kernel_rfl) { own := [], ghosts := [] } Tryz.func7 (c := Tryz.f7.body.getD .skip) (by kernel_rfl) (by decide) (by rw [show Tryz.f7.ntmps = 32 by kernel_rfl]; exact Nat.le_of_ble_eq_true rfl) (by kernel_rfl) ?_
 intro hσ hids
 rw [show comp Tryz.prog { own := [], ghosts := [] } (Tryz.f7.body.getD .skip) = c_few17 by kernel_rfl, show Tryz.f7.ntmps = 32 by kernel_rfl]
 unfold c_few17
 have hil : Ids σ.length (.slice tok (b.map encL)) := hids _ (by simp)
 have hσ1 := ids_grow hσ (ids_encTask t)
 have hb1 := hb.1
 simp only [go_sem, simprocAttr]
 refine wpc_while (α := Nat × Int) (fun q => [(1, .slice tok (b.map encL)), (2, .ptr σ.length 0), (5, .int .i64 q.2), (6, .int .i64 (q.1 : Nat))]) (fun _ => σ ++ [.row (encTask t)])
  (fun q => q.1 ≤ b.length ∧ 0 ≤ q.2 ∧ q.2 ≤ 300 + 140737488355328 ∧ fewN b b.length = fewN (b.drop q.1) q.2) (fun q => b.length - q.1) (0, (b.length : Int)) ⟨Nat.zero_le _, by simp, by simp only; omega, rfl⟩ ?_ ?_
 ·exact ghL0 hσ1
 rintro ⟨i, n⟩ ⟨hi, hn0, hn1, hv⟩ K hK hE hR
 dsimp only at hi hn0 hn1 hv ⊢
 have fin : ∀ v : Bool, few17B t b = v → ∀ sl, lk sl 4 = .bool v → bodyK [.tmp 4] σ.length 32 (isR (.bool (few17B t b)) σ) .ret sl (σ ++ [.row (encTask t)]) := fun v hv sl h4 => by
  refine ret_gh (v := .bool v) (σ' := σ) (Ghost.keep _ (Nat.le_refl _) ⟨⟨by rw [h4]; exact .refl _, .bool _⟩, trivial⟩ hσ) (Nat.le_refl _) hσ (.bool _) ⟨by rw [hv], rfl⟩
 have hfew := few01_spec t 300
 by_cases h : i < b.length ∧ n ≤ 300
 ·obtain ⟨s, hx⟩ := get_ex h.1
  have hsl := hb.2 s (List.mem_of_getElem? hx)
  have hlt : ((i : Int) < (b.length : Int)) := by omega
  have hw1 := wrapS (i := i) (by omega)
  have h2 := h.2
  have hw2 : IntKind.i64.wrap (n + (s.length : Int)) = n + s.length := wrap_ok (by omega)
  rw [drop_cons hx, fewN, if_pos h2] at hv
  simp only [go_sem, simprocAttr, hlt, h2, hx, encL]
  refine hK _ _ (i + 1, n + s.length) ⟨by simp only []; omega, by simp only []; omega, by simp only []; omega, hv⟩ (by simp only []; omega) ?_
  (try dsimp only)
  rw [hw1, hw2]
  exact ghL0 hσ1
 ·have hv : fewN b b.length = n := by
   rw [hv]
   by_cases h1 : i < b.length
   ·exact fewN_gt (fun q => h ⟨h1, q⟩)
   ·rw [drop_len h1]; rfl
  have hgo : ∀ (hh : Prop), hh → hh := fun _ q => q
  by_cases h1 : i < b.length
  ·have hlt : ((i : Int) < (b.length : Int)) := by omega
   have h2 : ¬ n ≤ 300 := fun q => h ⟨h1, q⟩
   by_cases h3 : n ≤ 600
   ·simp only [go_sem, simprocAttr, hlt, h2, hE, h3, encTask]
    have hfw := fun σ => hfew σ ht (by omega)
    simp only [encTask] at hfw
    refine (hfw _).is ?_
    simp only [go_sem, simprocAttr]
    exact fin _ (by unfold few17B; rw [hv, decide_eq_true h3, Bool.true_and]) _ rfl
   ·simp only [go_sem, simprocAttr, hlt, h2, hE, h3, encTask]
    exact fin false (by unfold few17B; rw [hv, decide_eq_false h3]; rfl) _ rfl
  ·have hlt : ¬ ((i : Int) < (b.length : Int)) := by omega
   by_cases h3 : n ≤ 600
   ·simp only [go_sem, simprocAttr, hlt, hE, h3, encTask]
    have hfw := fun σ => hfew σ ht (by omega)
    simp only [encTask] at hfw
    refine (hfw _).is ?_
    simp only [go_sem, simprocAttr]
    exact fin _ (by unfold few17B; rw [hv, decide_eq_true h3, Bool.true_and]) _ rfl
   ·simp only [go_sem, simprocAttr, hlt, hE, h3, encTask]
    exact fin false (by unfold few17B; rw [hv, decide_eq_false h3]; rfl) _ rfl
end Go.Proofs.YtcjgoomlaojljaaGreat
namespace Go.Ahl
structure DN (β : Type) where
 b : β
 fr : Int
 act : Int
 cost : Int
section
variable {β : Type}
def runD (A : Nat) (st : β → Nat → Option β) (c : Nat → Int) : List Nat → β → Option (β × Int)
 | [], b => some (b, 0)
 | a :: l, b => if a < A then (match st b a with
  | none => none
  | some u => (match runD A st c l u with
   | none => none
   | some r => some (r.1, c a + r.2))) else none
variable {A : Nat} {st : β → Nat → Option β} {c : Nat → Int} {goal : β → Bool} {root : β} {R : β → Prop} {C : Int}
theorem runD_snoc {l : List Nat} {a : Nat} {b u v : β} {k : Int} (h : runD A st c l b = some (u, k)) (ha : a < A) (hs : st u a = some v) : runD A st c (l ++ [a]) b = some (v, k + c a) := by
 induction l generalizing b k with
 | nil => simp only [runD, Option.some.injEq, Prod.mk.injEq] at h; obtain ⟨rfl, rfl⟩ := h; simp [runD, ha, hs]
 | cons x l ih =>
  simp only [runD, List.cons_append] at h ⊢
  split at h
  ·rename_i hx
   rw [if_pos hx]
   cases hw : st b x with
   | none => rw [hw] at h; simp at h
   | some w =>
    rw [hw] at h
    dsimp only at h ⊢
    cases hr : runD A st c l w with
    | none => rw [hr] at h; simp at h
    | some r =>
     rw [hr] at h
     simp only [Option.some.injEq, Prod.mk.injEq] at h
     obtain ⟨h1, h2⟩ := h
     have := ih (b := w) (k := r.2) (by rw [hr, ← h1])
     rw [this]
     simp only [Option.some.injEq, Prod.mk.injEq, true_and]; omega
  ·simp at h
def Ranked (ns : List (DN β)) : List Nat → Prop
 | [] => True
 | n :: l => (n = 0 ∨ ∃ x p : _, ns[n]? = some x ∧ x.fr = ((p : Nat) : Int) ∧ p ∈ l) ∧ Ranked ns l
theorem Ranked.congr {ns ns' : List (DN β)} : ∀ {S : List Nat}, (∀ n ∈ S, ns'[n]? = ns[n]?) → Ranked ns S → Ranked ns' S
 | [], _, _ => trivial
 | n :: l, h, k => by
  refine ⟨?_, Ranked.congr (fun m hm => h m (List.mem_cons_of_mem _ hm)) k.2⟩
  rcases k.1 with k1 | ⟨x, p, k1, k2, k3⟩
  ·exact .inl k1
  ·exact .inr ⟨x, p, by rw [h n List.mem_cons_self]; exact k1, k2, k3⟩
theorem dn_len {l m : List Nat} (h : l.Nodup) (hs : ∀ x ∈ l, x ∈ m) : l.length ≤ m.length := by
 induction l generalizing m with
 | nil => simp
 | cons x l ih =>
  obtain ⟨h1, h2⟩ := List.nodup_cons.1 h
  have hx := hs x List.mem_cons_self
  have := ih (m := m.erase x) h2 fun y hy => (List.mem_erase_of_ne (fun e : y = x => h1 (e ▸ hy))).2 (hs y (List.mem_cons_of_mem _ hy))
  rw [List.length_erase_of_mem hx] at this
  have := List.length_pos_of_mem hx
  simp only [List.length_cons]; omega
structure DInv (A : Nat) (st : β → Nat → Option β) (c : Nat → Int) (goal : β → Bool) (root : β) (R : β → Prop) (C : Int) (lim : Nat → Nat) (ns : List (DN β)) (Q : List (Nat × Int)) (best : Int) (S : List Nat) : Prop where
 nd : (ns.map (·.b)).Nodup
 r0 : ns[0]? = some ⟨root, -1, 0, 0⟩
 reach : ∀ x ∈ ns, R x.b
 nn : ∀ x ∈ ns, 0 ≤ x.cost
 path : ∀ (i : Nat) x, ns[i]? = some x → 0 < i → ∃ (p a : Nat) (y : DN β), x.fr = p ∧ p ∈ S ∧ ns[p]? = some y ∧ a < A ∧ x.act = a ∧ st y.b a = some x.b ∧ x.cost = y.cost + c a
 rank : Ranked ns S
 settled : ∀ n ∈ S, ∃ x, ns[n]? = some x ∧ ∀ a, a < lim n → ∀ u, st x.b a = some u → ∃ y ∈ ns, y.b = u ∧ y.cost ≤ x.cost + c a
 opn : ∀ (i : Nat) x, ns[i]? = some x → i ∉ S → (i, x.cost) ∈ Q
 items : ∀ q ∈ Q, ∃ x, ns[q.1]? = some x ∧ x.cost ≤ q.2 ∧ (q.1 ∈ S → x.cost < q.2)
 qnd : Q.Nodup
 ord : ∀ n ∈ S, ∀ x, ns[n]? = some x → ∀ q ∈ Q, x.cost ≤ q.2
 snd : S.Nodup
 best : (best = -1 ∧ ∀ n ∈ S, ∀ x, ns[n]? = some x → goal x.b = false) ∨
  ∃ k : Nat, best = k ∧ k ∈ S ∧ ∃ x, ns[k]? = some x ∧ goal x.b = true ∧ ∀ n ∈ S, ∀ y, ns[n]? = some y → goal y.b = true → x.cost ≤ y.cost
 cb : ∀ x ∈ ns, x.cost ≤ C * S.length
 cq : ∀ q ∈ Q, q.2 ≤ C * S.length
structure DNow (A : Nat) (st : β → Nat → Option β) (c : Nat → Int) (goal : β → Bool) (root : β) (R : β → Prop) (C : Int) (n k : Nat) (x : DN β) (ns : List (DN β)) (Q : List (Nat × Int)) (best : Int) (S : List Nat) : Prop where
 inv : DInv A st c goal root R C (fun m => if m = n then k else A) ns Q best S
 mem : n ∈ S
 at_ : ns[n]? = some x
 last : ∀ s ∈ S, ∀ y, ns[s]? = some y → y.cost ≤ x.cost
 cx : x.cost ≤ C * ((S.length : Int) - 1)
theorem DInv.start (hR : R root) : DInv A st c goal root R C (fun _ => A) [⟨root, -1, 0, 0⟩] [(0, 0)] (-1) [] where
 nd := by simp
 r0 := rfl
 reach := by simp [hR]
 nn := by simp
 path := by intro i x h hi; rw [List.getElem?_eq_none (by simp; omega)] at h; simp at h
 rank := trivial
 settled := by simp
 opn := by
  intro i x h _
  cases i with
  | zero => simp at h; subst h; simp
  | succ i => simp at h
 items := by simp
 qnd := by simp
 ord := by simp
 snd := List.Pairwise.nil
 best := .inl ⟨rfl, by simp⟩
 cb := by simp
 cq := by simp
theorem DInv.bnd {lim : Nat → Nat} {ns : List (DN β)} {Q : List (Nat × Int)} {best : Int} {S : List Nat} (h : DInv A st c goal root R C lim ns Q best S) : S.length ≤ ns.length := by
 have h1 : ∀ n ∈ S, n ∈ List.range ns.length := fun n hn => by
  obtain ⟨x, hx, _⟩ := h.settled n hn
  rw [List.mem_range]
  exact (List.getElem?_eq_some_iff.1 hx).1
 have := dn_len h.snd h1
 simpa using this
theorem DInv.stale {lim : Nat → Nat} {ns : List (DN β)} {Q Q' : List (Nat × Int)} {best : Int} {S : List Nat} (h : DInv A st c goal root R C lim ns Q best S) {n : Nat} {cst : Int} {x : DN β} (hq : Q.Perm ((n, cst) :: Q')) (hx : ns[n]? = some x) (hlt : x.cost < cst) :
  DInv A st c goal root R C lim ns Q' best S :=
 have hin : ∀ q ∈ Q', q ∈ Q := fun q hq' => hq.mem_iff.2 (List.mem_cons_of_mem _ hq')
 {h with
  opn := fun i y hy hS => by
   have := hq.mem_iff.1 (h.opn i y hy hS)
   rcases List.mem_cons.1 this with e | e
   ·injection e with e1 e2; subst e1; rw [hx] at hy; injection hy with hy; subst hy; omega
   ·exact e
  items := fun q hq' => h.items q (hin q hq')
  qnd := (List.nodup_cons.1 (hq.nodup_iff.1 h.qnd)).2
  ord := fun m hm y hy q hq' => h.ord m hm y hy q (hin q hq')
  cq := fun q hq' => h.cq q (hin q hq') }
theorem DInv.settle {ns : List (DN β)} {Q Q' : List (Nat × Int)} {best : Int} {S : List Nat} (h : DInv A st c goal root R C (fun _ => A) ns Q best S) {n : Nat} {cst : Int} {x : DN β} (hC : 0 ≤ C) (hq : Q.Perm ((n, cst) :: Q')) (hmin : ∀ q ∈ Q', cst ≤ q.2) (hx : ns[n]? = some x) (hge : ¬ x.cost < cst) :
  DNow A st c goal root R C n 0 x ns Q' (if best < 0 ∧ goal x.b = true then (n : Int) else best) (n :: S) ∧ x.cost = cst := by
 have hin : ∀ q ∈ Q', q ∈ Q := fun q hq' => hq.mem_iff.2 (List.mem_cons_of_mem _ hq')
 have hQn : (n, cst) ∈ Q := hq.mem_iff.2 List.mem_cons_self
 obtain ⟨x', hx', h1, h2⟩ := h.items _ hQn
 dsimp only at hx' h1 h2
 rw [hx] at hx'; injection hx' with hx'; subst hx'
 have hcst : x.cost = cst := by omega
 have hnS : n ∉ S := fun q => hge (h2 q)
 have hnd := List.nodup_cons.1 (hq.nodup_iff.1 h.qnd)
 have hCS : C * ((n :: S).length : Int) = C * S.length + C := by
  rw [List.length_cons]; push_cast; rw [Int.mul_add]; omega
 have hold : ∀ s ∈ S, ∀ y, ns[s]? = some y → y.cost ≤ x.cost := fun s hs y hy => by have := h.ord s hs y hy _ hQn; dsimp only at this; omega
 refine ⟨⟨{ h with
  path := fun i y hy hi => by
   obtain ⟨p, a, z, e1, e2, e3⟩ := h.path i y hy hi
   exact ⟨p, a, z, e1, List.mem_cons_of_mem _ e2, e3⟩
  rank := ⟨?_, h.rank⟩
  settled := fun m hm => ?_
  opn := fun i y hy hS => ?_
  items := fun q hq' => ?_
  qnd := hnd.2
  ord := fun m hm y hy q hq' => ?_
  snd := List.nodup_cons.2 ⟨hnS, h.snd⟩
  best := ?_
  cb := fun y hy => by rw [hCS]; have := h.cb y hy; omega
  cq := fun q hq' => by rw [hCS]; have := h.cq q (hin q hq'); omega }, List.mem_cons_self, hx, fun s hs y hy => ?_, ?_⟩, hcst⟩
 ·rcases Nat.eq_zero_or_pos n with h0 | h0
  ·exact .inl h0
  ·obtain ⟨p, a, z, e1, e2, e3⟩ := h.path n x hx h0
   exact .inr ⟨x, p, hx, e1, e2⟩
 ·rcases List.mem_cons.1 hm with rfl | hm
  ·exact ⟨x, hx, fun a ha => by simp at ha⟩
  ·have hmn : m ≠ n := fun e => hnS (e ▸ hm)
   obtain ⟨y, hy, hy2⟩ := h.settled m hm
   refine ⟨y, hy, fun a ha => hy2 a ?_⟩
   simpa [hmn] using ha
 ·have h1 : i ≠ n := fun e => hS (e ▸ List.mem_cons_self)
  have := hq.mem_iff.1 (h.opn i y hy fun q => hS (List.mem_cons_of_mem _ q))
  rcases List.mem_cons.1 this with e | e
  ·injection e with e1 e2; exact absurd e1 h1
  ·exact e
 ·obtain ⟨y, hy, k1, k2⟩ := h.items q (hin q hq')
  refine ⟨y, hy, k1, fun hm => ?_⟩
  rcases List.mem_cons.1 hm with e | hm
  ·rw [e, hx] at hy; injection hy with hy; subst hy
   rcases Int.lt_or_eq_of_le k1 with k1 | k1
   ·exact k1
   ·exact absurd (show (n, cst) ∈ Q' by rw [← hcst, k1, ← e]; exact hq') hnd.1
  ·exact k2 hm
 ·rcases List.mem_cons.1 hm with rfl | hm
  ·rw [hx] at hy; injection hy with hy; subst hy
   rw [hcst]; exact hmin q hq'
  ·exact h.ord m hm y hy q (hin q hq')
 ·rcases h.best with ⟨hb, hb2⟩ | ⟨k, rfl, hk, z, hz, hg, hz2⟩
  ·cases hgx : goal x.b
   ·rw [if_neg (by simp)]
    refine .inl ⟨hb, fun m hm y hy => ?_⟩
    rcases List.mem_cons.1 hm with rfl | hm
    ·rw [hx] at hy; injection hy with hy; subst hy; exact hgx
    ·exact hb2 m hm y hy
   ·rw [if_pos ⟨by omega, rfl⟩]
    refine .inr ⟨n, rfl, List.mem_cons_self, x, hx, hgx, fun m hm y hy hgy => ?_⟩
    rcases List.mem_cons.1 hm with rfl | hm
    ·rw [hx] at hy; injection hy with hy; subst hy; exact Int.le_refl _
    ·rw [hb2 m hm y hy] at hgy; simp at hgy
  ·rw [if_neg (by omega)]
   refine .inr ⟨k, rfl, List.mem_cons_of_mem _ hk, z, hz, hg, fun m hm y hy hgy => ?_⟩
   rcases List.mem_cons.1 hm with rfl | hm
   ·rw [hx] at hy; injection hy with hy; subst hy; exact hold k hk z hz
   ·exact hz2 m hm y hy hgy
 ·rcases List.mem_cons.1 hs with rfl | hs
  ·rw [hx] at hy; injection hy with hy; subst hy; exact Int.le_refl _
  ·exact hold s hs y hy
 ·have := h.cb x (List.mem_of_getElem? hx)
  rw [List.length_cons]; push_cast
  rw [show ((S.length : Int) + 1 - 1) = S.length by omega]; exact this
theorem DNow.done {n : Nat} {x : DN β} {ns : List (DN β)} {Q : List (Nat × Int)} {best : Int} {S : List Nat} (h : DNow A st c goal root R C n A x ns Q best S) : DInv A st c goal root R C (fun _ => A) ns Q best S := by
 have := h.inv
 simp only [ite_self] at this
 exact this
theorem lim_succ {n k m a : Nat} (h : a < if m = n then k + 1 else A) : (a < if m = n then k else A) ∨ (m = n ∧ a = k) := by
 split at h
 ·rename_i e
  rcases Nat.lt_or_ge a k with q | q
  ·left; rw [if_pos e]; exact q
  ·exact .inr ⟨e, by omega⟩
 ·rename_i e
  left; rw [if_neg e]; exact h
theorem DNow.skip {n k : Nat} {x : DN β} {ns : List (DN β)} {Q : List (Nat × Int)} {best : Int} {S : List Nat} (h : DNow A st c goal root R C n k x ns Q best S)
  (hk : ∀ u, st x.b k = some u → ∃ y ∈ ns, y.b = u ∧ y.cost ≤ x.cost + c k) : DNow A st c goal root R C n (k + 1) x ns Q best S :=
 have key : ∀ m ∈ S, ∃ x, ns[m]? = some x ∧ ∀ a, a < (if m = n then k + 1 else A) → ∀ u, st x.b a = some u → ∃ y ∈ ns, y.b = u ∧ y.cost ≤ x.cost + c a := fun m hm => by
  obtain ⟨y, hy, hy2⟩ := h.inv.settled m hm
  refine ⟨y, hy, fun a ha u hu => ?_⟩
  rcases lim_succ ha with ha | ⟨rfl, rfl⟩
  ·exact hy2 a ha u hu
  ·rw [h.at_] at hy
   injection hy with hy
   subst hy
   exact hk u hu
 {h with inv := { h.inv with settled := key } }
theorem get_app_lt {α : Type} {l : List α} {x y : α} {i : Nat} (h : (l ++ [x])[i]? = some y) : l[i]? = some y ∨ (i = l.length ∧ y = x) := by
 rcases Nat.lt_or_ge i l.length with q | q
 ·rw [List.getElem?_append_left q] at h; exact .inl h
 ·rw [List.getElem?_append_right q] at h
  cases e : i - l.length with
  | zero => rw [e] at h; simp at h; exact .inr ⟨by omega, h.symm⟩
  | succ j => rw [e] at h; simp at h
theorem get_app_of {α : Type} {l : List α} {x y : α} {i : Nat} (h : l[i]? = some y) : (l ++ [x])[i]? = some y := by
 rw [List.getElem?_append_left (List.getElem?_eq_some_iff.1 h).1]; exact h
theorem DNow.new {n k : Nat} {x : DN β} {ns : List (DN β)} {Q Q' : List (Nat × Int)} {best : Int} {S : List Nat} {u : β} (h : DNow A st c goal root R C n k x ns Q best S) (hkA : k < A) (hc : 0 ≤ c k) (hcC : c k ≤ C)
  (hR : R u) (hu : st x.b k = some u) (hnew : u ∉ ns.map (·.b)) (hq : Q'.Perm ((ns.length, x.cost + c k) :: Q)) :
  DNow A st c goal root R C n (k + 1) x (ns ++ [⟨u, n, k, x.cost + c k⟩]) Q' best S := by
 have hn := h.at_
 have hSlt : ∀ m ∈ S, m < ns.length := fun m hm => by obtain ⟨y, hy, _⟩ := h.inv.settled m hm; exact (List.getElem?_eq_some_iff.1 hy).1
 have hget : ∀ m ∈ S, (ns ++ [⟨u, n, k, x.cost + c k⟩])[m]? = ns[m]? := fun m hm => List.getElem?_append_left (hSlt m hm)
 have hx0 := h.inv.nn x (List.mem_of_getElem? hn)
 have hbig : x.cost + c k ≤ C * S.length := by
  have := h.cx; rw [Int.mul_sub] at this; omega
 refine ⟨{ nd := ?_, r0 := get_app_of h.inv.r0, reach := ?_, nn := ?_, path := ?_, rank := h.inv.rank.congr hget, settled := ?_, opn := ?_, items := ?_, qnd := ?_, ord := ?_, snd := h.inv.snd, best := ?_, cb := ?_, cq := ?_ }, h.mem, get_app_of hn, fun s hs y hy => h.last s hs y (by rw [← hget s hs]; exact hy), h.cx⟩
 ·rw [List.map_append, List.nodup_append]
  refine ⟨h.inv.nd, by simp, fun a ha b hb => ?_⟩
  simp at hb; subst hb
  exact fun e => hnew (e ▸ ha)
 ·intro y hy
  rcases List.mem_append.1 hy with hy | hy
  ·exact h.inv.reach y hy
  ·simp at hy; subst hy; exact hR
 ·intro y hy
  rcases List.mem_append.1 hy with hy | hy
  ·exact h.inv.nn y hy
  ·simp at hy; subst hy; dsimp only; omega
 ·intro i y hy hi
  rcases get_app_lt hy with hy | ⟨rfl, rfl⟩
  ·obtain ⟨p, a, z, e1, e2, e3, e4⟩ := h.inv.path i y hy hi
   exact ⟨p, a, z, e1, e2, get_app_of e3, e4⟩
  ·exact ⟨n, k, x, rfl, h.mem, get_app_of hn, hkA, rfl, hu, rfl⟩
 ·intro m hm
  obtain ⟨y, hy, hy2⟩ := h.inv.settled m hm
  refine ⟨y, get_app_of hy, fun a ha v hv => ?_⟩
  rcases lim_succ ha with ha | ⟨rfl, rfl⟩
  ·obtain ⟨z, hz, hz2⟩ := hy2 a ha v hv
   exact ⟨z, List.mem_append_left _ hz, hz2⟩
  ·rw [hn] at hy; injection hy with hy; subst hy
   rw [hu] at hv; injection hv with hv; subst hv
   exact ⟨_, List.mem_append_right _ (List.mem_singleton_self _), rfl, Int.le_refl _⟩
 ·intro i y hy hi
  rw [hq.mem_iff]
  rcases get_app_lt hy with hy | ⟨rfl, rfl⟩
  ·exact List.mem_cons_of_mem _ (h.inv.opn i y hy hi)
  ·exact List.mem_cons_self
 ·intro q hq'
  rcases List.mem_cons.1 (hq.mem_iff.1 hq') with rfl | hq'
  ·refine ⟨⟨u, n, k, x.cost + c k⟩, by simp, Int.le_refl _, fun hm => ?_⟩
   exact absurd (hSlt _ hm) (by dsimp only; omega)
  ·obtain ⟨y, hy, k1⟩ := h.inv.items q hq'
   exact ⟨y, get_app_of hy, k1⟩
 ·rw [hq.nodup_iff, List.nodup_cons]
  refine ⟨fun hm => ?_, h.inv.qnd⟩
  obtain ⟨y, hy, _⟩ := h.inv.items _ hm
  have := (List.getElem?_eq_some_iff.1 hy).1
  dsimp only at this; omega
 ·intro m hm y hy q hq'
  rw [hget m hm] at hy
  rcases List.mem_cons.1 (hq.mem_iff.1 hq') with rfl | hq'
  ·have := h.last m hm y hy; dsimp only; omega
  ·exact h.inv.ord m hm y hy q hq'
 ·rcases h.inv.best with ⟨hb, hb2⟩ | ⟨j, rfl, hj, z, hz, hg, hz2⟩
  ·exact .inl ⟨hb, fun m hm y hy => hb2 m hm y (by rw [← hget m hm]; exact hy)⟩
  ·exact .inr ⟨j, rfl, hj, z, get_app_of hz, hg, fun m hm y hy => hz2 m hm y (by rw [← hget m hm]; exact hy)⟩
 ·intro y hy
  rcases List.mem_append.1 hy with hy | hy
  ·exact h.inv.cb y hy
  ·simp at hy; subst hy; exact hbig
 ·intro q hq'
  rcases List.mem_cons.1 (hq.mem_iff.1 hq') with rfl | hq'
  ·exact hbig
  ·exact h.inv.cq q hq'
theorem set_get {α : Type} {l : List α} {j i : Nat} {x y : α} (h : (l.set j x)[i]? = some y) : (i = j ∧ y = x) ∨ (i ≠ j ∧ l[i]? = some y) := by
 by_cases e : i = j
 ·subst e
  have hl : i < l.length := by have := (List.getElem?_eq_some_iff.1 h).1; simpa using this
  rw [List.getElem?_set_self hl] at h
  injection h with h; exact .inl ⟨rfl, h.symm⟩
 ·rw [List.getElem?_set_ne (fun q => e q.symm)] at h; exact .inr ⟨e, h⟩
theorem DNow.better {n k j : Nat} {x y : DN β} {ns : List (DN β)} {Q Q' : List (Nat × Int)} {best : Int} {S : List Nat} (h : DNow A st c goal root R C n k x ns Q best S) (hkA : k < A) (hc : 0 ≤ c k) (hcC : c k ≤ C)
  (hy : ns[j]? = some y) (hu : st x.b k = some y.b) (hlt : x.cost + c k < y.cost) (hq : Q'.Perm ((j, x.cost + c k) :: Q)) :
  DNow A st c goal root R C n (k + 1) x (ns.set j ⟨y.b, n, k, x.cost + c k⟩) Q' best S := by
 have hn := h.at_
 have hx0 := h.inv.nn x (List.mem_of_getElem? hn)
 have hjS : j ∉ S := fun q => by have := h.last j q y hy; omega
 have hj0 : j ≠ 0 := fun e => by subst e; rw [h.inv.r0] at hy; injection hy with hy; subst hy; dsimp only at hlt; omega
 have hjl : j < ns.length := (List.getElem?_eq_some_iff.1 hy).1
 have hget : ∀ m ∈ S, (ns.set j ⟨y.b, n, k, x.cost + c k⟩)[m]? = ns[m]? := fun m hm => List.getElem?_set_ne (fun e : j = m => hjS (e ▸ hm))
 have hbig : x.cost + c k ≤ C * S.length := by
  have := h.cx; rw [Int.mul_sub] at this; omega
 have hmap : (ns.set j ⟨y.b, n, k, x.cost + c k⟩).map (·.b) = ns.map (·.b) := by
  rw [List.map_set]
  apply List.ext_getElem?
  intro i
  by_cases e : i = j
  ·subst e; rw [List.getElem?_set_self (by simpa using hjl), List.getElem?_map, hy]; rfl
  ·rw [List.getElem?_set_ne (fun q => e q.symm)]
 have hmem : ∀ z ∈ ns.set j ⟨y.b, n, k, x.cost + c k⟩, z = ⟨y.b, n, k, x.cost + c k⟩ ∨ z ∈ ns := fun z hz => by
  rcases List.mem_or_eq_of_mem_set hz with q | q
  ·exact .inr q
  ·exact .inl q
 have hup : ∀ z ∈ ns, ∃ z' ∈ ns.set j ⟨y.b, n, k, x.cost + c k⟩, z'.b = z.b ∧ z'.cost ≤ z.cost := fun z hz => by
  obtain ⟨i, hi, rfl⟩ := List.mem_iff_getElem.1 hz
  by_cases e : i = j
  ·subst e
   have : ns[i] = y := by rw [List.getElem?_eq_getElem hi] at hy; injection hy
   exact ⟨⟨y.b, n, k, x.cost + c k⟩, List.mem_iff_getElem?.2 ⟨i, List.getElem?_set_self hjl⟩, by rw [this], by rw [this]; dsimp only; omega⟩
  ·exact ⟨ns[i], List.mem_iff_getElem?.2 ⟨i, by rw [List.getElem?_set_ne (fun q => e q.symm)]; exact List.getElem?_eq_getElem hi⟩, rfl, Int.le_refl _⟩
 refine ⟨{ nd := by rw [hmap]; exact h.inv.nd, r0 := by rw [List.getElem?_set_ne hj0]; exact h.inv.r0, reach := ?_, nn := ?_, path := ?_, rank := h.inv.rank.congr hget, settled := ?_, opn := ?_, items := ?_, qnd := ?_, ord := ?_, snd := h.inv.snd, best := ?_, cb := ?_, cq := ?_ }, h.mem, by rw [hget n h.mem]; exact hn, fun s hs z hz => h.last s hs z (by rw [← hget s hs]; exact hz), h.cx⟩
 ·intro z hz
  rcases hmem z hz with rfl | hz
  ·exact h.inv.reach y (List.mem_of_getElem? hy)
  ·exact h.inv.reach z hz
 ·intro z hz
  rcases hmem z hz with rfl | hz
  ·dsimp only; omega
  ·exact h.inv.nn z hz
 ·intro i z hz hi
  rcases set_get hz with ⟨rfl, rfl⟩ | ⟨_, hz⟩
  ·exact ⟨n, k, x, rfl, h.mem, by rw [hget n h.mem]; exact hn, hkA, rfl, hu, rfl⟩
  ·obtain ⟨p, a, v, e1, e2, e3, e4⟩ := h.inv.path i z hz hi
   exact ⟨p, a, v, e1, e2, by rw [hget p e2]; exact e3, e4⟩
 ·intro m hm
  obtain ⟨z, hz, hz2⟩ := h.inv.settled m hm
  refine ⟨z, by rw [hget m hm]; exact hz, fun a ha v hv => ?_⟩
  rcases lim_succ ha with ha | ⟨rfl, rfl⟩
  ·obtain ⟨r, hr, hr1, hr2⟩ := hz2 a ha v hv
   obtain ⟨r', hr', e1, e2⟩ := hup r hr
   exact ⟨r', hr', e1.trans hr1, by omega⟩
  ·rw [hn] at hz; injection hz with hz; subst hz
   rw [hu] at hv; injection hv with hv; subst hv
   exact ⟨_, List.mem_iff_getElem?.2 ⟨j, List.getElem?_set_self hjl⟩, rfl, Int.le_refl _⟩
 ·intro i z hz hi
  rw [hq.mem_iff]
  rcases set_get hz with ⟨rfl, rfl⟩ | ⟨_, hz⟩
  ·exact List.mem_cons_self
  ·exact List.mem_cons_of_mem _ (h.inv.opn i z hz hi)
 ·intro q hq'
  rcases List.mem_cons.1 (hq.mem_iff.1 hq') with rfl | hq'
  ·exact ⟨⟨y.b, n, k, x.cost + c k⟩, List.getElem?_set_self hjl, Int.le_refl _, fun hm => absurd hm hjS⟩
  ·obtain ⟨z, hz, k1, k2⟩ := h.inv.items q hq'
   by_cases e : q.1 = j
   ·rw [e] at hz; rw [hy] at hz; injection hz with hz; subst hz
    exact ⟨⟨y.b, n, k, x.cost + c k⟩, by rw [e]; exact List.getElem?_set_self hjl, by dsimp only; omega, fun hm => absurd (e ▸ hm) hjS⟩
   ·exact ⟨z, by rw [List.getElem?_set_ne (fun r => e r.symm)]; exact hz, k1, k2⟩
 ·rw [hq.nodup_iff, List.nodup_cons]
  refine ⟨fun hm => ?_, h.inv.qnd⟩
  obtain ⟨z, hz, k1, _⟩ := h.inv.items _ hm
  dsimp only at hz k1
  rw [hy] at hz; injection hz with hz; subst hz; omega
 ·intro m hm z hz q hq'
  rw [hget m hm] at hz
  rcases List.mem_cons.1 (hq.mem_iff.1 hq') with rfl | hq'
  ·have := h.last m hm z hz; dsimp only; omega
  ·exact h.inv.ord m hm z hz q hq'
 ·rcases h.inv.best with ⟨hb, hb2⟩ | ⟨i, rfl, hi, z, hz, hg, hz2⟩
  ·exact .inl ⟨hb, fun m hm z hz => hb2 m hm z (by rw [← hget m hm]; exact hz)⟩
  ·exact .inr ⟨i, rfl, hi, z, by rw [hget i hi]; exact hz, hg, fun m hm v hv => hz2 m hm v (by rw [← hget m hm]; exact hv)⟩
 ·intro z hz
  rcases hmem z hz with rfl | hz
  ·exact hbig
  ·exact h.inv.cb z hz
 ·intro q hq'
  rcases List.mem_cons.1 (hq.mem_iff.1 hq') with rfl | hq'
  ·exact hbig
  ·exact h.inv.cq q hq'
inductive Chain (ns : List (DN β)) : Nat → List Nat → Prop
 | nil : Chain ns 0 []
 | cons {i p a : Nat} {x : DN β} {l : List Nat} (h : ns[i]? = some x) (hf : x.fr = p) (ha : x.act = a) (t : Chain ns p l) : Chain ns i (a :: l)
theorem DInv.chain {lim : Nat → Nat} {ns : List (DN β)} {Q : List (Nat × Int)} {best : Int} {S : List Nat} (h : DInv A st c goal root R C lim ns Q best S) :
  ∀ T : List Nat, (∀ n ∈ T, n ∈ S) → Ranked ns T → ∀ n ∈ T, ∃ l x, Chain ns n l ∧ l.length < T.length ∧ (∀ a ∈ l, a < A) ∧ ns[n]? = some x ∧ runD A st c l.reverse root = some (x.b, x.cost)
 | [], _, _, n, hn => by simp at hn
 | m :: T, hT, hr, n, hn => by
  have ih := DInv.chain h T (fun n hn => hT n (List.mem_cons_of_mem _ hn)) hr.2
  rcases List.mem_cons.1 hn with rfl | hn
  ·rcases Nat.eq_zero_or_pos n with rfl | h0
   ·exact ⟨[], _, .nil, by simp, by simp, h.r0, rfl⟩
   ·rcases hr.1 with e | ⟨x, p, hx, hf, hp⟩
    ·omega
    ·obtain ⟨p', a, y, e1, e2, e3, e4, e5, e6, e7⟩ := h.path n x hx h0
     have hpp : p' = p := by rw [hf] at e1; omega
     subst hpp
     obtain ⟨l, z, c1, c2, c3, c4, c5⟩ := ih p' hp
     rw [e3] at c4; injection c4 with c4; subst c4
     refine ⟨a :: l, x, .cons hx hf e5 c1, by simp only [List.length_cons]; omega, fun b hb => ?_, hx, ?_⟩
     ·rcases List.mem_cons.1 hb with rfl | hb
      ·exact e4
      ·exact c3 b hb
     ·rw [List.reverse_cons, runD_snoc c5 e4 e6, e7]
  ·obtain ⟨l, x, c1, c2, c3⟩ := ih n hn
   exact ⟨l, x, c1, by simp only [List.length_cons]; omega, c3⟩
theorem DInv.low {ns : List (DN β)} {best : Int} {S : List Nat} (h : DInv A st c goal root R C (fun _ => A) ns [] best S) : ∀ (l : List Nat) (x : DN β) (v : β) (k : Int), x ∈ ns → runD A st c l x.b = some (v, k) → ∃ y ∈ ns, y.b = v ∧ y.cost ≤ x.cost + k
 | [], x, v, k, hx, e => by
  simp only [runD, Option.some.injEq, Prod.mk.injEq] at e
  exact ⟨x, hx, e.1, by omega⟩
 | a :: l, x, v, k, hx, e => by
  simp only [runD] at e
  split at e
  ·rename_i ha
   split at e
   ·simp at e
   ·rename_i u hu
    cases hr : runD A st c l u with
    | none => rw [hr] at e; simp at e
    | some r =>
     rw [hr] at e
     simp only [Option.some.injEq, Prod.mk.injEq] at e
     obtain ⟨i, hi, rfl⟩ := List.mem_iff_getElem.1 hx
     have hget := List.getElem?_eq_getElem hi
     have hS : i ∈ S := Classical.byContradiction fun q => by have := h.opn i _ hget q; simp at this
     obtain ⟨x', hx', h2⟩ := h.settled i hS
     rw [hget] at hx'; injection hx' with hx'; subst hx'
     obtain ⟨y, hy, y1, y2⟩ := h2 a ha u hu
     obtain ⟨z, hz, z1, z2⟩ := DInv.low h l y v r.2 hy (by rw [y1, hr, ← e.1])
     exact ⟨z, hz, z1, by omega⟩
  ·simp at e
theorem DInv.fin {ns : List (DN β)} {best : Int} {S : List Nat} (h : DInv A st c goal root R C (fun _ => A) ns [] best S) :
  (best = -1 ∧ ∀ l v k, runD A st c l root = some (v, k) → goal v = false) ∨
  ∃ (i : Nat) (x : DN β) (l : List Nat), best = i ∧ ns[i]? = some x ∧ Chain ns i l ∧ l.length < ns.length ∧ (∀ a ∈ l, a < A) ∧ runD A st c l.reverse root = some (x.b, x.cost) ∧ goal x.b = true ∧
   ∀ l v k, runD A st c l root = some (v, k) → goal v = true → x.cost ≤ k := by
 have hall : ∀ l v k, runD A st c l root = some (v, k) → ∃ i ∈ S, ∃ y, ns[i]? = some y ∧ y.b = v ∧ y.cost ≤ k := fun l v k e => by
  obtain ⟨y, hy, y1, y2⟩ := h.low l ⟨root, -1, 0, 0⟩ v k (List.mem_of_getElem? h.r0) e
  obtain ⟨i, hi, rfl⟩ := List.mem_iff_getElem.1 hy
  have hget := List.getElem?_eq_getElem hi
  exact ⟨i, Classical.byContradiction fun q => by have := h.opn i _ hget q; simp at this, _, hget, y1, by dsimp only at y2; omega⟩
 rcases h.best with ⟨hb, hb2⟩ | ⟨i, rfl, hi, x, hx, hg, hx2⟩
 ·refine .inl ⟨hb, fun l v k e => ?_⟩
  obtain ⟨j, hj, y, hy, rfl, _⟩ := hall l v k e
  exact hb2 j hj y hy
 ·obtain ⟨l, x', c1, c2, c3, c4, c5⟩ := h.chain S (fun _ q => q) h.rank i hi
  rw [hx] at c4; injection c4 with c4; subst c4
  refine .inr ⟨i, x, l, rfl, hx, c1, Nat.lt_of_lt_of_le c2 h.bnd, c3, c5, hg, fun l v k e hv => ?_⟩
  obtain ⟨j, hj, y, hy, rfl, hk⟩ := hall l v k e
  have := hx2 j hj y hy hv
  omega
end
end Go.Ahl
namespace Go.Ahl
def dgL (n : Nat) : List UInt8 := if n < 10 then [UInt8.ofNat (48 + n)] else dgL (n / 10) ++ [UInt8.ofNat (48 + n % 10)]
termination_by n
decreasing_by omega
theorem dgL_small {n : Nat} (h : n < 10) : dgL n = [UInt8.ofNat (48 + n)] := by rw [dgL, if_pos h]
theorem dgL_big {n : Nat} (h : ¬ n < 10) : dgL n = dgL (n / 10) ++ [UInt8.ofNat (48 + n % 10)] := by rw [dgL, if_neg h]
theorem digit_nat {n : Nat} (h : n < 10) : (UInt8.ofNat (48 + n)).toNat = 48 + n := by
 rw [UInt8.toNat_ofNat']; exact Nat.mod_eq_of_lt (by omega)
def valL (l : List UInt8) : Nat := l.foldl (fun v d => 10 * v + (d.toNat - 48)) 0
theorem dgL_val : ∀ n : Nat, valL (dgL n) = n := fun n => by
 induction n using Nat.strongRecOn with
 | _ n ih =>
  by_cases h : n < 10
  ·rw [dgL_small h]; simp only [valL, List.foldl_cons, List.foldl_nil, digit_nat h]; omega
  ·rw [dgL_big h, valL, List.foldl_append]
   have := ih (n / 10) (by omega)
   unfold valL at this
   rw [this]; simp only [List.foldl_cons, List.foldl_nil, digit_nat (show n % 10 < 10 by omega)]; omega
theorem dgL_inj {n k : Nat} (h : dgL n = dgL k) : n = k := by rw [← dgL_val n, h, dgL_val]
theorem dgL_digit : ∀ n : Nat, ∀ d ∈ dgL n, 48 ≤ d.toNat ∧ d.toNat ≤ 57 := fun n => by
 induction n using Nat.strongRecOn with
 | _ n ih =>
  intro d hd
  by_cases h : n < 10
  ·rw [dgL_small h] at hd; obtain rfl := List.mem_singleton.1 hd
   rw [digit_nat h]; omega
  ·rw [dgL_big h] at hd
   rcases List.mem_append.1 hd with hd | hd
   ·exact ih (n / 10) (by omega) d hd
   ·obtain rfl := List.mem_singleton.1 hd
    rw [digit_nat (show n % 10 < 10 by omega)]; omega
theorem dgL_len {n : Nat} : ∀ k : Nat, n < 10 ^ k → 0 < k → (dgL n).length ≤ k := fun k => by
 induction k generalizing n with
 | zero => intro _ h; omega
 | succ k ih =>
  intro h _
  by_cases h1 : n < 10
  ·rw [dgL_small h1]; simp
  ·rw [dgL_big h1, List.length_append]
   have hk : 0 < k := by
    rcases Nat.eq_zero_or_pos k with rfl | q
    ·simp at h; omega
    ·exact q
   have := ih (n := n / 10) (by rw [Nat.pow_succ] at h; omega) hk
   simp only [List.length_singleton]; omega
def wordsL (m : UInt8) (ws : List (List UInt8)) : List UInt8 := ws.flatMap (· ++ [m])
theorem head_inj {m : UInt8} : ∀ {w v a b : List UInt8}, m ∉ w → m ∉ v → w ++ m :: a = v ++ m :: b → w = v ∧ a = b
 | [], [], a, b, _, _, h => by simp at h; exact ⟨rfl, h⟩
 | [], y :: v, a, b, _, hv, h => by simp at h; exact absurd h.1 (fun e => hv (by rw [e]; exact List.mem_cons_self))
 | x :: w, [], a, b, hw, _, h => by simp at h; exact absurd h.1 (fun e => hw (by rw [e]; exact List.mem_cons_self))
 | x :: w, y :: v, a, b, hw, hv, h => by
  simp only [List.cons_append, List.cons.injEq] at h
  obtain ⟨h1, h2⟩ := head_inj (fun q => hw (List.mem_cons_of_mem _ q)) (fun q => hv (List.mem_cons_of_mem _ q)) h.2
  exact ⟨by rw [h.1, h1], h2⟩
theorem words_inj {m : UInt8} : ∀ {ws vs : List (List UInt8)}, (∀ w ∈ ws, m ∉ w) → (∀ v ∈ vs, m ∉ v) → wordsL m ws = wordsL m vs → ws = vs
 | [], [], _, _, _ => rfl
 | [], v :: vs, _, _, h => by simp [wordsL] at h
 | w :: ws, [], _, _, h => by simp [wordsL] at h
 | w :: ws, v :: vs, hw, hv, h => by
  simp only [wordsL, List.flatMap_cons, List.append_assoc, List.singleton_append] at h
  obtain ⟨h1, h2⟩ := head_inj (hw w List.mem_cons_self) (hv v List.mem_cons_self) h
  rw [h1, words_inj (fun x q => hw x (List.mem_cons_of_mem _ q)) (fun x q => hv x (List.mem_cons_of_mem _ q)) h2]
theorem words_snoc (m : UInt8) (ws : List (List UInt8)) (w : List UInt8) : wordsL m (ws ++ [w]) = wordsL m ws ++ (w ++ [m]) := by
 simp [wordsL, List.flatMap_append]
theorem words_mem {m d : UInt8} {ws : List (List UInt8)} (h : d ∈ wordsL m ws) : d = m ∨ ∃ w ∈ ws, d ∈ w := by
 unfold wordsL at h
 obtain ⟨w, hw, hd⟩ := List.mem_flatMap.1 h
 rcases List.mem_append.1 hd with hd | hd
 ·exact .inr ⟨w, hw, hd⟩
 ·simp at hd; exact .inl hd
theorem words_len {m : UInt8} {ws : List (List UInt8)} {k : Nat} (h : ∀ w ∈ ws, w.length ≤ k) : (wordsL m ws).length ≤ (k + 1) * ws.length := by
 induction ws with
 | nil => simp [wordsL]
 | cons w ws ih =>
  have h1 := ih fun x q => h x (List.mem_cons_of_mem _ q)
  have h2 := h w List.mem_cons_self
  unfold wordsL at h1 ⊢
  rw [List.flatMap_cons, List.length_append, List.length_append, show (w :: ws).length = ws.length + 1 from rfl, Nat.mul_succ]
  simp only [List.length_singleton]; omega
end Go.Ahl
namespace Go.Proofs.YtcjgoomlaojljaaGreat
open Go.Ahl
theorem rising_mk {n : Int} : ∀ {s : List Int} {p : Int}, s.Pairwise (· < ·) → (∀ x ∈ s, p < x ∧ x < n) → risingB n p s = true
 | [], _, _, _ => rfl
 | x :: s, p, h, hb => by
  obtain ⟨h1, h2⟩ := List.pairwise_cons.1 h
  have hx := hb x List.mem_cons_self
  simp only [risingB, Bool.and_eq_true, decide_eq_true_eq]
  have := rising_mk (n := n) (p := x) h2 fun y hy => ⟨h1 y hy, (hb y (List.mem_cons_of_mem _ hy)).2⟩
  simp [hx.1, hx.2, this]
theorem pw_same : ∀ {l m : List Int}, l.Pairwise (· < ·) → m.Pairwise (· < ·) → (∀ x, x ∈ l ↔ x ∈ m) → l = m
 | [], [], _, _, _ => rfl
 | [], y :: m, _, _, h => absurd ((h y).2 List.mem_cons_self) (by simp)
 | x :: l, [], _, _, h => absurd ((h x).1 List.mem_cons_self) (by simp)
 | x :: l, y :: m, h1, h2, h => by
  obtain ⟨a1, a2⟩ := List.pairwise_cons.1 h1
  obtain ⟨b1, b2⟩ := List.pairwise_cons.1 h2
  have hxy : x = y := by
   rcases List.mem_cons.1 ((h x).1 List.mem_cons_self) with e | e
   ·exact e
   ·rcases List.mem_cons.1 ((h y).2 List.mem_cons_self) with e' | e'
    ·exact e'.symm
    ·have := a1 y e'; have := b1 x e; omega
  subst hxy
  rw [pw_same a2 b2 fun z => ?_]
  constructor
  ·intro hz
   rcases List.mem_cons.1 ((h z).1 (List.mem_cons_of_mem _ hz)) with e | e
   ·subst e; have := a1 z hz; omega
   ·exact e
  ·intro hz
   rcases List.mem_cons.1 ((h z).2 (List.mem_cons_of_mem _ hz)) with e | e
   ·subst e; have := b1 z hz; omega
   ·exact e
def factsL (k : List FLit) : List Int := k.map (·.fact)
def sureL (k : List FLit) : List Int := (k.filter fun l => !l.neg).map (·.fact)
def openU (k : List FLit) (i : Nat) : List Int := ((List.range i).map fun (f : Nat) => (f : Int)).filter fun f => !(factsL k).contains f
def openL (n : Nat) (k : List FLit) : List Int := openU k n
def selL (op : List Int) (c i : Nat) : List Int := ((List.range i).filter fun j => c.testBit j).map fun j => op.getD j 0
def stateK (n : Nat) (k : List FLit) (c : Nat) : List Int := Ahl.sortI (sureL k ++ selL (openL n k) c (openL n k).length)
def makeAll (n : Nat) (k : List FLit) : List (List Int) := (List.range (2 ^ (openL n k).length)).map (stateK n k)
def makeB (n : Nat) (k : List FLit) : List (List Int) := mergeB (makeAll n k)
theorem openU_succ (k : List FLit) (i : Nat) : openU k (i + 1) = openU k i ++ if (factsL k).contains i then [] else [(i : Int)] := by
 unfold openU
 rw [List.range_succ, List.map_append, List.filter_append]
 congr 1
 rw [List.map_singleton, List.filter_cons]
 cases (factsL k).contains i <;> rfl
theorem openU_len (k : List FLit) (i : Nat) : (openU k i).length ≤ i := by
 unfold openU; refine Nat.le_trans (List.length_filter_le _ _) (by simp)
theorem openU_mem {k : List FLit} {n : Nat} {x : Int} : x ∈ openU k n ↔ (0 ≤ x ∧ x < n) ∧ x ∉ factsL k := by
 unfold openU
 rw [List.mem_filter, List.mem_map]
 constructor
 ·rintro ⟨⟨f, hf, rfl⟩, h⟩
  have := List.mem_range.1 hf
  refine ⟨by omega, by simpa using h⟩
 ·rintro ⟨⟨h1, h2⟩, h3⟩
  exact ⟨⟨x.toNat, List.mem_range.2 (by omega), by omega⟩, by simpa using h3⟩
theorem openU_pw (k : List FLit) (n : Nat) : (openU k n).Pairwise (· < ·) := by
 unfold openU
 refine List.Pairwise.filter _ (List.pairwise_map.2 ?_)
 exact List.pairwise_lt_range.imp fun h => by omega
theorem selL_succ (op : List Int) (c i : Nat) : selL op c (i + 1) = selL op c i ++ if c.testBit i then [op.getD i 0] else [] := by
 unfold selL
 rw [List.range_succ, List.filter_append, List.map_append]
 congr 1
 rw [List.filter_cons]
 cases c.testBit i <;> rfl
theorem selL_len (op : List Int) (c i : Nat) : (selL op c i).length ≤ i := by
 unfold selL; rw [List.length_map]; exact Nat.le_trans (List.length_filter_le _ _) (by simp)
theorem selL_mem {op : List Int} {c : Nat} {x : Int} : x ∈ selL op c op.length ↔ ∃ j, op[j]? = some x ∧ c.testBit j = true := by
 unfold selL
 rw [List.mem_map]
 constructor
 ·rintro ⟨j, hj, rfl⟩
  obtain ⟨h1, h2⟩ := List.mem_filter.1 hj
  have := List.mem_range.1 h1
  exact ⟨j, by rw [List.getD_eq_getElem?_getD, List.getElem?_eq_getElem this]; rfl, h2⟩
 ·rintro ⟨j, h1, h2⟩
  exact ⟨j, List.mem_filter.2 ⟨List.mem_range.2 (lt_of_get h1), h2⟩, by rw [List.getD_eq_getElem?_getD, h1]; rfl⟩
theorem selL_pw {op : List Int} (h : op.Pairwise (· < ·)) (c : Nat) : (selL op c op.length).Pairwise (· < ·) := by
 unfold selL
 refine List.pairwise_map.2 ?_
 refine List.Pairwise.imp_of_mem ?_ (List.Pairwise.filter _ (List.pairwise_lt_range (n := op.length)))
 intro a b ha hb hab
 have h1 := List.mem_range.1 (List.mem_filter.1 ha).1
 have h2 := List.mem_range.1 (List.mem_filter.1 hb).1
 rw [List.getD_eq_getElem?_getD, List.getD_eq_getElem?_getD, List.getElem?_eq_getElem h1, List.getElem?_eq_getElem h2]
 exact pw_get h (List.getElem?_eq_getElem h1) (List.getElem?_eq_getElem h2) hab
theorem bits_ex (p : Nat → Bool) : ∀ m : Nat, ∃ c, c < 2 ^ m ∧ ∀ j, j < m → c.testBit j = p j
 | 0 => ⟨0, by simp, fun j h => by omega⟩
 | m + 1 => by
  obtain ⟨c, h1, h2⟩ := bits_ex p m
  cases hp : p m
  ·refine ⟨c, by rw [Nat.pow_succ]; omega, fun j hj => ?_⟩
   rcases Nat.lt_or_ge j m with q | q
   ·exact h2 j q
   ·obtain rfl : j = m := by omega
    rw [hp]; exact Nat.testBit_lt_two_pow h1
  ·refine ⟨2 ^ m + c, by rw [Nat.pow_succ]; omega, fun j hj => ?_⟩
   rcases Nat.lt_or_ge j m with q | q
   ·rw [Nat.testBit_two_pow_add_gt q]; exact h2 j q
   ·obtain rfl : j = m := by omega
    rw [hp, Nat.testBit_two_pow_add_eq, Nat.testBit_lt_two_pow h1]; rfl
theorem cond_pw {n : Int} : ∀ {k : List FLit} {p : Int}, condB n p k = true → (factsL k).Pairwise (· < ·)
 | [], _, _ => .nil
 | x :: k, p, h => by
  obtain ⟨h1, h2, h3⟩ := condB_cons h
  refine List.pairwise_cons.2 ⟨fun y hy => ?_, cond_pw h3⟩
  obtain ⟨l, hl, rfl⟩ := List.mem_map.1 hy
  exact (condB_mem h3 l hl).1
theorem cond_uniq {n p : Int} {k : List FLit} (h : condB n p k = true) {l m : FLit} (hl : l ∈ k) (hm : m ∈ k) (e : l.fact = m.fact) : l = m := by
 obtain ⟨i, hi, rfl⟩ := List.mem_iff_getElem.1 hl
 obtain ⟨j, hj, rfl⟩ := List.mem_iff_getElem.1 hm
 have hpw := cond_pw h
 have gi : (factsL k)[i]? = some (k[i].fact) := by rw [factsL, List.getElem?_map, List.getElem?_eq_getElem hi]; rfl
 have gj : (factsL k)[j]? = some (k[j].fact) := by rw [factsL, List.getElem?_map, List.getElem?_eq_getElem hj]; rfl
 rcases Nat.lt_trichotomy i j with q | q | q
 ·have := pw_get hpw gi gj q; omega
 ·subst q; rfl
 ·have := pw_get hpw gj gi q; omega
def okS (n : Nat) (k : List FLit) (y : List Int) : Prop := (y.Pairwise (· < ·) ∧ ∀ x ∈ y, 0 ≤ x ∧ x < (n : Int)) ∧ condHolds y k = true
theorem condHolds_iff {y : List Int} {k : List FLit} : condHolds y k = true ↔ ∀ l ∈ k, y.contains l.fact = !l.neg := by
 unfold condHolds
 rw [List.all_eq_true]
 constructor
 ·intro h l hl
  have := h l hl
  cases h1 : y.contains l.fact <;> cases h2 : l.neg <;> rw [h1, h2] at this <;> simp at this ⊢
 ·intro h l hl
  rw [h l hl]; cases l.neg <;> rfl
theorem sure_mem {k : List FLit} {x : Int} : x ∈ sureL k ↔ ∃ l ∈ k, l.neg = false ∧ l.fact = x := by
 unfold sureL
 rw [List.mem_map]
 constructor
 ·rintro ⟨l, hl, rfl⟩
  obtain ⟨h1, h2⟩ := List.mem_filter.1 hl
  exact ⟨l, h1, by simpa using h2, rfl⟩
 ·rintro ⟨l, h1, h2, rfl⟩
  exact ⟨l, List.mem_filter.2 ⟨h1, by simp [h2]⟩, rfl⟩
theorem stateK_mem {n : Nat} {k : List FLit} {c : Nat} {x : Int} : x ∈ stateK n k c ↔ x ∈ sureL k ∨ x ∈ selL (openL n k) c (openL n k).length := by
 unfold stateK; rw [(sortI_perm _).mem_iff, List.mem_append]
theorem stateK_pw {n : Nat} {k : List FLit} (hk : condB n (-1) k = true) (c : Nat) : (stateK n k c).Pairwise (· < ·) := by
 have hnd : (sureL k ++ selL (openL n k) c (openL n k).length).Nodup := by
  rw [List.nodup_append]
  refine ⟨?_, ?_, fun a ha b hb => ?_⟩
  ·have : (sureL k).Pairwise (· < ·) := by
    unfold sureL
    exact (cond_pw hk).sublist (List.Sublist.map _ List.filter_sublist)
   exact this.imp fun h => by omega
  ·exact (selL_pw (openU_pw k n) c).imp fun h => by omega
  ·rintro rfl
   obtain ⟨l, h1, _, h3⟩ := sure_mem.1 ha
   obtain ⟨j, h4, _⟩ := selL_mem.1 hb
   exact (openU_mem.1 (List.mem_of_getElem? h4)).2 (List.mem_map.2 ⟨l, h1, h3⟩)
 have h1 : (stateK n k c).Nodup := (sortI_perm _).nodup_iff.2 hnd
 exact (sortI_sorted _).imp₂ (fun a b h k => by have : a ≠ b := k; omega) h1
theorem makeAll_iff {n : Nat} {k : List FLit} (hk : condB n (-1) k = true) {y : List Int} : y ∈ makeAll n k ↔ okS n k y := by
 constructor
 ·intro hy
  obtain ⟨c, _, rfl⟩ := List.mem_map.1 hy
  refine ⟨⟨stateK_pw hk c, fun x hx => ?_⟩, condHolds_iff.2 fun l hl => ?_⟩
  ·rcases stateK_mem.1 hx with h | h
   ·obtain ⟨l, h1, _, rfl⟩ := sure_mem.1 h
    have := condB_mem hk l h1; omega
   ·obtain ⟨j, h1, _⟩ := selL_mem.1 h
    exact (openU_mem.1 (List.mem_of_getElem? h1)).1
  ·have hiff : l.fact ∈ stateK n k c ↔ l.neg = false := by
    rw [stateK_mem]
    constructor
    ·rintro (h | h)
     ·obtain ⟨m, h1, h2, h3⟩ := sure_mem.1 h
      rw [← cond_uniq hk h1 hl h3]; exact h2
     ·obtain ⟨j, h1, _⟩ := selL_mem.1 h
      exact absurd (List.mem_map.2 ⟨l, hl, rfl⟩) (openU_mem.1 (List.mem_of_getElem? h1)).2
    ·exact fun h => .inl (sure_mem.2 ⟨l, hl, h, rfl⟩)
   cases hn : l.neg
   ·simpa using hiff.2 hn
   ·simpa using fun h => by have := hiff.1 h; rw [hn] at this; simp at this
 ·rintro ⟨⟨h1, h2⟩, h3⟩
  rw [condHolds_iff] at h3
  obtain ⟨c, hc, hb⟩ := bits_ex (fun j => y.contains ((openL n k).getD j 0)) (openL n k).length
  refine List.mem_map.2 ⟨c, List.mem_range.2 hc, pw_same (stateK_pw hk c) h1 fun x => ?_⟩
  rw [stateK_mem]
  constructor
  ·rintro (h | h)
   ·obtain ⟨l, q1, q2, rfl⟩ := sure_mem.1 h
    have := h3 l q1; rw [q2] at this; simpa using this
   ·obtain ⟨j, q1, q2⟩ := selL_mem.1 h
    rw [hb j (lt_of_get q1), List.getD_eq_getElem?_getD, q1] at q2
    simpa using q2
  ·intro hx
   by_cases hf : x ∈ factsL k
   ·obtain ⟨l, q1, rfl⟩ := List.mem_map.1 hf
    have := h3 l q1
    rw [List.contains_iff_mem.2 hx] at this
    exact .inl (sure_mem.2 ⟨l, q1, by cases h : l.neg; rfl; rw [h] at this; simp at this, rfl⟩)
   ·have hxo : x ∈ openL n k := openU_mem.2 ⟨h2 x hx, hf⟩
    obtain ⟨j, hj, hjx⟩ := List.mem_iff_getElem.1 hxo
    have hg : (openL n k)[j]? = some x := by rw [List.getElem?_eq_getElem hj, hjx]
    refine .inr (selL_mem.2 ⟨j, hg, ?_⟩)
    rw [hb j hj, List.getD_eq_getElem?_getD, hg]
    simpa using hx
theorem open_count {n : Nat} {k : List FLit} (hk : condB n (-1) k = true) : (openL n k).length + k.length = n := by
 have hp : (openL n k ++ factsL k).Perm ((List.range n).map fun (f : Nat) => (f : Int)) := by
  refine (List.perm_ext_iff_of_nodup ?_ ?_).2 fun x => ?_
  ·rw [List.nodup_append]
   refine ⟨(openU_pw k n).imp fun h => by omega, (cond_pw hk).imp fun h => by omega, fun a ha b hb e => ?_⟩
   subst e; exact (openU_mem.1 ha).2 hb
  ·refine List.pairwise_map.2 (List.nodup_range.imp fun h => by omega)
  ·rw [List.mem_append, List.mem_map]
   constructor
   ·rintro (h | h)
    ·have := (openU_mem.1 h).1
     exact ⟨x.toNat, List.mem_range.2 (by omega), by omega⟩
    ·obtain ⟨l, hl, rfl⟩ := List.mem_map.1 h
     have := condB_mem hk l hl
     exact ⟨l.fact.toNat, List.mem_range.2 (by omega), by omega⟩
   ·rintro ⟨f, hf, rfl⟩
    have := List.mem_range.1 hf
    by_cases h : ((f : Nat) : Int) ∈ factsL k
    ·exact .inr h
    ·exact .inl (openU_mem.2 ⟨by omega, h⟩)
 have := hp.length_eq
 simpa [factsL] using this
def c_cloneR : CCode := .seq (.ops [oS 2 (.move (.lit (.slice .nil [])))]) (.seq (.seq (.ops [oS 3 (.move (.tmp 0)), oS 4 (.bin .eql .slice (.tmp 3) (.lit (.slice .nil [])))]) (.cond (.tmp 4) (.seq (.ops [oS 2 (.move (.lit (.slice .nil [])))]) .ret) .skip)) (.seq (.ops [oS 5 (.bslice 1 [] true), oS 6 (.move (.tmp 0)), oS 7 (.bappend 1 8 (.tmp 5) (.tmp 6) true), oS 2 (.move (.tmp 7))]) .ret))
theorem cloneR_spec (f : List Int) (tok : Tok) (σ : Store) (hf : f.length ≤ 1073741824) :
  ACalls Tryz.prog 33 [.slice tok (f.map Ahl.encI)] σ (isR (.ref σ.length 1 0 f.length) (σ ++ [.row (f.map ai)])) := by
 refine ACalls.intro (rs := [(.tmp 2)]) (by kernel_rfl) { own := [(3, 0), (3, 2)], ghosts := [] } Tryz.func33 (c := Tryz.f33.body.getD .skip) (by kernel_rfl) (by decide) (by rw [show Tryz.f33.ntmps = 8 by kernel_rfl]; exact Nat.le_of_ble_eq_true rfl) (by kernel_rfl) ?_
 intro hσ hids
 rw [show comp Tryz.prog { own := [(3, 0), (3, 2)], ghosts := [] } (Tryz.f33.body.getD .skip) = c_cloneR by kernel_rfl, show Tryz.f33.ntmps = 8 by kernel_rfl]
 unfold c_cloneR
 have hbig : bigLen f.length 8 := big_ok (by omega) (by omega)
 have hσ1 : IdsS (σ ++ [AObj.row (f.map ai)]).length (σ ++ [AObj.row (f.map ai)]) := idsS_push hσ (ids_ai f)
 simp only [go_sem, simprocAttr]
 intro b hb _
 cases b
 ·have hall : ∀ x ∈ f, (Ahl.encI x).length = 1 ∧ (Ahl.encI x).all AV.one = true := fun x _ => ⟨rfl, rfl⟩
  simp only [go_sem, simprocAttr, hbig, map_ai]
  refine ⟨hall, ?_⟩
  refine ret_gh (v := .ref σ.length 1 0 f.length) (σ' := σ ++ [.row (f.map ai)]) ?_ (by simp) hσ1 (.ref _ _ _ _ (by simp)) ⟨rfl, rfl⟩
  exact .keepL0 _ rfl (Nat.le_refl _) ⟨⟨.refl _, .ref _ _ _ _ (by simp)⟩, trivial⟩ hσ1
 ·have hl0 : f = [] := by
   cases f with
   | nil => rfl
   | cons x l => exact absurd (hb (by simp)) (by simp)
  subst hl0
  simp only [go_sem, simprocAttr]
  refine ret_gh (v := .ref σ.length 1 0 0) (σ' := σ ++ [.row []]) ?_ (by simp) hσ1 (.ref _ _ _ _ (by simp)) ⟨rfl, rfl⟩
  exact (Ghost.keep0 (s' := [(2, .slice .nil [])]) (Nat.le_refl _) ⟨⟨.refl _, ids_nil _ (by simp)⟩, trivial⟩ hσ).trans ((Ghost.row0 2 1 0 (.inl rfl)).trans (.same (lk_twice 2 _ _ [])))
def makeE (t : FTask) (k : List FLit) : Int := if validB t then (if condB t.facts.length (-1) k then (if (openL t.facts.length k).length ≤ 6 then 0 else 2) else 1) else 10
def makeR (t : FTask) (k : List FLit) : AV := if makeE t k = 0 then .tuple [.slice .fresh ((makeB t.facts.length k).map encLf), .int .i64 0] else .tuple [.slice .nil [], .int .i64 (makeE t k)]
theorem sureL_step {k : List FLit} {i : Nat} {x : FLit} (h : k[i]? = some x) : sureL (k.take (i + 1)) = sureL (k.take i) ++ if x.neg then [] else [x.fact] := by
 unfold sureL; rw [take_succ' h, List.filter_append, List.map_append]; congr 1
 rw [List.filter_cons]
 cases x.neg <;> rfl
theorem sureL_len (k : List FLit) : (sureL k).length ≤ k.length := by unfold sureL; rw [List.length_map]; exact List.length_filter_le _ _
def c_bmake : CCode := .seq (.ops [oS 2 (.box (.tmp 0)), oS 4 (.move (.lit (.slice .nil []))), oS 5 (.move (.lit (.int .i64 0)))]) (.seq (.block 0 (.seq (.ops [oS 18 (.load (some 4) (.tmp 2)), oS 19 (.call (.lit (.func 31 [])) [.tmp 18]), oS 20 (.un .not (.tmp 19)), oS 17 (.move (.tmp 20))]) (.cond (.tmp 17) (.seq (.ops [oS 4 (.move (.lit (.slice .nil []))), oS 5 (.move (.lit (.int .i64 10)))]) .ret) (.seq (.ops [oS 22 (.faddr 0 (.tmp 2)), oS 23 (.load none (.tmp 22)), oS 24 (.blen 1 (.tmp 23)), oS 25 (.move (.tmp 1)), oS 26 (.call (.lit (.func 32 [])) [.tmp 24, .tmp 25]), oS 27 (.un .not (.tmp 26)), oS 21 (.move (.tmp 27))]) (.cond (.tmp 21) (.seq (.ops [oS 4 (.move (.lit (.slice .nil []))), oS 5 (.move (.lit (.int .i64 1)))]) .ret) .skip))))) (.seq (.ops [oS 28 .mkmap, oS 6 (.move (.tmp 28))]) (.seq (.ops [oS 7 (.move (.lit (.slice .nil []))), oS 8 (.move (.lit (.slice .nil [])))]) (.seq (.seq (.ops [oS 29 (.move (.tmp 1)), oS 30 (.blen 1 (.tmp 29)), oS 31 (.move (.lit (.int .i64 0)))]) (.block 1 (.loop (.seq (.ops [oS 32 (.bin .lss .none (.tmp 31) (.tmp 30))]) (.seq (.cond (.tmp 32) .skip (.exit 1)) (.seq (.block 2 (.seq (.ops [oS 33 (.iaddr 2 (.tmp 29) (.tmp 31)), oS 34 (.load (some 2) (.tmp 33)), oS 10 (.alloc (.agg [.int .i64 0, .bool false])), oN (.store 2 (.tmp 10) (.tmp 34))]) (.seq (.ops [oS 35 (.move (.tmp 6)), oS 36 (.faddr 0 (.tmp 10)), oS 37 (.load none (.tmp 36)), oN (.mapup false (.tmp 35) (.tmp 37) (.lit (.bool true)))]) (.seq (.ops [oS 38 (.faddr 1 (.tmp 10)), oS 39 (.load none (.tmp 38)), oS 40 (.un .not (.tmp 39))]) (.cond (.tmp 40) (.ops [oS 41 (.move (.tmp 7)), oS 42 (.faddr 0 (.tmp 10)), oS 43 (.load none (.tmp 42)), oS 44 (.bslice 1 [.tmp 43] false), oS 45 (.bappend 1 8 (.tmp 41) (.tmp 44) false), oS 7 (.move (.tmp 45))]) .skip))))) (.ops [oS 46 (.bin .add .none (.tmp 31) (.lit (.int .i64 1))), oS 31 (.move (.tmp 46))]))))))) (.seq (.seq (.ops [oS 47 (.faddr 0 (.tmp 2)), oS 48 (.load none (.tmp 47)), oS 49 (.blen 1 (.tmp 48)), oS 50 (.move (.lit (.int .i64 0)))]) (.block 3 (.loop (.seq (.ops [oS 51 (.bin .lss .none (.tmp 50) (.tmp 49))]) (.seq (.cond (.tmp 51) .skip (.exit 3)) (.seq (.block 4 (.seq (.ops [oS 52 (.move (.tmp 50)), oS 11 (.move (.tmp 52))]) (.seq (.ops [oS 53 (.move (.tmp 6)), oS 54 (.move (.tmp 11)), oS 55 (.lookup false (.bool false) (.tmp 53) (.tmp 54) false), oS 56 (.un .not (.tmp 55))]) (.cond (.tmp 56) (.ops [oS 57 (.move (.tmp 8)), oS 58 (.move (.tmp 11)), oS 59 (.bslice 1 [.tmp 58] false), oS 60 (.bappend 1 8 (.tmp 57) (.tmp 59) false), oS 8 (.move (.tmp 60))]) .skip)))) (.ops [oS 61 (.bin .add .none (.tmp 50) (.lit (.int .i64 1))), oS 50 (.move (.tmp 61))]))))))) (.seq (.seq (.ops [oS 62 (.move (.tmp 8)), oS 63 (.blen 1 (.tmp 62)), oS 64 (.bin .gtr .none (.tmp 63) (.lit (.int .i64 20))), oS 65 (.move (.tmp 64)), oG 66 65 false (.move (.tmp 8)), oG 67 65 false (.blen 1 (.tmp 66)), oG 68 65 false (.bin .shl .none (.lit (.int .i64 1)) (.tmp 67)), oG 69 65 false (.bin .gtr .none (.tmp 68) (.lit (.int .i64 64))), oS 70 (.pick (.tmp 65) (.lit (.bool true)) (.tmp 69))]) (.cond (.tmp 70) (.seq (.ops [oS 4 (.move (.lit (.slice .nil []))), oS 5 (.move (.lit (.int .i64 2)))]) .ret) .skip)) (.seq (.ops [oS 12 (.move (.lit (.slice .nil [])))]) (.seq (.seq (.ops [oS 71 (.move (.tmp 8)), oS 72 (.blen 1 (.tmp 71)), oS 73 (.bin .shl .none (.lit (.int .i64 1)) (.tmp 72)), oS 74 (.move (.lit (.int .i64 0)))]) (.block 5 (.loop (.seq (.ops [oS 75 (.bin .lss .none (.tmp 74) (.tmp 73))]) (.seq (.cond (.tmp 75) .skip (.exit 5)) (.seq (.block 6 (.seq (.ops [oS 76 (.move (.tmp 74)), oS 13 (.move (.tmp 76))]) (.seq (.ops [oS 77 (.move (.tmp 7)), oS 78 (.call (.lit (.func 33 [])) [.tmp 77]), oS 14 (.move (.tmp 78))]) (.seq (.seq (.ops [oS 79 (.move (.tmp 8)), oS 80 (.blen 1 (.tmp 79)), oS 81 (.move (.lit (.int .i64 0)))]) (.block 7 (.loop (.seq (.ops [oS 82 (.bin .lss .none (.tmp 81) (.tmp 80))]) (.seq (.cond (.tmp 82) .skip (.exit 7)) (.seq (.block 8 (.seq (.ops [oS 83 (.move (.tmp 81)), oS 84 (.iaddr 1 (.tmp 79) (.tmp 81)), oS 85 (.load none (.tmp 84)), oS 15 (.move (.tmp 83)), oS 16 (.move (.tmp 85))]) (.seq (.ops [oS 86 (.move (.tmp 13)), oS 87 (.move (.tmp 15)), oS 88 (.bin .shr .none (.tmp 86) (.tmp 87)), oS 89 (.bin .and .none (.tmp 88) (.lit (.int .i64 1))), oS 90 (.bin .eql .none (.tmp 89) (.lit (.int .i64 1)))]) (.cond (.tmp 90) (.ops [oS 91 (.move (.tmp 14)), oS 92 (.move (.tmp 16)), oS 93 (.bsliceC 1 [.tmp 92]), oS 94 (.bappend 1 8 (.tmp 91) (.tmp 93) true), oS 14 (.move (.tmp 94))]) .skip)))) (.ops [oS 95 (.bin .add .none (.tmp 81) (.lit (.int .i64 1))), oS 81 (.move (.tmp 95))]))))))) (.seq (.ops [oS 96 (.move (.tmp 14)), oS 97 (.call (.lit (.func 34 [])) [.tmp 96])]) (.ghost (.ops [oS 98 (.move (.tmp 12)), oS 99 (.move (.tmp 14)), oS 100 (.bsliceC 1 [.tmp 99]), oS 101 (.bappend 1 24 (.tmp 98) (.tmp 100) true), oS 12 (.move (.tmp 101))]))))))) (.ops [oS 102 (.bin .add .none (.tmp 74) (.lit (.int .i64 1))), oS 74 (.move (.tmp 102))]))))))) (.seq (.ops [oS 103 (.move (.tmp 12)), oS 104 (.call (.lit (.func 35 [])) [.tmp 103]), oS 4 (.move (.tmp 104)), oS 5 (.move (.lit (.int .i64 0)))]) .ret)))))))))
set_option maxHeartbeats 2000000 in
theorem bmake_specF (t : FTask) (k : List FLit) (tok : Tok) (σ : Store) (ht : TB t) (hk : k.length ≤ 1000000) :
  ACalls Tryz.prog 9 [.agg (encTask t), .slice tok (k.map encLit)] σ (isR (makeR t k) σ) := by
 refine ACalls.intro (rs := [(.tmp 4), (.tmp 5)]) (by kernel_rfl) { own := [(31, 3), (34, 3)], ghosts := [34], cold := [(31, 2), (34, 2)] } Tryz.func9 (c := Tryz.f9.body.getD .skip) (by kernel_rfl) (by decide) (by rw [show Tryz.f9.ntmps = 105 by kernel_rfl]; exact Nat.le_of_ble_eq_true rfl) (by kernel_rfl) ?_
 intro hσ hids
 rw [show comp Tryz.prog { own := [(31, 3), (34, 3)], ghosts := [34], cold := [(31, 2), (34, 2)] } (Tryz.f9.body.getD .skip) = c_bmake by kernel_rfl, show Tryz.f9.ntmps = 105 by kernel_rfl]
 unfold c_bmake
 have hil : Ids σ.length (.slice tok (k.map encLit)) := hids _ (by simp)
 simp only [go_sem, simprocAttr, encTask]
 have hval := fun σ => valid_spec t σ ht
 simp only [encTask] at hval
 refine (hval _).is ?_
 cases hv : validB t
 ·simp only [go_sem, simprocAttr]
  exact rT (.slice .nil []) (.int .i64 10) ⟨by rw [makeR, makeE, hv]; rfl, rfl⟩
 simp only [go_sem, simprocAttr, encTask]
 refine (cond_spec k t.facts.length tok _ (by omega)).is ?_
 cases hc : condB t.facts.length (-1) k
 ·simp only [go_sem, simprocAttr]
  exact rT (.slice .nil []) (.int .i64 1) ⟨by rw [makeR, makeE, hv, hc]; rfl, rfl⟩
 have hn := valid_facts hv
 have hkn := open_count hc
 have hpw := cond_pw hc
 simp only [go_sem, simprocAttr]
 have hs1 : ∀ (m : List Int) (a : Nat), IdsS (σ ++ [AObj.row (encTask t), .map (encSI m), .grow 1 a]).length (σ ++ [AObj.row (encTask t), .map (encSI m), .grow 1 a]) := fun m a => idsS_app _ hσ (all_cons' (idsO_row (ids_encTask t)) (all_cons' (ids_encSI _) (all_cons' trivial all_nil')))
 have hs2 : ∀ (m : List Int) (a b : Nat), IdsS (σ ++ [AObj.row (encTask t), .map (encSI m), .grow 1 a, .grow 1 b]).length (σ ++ [AObj.row (encTask t), .map (encSI m), .grow 1 a, .grow 1 b]) := fun m a b => idsS_app _ hσ (all_cons' (idsO_row (ids_encTask t)) (all_cons' (ids_encSI _) (all_cons' trivial (all_cons' trivial all_nil'))))
 have hs0 : IdsS (σ ++ [AObj.row (encTask t), .map (encSI [])]).length (σ ++ [AObj.row (encTask t), .map (encSI [])]) := idsS_app _ hσ (all_cons' (idsO_row (ids_encTask t)) (all_cons' (ids_encSI _) all_nil'))
 simp only [encTask] at hs1 hs2 hs0
 refine wpc_while (fun (i : Nat) => [(7, .slice (.grow (σ.length + 2)) ((sureL (k.take i)).map Ahl.encI)), (2, .ptr σ.length 0), (6, .map (σ.length + 1)), (8, .slice .nil []), (29, .slice tok (k.map encLit)), (30, .int .i64 k.length), (31, .int .i64 (i : Nat))])
  (fun i => σ ++ [.row (encTask t), .map (encSI (factsL (k.take i))), .grow 1 (sureL (k.take i)).length]) (fun i => i ≤ k.length) (fun i => k.length - i) 0 (Nat.zero_le _) ?_ ?_
 ·simp only [encTask]
  exact Ghost.beginT (σ := σ) [.row _, .map (encSI [])] 7 1 _ tellT hs0
 intro i hi K hK hE hR
 by_cases h : i < k.length
 ·obtain ⟨x, hx⟩ := get_ex h; have hlt : ((i : Int) < (k.length : Int)) := (by omega); have hw := wrapS (i := i) (by omega)
  have hxm := List.mem_of_getElem? hx
  have hsu := sureL_step hx
  have hsl := sureL_len (k.take i)
  rw [List.length_take_of_le hi] at hsl
  have hfa : factsL (k.take (i + 1)) = factsL (k.take i) ++ [x.fact] := by unfold factsL; rw [take_succ' hx, List.map_append]; rfl
  have hnin : (factsL (k.take i)).contains x.fact = false := by
   simp only [List.contains_eq_mem, decide_eq_false_iff_not]
   intro hm
   unfold factsL at hm
   obtain ⟨y, hy, e⟩ := List.mem_map.1 hm
   obtain ⟨j, hj, rfl⟩ := List.mem_iff_getElem.1 hy
   have hji : j < i := by rw [List.length_take] at hj; omega
   have gj : (factsL k)[j]? = some (k.take i)[j].fact := by
    rw [factsL, List.getElem?_map, ← List.getElem?_take_of_lt hji, List.getElem?_eq_getElem hj]; rfl
   have gi : (factsL k)[i]? = some x.fact := by rw [factsL, List.getElem?_map, hx]; rfl
   have := pw_get hpw gj gi hji; omega
  have hfo := findI_out x.fact (factsL (k.take i)) 0 hnin
  obtain ⟨U, hU⟩ : ∃ U, U = sureL (k.take i) := ⟨_, rfl⟩
  rw [← hU] at hsu hsl ⊢
  have hbig : bigLen (U.length + 1) 8 := big_ok (by omega) (by omega)
  cases hng : x.neg
  ·rw [hng, if_neg (by simp)] at hsu
   simp only [go_sem, simprocAttr, hlt, hx, encLit, hfo, encSI_app, hng, hbig]
   have e3 : U.map Ahl.encI ++ [[AV.int .i64 x.fact]] = (U ++ [x.fact]).map Ahl.encI := by rw [List.map_append]; rfl
   have e4 : U.length + 1 = (U ++ [x.fact]).length := by simp
   rw [e3, e4]
   refine hK _ _ (i + 1) (by omega) (by omega) ?_
   (try dsimp only)
   rw [hsu, hw, hfa]
   generalize U ++ [x.fact] = V
   simp only [encTask]
   exact ghL (l := [.row _, .map _, .grow 1 _]) (hs1 _ _)
  ·rw [hng, if_pos rfl, List.append_nil] at hsu
   simp only [go_sem, simprocAttr, hlt, hx, encLit, hfo, encSI_app, hng]
   refine hK _ _ (i + 1) (by omega) (by omega) ?_
   (try dsimp only)
   rw [hsu, hw, hfa]
   simp only [encTask]
   exact ghL (l := [.row _, .map _, .grow 1 _]) (hs1 _ _)
 ·have hlt : ¬ ((i : Int) < (k.length : Int)) := by omega
  rw [List.take_of_length_le (by omega)]
  simp only [go_sem, simprocAttr, hlt, hE, encTask]
  clear hK hE hR
  refine wpc_while (fun (f : Nat) => [(8, .slice (.grow (σ.length + 3)) ((openU k f).map Ahl.encI)), (7, .slice (.grow (σ.length + 2)) ((sureL k).map Ahl.encI)), (6, .map (σ.length + 1)), (49, .int .i64 t.facts.length), (50, .int .i64 (f : Nat))])
   (fun f => σ ++ [.row (encTask t), .map (encSI (factsL k)), .grow 1 (sureL k).length, .grow 1 (openU k f).length]) (fun f => f ≤ t.facts.length) (fun f => t.facts.length - f) 0 (Nat.zero_le _) ?_ ?_
  ·simp only [encTask]
   exact Ghost.beginT (σ := σ) [.row _, .map _, .grow 1 _] 8 1 _ tellT (hs1 _ _)
  intro f hf K hK hE hR
  by_cases hff : f < t.facts.length
  ·have hltf : ((f : Int) < (t.facts.length : Int)) := by omega
   have hwf := wrapS (i := f) (by omega)
   have hou := openU_succ k f
   have hol := openU_len k f
   obtain ⟨U, hU⟩ : ∃ U, U = openU k f := ⟨_, rfl⟩
   rw [← hU] at hou hol ⊢
   have hbig : bigLen (U.length + 1) 8 := big_ok (by omega) (by omega)
   cases hcf : (factsL k).contains (f : Int)
   ·have hfo := findI_out (f : Int) (factsL k) 0 hcf
    rw [hcf, if_neg (by simp)] at hou
    simp only [go_sem, simprocAttr, hltf, hfo, hbig]
    have e3 : U.map Ahl.encI ++ [[AV.int .i64 (f : Int)]] = (U ++ [(f : Int)]).map Ahl.encI := by rw [List.map_append]; rfl
    have e4 : U.length + 1 = (U ++ [(f : Int)]).length := by simp
    rw [e3, e4]
    refine hK _ _ (f + 1) (by omega) (by omega) ?_
    (try dsimp only)
    rw [hou, hwf]
    generalize U ++ [(f : Int)] = V
    simp only [encTask]
    exact ghL (l := [.row _, .map _, .grow 1 _, .grow 1 _]) (hs2 _ _ _)
   ·obtain ⟨j, hj, _⟩ := findI_in (f : Int) (factsL k) 0 hcf
    rw [hcf, if_pos rfl, List.append_nil] at hou
    simp only [go_sem, simprocAttr, hltf, hj]
    refine hK _ _ (f + 1) (by omega) (by omega) ?_
    (try dsimp only)
    rw [hou, hwf]
    simp only [encTask]
    exact ghL0 (l := [.row _, .map _, .grow 1 _, .grow 1 _]) (hs2 _ _ _)
  ·have hltf : ¬ ((f : Int) < (t.facts.length : Int)) := by omega
   obtain rfl : f = t.facts.length := by omega
   rw [show openU k t.facts.length = openL t.facts.length k from rfl]
   simp only [go_sem, simprocAttr, hltf, hE, encTask]
   clear hK hE hR
   obtain ⟨m, hm⟩ : ∃ m, m = (openL t.facts.length k).length := ⟨_, rfl⟩
   have hmn : m ≤ 200 := by have := valid_facts hv; omega
   have hml : ((List.length (openL t.facts.length k) : Nat) : Int) = (m : Int) := by rw [hm]
   have h0 : (0 : Int) ≤ (m : Int) := by omega
   by_cases h20 : (m : Int) > 20
   ·simp only [go_sem, simprocAttr, hml, h20]
    have he : makeE t k = 2 := by rw [makeE, hv, hc, if_pos rfl, if_pos rfl, if_neg (by omega)]
    exact rT (.slice .nil []) (.int .i64 2) ⟨by rw [makeR, he]; rfl, rfl⟩
   obtain ⟨P, hP⟩ : ∃ P : Nat, P = 2 ^ m := ⟨_, rfl⟩
   have hPlt : P ≤ 2 ^ 20 := by rw [hP]; exact Nat.pow_le_pow_right (by omega) (by omega)
   have hshl : IntKind.i64.wrap (1 * 2 ^ min m 64) = (P : Int) := by
    have e : (1 * 2 ^ min m 64 : Int) = (P : Int) := by rw [Nat.min_eq_left (by omega), Int.one_mul, hP]; norm_cast
    rw [e, wrap_ok (by omega)]
   by_cases h6 : ¬ m ≤ 6
   ·have hP1 : 2 ^ 7 ≤ P := by rw [hP]; exact Nat.pow_le_pow_right (by omega) (by omega)
    have hgt : ((P : Int) > 64) := by omega
    have he : makeE t k = 2 := by rw [makeE, hv, hc, if_pos rfl, if_pos rfl, if_neg (by omega)]
    simp only [go_sem, simprocAttr, hml, h20, h0, Int.toNat_natCast, hshl, hgt]
    exact rT (.slice .nil []) (.int .i64 2) ⟨by rw [makeR, he]; rfl, rfl⟩
   replace h6 := Decidable.not_not.1 h6
   have hP2 : P ≤ 2 ^ 6 := by rw [hP]; exact Nat.pow_le_pow_right (by omega) h6
   have hngt : ¬ ((P : Int) > 64) := by omega
   have he : makeE t k = 0 := by rw [makeE, hv, hc, if_pos rfl, if_pos rfl, if_pos (by omega)]
   obtain ⟨op, hop⟩ : ∃ op, op = openL t.facts.length k := ⟨_, rfl⟩
   obtain ⟨su, hsu⟩ : ∃ su, su = sureL k := ⟨_, rfl⟩
   have hsul : su.length ≤ 200 := by have := sureL_len k; rw [hsu]; omega
   obtain ⟨F, hF⟩ : ∃ F, F = makeAll t.facts.length k := ⟨_, rfl⟩
   have hFl : F.length = P := by rw [hF, makeAll, List.length_map, List.length_range, hP, hm]
   have hFg : ∀ c, c < P → F[c]? = some (Ahl.sortI (su ++ selL op c m)) := fun c hcP => by
    rw [hF, makeAll, List.getElem?_map, List.getElem?_range (by rw [← hm, ← hP]; exact hcP), hsu, hop, hm]; rfl
   have hopl : op.length = m := by rw [hop, hm]
   simp only [go_sem, simprocAttr, hml, h20, h0, Int.toNat_natCast, hshl, hngt]
   rw [← hop, ← hsu]
   have hio : ∀ q : List (List Int), IdsO σ.length (.row (q.map vN)) := fun q => idsO_rowN _ (by intro x hx; obtain ⟨z, _, rfl⟩ := List.mem_map.1 hx; exact ids_vN _ _)
   have hS2 : ∀ q : List (List Int), IdsS (σ ++ [AObj.row (q.map vN)]).length (σ ++ [AObj.row (q.map vN)]) := fun q => idsS_push hσ (by
    intro j x hj; exact ids_up (Nat.le_succ _) (hio q j x hj))
   refine wpc_while (fun (c : Nat) => [(12, .ref σ.length 1 0 c), (7, .slice .unk (su.map Ahl.encI)), (8, .slice .unk (op.map Ahl.encI)), (73, .int .i64 P), (74, .int .i64 (c : Nat))]) (fun c => σ ++ [.row ((F.take c).map vN)]) (fun c => c ≤ P) (fun c => P - c) 0 (Nat.zero_le _) ?_ ?_
   ·refine Ghost.trans (s' := [(12, .slice .nil []), (7, .slice .unk (su.map Ahl.encI)), (8, .slice .unk (op.map Ahl.encI)), (73, .int .i64 P), (74, .int .i64 0)]) (σ' := σ) ghA ?_
    refine Ghost.trans (Ghost.row0 12 1 0 (.inl rfl)) ?_
    exact ghP0 (hS2 [])
   intro c hcP K hK hE hR
   by_cases hcc : c < P
   ·have hltc : ((c : Int) < (P : Int)) := by omega
    have hwc := wrapS (i := c) (by omega)
    simp only [go_sem, simprocAttr, hltc]
    refine (cloneR_spec su .unk _ (by omega)).to ?_
    simp only [go_sem, simprocAttr]
    have hgF := hFg c hcc
    have hrow := hS2 (F.take c)
    obtain ⟨S, hS⟩ : ∃ S, S = σ ++ [AObj.row ((F.take c).map vN)] := ⟨_, rfl⟩
    have hSl : S.length = σ.length + 1 := by rw [hS]; simp
    have hSg : ∀ g, (S ++ g)[σ.length]? = some (.row ((F.take c).map vN)) := fun g => by rw [hS]; simp
    have hSt : S.take σ.length = σ := by rw [hS]; simp
    rw [← hS] at hrow
    rw [show σ ++ [AObj.row ((F.take c).map vN), AObj.row (su.map ai)] = S ++ [AObj.row (su.map ai)] by rw [hS]; simp]
    have hioS : ∀ q : List Int, IdsO S.length (.row (q.map ai)) := fun q => ids_ai q
    have hS3 : ∀ q : List Int, IdsS (S ++ [AObj.row (q.map ai)]).length (S ++ [AObj.row (q.map ai)]) := fun q => idsS_push hrow (ids_ai q)
    refine wpc_while (fun (i : Nat) => [(14, .ref S.length 1 0 (su ++ selL op c i).length), (12, .ref σ.length 1 0 c), (7, .slice .unk (su.map Ahl.encI)), (8, .slice .unk (op.map Ahl.encI)), (13, .int .i64 c), (73, .int .i64 P), (74, .int .i64 c), (79, .slice .unk (op.map Ahl.encI)), (80, .int .i64 op.length), (81, .int .i64 (i : Nat))])
     (fun i => S ++ [.row ((su ++ selL op c i).map ai)]) (fun i => i ≤ op.length) (fun i => op.length - i) 0 (Nat.zero_le _) ?_ ?_
    ·have e : su ++ selL op c 0 = su := by unfold selL; simp
     (try dsimp only)
     rw [e, ← hSl]
     exact ghP0 (hS3 _)
    intro i hi K2 hK2 hE2 hR2
    by_cases h : i < op.length
    ·obtain ⟨f, hx⟩ := get_ex h; have hlt : ((i : Int) < (op.length : Int)) := (by omega); have hw := wrapS (i := i) (by omega)
     have hsel := selL_succ op c i
     have hgd : op.getD i 0 = f := by rw [List.getD_eq_getElem?_getD, hx]; rfl
     have hsll := selL_len op c i
     obtain ⟨U, hU⟩ : ∃ U, U = su ++ selL op c i := ⟨_, rfl⟩
     have hUl : U.length ≤ 400 := by rw [hU, List.length_append]; omega
     have hbig : bigLen (U.length + 1) 8 := big_ok (by omega) (by omega)
     have hbit := bit_and (k := c) (x := i) (by omega) (by omega)
     have h0i : (0 : Int) ≤ (i : Int) := by omega
     have hUlen : (U.map ai).length = U.length := by simp
     rw [← hU]
     cases hb : c.testBit i
     ·rw [hb] at hsel hbit
      simp only [Bool.false_eq_true, if_false] at hbit hsel
      rw [List.append_nil] at hsel
      simp only [go_sem, simprocAttr, hlt, hx, Ahl.encI, h0i, Int.toNat_natCast]
      erw [hbit]
      simp only [go_sem, simprocAttr, Int.reduceBEq]
      refine hK2 _ _ (i + 1) (by omega) (by omega) ?_
      (try dsimp only)
      rw [hsel, hw, ← hU]
      exact ghP0 (hS3 _)
     ·rw [hb] at hsel hbit
      simp only [if_true] at hbit hsel
      simp only [go_sem, simprocAttr, hlt, hx, Ahl.encI, h0i, Int.toNat_natCast]
      erw [hbit]
      simp only [go_sem, simprocAttr, Int.reduceBEq, hbig, hUlen]
      have e3 : su ++ selL op c (i + 1) = U ++ [f] := by rw [hsel, ← List.append_assoc, ← hU, hgd]
      refine hK2 _ _ (i + 1) (by omega) (by omega) ?_
      (try dsimp only)
      have e4 : U.length + 1 = (U ++ [f]).length := by simp
      have e5 : U.map ai ++ [[AV.int .i64 f]].flatten = (U ++ [f]).map ai := by rw [List.map_append]; rfl
      rw [e3, hw, e4, e5]
      generalize U ++ [f] = V
      exact ghPM 1 (hio := hioS _)
    ·have hlt : ¬ ((i : Int) < (op.length : Int)) := by omega
     have hil' : i = m := by omega
     have hgS : ∀ (q : List AV) g, (S ++ .row q :: g)[S.length]? = some (.row q) := fun q g => by simp
     have hsll := selL_len op c i
     obtain ⟨U, hU⟩ : ∃ U, U = su ++ selL op c i := ⟨_, rfl⟩
     have hUl : U.length ≤ 400 := by rw [hU, List.length_append]; omega
     rw [← hil', ← hU] at hgF
     rw [← hU]
     simp only [go_sem, simprocAttr, hlt, hE2]
     refine (sortI_spec S.length U _ (hgS _ []) (by omega)).mono ?_
     rintro _ _ ⟨rfl, rfl⟩
     simp only [go_sem, simprocAttr]
     have hV : (Ahl.sortI U).length = U.length := sortI_len U
     have hSd : (S ++ [AObj.row ((Ahl.sortI U).map ai)]).set S.length .dead = S ++ [.dead] := by simp
     rw [wpc_ghost]
     refine ⟨[(14, .slice .fresh ((Ahl.sortI U).map Ahl.encI)), (12, .ref σ.length 1 0 c), (7, .slice .unk (su.map Ahl.encI)), (8, .slice .unk (op.map Ahl.encI)), (73, .int .i64 P), (74, .int .i64 c)], S, ?_, ?_⟩
     ·refine Ghost.trans (Ghost.freezeF 14 ((Ahl.sortI U).map Ahl.encI) rfl (hgS _ []) (by rw [List.length_map, hV]) ?_) ?_
      ·intro i e he
       rw [List.getElem?_map] at he
       obtain ⟨x, hx, rfl⟩ := Option.map_eq_some_iff.1 he
       refine ⟨rfl, fun j hj => ?_⟩
       obtain rfl : j = 0 := by omega
       rw [List.getElem?_map]
       simp [hx, Ahl.encI, ai]
      ·rw [hSd]
       exact Ghost.keep _ (by omega) tellT hrow
     have hbig : bigLen (c + 1) 24 := big_ok (by omega) (by omega)
     have hlen : ((F.take c).map vN).length = c := by rw [List.length_map, List.length_take]; omega
     have hf : (F.take c).map vN ++ [[AV.slice Tok.fresh ((Ahl.sortI U).map Ahl.encI)]].flatten = (F.take (c + 1)).map vN := by
      rw [take_succ' hgF, List.map_append]; rfl
     have hSg0 : S[σ.length]? = some (.row ((F.take c).map vN)) := by rw [hS]; simp
     simp only [go_sem, simprocAttr, hSg0, hbig, hlen, hf, hwc]
     refine hK _ _ (c + 1) (by omega) (by omega) ?_
     (try dsimp only)
     rw [show S.set σ.length .dead ++ [AObj.row ((F.take (c + 1)).map vN)] = σ ++ [.dead, .row ((F.take (c + 1)).map vN)] by rw [hS]; simp, hSl]
     exact ghPM 1 (hio := hio _)
   ·have hltc : ¬ ((c : Int) < (P : Int)) := by omega
    obtain rfl : c = P := by omega
    rw [List.take_of_length_le (by omega)]
    simp only [go_sem, simprocAttr, hltc, hE]
    rw [← hFl]
    have hgetr : ∀ (q : List (List Int)) g, (σ ++ .row (q.map vN) :: g)[σ.length]? = some (.row (q.map vN)) := fun q g => by simp
    have hFm : ∀ y ∈ F, y.length ≤ 140737488355328 := fun y hy => by
     obtain ⟨j, hj, rfl⟩ := List.mem_iff_getElem.1 hy
     have h1 := hFg j (by omega)
     rw [List.getElem?_eq_getElem hj] at h1
     injection h1 with h1
     rw [h1, sortI_len, List.length_append]
     have := selL_len op j m
     omega
    refine (bmerged_spec σ.length F _ hFm (by omega) (hgetr F [])).to ?_
    have hmk : mergeB F = makeB t.facts.length k := by rw [hF]; rfl
    rw [hmk]
    simp only [go_sem, simprocAttr]
    refine retRow2 (id := σ.length) (cells := (makeB t.facts.length k).map vN ++ List.replicate (F.length - (makeB t.facts.length k).length) (.slice .nil [])) (es := (makeB t.facts.length k).map encLf) (x := .int .i64 0) ?_ rfl ?_ (by simp) (Nat.le_refl _) rfl rfl (.int _ _) (ids_mapf (fun x => ids_encLf x) _) ?_ ⟨by rw [makeR, if_pos he], rfl⟩
    ·simp
    ·simp
    ·intro i e he'
     rw [List.getElem?_map] at he'
     obtain ⟨z, hz, rfl⟩ := Option.map_eq_some_iff.1 he'
     refine ⟨rfl, fun j hj => ?_⟩
     obtain rfl : j = 0 := by omega
     rw [Nat.zero_add, Nat.mul_one, Nat.add_zero, List.getElem?_append_left (by simpa using lt_of_get hz), List.getElem?_map, hz]; rfl
def ynF (k : List FLit) (f : Nat) : Bool × Bool := k.foldl (fun p l => if l.fact = (f : Int) then (!l.neg, l.neg) else p) (true, true)
def stepS (p : Bool × Bool) (f : Nat) (s : List Int) : List (List Int) := (if p.1 then [s ++ [(f : Int)]] else []) ++ (if p.2 then [s] else [])
def stepM (p : Bool × Bool) (f : Nat) (out : List (List Int)) : List (List Int) := out.flatMap (stepS p f)
def outM (k : List FLit) : Nat → List (List Int)
 | 0 => [[]]
 | f + 1 => stepM (ynF k f) f (outM k f)
theorem ynF_spec {n p : Int} : ∀ {k : List FLit} {q : Bool × Bool} {f : Nat}, condB n p k = true → (k.foldl (fun p l => if l.fact = (f : Int) then (!l.neg, l.neg) else p) q) = match k.find? (fun l => l.fact == (f : Int)) with
  | none => q
  | some l => (!l.neg, l.neg)
 | [], q, f, _ => rfl
 | x :: k, q, f, h => by
  obtain ⟨h1, h2, h3⟩ := condB_cons h
  rw [List.foldl_cons, List.find?_cons]
  by_cases e : x.fact = (f : Int)
  ·rw [if_pos e, ynF_spec h3, show (x.fact == (f : Int)) = true by simpa using e]
   have : k.find? (fun l => l.fact == (f : Int)) = none := by
    rw [List.find?_eq_none]
    intro l hl
    have := (condB_mem h3 l hl).1
    simp; omega
   rw [this]
  ·rw [if_neg e, ynF_spec h3, show (x.fact == (f : Int)) = false by simpa using e]
theorem yn_out {n p : Int} {k : List FLit} (h : condB n p k = true) {f : Nat} (hf : (f : Int) ∉ factsL k) : ynF k f = (true, true) := by
 unfold ynF
 rw [ynF_spec h]
 have : k.find? (fun l => l.fact == (f : Int)) = none := by
  rw [List.find?_eq_none]
  intro l hl e
  exact hf (List.mem_map.2 ⟨l, hl, by simpa using e⟩)
 rw [this]
theorem yn_in {n p : Int} {k : List FLit} (h : condB n p k = true) {l : FLit} (hl : l ∈ k) {f : Nat} (hf : l.fact = (f : Int)) : ynF k f = (!l.neg, l.neg) := by
 unfold ynF
 rw [ynF_spec h]
 cases hq : k.find? (fun l => l.fact == (f : Int)) with
 | none => rw [List.find?_eq_none] at hq; exact absurd (by simpa using hf) (hq l hl)
 | some m =>
  have h1 := List.find?_some hq
  have h2 := List.mem_of_find?_eq_some hq
  simp at h1
  rw [cond_uniq h h2 hl (h1.trans hf.symm)]
theorem outM_mem {n p : Int} {k : List FLit} (h : condB n p k = true) : ∀ (f : Nat) (y : List Int), y ∈ outM k f ↔ (y.Pairwise (· < ·) ∧ ∀ x ∈ y, 0 ≤ x ∧ x < (f : Int)) ∧ ∀ l ∈ k, 0 ≤ l.fact → l.fact < (f : Int) → y.contains l.fact = !l.neg
 | 0, y => by
  constructor
  ·intro hy
   simp only [outM, List.mem_singleton] at hy; subst hy
   exact ⟨⟨.nil, by simp⟩, fun l _ h0 h1 => by omega⟩
  ·rintro ⟨⟨_, h2⟩, _⟩
   cases y with
   | nil => simp [outM]
   | cons x y => have := h2 x List.mem_cons_self; omega
 | f + 1, y => by
  have ih := outM_mem h f
  have hkey : y ∈ outM k (f + 1) ↔ ∃ s ∈ outM k f, ((ynF k f).1 = true ∧ y = s ++ [(f : Int)]) ∨ ((ynF k f).2 = true ∧ y = s) := by
   rw [outM, stepM, List.mem_flatMap]
   constructor
   ·rintro ⟨s, hs, hy⟩
    refine ⟨s, hs, ?_⟩
    unfold stepS at hy
    rcases List.mem_append.1 hy with hy | hy
    ·split at hy
     ·rename_i hq; simp at hy; exact .inl ⟨hq, hy⟩
     ·simp at hy
    ·split at hy
     ·rename_i hq; simp at hy; exact .inr ⟨hq, hy⟩
     ·simp at hy
   ·rintro ⟨s, hs, hy⟩
    refine ⟨s, hs, ?_⟩
    unfold stepS
    rcases hy with ⟨h1, rfl⟩ | ⟨h1, rfl⟩
    ·rw [h1]; simp
    ·rw [h1]; simp
  rw [hkey]
  constructor
  ·rintro ⟨s, hs, hy⟩
   obtain ⟨⟨a1, a2⟩, a3⟩ := (ih s).1 hs
   have hfs : (f : Int) ∉ s := fun q => by have := a2 _ q; omega
   rcases hy with ⟨hq, rfl⟩ | ⟨hq, rfl⟩
   ·refine ⟨⟨?_, fun x hx => ?_⟩, fun l hl h0 h1 => ?_⟩
    ·rw [List.pairwise_append]
     exact ⟨a1, by simp, fun a ha b hb => by simp at hb; subst hb; exact (a2 a ha).2⟩
    ·rcases List.mem_append.1 hx with hx | hx
     ·have := a2 x hx; omega
     ·simp at hx; subst hx; omega
    ·by_cases e : l.fact = (f : Int)
     ·rw [yn_in h hl e] at hq
      simp only at hq
      rw [hq, e]; simp
     ·rw [← a3 l hl h0 (by omega)]
      cases hc : s.contains l.fact
      ·have h1 : l.fact ∉ s := by simpa using hc
       simp only [List.contains_eq_mem, decide_eq_false_iff_not, List.mem_append, List.mem_singleton, not_or]
       exact ⟨h1, e⟩
      ·have h1 : l.fact ∈ s := by simpa using hc
       simp [h1]
   ·refine ⟨⟨a1, fun x hx => by have := a2 x hx; omega⟩, fun l hl h0 h1 => ?_⟩
    by_cases e : l.fact = (f : Int)
    ·rw [yn_in h hl e] at hq
     simp only at hq
     rw [hq, e]; simpa using hfs
    ·exact a3 l hl h0 (by omega)
  ·rintro ⟨⟨a1, a2⟩, a3⟩
   by_cases hf : (f : Int) ∈ y
   ·obtain ⟨s, hs⟩ : ∃ s, s = y.filter (· < (f : Int)) := ⟨_, rfl⟩
    have hsm : ∀ x, x ∈ s ↔ x ∈ y ∧ x < (f : Int) := fun x => by rw [hs, List.mem_filter]; simp
    have hsp : s.Pairwise (· < ·) := by rw [hs]; exact a1.filter _
    have hyy : y = s ++ [(f : Int)] := by
     refine pw_same a1 (List.pairwise_append.2 ⟨hsp, by simp, fun a ha b hb => by simp at hb; subst hb; exact ((hsm a).1 ha).2⟩) fun x => ?_
     rw [List.mem_append, hsm, List.mem_singleton]
     constructor
     ·intro hx
      have := a2 x hx
      by_cases e : x = (f : Int)
      ·exact .inr e
      ·exact .inl ⟨hx, by omega⟩
     ·rintro (hx | rfl)
      ·exact hx.1
      ·exact hf
    refine ⟨s, (ih s).2 ⟨⟨hsp, fun x hx => ⟨(a2 x ((hsm x).1 hx).1).1, ((hsm x).1 hx).2⟩⟩, fun l hl h0 h1 => ?_⟩, .inl ⟨?_, hyy⟩⟩
    ·rw [← a3 l hl h0 (by omega)]
     cases hc : y.contains l.fact
     ·have h2 : l.fact ∉ y := by simpa using hc
      simp only [List.contains_eq_mem, decide_eq_false_iff_not]
      exact fun q => h2 ((hsm _).1 q).1
     ·have h2 : l.fact ∈ y := by simpa using hc
      simp only [List.contains_eq_mem, decide_eq_true_eq]
      exact (hsm _).2 ⟨h2, h1⟩
    ·by_cases hk : (f : Int) ∈ factsL k
     ·obtain ⟨l, hl, e⟩ := List.mem_map.1 hk
      rw [yn_in h hl e]
      have := a3 l hl (by omega) (by omega)
      rw [e] at this
      simpa [hf] using this
     ·rw [yn_out h hk]
   ·refine ⟨y, (ih y).2 ⟨⟨a1, fun x hx => by have := a2 x hx; have : x ≠ (f : Int) := fun e => hf (e ▸ hx); omega⟩, fun l hl h0 h1 => a3 l hl h0 (by omega)⟩, .inr ⟨?_, rfl⟩⟩
    by_cases hk : (f : Int) ∈ factsL k
    ·obtain ⟨l, hl, e⟩ := List.mem_map.1 hk
     rw [yn_in h hl e]
     have := a3 l hl (by omega) (by omega)
     rw [e] at this
     simpa [hf] using this
    ·rw [yn_out h hk]
theorem outM_make {n : Nat} {k : List FLit} (h : condB n (-1) k = true) : mergeB (outM k n) = makeB n k := by
 refine ltL_unique (merge_strict _) (merge_strict _) fun y => ?_
 rw [merge_mem, makeB, merge_mem, makeAll_iff h, outM_mem h n]
 unfold okS
 rw [condHolds_iff]
 constructor
 ·rintro ⟨h1, h2⟩
  exact ⟨h1, fun l hl => h2 l hl (by have := condB_mem h l hl; omega) (by have := condB_mem h l hl; omega)⟩
 ·rintro ⟨h1, h2⟩
  exact ⟨h1, fun l hl _ _ => h2 l hl⟩
end Go.Proofs.YtcjgoomlaojljaaGreat
namespace Go.Proofs.YtcjgoomlaojljaaGreat
open Go.Ahl
instance : IdE encU8 := ⟨fun _ _ => idsL_cons (.int _ _) idsL_nil⟩
theorem bys_app (a b : List UInt8) : bys a ++ bys b = bys (a ++ b) := ByteArray.ext (by simp [bys])
theorem bys_inj {a b : List UInt8} (h : bys a = bys b) : a = b := by
 have := congrArg (fun x : ByteArray => x.data.toList) h
 simpa [bys] using this
theorem bys_size (a : List UInt8) : (bys a).size = a.length := rfl
def kb1 (f : Int) : UInt8 := UInt8.ofNat (f.toNat + 1)
def kwB (b : List (List Int)) : List UInt8 := wordsL 0 (b.map fun s => s.map kb1)
def keyB (b : List (List Int)) : ByteArray := bys (kwB b)
theorem kb1_nat {f : Int} (h : 0 ≤ f ∧ f < 200) : ((kb1 f).toNat : Int) = f + 1 := by
 unfold kb1
 rw [UInt8.toNat_ofNat', Nat.mod_eq_of_lt (by omega)]; omega
theorem kb1_u8 {f : Int} (h : 0 ≤ f ∧ f < 200) : IntKind.u8.wrap (IntKind.u8.wrap f + 1) = ((kb1 f).toNat : Int) := by
 rw [kb1_nat h]
 unfold IntKind.wrap
 simp only [IntKind.bits, IntKind.signed, Bool.false_and, Bool.false_eq_true, if_false]
 omega
theorem map_kb1_inj : ∀ {s r : List Int}, (∀ x ∈ s, 0 ≤ x ∧ x < 200) → (∀ x ∈ r, 0 ≤ x ∧ x < 200) → s.map kb1 = r.map kb1 → s = r
 | [], [], _, _, _ => rfl
 | [], y :: r, _, _, h => by simp at h
 | x :: s, [], _, _, h => by simp at h
 | x :: s, y :: r, h1, h2, h => by
  simp only [List.map_cons, List.cons.injEq] at h
  have a := kb1_nat (h1 x List.mem_cons_self)
  have b := kb1_nat (h2 y List.mem_cons_self)
  rw [h.1, b] at a
  rw [map_kb1_inj (fun z hz => h1 z (List.mem_cons_of_mem _ hz)) (fun z hz => h2 z (List.mem_cons_of_mem _ hz)) h.2, show x = y by omega]
theorem map_inj_mem {α β : Type} {f : α → β} : ∀ {l m : List α}, (∀ x ∈ l, ∀ y ∈ m, f x = f y → x = y) → l.map f = m.map f → l = m
 | [], [], _, _ => rfl
 | [], _ :: _, _, h => by simp at h
 | _ :: _, [], _, h => by simp at h
 | x :: l, y :: m, hi, h => by
  simp only [List.map_cons, List.cons.injEq] at h
  rw [hi x List.mem_cons_self y List.mem_cons_self h.1, map_inj_mem (fun a ha b hb => hi a (List.mem_cons_of_mem _ ha) b (List.mem_cons_of_mem _ hb)) h.2]
theorem BelOk.rng {n : Nat} (hn : n ≤ 200) {b : List (List Int)} (h : BelOk n b) {s : List Int} (hs : s ∈ b) : ∀ x ∈ s, 0 ≤ x ∧ x < 200 := fun x hx => by
 have := (rising_pw (h.st s hs)).2 x hx; omega
theorem keyB_inj {n : Nat} (hn : n ≤ 200) {b c : List (List Int)} (hb : BelOk n b) (hc : BelOk n c) (h : keyB b = keyB c) : b = c := by
 have h1 := bys_inj h
 have hz : ∀ {d : List (List Int)}, BelOk n d → ∀ w ∈ d.map (fun s => s.map kb1), (0 : UInt8) ∉ w := fun hd w hw hm => by
  obtain ⟨s, hs, rfl⟩ := List.mem_map.1 hw
  obtain ⟨x, hx, e⟩ := List.mem_map.1 hm
  have := kb1_nat (hd.rng hn hs x hx)
  have hq := hd.rng hn hs x hx
  rw [e] at this
  have e0 : ((0 : UInt8).toNat : Int) = 0 := rfl
  omega
 have h2 := words_inj (hz hb) (hz hc) h1
 exact map_inj_mem (fun s hs r hr e => map_kb1_inj (hb.rng hn hs) (hc.rng hn hr) e) h2
theorem kwB_succ {b : List (List Int)} {i : Nat} {s : List Int} (h : b[i]? = some s) : kwB (b.take (i + 1)) = kwB (b.take i) ++ s.map kb1 ++ [0] := by
 unfold kwB; rw [take_succ' h, List.map_append, List.map_singleton, words_snoc, List.append_assoc]
theorem kwB_len {n : Nat} (hn : n ≤ 200) {b : List (List Int)} (hb : BelOk n b) (i : Nat) : (kwB (b.take i)).length ≤ 201 * 64 := by
 have h1 : (kwB (b.take i)).length ≤ (200 + 1) * ((b.take i).map fun s => s.map kb1).length := words_len fun w hw => by
  obtain ⟨s, hs, rfl⟩ := List.mem_map.1 hw
  rw [List.length_map]; exact rising_200 hn (hb.st s (List.mem_of_mem_take hs))
 have h2 := hb.le
 rw [List.length_map, List.length_take] at h1
 have : (200 + 1) * min i b.length ≤ 201 * 64 := Nat.mul_le_mul (by omega) (by omega)
 omega
def c_bkey : CCode := .seq (.ops [oS 2 (.move (.lit (.str (bys []))))]) (.seq (.ops [oS 3 (.move (.lit (.slice .nil [])))]) (.seq (.seq (.ops [oS 8 (.move (.tmp 0)), oS 9 (.blen 1 (.tmp 8)), oS 10 (.move (.lit (.int .i64 0)))]) (.block 0 (.loop (.seq (.ops [oS 11 (.bin .lss .none (.tmp 10) (.tmp 9))]) (.seq (.cond (.tmp 11) .skip (.exit 0)) (.seq (.block 1 (.seq (.ops [oS 12 (.iaddr 1 (.tmp 8) (.tmp 10)), oS 13 (.load none (.tmp 12)), oS 5 (.move (.tmp 13))]) (.seq (.seq (.ops [oS 14 (.move (.tmp 5)), oS 15 (.blen 1 (.tmp 14)), oS 16 (.move (.lit (.int .i64 0)))]) (.block 2 (.loop (.seq (.ops [oS 17 (.bin .lss .none (.tmp 16) (.tmp 15))]) (.seq (.cond (.tmp 17) .skip (.exit 2)) (.seq (.block 3 (.seq (.ops [oS 18 (.iaddr 1 (.tmp 14) (.tmp 16)), oS 19 (.load none (.tmp 18)), oS 7 (.move (.tmp 19))]) (.ops [oS 20 (.move (.tmp 3)), oS 21 (.move (.tmp 7)), oS 22 (.conv .u8 (.tmp 21)), oS 23 (.bin .add .none (.tmp 22) (.lit (.int .u8 1))), oS 24 (.bslice 1 [.tmp 23] false), oS 25 (.bappend 1 1 (.tmp 20) (.tmp 24) false), oS 3 (.move (.tmp 25))]))) (.ops [oS 26 (.bin .add .none (.tmp 16) (.lit (.int .i64 1))), oS 16 (.move (.tmp 26))]))))))) (.ops [oS 27 (.move (.tmp 3)), oS 28 (.bslice 1 [.lit (.int .u8 0)] false), oS 29 (.bappend 1 1 (.tmp 27) (.tmp 28) false), oS 3 (.move (.tmp 29))])))) (.ops [oS 30 (.bin .add .none (.tmp 10) (.lit (.int .i64 1))), oS 10 (.move (.tmp 30))]))))))) (.seq (.ops [oS 31 (.move (.tmp 3)), oS 32 (.bstr (.tmp 31)), oS 2 (.move (.tmp 32))]) .ret)))
set_option maxHeartbeats 1000000 in
theorem bkey_spec (n : Nat) (b : List (List Int)) (tok : Tok) (σ : Store) (hn : n ≤ 200) (hb : BelOk n b) : ACalls Tryz.prog 49 [.slice tok (b.map encL)] σ (isR (.str (keyB b)) σ) := by
 refine ACalls.intro (rs := [(.tmp 2)]) (by kernel_rfl) { own := [], ghosts := [] } Tryz.func49 (c := Tryz.f49.body.getD .skip) (by kernel_rfl) (by decide) (by rw [show Tryz.f49.ntmps = 33 by kernel_rfl]; exact Nat.le_of_ble_eq_true rfl) (by kernel_rfl) ?_
 intro hσ hids
 rw [show comp Tryz.prog { own := [], ghosts := [] } (Tryz.f49.body.getD .skip) = c_bkey by kernel_rfl, show Tryz.f49.ntmps = 33 by kernel_rfl]
 unfold c_bkey
 have hil : Ids σ.length (.slice tok (b.map encL)) := hids _ (by simp)
 have hs1 : ∀ k : Nat, IdsS (σ ++ [AObj.grow 1 k]).length (σ ++ [AObj.grow 1 k]) := fun k => idsS_push hσ trivial
 have hbl := hb.le
 simp only [go_sem, simprocAttr]
 refine wpc_while (fun (i : Nat) => [(3, .slice (.grow σ.length) ((kwB (b.take i)).map encU8)), (8, .slice tok (b.map encL)), (9, .int .i64 b.length), (10, .int .i64 (i : Nat))]) (fun i => σ ++ [.grow 1 (kwB (b.take i)).length]) (fun i => i ≤ b.length) (fun i => b.length - i) 0 (Nat.zero_le _) ?_ ?_
 ·first | exact Ghost.begin0 3 1 _ (Nat.le_refl _) tellT hσ | exact Ghost.begin 3 1 _ (Nat.le_refl _) tellT hσ
 intro i hi K hK hE hR
 by_cases h : i < b.length
 ·obtain ⟨s, hx⟩ := get_ex h; have hlt : ((i : Int) < (b.length : Int)) := (by omega); have hw := wrapS (i := i) (by omega)
  have hsm := List.mem_of_getElem? hx
  have hsl := rising_200 hn (hb.st s hsm)
  have hsr := hb.rng hn hsm
  have hsu := kwB_succ hx
  have hkl := kwB_len hn hb i
  obtain ⟨U, hU⟩ : ∃ U, U = kwB (b.take i) := ⟨_, rfl⟩
  rw [← hU] at hsu hkl ⊢
  simp only [go_sem, simprocAttr, hlt, hx, encL]
  refine wpc_while (fun (j : Nat) => [(3, .slice (.grow σ.length) ((U ++ (s.take j).map kb1).map encU8)), (8, .slice tok (b.map encL)), (9, .int .i64 b.length), (10, .int .i64 i), (14, .slice .unk (s.map Ahl.encI)), (15, .int .i64 s.length), (16, .int .i64 (j : Nat))]) (fun j => σ ++ [.grow 1 (U ++ (s.take j).map kb1).length]) (fun j => j ≤ s.length) (fun j => s.length - j) 0 (Nat.zero_le _) ?_ ?_
  ·(try dsimp only)
   rw [show U ++ (s.take 0).map kb1 = U by simp]
   first | exact ghL0 (l := [.grow 1 _]) (hs1 _) | exact ghL (l := [.grow 1 _]) (hs1 _)
  intro j hj0 K2 hK2 hE2 hR2
  by_cases hj : j < s.length
  ·obtain ⟨f, hxj⟩ := get_ex hj; have hltj : ((j : Int) < (s.length : Int)) := (by omega); have hwj := wrapS (i := j) (by omega)
   have hfr := hsr f (List.mem_of_getElem? hxj)
   have hkb := kb1_u8 hfr
   have hnx : U ++ (s.take (j + 1)).map kb1 = (U ++ (s.take j).map kb1) ++ [kb1 f] := by rw [take_succ' hxj, List.map_append, List.append_assoc]; rfl
   have hVl : (U ++ (s.take j).map kb1).length ≤ 201 * 64 + 200 := by rw [List.length_append, List.length_map, List.length_take]; omega
   obtain ⟨V, hV⟩ : ∃ V, V = U ++ (s.take j).map kb1 := ⟨_, rfl⟩
   rw [← hV] at hVl ⊢
   have hbig : bigLen (V.length + 1) 1 := big_ok (by omega) (by omega)
   simp only [go_sem, simprocAttr, hltj, hxj, Ahl.encI, hkb, hbig]
   have e3 : V.map encU8 ++ [[AV.int .u8 ((kb1 f).toNat : Int)]] = (V ++ [kb1 f]).map encU8 := by rw [List.map_append]; rfl
   have e4 : V.length + 1 = (V ++ [kb1 f]).length := by simp
   rw [e3, e4]
   refine hK2 _ _ (j + 1) (by omega) (by omega) ?_
   (try dsimp only)
   rw [hnx, ← hV, hwj]
   generalize V ++ [kb1 f] = W
   exact ghL (l := [.grow 1 _]) (hs1 _)
  ·have hltj : ¬ ((j : Int) < (s.length : Int)) := by omega
   rw [List.take_of_length_le (by omega)]
   have hVl : (U ++ s.map kb1).length ≤ 201 * 64 + 200 := by rw [List.length_append, List.length_map]; omega
   obtain ⟨V, hV⟩ : ∃ V, V = U ++ s.map kb1 := ⟨_, rfl⟩
   rw [← hV] at hVl hsu ⊢
   have hbig : bigLen (V.length + 1) 1 := big_ok (by omega) (by omega)
   simp only [go_sem, simprocAttr, hltj, hE2, hbig]
   have e3 : V.map encU8 ++ [[AV.int .u8 0]] = (V ++ [0]).map encU8 := by rw [List.map_append]; rfl
   have e4 : V.length + 1 = (V ++ [(0 : UInt8)]).length := by simp
   rw [e3, e4]
   refine hK _ _ (i + 1) (by omega) (by omega) ?_
   (try dsimp only)
   rw [hsu, hw]
   generalize V ++ [(0 : UInt8)] = W
   exact ghL (l := [.grow 1 _]) (hs1 _)
 ·have hlt : ¬ ((i : Int) < (b.length : Int)) := by omega
  rw [List.take_of_length_le (by omega)]
  simp only [go_sem, simprocAttr, hlt, hE]
  exact rt (.str (keyB b)) ⟨rfl, rfl⟩
def c_digits : CCode := .seq (.ops [oS 2 (.move (.lit (.str (bys []))))]) (.seq (.ops [oS 3 (.move (.lit (.str (bys []))))]) (.block 0 (.loop (.block 1 (.seq (.ops [oS 4 (.move (.tmp 0)), oS 5 (.bin .rem .none (.tmp 4) (.lit (.int .i64 10))), oS 6 (.bin .add .none (.lit (.int .i64 48)) (.tmp 5)), oS 7 (.conv .u8 (.tmp 6)), oS 8 (.bslice 1 [.tmp 7] false), oS 9 (.bstr (.tmp 8)), oS 10 (.move (.tmp 3)), oS 11 (.bin .add .none (.tmp 9) (.tmp 10)), oS 3 (.move (.tmp 11))]) (.seq (.ops [oS 12 (.move (.tmp 0)), oS 13 (.bin .quo .none (.tmp 12) (.lit (.int .i64 10))), oS 0 (.move (.tmp 13))]) (.seq (.ops [oS 14 (.move (.tmp 0)), oS 15 (.bin .eql .none (.tmp 14) (.lit (.int .i64 0)))]) (.cond (.tmp 15) (.seq (.ops [oS 16 (.move (.tmp 3)), oS 2 (.move (.tmp 16))]) .ret) .skip))))))))
theorem digits2_spec (N : Nat) (σ : Store) (hN : N < 1000) : ACalls Tryz.prog 106 [.int .i64 N] σ (isR (.str (bys (dgL N))) σ) := by
 refine ACalls.intro (rs := [(.tmp 2)]) (by kernel_rfl) { own := [], ghosts := [] } Tryz.func106 (c := Tryz.f106.body.getD .skip) (by kernel_rfl) (by decide) (by rw [show Tryz.f106.ntmps = 17 by kernel_rfl]; exact Nat.le_of_ble_eq_true rfl) (by kernel_rfl) ?_
 intro hσ hids
 rw [show comp Tryz.prog { own := [], ghosts := [] } (Tryz.f106.body.getD .skip) = c_digits by kernel_rfl, show Tryz.f106.ntmps = 17 by kernel_rfl]
 unfold c_digits
 have hNl := dgL_len (n := N) 3 (by omega) (by omega)
 simp only [go_sem, simprocAttr]
 refine wpc_while (α := Nat × List UInt8) (fun q => [(0, .int .i64 (q.1 : Nat)), (3, .str (bys q.2))]) (fun _ => σ) (fun q => q.1 ≤ N ∧ dgL N = dgL q.1 ++ q.2) (fun q => q.1) (N, []) ⟨Nat.le_refl _, by simp⟩ (by (try dsimp only); exact ghA) ?_
 rintro ⟨n, acc⟩ ⟨hn, hv⟩ K hK hE hR
 dsimp only at hn hv ⊢
 have hm : (n : Int).tmod 10 = ((n % 10 : Nat) : Int) := by rw [Int.tmod_eq_emod_of_nonneg (by omega)]; omega
 have hq : IntKind.i64.wrap ((n : Int).tdiv 10) = ((n / 10 : Nat) : Int) := by
  rw [Int.tdiv_eq_ediv_of_nonneg (by omega), wrap_ok (by omega)]; omega
 have h48 : IntKind.i64.wrap (48 + ((n % 10 : Nat) : Int)) = ((48 + n % 10 : Nat) : Int) := by rw [wrap_ok (by omega)]; omega
 have hu8 : IntKind.u8.wrap ((48 + n % 10 : Nat) : Int) = ((UInt8.ofNat (48 + n % 10)).toNat : Int) := by
  rw [digit_nat (show n % 10 < 10 by omega)]
  unfold IntKind.wrap
  simp only [IntKind.bits, IntKind.signed, Bool.false_and, Bool.false_eq_true, if_false]
  omega
 have hu : ∀ tok K, aBstr (.slice tok [[AV.int .u8 ((UInt8.ofNat (48 + n % 10)).toNat : Int)]]) K = K (.str (bys [UInt8.ofNat (48 + n % 10)])) := fun tok K => e_bstr tok [UInt8.ofNat (48 + n % 10)] K
 have hal : acc.length ≤ 3 := by rw [hv, List.length_append] at hNl; omega
 have hmx : IntKind.i64.max = 9223372036854775807 := rfl
 have hsz : ((bys [UInt8.ofNat (48 + n % 10)]).size : Nat) + (bys acc).size ≤ 4 := by rw [bys_size, bys_size]; simp only [List.length_singleton]; omega
 have hap := bys_app [UInt8.ofNat (48 + n % 10)] acc
 by_cases h : n < 10
 ·have hdz : n / 10 = 0 := by omega
  have hz : ((((n / 10 : Nat) : Int)) == 0) = true := by rw [hdz]; rfl
  rw [dgL_small h] at hv
  simp only [go_sem, simprocAttr, hm, hq, h48, hu8, hu, hz, hR]
  refine ⟨by omega, ?_⟩
  rw [hap, show [UInt8.ofNat (48 + n % 10)] ++ acc = dgL N by rw [hv, Nat.mod_eq_of_lt h]]
  exact rt (.str (bys (dgL N))) ⟨rfl, rfl⟩
 ·have hz : ((((n / 10 : Nat) : Int)) == 0) = false := by simp; omega
  rw [dgL_big h, List.append_assoc] at hv
  simp only [go_sem, simprocAttr, hm, hq, h48, hu8, hu, hz]
  refine ⟨by omega, ?_⟩
  rw [hap]
  refine hK _ _ ((n / 10, [UInt8.ofNat (48 + n % 10)] ++ acc)) (⟨by simp only []; omega, hv⟩) om ?_; (try dsimp only); exact ghA
def dgW (s : List Int) : List UInt8 := wordsL 32 (s.map fun x => dgL x.toNat)
theorem dgW_len {s : List Int} (hs : ∀ x ∈ s, 0 ≤ x ∧ x < 200) : (dgW s).length ≤ 4 * s.length := by
 have := words_len (m := 32) (ws := s.map fun x => dgL x.toNat) (k := 3) fun w hw => by
  obtain ⟨x, hx, rfl⟩ := List.mem_map.1 hw
  exact dgL_len 3 (by have := hs x hx; omega) (by omega)
 rw [List.length_map] at this
 exact this
def c_key02 : CCode := .seq (.ops [oS 2 (.move (.lit (.str (bys []))))]) (.seq (.ops [oS 3 (.move (.lit (.str (bys []))))]) (.seq (.seq (.ops [oS 6 (.move (.tmp 0)), oS 7 (.blen 1 (.tmp 6)), oS 8 (.move (.lit (.int .i64 0)))]) (.block 0 (.loop (.seq (.ops [oS 9 (.bin .lss .none (.tmp 8) (.tmp 7))]) (.seq (.cond (.tmp 9) .skip (.exit 0)) (.seq (.block 1 (.seq (.ops [oS 10 (.iaddr 1 (.tmp 6) (.tmp 8)), oS 11 (.load none (.tmp 10)), oS 5 (.move (.tmp 11))]) (.ops [oS 12 (.move (.tmp 3)), oS 13 (.move (.tmp 5)), oS 14 (.call (.lit (.func 106 [])) [.tmp 13]), oS 15 (.bin .add .none (.tmp 14) (.lit (.str (bys [32])))), oS 16 (.bin .add .none (.tmp 12) (.tmp 15)), oS 3 (.move (.tmp 16))]))) (.ops [oS 17 (.bin .add .none (.tmp 8) (.lit (.int .i64 1))), oS 8 (.move (.tmp 17))]))))))) (.seq (.ops [oS 18 (.move (.tmp 3)), oS 2 (.move (.tmp 18))]) .ret)))
theorem key02b_spec (s : List Int) (tok : Tok) (σ : Store) (hl : s.length ≤ 200) (hs : ∀ x ∈ s, 0 ≤ x ∧ x < 200) : ACalls Tryz.prog 83 [.slice tok (s.map Ahl.encI)] σ (isR (.str (bys (dgW s))) σ) := by
 refine ACalls.intro (rs := [(.tmp 2)]) (by kernel_rfl) { own := [], ghosts := [] } Tryz.func83 (c := Tryz.f83.body.getD .skip) (by kernel_rfl) (by decide) (by rw [show Tryz.f83.ntmps = 19 by kernel_rfl]; exact Nat.le_of_ble_eq_true rfl) (by kernel_rfl) ?_
 intro hσ hids
 rw [show comp Tryz.prog { own := [], ghosts := [] } (Tryz.f83.body.getD .skip) = c_key02 by kernel_rfl, show Tryz.f83.ntmps = 19 by kernel_rfl]
 unfold c_key02
 have hil : Ids σ.length (.slice tok (s.map Ahl.encI)) := hids _ (by simp)
 simp only [go_sem, simprocAttr]
 refine wpc_while (fun (i : Nat) => [(3, .str (bys (dgW (s.take i)))), (6, .slice tok (s.map Ahl.encI)), (7, .int .i64 s.length), (8, .int .i64 (i : Nat))]) (fun i => σ) (fun i => i ≤ s.length) (fun i => s.length - i) 0 (Nat.zero_le _) (by (try dsimp only); exact ghA) ?_
 intro i hi K hK hE hR
 by_cases h : i < s.length
 ·obtain ⟨f, hx⟩ := get_ex h; have hlt : ((i : Int) < (s.length : Int)) := (by omega); have hw := wrapS (i := i) (by omega)
  have hf := hs f (List.mem_of_getElem? hx)
  have hdl := dgL_len (n := f.toNat) 3 (by omega) (by omega)
  have hd := fun σ => digits2_spec f.toNat σ (by omega)
  rw [show ((f.toNat : Nat) : Int) = f by omega] at hd
  have hsu : dgW (s.take (i + 1)) = dgW (s.take i) ++ (dgL f.toNat ++ [32]) := by unfold dgW; rw [take_succ' hx, List.map_append, List.map_singleton, words_snoc]
  have hul := dgW_len (s := s.take i) fun x hx => hs x (List.mem_of_mem_take hx)
  rw [List.length_take] at hul
  obtain ⟨U, hU⟩ : ∃ U, U = dgW (s.take i) := ⟨_, rfl⟩
  rw [← hU] at hsu hul ⊢
  have hmx : IntKind.i64.max = 9223372036854775807 := rfl
  simp only [go_sem, simprocAttr, hlt, hx, Ahl.encI]
  refine (hd _).is ?_
  simp only [go_sem, simprocAttr]
  refine ⟨by rw [bys_size, bys_size, hmx]; simp only [List.length_singleton]; omega, by rw [bys_size, bys_size, bys_size, hmx]; simp only [List.length_singleton]; omega, ?_⟩
  rw [bys_app, bys_app, ← hsu]
  refine hK _ _ (i + 1) (by omega) om ?_; (try dsimp only); (try simp only [ hw]); exact ghA
 ·have hlt : ¬ ((i : Int) < (s.length : Int)) := by omega
  rw [List.take_of_length_le (by omega)]
  simp only [go_sem, simprocAttr, hlt, hE]
  exact rt (.str (bys (dgW s))) ⟨rfl, rfl⟩
def kwR (b : List (List Int)) : List UInt8 := wordsL 124 (b.map dgW)
def keyR17 (b : List (List Int)) : ByteArray := bys (kwR b)
theorem dgW_mem {s : List Int} {d : UInt8} (h : d ∈ dgW s) : d = 32 ∨ (48 ≤ d.toNat ∧ d.toNat ≤ 57) := by
 rcases words_mem h with e | ⟨w, hw, hd⟩
 ·exact .inl e
 ·obtain ⟨x, _, rfl⟩ := List.mem_map.1 hw
  exact .inr (dgL_digit _ d hd)
theorem keyR17_inj {n : Nat} (hn : n ≤ 200) {b c : List (List Int)} (hb : BelOk n b) (hc : BelOk n c) (h : keyR17 b = keyR17 c) : b = c := by
 have h1 := bys_inj h
 have hz : ∀ (d : List (List Int)), ∀ w ∈ d.map dgW, (124 : UInt8) ∉ w := fun d w hw hm => by
  obtain ⟨s, hs, rfl⟩ := List.mem_map.1 hw
  rcases dgW_mem hm with e | e
  ·exact absurd e (by decide)
  ·exact absurd e.2 (by decide)
 have h2 := words_inj (hz b) (hz c) h1
 refine map_inj_mem (fun s hs r hr e => ?_) h2
 have hy : ∀ (s : List Int), ∀ w ∈ s.map (fun x => dgL x.toNat), (32 : UInt8) ∉ w := fun s w hw hm => by
  obtain ⟨x, _, rfl⟩ := List.mem_map.1 hw
  exact absurd (dgL_digit _ _ hm).1 (by decide)
 have h3 := words_inj (hy s) (hy r) e
 refine map_inj_mem (fun x hx y hy e => ?_) h3
 have := dgL_inj e
 have := hb.rng hn hs x hx
 have := hc.rng hn hr y hy
 omega
def c_key17 : CCode := .seq (.ops [oS 2 (.move (.lit (.str (bys []))))]) (.seq (.ops [oS 3 (.move (.lit (.str (bys []))))]) (.seq (.seq (.ops [oS 6 (.move (.tmp 0)), oS 7 (.blen 1 (.tmp 6)), oS 8 (.move (.lit (.int .i64 0)))]) (.block 0 (.loop (.seq (.ops [oS 9 (.bin .lss .none (.tmp 8) (.tmp 7))]) (.seq (.cond (.tmp 9) .skip (.exit 0)) (.seq (.block 1 (.seq (.ops [oS 10 (.iaddr 1 (.tmp 6) (.tmp 8)), oS 11 (.load none (.tmp 10)), oS 5 (.move (.tmp 11))]) (.ops [oS 12 (.move (.tmp 3)), oS 13 (.move (.tmp 5)), oS 14 (.call (.lit (.func 83 [])) [.tmp 13]), oS 15 (.bin .add .none (.tmp 14) (.lit (.str (bys [124])))), oS 16 (.bin .add .none (.tmp 12) (.tmp 15)), oS 3 (.move (.tmp 16))]))) (.ops [oS 17 (.bin .add .none (.tmp 8) (.lit (.int .i64 1))), oS 8 (.move (.tmp 17))]))))))) (.seq (.ops [oS 18 (.move (.tmp 3)), oS 2 (.move (.tmp 18))]) .ret)))
theorem key17_spec (n : Nat) (b : List (List Int)) (tok : Tok) (σ : Store) (hn : n ≤ 200) (hb : BelOk n b) : ACalls Tryz.prog 48 [.slice tok (b.map encL)] σ (isR (.str (keyR17 b)) σ) := by
 refine ACalls.intro (rs := [(.tmp 2)]) (by kernel_rfl) { own := [], ghosts := [] } Tryz.func48 (c := Tryz.f48.body.getD .skip) (by kernel_rfl) (by decide) (by rw [show Tryz.f48.ntmps = 19 by kernel_rfl]; exact Nat.le_of_ble_eq_true rfl) (by kernel_rfl) ?_
 intro hσ hids
 rw [show comp Tryz.prog { own := [], ghosts := [] } (Tryz.f48.body.getD .skip) = c_key17 by kernel_rfl, show Tryz.f48.ntmps = 19 by kernel_rfl]
 unfold c_key17
 have hil : Ids σ.length (.slice tok (b.map encL)) := hids _ (by simp)
 have hbl := hb.le
 have hlen : ∀ s ∈ b, (dgW s).length ≤ 800 := fun s hs => by
  have h1 := dgW_len (hb.rng hn hs)
  have h2 := rising_200 hn (hb.st s hs)
  omega
 simp only [go_sem, simprocAttr]
 refine wpc_while (fun (i : Nat) => [(3, .str (keyR17 (b.take i))), (6, .slice tok (b.map encL)), (7, .int .i64 b.length), (8, .int .i64 (i : Nat))]) (fun i => σ) (fun i => i ≤ b.length) (fun i => b.length - i) 0 (Nat.zero_le _) (by (try dsimp only); exact ghA) ?_
 intro i hi K hK hE hR
 by_cases h : i < b.length
 ·obtain ⟨s, hx⟩ := get_ex h; have hlt : ((i : Int) < (b.length : Int)) := (by omega); have hw := wrapS (i := i) (by omega)
  have hsm := List.mem_of_getElem? hx
  have hsl := rising_200 hn (hb.st s hsm)
  have hdl := hlen s hsm
  have hsu : keyR17 (b.take (i + 1)) = bys (kwR (b.take i) ++ (dgW s ++ [124])) := by unfold keyR17 kwR; rw [take_succ' hx, List.map_append, List.map_singleton, words_snoc]
  have hul : (kwR (b.take i)).length ≤ (800 + 1) * ((b.take i).map dgW).length := words_len fun w hw => by
   obtain ⟨s, hs, rfl⟩ := List.mem_map.1 hw
   exact hlen s (List.mem_of_mem_take hs)
  rw [List.length_map, List.length_take] at hul
  have hul2 : (800 + 1) * min i b.length ≤ 801 * 64 := Nat.mul_le_mul (by omega) (by omega)
  have hk0 : keyR17 (b.take i) = bys (kwR (b.take i)) := rfl
  rw [hk0]
  obtain ⟨U, hU⟩ : ∃ U, U = kwR (b.take i) := ⟨_, rfl⟩
  rw [← hU] at hsu hul ⊢
  have hmx : IntKind.i64.max = 9223372036854775807 := rfl
  simp only [go_sem, simprocAttr, hlt, hx, encL]
  refine (key02b_spec s .unk _ hsl (hb.rng hn hsm)).is ?_
  simp only [go_sem, simprocAttr]
  refine ⟨by rw [bys_size, bys_size, hmx]; simp only [List.length_singleton]; omega, by rw [bys_size, bys_size, bys_size, hmx]; simp only [List.length_singleton]; omega, ?_⟩
  rw [bys_app, bys_app, ← hsu]
  refine hK _ _ (i + 1) (by omega) om ?_; (try dsimp only); (try simp only [ hw]); exact ghA
 ·have hlt : ¬ ((i : Int) < (b.length : Int)) := by omega
  rw [List.take_of_length_le (by omega)]
  simp only [go_sem, simprocAttr, hlt, hE]
  exact rt (.str (keyR17 b)) ⟨rfl, rfl⟩
end Go.Proofs.YtcjgoomlaojljaaGreat
namespace Go.Ahl
end Go.Ahl
namespace Go.Ahl
inductive MvP (n : Nat) (ps : List Nat) : AV → AV → Prop
 | keep {a b : AV} (h : Wk a b) (hi : Ids n b) : MvP n ps a b
 | slice {id k : Nat} (hk : ps[k]? = some id) (es : List (List AV)) (hi : ∀ e ∈ es, ∀ x ∈ e, Ids n x) : MvP n ps (.slice (.grow id) es) (.slice (.grow (n + k)) es)
 | ref {id k : Nat} (hk : ps[k]? = some id) (sz off len : Nat) : MvP n ps (.ref id sz off len) (.ref (n + k) sz off len)
 | vec {id k : Nat} (hk : ps[k]? = some id) (sz len : Nat) : MvP n ps (.vec id sz len) (.vec (n + k) sz len)
 | ptr {id k : Nat} (hk : ps[k]? = some id) (off : Nat) : MvP n ps (.ptr id off) (.ptr (n + k) off)
 | map {id k : Nat} (hk : ps[k]? = some id) : MvP n ps (.map id) (.map (n + k))
def MvL (n : Nat) (ps : List Nat) : List AV → List AV → Prop
 | [], [] => True
 | x :: xs, y :: ys => MvP n ps x y ∧ MvL n ps xs ys
 | _, _ => False
inductive MvO (n : Nat) (ps : List Nat) : AObj → AObj → Prop
 | same {o : AObj} (h : IdsO n o) : MvO n ps o o
 | row {xs ys : List AV} (h : MvL n ps xs ys) : MvO n ps (.row xs) (.row ys)
theorem MvL.len {n : Nat} {ps : List Nat} : ∀ {xs ys : List AV}, MvL n ps xs ys → xs.length = ys.length
 | [], [], _ => rfl
 | _ :: _, _ :: _, h => by simp [MvL.len h.2]
 | [], _ :: _, h => h.elim
 | _ :: _, [], h => h.elim
theorem MvL.get {n : Nat} {ps : List Nat} : ∀ {xs ys : List AV}, MvL n ps xs ys → ∀ (j : Nat) y, ys[j]? = some y → ∃ x, xs[j]? = some x ∧ MvP n ps x y
 | [], [], _, j, y, e => by simp at e
 | x :: xs, y :: ys, h, 0, z, e => by simp at e; subst e; exact ⟨x, rfl, h.1⟩
 | x :: xs, y :: ys, h, j + 1, z, e => by simpa using MvL.get h.2 j z (by simpa using e)
 | [], _ :: _, h, _, _, _ => h.elim
 | _ :: _, [], h, _, _, _ => h.elim
section
variable {m : Mem} {loc : List Loc} {σ : Store} {w : World} {n : Nat} {ps : List Nat}
def pickL (loc : List Loc) (n : Nat) (ps : List Nat) : List Loc := loc.take n ++ ps.map fun p => loc.getD p .nowhere
theorem pickL_lt (hn : n ≤ loc.length) {i : Nat} (hi : i < n) : (pickL loc n ps)[i]? = loc[i]? := by
 unfold pickL
 rw [List.getElem?_append_left (by rw [List.length_take]; omega), List.getElem?_take_of_lt hi]
theorem pickL_ge (hn : n ≤ loc.length) {k p : Nat} {l : Loc} (hk : ps[k]? = some p) (hl : loc[p]? = some l) : (pickL loc n ps)[n + k]? = some l := by
 unfold pickL
 have h : (loc.take n).length = n := List.length_take_of_le hn
 rw [List.getElem?_append_right (by omega), h, Nat.add_sub_cancel_left, List.getElem?_map, hk]
 simp [List.getD_eq_getElem?_getD, hl]
theorem pickL_inv (hn : n ≤ loc.length) (hp : ∀ p ∈ ps, p < loc.length) {i : Nat} {l : Loc} (e : (pickL loc n ps)[i]? = some l) :
  (i < n ∧ loc[i]? = some l) ∨ ∃ k p, i = n + k ∧ ps[k]? = some p ∧ loc[p]? = some l := by
 have hlen : (loc.take n).length = n := List.length_take_of_le hn
 rcases Nat.lt_or_ge i n with h | h
 ·rw [pickL_lt hn h] at e; exact .inl ⟨h, e⟩
 ·unfold pickL at e
  rw [List.getElem?_append_right (by omega), hlen, List.getElem?_map] at e
  obtain ⟨p, h1, h2⟩ := Option.map_eq_some_iff.1 e
  refine .inr ⟨i - n, p, by omega, h1, ?_⟩
  have := hp p (List.mem_of_getElem? h1)
  rw [List.getD_eq_getElem?_getD, List.getElem?_eq_getElem this] at h2
  rw [List.getElem?_eq_getElem this]; simpa using h2
theorem keep_pick (hn : n ≤ loc.length) : Keep (loc.take n).length (loc.take n) (pickL loc n ps) := fun i l hi e =>
 ⟨l, by unfold pickL; rw [List.getElem?_append_left hi]; exact e, .refl l⟩
theorem MvP.rel {a b : AV} {v : Value} (h : MvP n ps a b) (hn : n ≤ loc.length) (hp : ∀ p ∈ ps, p < loc.length) (hr : Rel m loc a v) : Rel m (pickL loc n ps) b v := by
 have hlen : (pickL loc n ps).length = n + ps.length := by unfold pickL; rw [List.length_append, List.length_take_of_le hn, List.length_map]
 have key : ∀ {id k : Nat} {l : Loc}, ps[k]? = some id → loc[id]? = some l → (pickL loc n ps)[n + k]? = some l := fun h1 h2 => pickL_ge hn h1 h2
 cases h with
 | keep h hi => exact ((h _ _ _ hr).take hi).mono (.refl m) (keep_pick hn)
 | slice hk es hi =>
  cases hr with
  | slice _ _ ad cap sz bb o f hcap htok hsz ha hc hr =>
   refine .slice _ es ad cap sz bb o f hcap ?_ hsz ha hc ?_
   ·obtain ⟨sz', f', t1, t2⟩ := htok
    exact ⟨sz', f', key hk t1, t2⟩
   ·intro i e he j x hx
    exact ((hr i e he j x hx).take (hi e (List.mem_of_getElem? he) x (List.mem_of_getElem? hx))).mono (.refl m) (keep_pick hn)
 | ref hk sz off len =>
  cases hr with
  | ref _ _ _ _ cap b q h1 h2 h3 h4 => exact .ref _ sz off len cap b q (key hk h1) h2 h3 h4
  | ref0 _ _ _ a h1 => exact .ref0 _ sz off a (by rw [hlen]; have := lt_of_get hk; omega)
 | vec hk sz len =>
  cases hr with
  | vec _ _ _ cap f a h1 h2 h3 => exact .vec _ sz len cap f a (key hk h1) h2 h3
 | ptr hk off =>
  cases hr with
  | ptr _ _ b h1 => exact .ptr _ off b (key hk h1)
 | map hk =>
  cases hr with
  | map _ b h1 => exact .map _ b (key hk h1)
theorem MvO.own {o o' : AObj} (h : MvO n ps o o') (l : Loc) : own l o = own l o' := by
 cases h with
 | same h => rfl
 | row h => exact own_row l _ _
theorem MvO.rel {l : Loc} {o o' : AObj} (h : MvO n ps o o') (hn : n ≤ loc.length) (hp : ∀ p ∈ ps, p < loc.length) (hr : ObjRel m loc w l o) : ObjRel m (pickL loc n ps) w l o' := by
 cases h with
 | same h => exact (hr.take n h).mono (.refl m) (keep_pick hn) (fun _ _ => rfl) (fun _ _ _ => rfl)
 | @row xs ys h =>
  cases l with
  | nowhere =>
   have e : xs = [] := hr
   subst e
   have := h.len
   exact List.length_eq_zero_iff.1 this.symm
  | tok _ _ => exact hr.elim
  | blk b =>
   obtain ⟨arr, t, h1, h2, h3, h4, h5⟩ := hr
   refine ⟨arr, t, h1, h2, by rw [← h.len]; exact h3, fun j y v e1 e2 => ?_, h5⟩
   obtain ⟨x, q1, q2⟩ := h.get j y e1
   exact q2.rel hn hp (h4 j x v q1 e2)
structure Picks (σ : Store) (n : Nat) (ps : List Nat) (τ : Store) : Prop where
 le : n ≤ σ.length
 lt : ∀ p ∈ ps, p < σ.length
 nd : ps.Nodup
 len : τ.length = n + ps.length
 keep : ∀ (i : Nat) o', i < n → τ[i]? = some o' → o' = .dead ∨ (i ∉ ps ∧ ∃ o, σ[i]? = some o ∧ MvO n ps o o')
 put : ∀ (k p : Nat) o', ps[k]? = some p → τ[n + k]? = some o' → ∃ o, σ[p]? = some o ∧ MvO n ps o o'
theorem Picks.inv {τ : Store} (h : Picks σ n ps τ) (hlen : loc.length = σ.length) {i : Nat} {l : Loc} {o' : AObj} (e1 : (pickL loc n ps)[i]? = some l) (e2 : τ[i]? = some o') :
  o' = .dead ∨ ∃ p o, loc[p]? = some l ∧ σ[p]? = some o ∧ MvO n ps o o' ∧ ((p = i ∧ i < n ∧ i ∉ ps) ∨ ∃ k, i = n + k ∧ ps[k]? = some p) := by
 rcases pickL_inv (by rw [hlen]; exact h.le) (fun p hp => by rw [hlen]; exact h.lt p hp) e1 with ⟨hi, hl⟩ | ⟨k, p, rfl, hk, hl⟩
 ·rcases h.keep i o' hi e2 with q | ⟨q, o, h1, h2⟩
  ·exact .inl q
  ·exact .inr ⟨i, o, hl, h1, h2, .inl ⟨rfl, hi, q⟩⟩
 ·obtain ⟨o, h1, h2⟩ := h.put k p o' hk e2
  exact .inr ⟨p, o, hl, h1, h2, .inr ⟨k, rfl, hk⟩⟩
theorem SRel.pick (h : SRel m loc σ w) {τ : Store} (hp : Picks σ n ps τ) : SRel m (pickL loc n ps) τ w := by
 have hn : n ≤ loc.length := by rw [h.len]; exact hp.le
 have hpl : ∀ p ∈ ps, p < loc.length := fun p q => by rw [h.len]; exact hp.lt p q
 have hlen : (pickL loc n ps).length = τ.length := by unfold pickL; rw [List.length_append, List.length_take_of_le hn, List.length_map, hp.len]
 have hnames : ∀ b, Names (pickL loc n ps) b → Names loc b := by
  rintro b ⟨i, e | ⟨sz, f, k, e, hk⟩⟩
  ·rcases pickL_inv hn hpl e with ⟨_, q⟩ | ⟨_, _, _, _, q⟩
   ·exact ⟨_, .inl q⟩
   ·exact ⟨_, .inl q⟩
  ·rcases pickL_inv hn hpl e with ⟨_, q⟩ | ⟨_, _, _, _, q⟩
   ·exact ⟨_, .inr ⟨sz, f, k, q, hk⟩⟩
   ·exact ⟨_, .inr ⟨sz, f, k, q, hk⟩⟩
 have hdead : ∀ l : Loc, Ahl.own l .dead = none := fun l => by cases l <;> rfl
 refine ⟨hlen, h.im, h.bs, ?_, ?_, fun b e => h.lt b (hnames b e), h.mp, ?_, h.ok.names hnames⟩
 ·intro i l o' e1 e2
  rcases hp.inv h.len e1 e2 with rfl | ⟨p, o, h1, h2, h3, _⟩
  ·cases l <;> trivial
  ·exact h3.rel hn hpl (h.obj p l o h1 h2)
 ·intro i j l1 l2 o1 o2 b e1 e2 e3 e4 w1 w2
  rcases hp.inv h.len e1 e3 with rfl | ⟨p, o, h1, h2, h3, h4⟩
  ·rw [hdead] at w1; simp at w1
  rcases hp.inv h.len e2 e4 with rfl | ⟨p', o', k1, k2, k3, k4⟩
  ·rw [hdead] at w2; simp at w2
  rw [← h3.own] at w1; rw [← k3.own] at w2
  have := h.inj p p' _ _ _ _ b h1 k1 h2 k2 w1 w2
  subst this
  rcases h4 with ⟨q1, q2, q3⟩ | ⟨k, q1, q2⟩ <;> rcases k4 with ⟨r1, r2, r3⟩ | ⟨k', r1, r2⟩
  ·omega
  ·subst q1; exact absurd (List.mem_of_getElem? r2) q3
  ·subst r1; exact absurd (List.mem_of_getElem? q2) r3
  ·have : k = k' := (List.getElem?_inj (lt_of_get q2) hp.nd).1 (q2.trans r2.symm)
   omega
 ·intro i l o' b e1 e2 w1
  rcases hp.inv h.len e1 e2 with rfl | ⟨p, o, h1, h2, h3, _⟩
  ·rw [hdead] at w1; simp at w1
  ·rw [← h3.own] at w1; exact h.mpo p l o b h1 h2 w1
theorem Ext.pick {n0 : Nat} (m : Mem) (loc : List Loc) (w : World) (n : Nat) (ps : List Nat) (hn0 : n0 ≤ n) (hn : n ≤ loc.length) (hpl : ∀ p ∈ ps, p < loc.length) : Ext n0 m loc w m (pickL loc n ps) w := by
 refine ⟨rfl, rfl, rfl, Nat.le_refl _, Nat.le_refl _, .refl m, fun i l hi e => ⟨l, ?_, .refl l⟩, ?_, fun _ _ _ _ => rfl, fun _ _ _ e => .inl e⟩
 ·rw [pickL_lt hn (by omega)]; exact e
 ·rintro b ⟨i, e | ⟨sz, f, k, e, hk⟩⟩
  ·rcases pickL_inv hn hpl e with ⟨_, q⟩ | ⟨_, _, _, _, q⟩
   ·exact .inl ⟨_, .inl q⟩
   ·exact .inl ⟨_, .inl q⟩
  ·rcases pickL_inv hn hpl e with ⟨_, q⟩ | ⟨_, _, _, _, q⟩
   ·exact .inl ⟨_, .inr ⟨sz, f, k, q, hk⟩⟩
   ·exact .inl ⟨_, .inr ⟨sz, f, k, q, hk⟩⟩
def TellP (s : Slots) (n : Nat) (ps : List Nat) : Slots → Prop
 | [] => True
 | (i, v) :: r => MvP n ps (lk s i) v ∧ TellP s n ps r
theorem TellP.lk {s : Slots} : ∀ {s' : Slots}, TellP s n ps s' → ∀ i, lk s' i = .any ∨ MvP n ps (lk s i) (lk s' i)
 | [], _, i => .inl rfl
 | (j, v) :: r, h, i => by
  simp only [Ahl.lk]
  by_cases e : j = i
  ·subst e; simp only [beq_self_eq_true, cond_true]; exact .inr h.1
  ·have : (j == i) = false := by simpa using e
   rw [this, cond_false]; exact TellP.lk h.2 i
theorem Ghost.picks {n0 nt : Nat} {s s' : Slots} {τ : Store} (hn0 : n0 ≤ n) (hp : Picks σ n ps τ) (h1 : TellP s n ps s') : Ghost n0 nt s σ s' τ := by
 intro m loc w t hl hs hr
 have hn : n ≤ loc.length := by rw [hs.len]; exact hp.le
 have hpl : ∀ p ∈ ps, p < loc.length := fun p q => by rw [hs.len]; exact hp.lt p q
 refine ⟨m, _, hs.pick hp, ⟨hr.size, fun i => ?_⟩, Ext.pick m loc w n ps hn0 hn hpl⟩
 rcases h1.lk i with e | e
 ·rw [e]; exact .any _
 ·exact e.rel hn hpl (hr.rel i)
def KeepP (n : Nat) (ps : List Nat) : Nat → Store → Store → Prop
 | _, _, [] => True
 | b, o :: l, o' :: l' => (o' = .dead ∨ (b ∉ ps ∧ MvO n ps o o')) ∧ KeepP n ps (b + 1) l l'
 | _, [], _ :: _ => False
def PutP (S : Store) (n : Nat) (qs : List Nat) : List Nat → Store → Prop
 | [], [] => True
 | p :: ps, o' :: l' => (∃ o, S[p]? = some o ∧ MvO n qs o o') ∧ PutP S n qs ps l'
 | _, _ => False
theorem KeepP.get : ∀ {b : Nat} {l l' : Store}, KeepP n ps b l l' → ∀ (i : Nat) o', l'[i]? = some o' → ∃ o, l[i]? = some o ∧ (o' = .dead ∨ (b + i ∉ ps ∧ MvO n ps o o'))
 | _, _, [], _, i, o', e => by simp at e
 | b, o :: l, x :: l', h, 0, o', e => by simp at e; subst e; exact ⟨o, rfl, h.1⟩
 | b, o :: l, x :: l', h, i + 1, o', e => by
  obtain ⟨q, h1, h2⟩ := KeepP.get h.2 i o' (by simpa using e)
  exact ⟨q, by simpa using h1, by rw [show b + (i + 1) = b + 1 + i by omega]; exact h2⟩
 | _, [], _ :: _, h, _, _, _ => h.elim
theorem KeepP.len : ∀ {b : Nat} {l l' : Store}, KeepP n ps b l l' → l'.length ≤ l.length
 | _, _, [], _ => Nat.zero_le _
 | b, o :: l, x :: l', h => by simpa using KeepP.len h.2
 | _, [], _ :: _, h => h.elim
theorem PutP.len {S : Store} {qs : List Nat} : ∀ {ps : List Nat} {l' : Store}, PutP S n qs ps l' → l'.length = ps.length
 | [], [], _ => rfl
 | _ :: _, _ :: _, h => by simp [PutP.len h.2]
 | [], _ :: _, h => h.elim
 | _ :: _, [], h => h.elim
theorem PutP.get {S : Store} {qs : List Nat} : ∀ {ps : List Nat} {l' : Store}, PutP S n qs ps l' → ∀ (k p : Nat) o', ps[k]? = some p → l'[k]? = some o' → ∃ o, S[p]? = some o ∧ MvO n qs o o'
 | [], [], _, k, p, o', e, _ => by simp at e
 | _ :: _, _ :: _, h, 0, p, o', e1, e2 => by simp at e1 e2; subst e1; subst e2; exact h.1
 | _ :: _, _ :: _, h, k + 1, p, o', e1, e2 => PutP.get h.2 k p o' (by simpa using e1) (by simpa using e2)
 | [], _ :: _, h, _, _, _, _, _ => h.elim
 | _ :: _, [], h, _, _, _, _, _ => h.elim
theorem PutP.lt {S : Store} {qs : List Nat} : ∀ {ps : List Nat} {l' : Store}, PutP S n qs ps l' → ∀ p ∈ ps, p < S.length
 | [], _, _, p, hp => by simp at hp
 | q :: _, _ :: _, h, p, hp => by
  rcases List.mem_cons.1 hp with rfl | hp
  ·obtain ⟨o, e, _⟩ := h.1; exact lt_of_get e
  ·exact PutP.lt h.2 p hp
 | _ :: _, [], h, _, _ => h.elim
theorem Ghost.pick {n0 nt : Nat} {s s' : Slots} {l : Store} (l' objs : Store) (ps : List Nat) {n : Nat} (hn : n = σ.length + l'.length) (hn0 : n0 ≤ σ.length) (hσ : IdsS σ.length σ) (hnd : ps.Nodup) (hge : ∀ p ∈ ps, σ.length ≤ p)
  (hk : KeepP n ps σ.length l l') (hp : PutP (σ ++ l) n ps ps objs) (h1 : TellP s n ps s') : Ghost n0 nt s (σ ++ l) s' (σ ++ (l' ++ objs)) := by
 have hl := hk.len
 refine Ghost.picks (n := n) (ps := ps) (by omega) ⟨by rw [List.length_append]; omega, hp.lt, hnd, by rw [List.length_append, List.length_append, hp.len]; omega, ?_, ?_⟩ h1
 ·intro i o' hi e
  rcases Nat.lt_or_ge i σ.length with h | h
  ·rw [List.getElem?_append_left h] at e
   exact .inr ⟨fun q => by have := hge i q; omega, o', by rw [List.getElem?_append_left h]; exact e, .same (idsO_up (by omega) (hσ i o' e))⟩
  ·rw [List.getElem?_append_right h, List.getElem?_append_left (by omega)] at e
   obtain ⟨o, h2, h3⟩ := hk.get _ _ e
   rw [show σ.length + (i - σ.length) = i by omega] at h3
   rcases h3 with h3 | ⟨h3, h4⟩
   ·exact .inl h3
   ·exact .inr ⟨h3, o, by rw [List.getElem?_append_right h]; exact h2, h4⟩
 ·intro k p o' e1 e2
  rw [List.getElem?_append_right (by omega), List.getElem?_append_right (by omega)] at e2
  exact hp.get k p o' e1 (by rw [← e2]; congr 1; omega)
end
end Go.Ahl
namespace Go.Ahl
open Go.Sort Go.Shelf Go.RowKit Go.Lib Go.Proofs
theorem flatM_get {α : Type} (f : α → List AV) (k : Nat) (hk : ∀ x, (f x).length = k) : ∀ (l : List α) (i j : Nat), j < k → (l.map f).flatten[i * k + j]? = (l[i]?).bind fun x => (f x)[j]?
 | [], i, j, _ => by simp
 | x :: l, 0, j, hj => by
  simp only [List.map_cons, List.flatten_cons, Nat.zero_mul, Nat.zero_add, List.getElem?_cons_zero, Option.bind_some]
  rw [List.getElem?_append_left (by rw [hk]; exact hj)]
 | x :: l, i + 1, j, hj => by
  simp only [List.map_cons, List.flatten_cons, List.getElem?_cons_succ]
  rw [List.getElem?_append_right (by rw [hk]; rw [Nat.add_mul]; omega), hk, show (i + 1) * k + j - k = i * k + j by rw [Nat.add_mul]; omega]
  exact flatM_get f k hk l i j hj
theorem flatM_len {α : Type} (f : α → List AV) (k : Nat) (hk : ∀ x, (f x).length = k) : ∀ (l : List α), (l.map f).flatten.length = l.length * k
 | [] => by simp
 | x :: l => by rw [List.map_cons, List.flatten_cons, List.length_append, hk, flatM_len f k hk l, List.length_cons, Nat.add_mul, Nat.one_mul, Nat.add_comm]
section
variable {P : Program} {ρ : Ren} {β : Type}
end
end Go.Ahl
namespace Go.Ahl
section
variable {α : Type} {f : α → List AV} {k : Nat}
def rowC (f : α → List AV) (l : List α) : List AV := (l.map f).flatten
theorem rowC_cons (f : α → List AV) (x : α) (l : List α) : rowC f (x :: l) = f x ++ rowC f l := by simp [rowC]
theorem rowC_app (f : α → List AV) (l m : List α) : rowC f (l ++ m) = rowC f l ++ rowC f m := by simp [rowC]
theorem rowC_len (hk : ∀ x, (f x).length = k) (l : List α) : (rowC f l).length = l.length * k := flatM_len f k hk l
theorem rowC_get (hk : ∀ x, (f x).length = k) {l : List α} {i j : Nat} {x : α} (h : l[i]? = some x) (hj : j < k) : (rowC f l)[i * k + j]? = (f x)[j]? := by
 unfold rowC; rw [flatM_get f k hk l i j hj, h]; rfl
theorem rowC_split (hk : ∀ x, (f x).length = k) {l : List α} {i : Nat} {x : α} (h : l[i]? = some x) : rowC f l = rowC f (l.take i) ++ f x ++ rowC f (l.drop (i + 1)) ∧ (rowC f (l.take i)).length = i * k := by
 have hi := lt_of_get h
 refine ⟨?_, by rw [rowC_len hk, List.length_take_of_le (by omega)]⟩
 have : l = l.take i ++ x :: l.drop (i + 1) := by
  have h2 := List.getElem?_eq_getElem hi
  rw [h] at h2; injection h2 with h2; subst h2
  rw [List.getElem_cons_drop, List.take_append_drop]
 conv => lhs; rw [this, rowC_app, rowC_cons]
 rw [List.append_assoc]
theorem rowC_sub (hk : ∀ x, (f x).length = k) {l : List α} {i : Nat} {x : α} (h : l[i]? = some x) : ((rowC f l).drop (i * k)).take k = f x := by
 obtain ⟨h1, h2⟩ := rowC_split hk h
 rw [h1, List.append_assoc, ← h2, List.drop_left, ← hk x, List.take_left]
theorem rowC_set (hk : ∀ x, (f x).length = k) {l : List α} {i : Nat} (h : i < l.length) (y : α) : setAll (rowC f l) (i * k) (f y) = rowC f (l.set i y) := by
 obtain ⟨x, hx⟩ : ∃ x, l[i]? = some x := ⟨_, List.getElem?_eq_getElem h⟩
 obtain ⟨h1, h2⟩ := rowC_split hk hx
 rw [h1, ← h2, setAll_mid _ _ _ _ (by rw [hk, hk]), List.set_eq_take_append_cons_drop, if_pos h, rowC_app, rowC_cons, List.append_assoc]
theorem rowC_cell (hk : ∀ x, (f x).length = k) {l : List α} {i j : Nat} {x y : α} (hx : l[i]? = some x) (hj : j < k) {v : AV} (hy : f y = (f x).set j v) : (rowC f l).set (i * k + j) v = rowC f (l.set i y) := by
 obtain ⟨h1, h2⟩ := rowC_split hk hx
 rw [h1, List.append_assoc, List.set_append_right _ _ (by omega), h2, Nat.add_sub_cancel_left, List.set_append_left _ _ (by rw [hk]; exact hj), ← hy]
 rw [List.set_eq_take_append_cons_drop, if_pos (lt_of_get hx), rowC_app, rowC_cons]
theorem rowC_take (hk : ∀ x, (f x).length = k) (l : List α) (n : Nat) : (rowC f l).take (n * k) = rowC f (l.take n) := by
 rcases Nat.lt_or_ge n l.length with h | h
 ·obtain ⟨x, hx⟩ : ∃ x, l[n]? = some x := ⟨_, List.getElem?_eq_getElem h⟩
  obtain ⟨h1, h2⟩ := rowC_split hk hx
  rw [h1, List.append_assoc, ← h2, List.take_left]
 ·rw [List.take_of_length_le h, List.take_of_length_le]
  rw [rowC_len hk]; exact Nat.mul_le_mul_right _ h
theorem rowC_snoc (f : α → List AV) (l : List α) (x : α) : rowC f (l ++ [x]) = rowC f l ++ [f x].flatten := by simp [rowC]
theorem ids_rowC {n : Nat} (h : ∀ x, IdsL n (f x)) (l : List α) : IdsO n (.row (rowC f l)) := idsO_row fun v hv => by
 obtain ⟨e, he, hv⟩ := List.mem_flatten.1 hv
 obtain ⟨x, _, rfl⟩ := List.mem_map.1 he
 exact h x v hv
end
end Go.Ahl
namespace Go.Ahl
abbrev It := Nat × Int
def itC (l : List It) (i : Nat) : Int := (l.getD i (0, 0)).2
def swapL (l : List It) (i j : Nat) : List It := (l.set i (l.getD j (0, 0))).set j (l.getD i (0, 0))
def HeapOk (l : List It) (n : Nat) : Prop := ∀ i, 0 < i → i < n → itC l ((i - 1) / 2) ≤ itC l i
def HeapUp (l : List It) (n j : Nat) : Prop := (∀ i, 0 < i → i < n → i ≠ j → itC l ((i - 1) / 2) ≤ itC l i) ∧ ∀ i, 0 < i → i < n → (i - 1) / 2 = j → 0 < j → itC l ((j - 1) / 2) ≤ itC l i
def HeapDn (l : List It) (n i : Nat) : Prop := (∀ k, 0 < k → k < n → (k - 1) / 2 ≠ i → itC l ((k - 1) / 2) ≤ itC l k) ∧ ∀ k, 0 < k → k < n → (k - 1) / 2 = i → 0 < i → itC l ((i - 1) / 2) ≤ itC l k
theorem swapL_len (l : List It) (i j : Nat) : (swapL l i j).length = l.length := by simp [swapL]
theorem itC_swap {l : List It} {i j k : Nat} (hi : i < l.length) (hj : j < l.length) : itC (swapL l i j) k = if k = j then itC l i else if k = i then itC l j else itC l k := by
 unfold itC swapL
 simp only [List.getD_eq_getElem?_getD]
 by_cases h : k = j
 ·subst h; rw [if_pos rfl, List.getElem?_set_self (by simpa using hj)]; rfl
 ·rw [if_neg h, List.getElem?_set_ne (fun e => h e.symm)]
  by_cases h2 : k = i
  ·subst h2; rw [if_pos rfl, List.getElem?_set_self hi]; rfl
  ·rw [if_neg h2, List.getElem?_set_ne (fun e => h2 e.symm)]
theorem swapL_perm {l : List It} {i j : Nat} (hi : i < l.length) (hj : j < l.length) : (swapL l i j).Perm l := by
 rw [List.perm_iff_count]
 intro a
 have key : ∀ (m : List It) (k : Nat) (x : It) (hk : k < m.length), (m.set k x).count a + (if m.getD k (0, 0) = a then 1 else 0) = m.count a + (if x = a then 1 else 0) := by
  intro m
  induction m with
  | nil => intro k x hk; simp at hk
  | cons y m ih =>
   intro k x hk
   cases k with
   | zero => simp only [List.set_cons_zero, List.count_cons, List.getD_cons_zero, beq_iff_eq]; omega
   | succ k =>
    have := ih k x (by simpa using hk)
    simp only [List.set_cons_succ, List.count_cons, List.getD_cons_succ, beq_iff_eq] at this ⊢
    omega
 unfold swapL
 have h1 := key l i (l.getD j (0, 0)) hi
 have h2 := key (l.set i (l.getD j (0, 0))) j (l.getD i (0, 0)) (by simpa using hj)
 have h3 : (l.set i (l.getD j (0, 0))).getD j (0, 0) = l.getD j (0, 0) := by
  simp only [List.getD_eq_getElem?_getD]
  by_cases e : i = j
  ·subst e; rw [List.getElem?_set_self hi]; rfl
  ·rw [List.getElem?_set_ne e]
 rw [h3] at h2
 omega
theorem HeapUp.done {l : List It} {n j : Nat} (h : HeapUp l n j) (hj : j = 0 ∨ itC l ((j - 1) / 2) ≤ itC l j) : HeapOk l n := by
 intro i h0 hi
 by_cases e : i = j
 ·subst e
  rcases hj with rfl | hj
  ·omega
  ·exact hj
 ·exact h.1 i h0 hi e
theorem HeapUp.step {l : List It} {n j : Nat} (h : HeapUp l n j) (hn : n ≤ l.length) (hj : j < n) (h0 : 0 < j) (hlt : itC l j < itC l ((j - 1) / 2)) : HeapUp (swapL l ((j - 1) / 2) j) n ((j - 1) / 2) := by
 obtain ⟨p, hp⟩ : ∃ p, p = (j - 1) / 2 := ⟨_, rfl⟩
 rw [← hp] at hlt ⊢
 have hpj : p < j := by omega
 have hs := fun k => itC_swap (l := l) (i := p) (j := j) (k := k) (by omega) (by omega)
 constructor
 ·intro i hi0 hi hne
  rw [hs, hs]
  by_cases e1 : i = j
  ·subst e1
   rw [if_pos rfl, ← hp, if_neg (by omega), if_pos rfl]; omega
  ·rw [if_neg e1, if_neg hne]
   by_cases e2 : (i - 1) / 2 = j
   ·rw [if_pos e2]
    have := h.2 i hi0 hi e2 h0
    rw [← hp] at this; exact this
   ·rw [if_neg e2]
    by_cases e3 : (i - 1) / 2 = p
    ·rw [if_pos e3]
     have := h.1 i hi0 hi e1
     rw [e3] at this; omega
    ·rw [if_neg e3]; exact h.1 i hi0 hi e1
 ·intro i hi0 hi hpi hp0
  rw [hs, hs, if_neg (by omega), if_neg (by omega)]
  have hpar := h.1 p hp0 (by omega) (by omega)
  by_cases e1 : i = j
  ·rw [if_pos e1]; exact hpar
  ·rw [if_neg e1, if_neg (by omega)]
   have := h.1 i hi0 hi e1
   rw [hpi] at this; omega
theorem HeapDn.done {l : List It} {n i : Nat} (h : HeapDn l n i) (hi : ∀ k, 0 < k → k < n → (k - 1) / 2 = i → itC l i ≤ itC l k) : HeapOk l n := by
 intro k h0 hk
 by_cases e : (k - 1) / 2 = i
 ·rw [e]; exact hi k h0 hk e
 ·exact h.1 k h0 hk e
theorem HeapDn.step {l : List It} {n i j : Nat} (h : HeapDn l n i) (hn : n ≤ l.length) (hj : j < n) (hpj : (j - 1) / 2 = i) (h0 : 0 < j) (hlt : itC l j < itC l i) (hmin : ∀ k, 0 < k → k < n → (k - 1) / 2 = i → itC l j ≤ itC l k) : HeapDn (swapL l i j) n j := by
 have hij : i < j := by omega
 have hs := fun k => itC_swap (l := l) (i := i) (j := j) (k := k) (by omega) (by omega)
 constructor
 ·intro k hk0 hk hne
  rw [hs, hs, if_neg hne]
  by_cases e1 : k = j
  ·subst e1
   rw [if_pos rfl, if_pos hpj]; omega
  ·rw [if_neg e1]
   by_cases e2 : (k - 1) / 2 = i
   ·rw [if_pos e2, if_neg (by omega)]
    exact hmin k hk0 hk e2
   ·rw [if_neg e2]
    by_cases e3 : k = i
    ·subst e3
     rw [if_pos rfl]
     exact h.2 j h0 hj hpj hk0
    ·rw [if_neg e3]; exact h.1 k hk0 hk e2
 ·intro k hk0 hk hpk _
  rw [hs, hs, if_neg (by omega), if_pos hpj, if_neg (by omega), if_neg (by omega)]
  have := h.1 k hk0 hk (by omega)
  rw [hpk] at this; exact this
theorem HeapOk.root {l : List It} {n : Nat} (h : HeapOk l n) : ∀ i, i < n → itC l 0 ≤ itC l i := fun i => by
 induction i using Nat.strongRecOn with
 | _ i ih =>
  intro hi
  rcases Nat.eq_zero_or_pos i with rfl | h0
  ·exact Int.le_refl _
  ·exact Int.le_trans (ih ((i - 1) / 2) (by omega) (by omega)) (h i h0 hi)
theorem HeapOk.swap0 {l : List It} {n : Nat} (h : HeapOk l (n + 1)) (hl : l.length = n + 1) : HeapDn (swapL l 0 n) n 0 := by
 have hs := fun k => itC_swap (l := l) (i := 0) (j := n) (k := k) (by omega) (by omega)
 refine ⟨fun k hk0 hk hne => ?_, fun k hk0 hk hpk h0 => by omega⟩
 rw [hs, hs, if_neg (by omega), if_neg hne, if_neg (by omega), if_neg (by omega)]
 exact h k hk0 (by omega)
theorem HeapOk.congr {l m : List It} {n : Nat} (h : HeapOk l n) (he : ∀ i, i < n → itC m i = itC l i) : HeapOk m n := fun i h0 hi => by rw [he i hi, he _ (by omega)]; exact h i h0 hi
theorem heap_push {l : List It} (h : HeapOk l l.length) (x : It) : HeapUp (l ++ [x]) (l.length + 1) l.length := by
 have he : ∀ i, i < l.length → itC (l ++ [x]) i = itC l i := fun i hi => by
  unfold itC; rw [List.getD_eq_getElem?_getD, List.getD_eq_getElem?_getD, List.getElem?_append_left hi]
 refine ⟨fun i h0 hi hne => ?_, fun i h0 hi hp hj => by omega⟩
 rw [he i (by omega), he _ (by omega)]; exact h i h0 (by omega)
def upL (l : List It) (j : Nat) : List It := if h : 0 < j ∧ itC l j < itC l ((j - 1) / 2) then upL (swapL l ((j - 1) / 2) j) ((j - 1) / 2) else l
termination_by j
decreasing_by omega
theorem upL_go {l : List It} {j : Nat} (h0 : 0 < j) (h : itC l j < itC l ((j - 1) / 2)) : upL l j = upL (swapL l ((j - 1) / 2) j) ((j - 1) / 2) := by rw [upL, dif_pos ⟨h0, h⟩]
theorem upL_stop {l : List It} {j : Nat} (h : ¬ (0 < j ∧ itC l j < itC l ((j - 1) / 2))) : upL l j = l := by rw [upL, dif_neg h]
def kidL (l : List It) (n i : Nat) : Nat := if 2 * i + 2 < n ∧ itC l (2 * i + 2) < itC l (2 * i + 1) then 2 * i + 2 else 2 * i + 1
theorem kidL_gt (l : List It) (n i : Nat) : i < kidL l n i := by unfold kidL; split <;> omega
def dnL (l : List It) (n i : Nat) : List It := if h : 2 * i + 1 < n ∧ itC l (kidL l n i) < itC l i then dnL (swapL l i (kidL l n i)) n (kidL l n i) else l
termination_by n - i
decreasing_by have := kidL_gt l n i; omega
theorem dnL_go {l : List It} {n i : Nat} (h0 : 2 * i + 1 < n) (h : itC l (kidL l n i) < itC l i) : dnL l n i = dnL (swapL l i (kidL l n i)) n (kidL l n i) := by rw [dnL, dif_pos ⟨h0, h⟩]
theorem dnL_stop {l : List It} {n i : Nat} (h : ¬ (2 * i + 1 < n ∧ itC l (kidL l n i) < itC l i)) : dnL l n i = l := by rw [dnL, dif_neg h]
def pushL (l : List It) (x : It) : List It := upL (l ++ [x]) l.length
def popL (l : List It) : List It := (dnL (swapL l 0 (l.length - 1)) (l.length - 1) 0).take (l.length - 1)
theorem heap_one (x : It) : HeapOk [x] 1 := fun i h0 hi => by omega
end Go.Ahl
namespace Go.Proofs.YtcjgoomlaojljaaGreat
open Go.Ahl
def encIt (x : It) : List AV := [.int .i64 (x.1 : Nat), .int .i64 x.2]
theorem encIt_len (x : It) : (encIt x).length = 2 := rfl
def qR (l : List It) : List AV := rowC encIt l
theorem qR_len (l : List It) : (qR l).length = l.length * 2 := rowC_len encIt_len l
theorem qR_cost {l : List It} {i : Nat} {x : It} (h : l[i]? = some x) : (qR l)[i * 2 + 1]? = some (.int .i64 x.2) := by rw [qR, rowC_get encIt_len h (by omega)]; rfl
theorem qR_sub {l : List It} {i : Nat} {x : It} (h : l[i]? = some x) : ((qR l).drop (i * 2)).take 2 = encIt x := rowC_sub encIt_len h
theorem ids_qR {n : Nat} (l : List It) : IdsO n (.row (qR l)) := ids_rowC (fun x => idsL_cons (.int _ _) (idsL_cons (.int _ _) idsL_nil)) l
theorem itC_get {l : List It} {i : Nat} {x : It} (h : l[i]? = some x) : itC l i = x.2 := by unfold itC; rw [List.getD_eq_getElem?_getD, h]; rfl
def c_qLen : CCode := .seq (.ops [oS 2 (.move (.lit (.int .i64 0)))]) (.seq (.ops [oS 3 (.move (.tmp 0)), oS 4 (.blen 1 (.tmp 3)), oS 2 (.move (.tmp 4))]) .ret)
theorem qLen_spec (R n : Nat) (σ : Store) : ACalls Tryz.prog 50 [.ref R 2 0 n] σ (isR (.int .i64 n) σ) := by
 refine ACalls.intro (rs := [(.tmp 2)]) (by kernel_rfl) { own := [], ghosts := [] } Tryz.func50 (c := Tryz.f50.body.getD .skip) (by kernel_rfl) (by decide) (by rw [show Tryz.f50.ntmps = 5 by kernel_rfl]; exact Nat.le_of_ble_eq_true rfl) (by kernel_rfl) ?_
 intro hσ hids
 rw [show comp Tryz.prog { own := [], ghosts := [] } (Tryz.f50.body.getD .skip) = c_qLen by kernel_rfl, show Tryz.f50.ntmps = 5 by kernel_rfl]
 unfold c_qLen
 simp only [go_sem, simprocAttr]
 exact rt (.int .i64 n) ⟨rfl, rfl⟩
def e_qLess_0 : List COp := [oS 7 (.move (.tmp 0)), oS 8 (.move (.tmp 1)), oA 9 (.iaddr 2 (.tmp 7) (.tmp 8)) [0, 1], oA 10 (.faddr 1 (.tmp 9)) [2], oA 11 (.load none (.tmp 10)) [3], oS 12 (.move (.tmp 0)), oS 13 (.move (.tmp 2)), oA 14 (.iaddr 2 (.tmp 12) (.tmp 13)) [5, 6], oA 15 (.faddr 1 (.tmp 14)) [7], oA 16 (.load none (.tmp 15)) [8], oA 17 (.bin .lss .none (.tmp 11) (.tmp 16)) [4, 9], oA 6 (.move (.tmp 17)) [10, 0, 1, 2, 3, 4, 5, 6, 7, 8, 9, 10]]
def d_qLess_0 : List COp := e_qLess_0
theorem dr_qLess_0 (P : Program) (nt n0 : Nat) (Q : Post) (s : Slots) (σ : Store) : wpc P nt n0 (.draw d_qLess_0) Q s σ = aOpsD P nt e_qLess_0 (Q .normal) s σ := wpc_draw _ (by decide)
attribute [local go_sem] dr_qLess_0 e_qLess_0
def c_qLess : CCode := .seq (.ops [oS 6 (.move (.lit (.bool false)))]) (.seq (.draw d_qLess_0) .ret)
theorem qLess_spec (R i j : Nat) (l : List It) (σ : Store) (hR : σ[R]? = some (.row (qR l))) (hi : i < l.length) (hj : j < l.length) :
  ACalls Tryz.prog 148 [.ref R 2 0 l.length, .int .i64 i, .int .i64 j] σ (isR (.bool (decide (itC l i < itC l j))) σ) := by
 refine ACalls.intro (rs := [(.tmp 6)]) (by kernel_rfl) { own := [], ghosts := [] } Tryz.func148 (c := Tryz.f148.body.getD .skip) (by kernel_rfl) (by decide) (by rw [show Tryz.f148.ntmps = 18 by kernel_rfl]; exact Nat.le_of_ble_eq_true rfl) (by kernel_rfl) ?_
 intro hσ hids
 rw [show comp Tryz.prog { own := [], ghosts := [] } (Tryz.f148.body.getD .skip) = c_qLess by kernel_rfl, show Tryz.f148.ntmps = 18 by kernel_rfl]
 unfold c_qLess
 obtain ⟨x, hx⟩ := get_ex hi
 obtain ⟨y, hy⟩ := get_ex hj
 have h1 := qR_cost hx
 have h2 := qR_cost hy
 have e1 := itC_get hx
 have e2 := itC_get hy
 have p1 : (0 : Int) ≤ (i : Int) := by omega
 have p2 : (0 : Int) ≤ (j : Int) := by omega
 simp only [go_sem, simprocAttr, hR, h1, h2, p1, p2, hi, hj, Int.toNat_natCast, Nat.zero_add]
 rw [e1, e2]
 exact rt (.bool (decide (x.2 < y.2))) ⟨rfl, rfl⟩
def e_qSwap_0 : List COp := [oS 6 (.move (.tmp 0)), oS 7 (.move (.tmp 1)), oS 8 (.move (.tmp 0)), oS 9 (.move (.tmp 2)), oS 10 (.move (.tmp 0)), oS 11 (.move (.tmp 2)), oA 12 (.iaddr 2 (.tmp 10) (.tmp 11)) [4, 5], oA 13 (.load (some 2) (.tmp 12)) [6], oS 14 (.move (.tmp 0)), oS 15 (.move (.tmp 1)), oA 16 (.iaddr 2 (.tmp 14) (.tmp 15)) [8, 9], oA 17 (.load (some 2) (.tmp 16)) [10], oA 18 (.iaddr 2 (.tmp 6) (.tmp 7)) [0, 1, 0, 1, 4, 5, 6, 7, 11], ⟨none, .store 2 (.tmp 18) (.tmp 13), none, [12, 7, 0, 1, 4, 5, 6, 7, 11]⟩, oA 19 (.iaddr 2 (.tmp 8) (.tmp 9)) [2, 3, 0, 1, 2, 3, 4, 5, 6, 7, 8, 9, 10, 11, 12, 13], ⟨none, .store 2 (.tmp 19) (.tmp 17), none, [14, 11, 13, 0, 1, 2, 3, 4, 5, 6, 7, 8, 9, 10, 11, 12, 13]⟩]
def d_qSwap_0 : List COp := e_qSwap_0
theorem dr_qSwap_0 (P : Program) (nt n0 : Nat) (Q : Post) (s : Slots) (σ : Store) : wpc P nt n0 (.draw d_qSwap_0) Q s σ = aOpsD P nt e_qSwap_0 (Q .normal) s σ := wpc_draw _ (by decide)
attribute [local go_sem] dr_qSwap_0 e_qSwap_0
def c_qSwap : CCode := .draw d_qSwap_0
theorem qSwap_spec (R i j : Nat) (l : List It) (σ : Store) (hR : σ[R]? = some (.row (qR l))) (hi : i < l.length) (hj : j < l.length) :
  ACalls Tryz.prog 151 [.ref R 2 0 l.length, .int .i64 i, .int .i64 j] σ (isR (.tuple []) (σ.set R (.row (qR (swapL l i j))))) := by
 refine ACalls.intro (rs := []) (by kernel_rfl) { own := [], ghosts := [] } Tryz.func151 (c := Tryz.f151.body.getD .skip) (by kernel_rfl) (by decide) (by rw [show Tryz.f151.ntmps = 20 by kernel_rfl]; exact Nat.le_of_ble_eq_true rfl) (by kernel_rfl) ?_
 intro hσ hids
 rw [show comp Tryz.prog { own := [], ghosts := [] } (Tryz.f151.body.getD .skip) = c_qSwap by kernel_rfl, show Tryz.f151.ntmps = 20 by kernel_rfl]
 unfold c_qSwap
 obtain ⟨x, hx⟩ := get_ex hi
 obtain ⟨y, hy⟩ := get_ex hj
 have h1 := qR_sub hx
 have h2 := qR_sub hy
 have p1 : (0 : Int) ≤ (i : Int) := by omega
 have p2 : (0 : Int) ≤ (j : Int) := by omega
 have b1 : i * 2 + 2 ≤ (qR l).length := by rw [qR_len]; omega
 have b2 : j * 2 + 2 ≤ (qR l).length := by rw [qR_len]; omega
 have hRl := lt_of_get hR
 have s1 : setAll (qR l) (i * 2) (encIt y) = qR (l.set i y) := rowC_set encIt_len hi y
 have s2 : setAll (qR (l.set i y)) (j * 2) (encIt x) = qR (swapL l i j) := by
  rw [show swapL l i j = (l.set i y).set j x by unfold swapL; rw [List.getD_eq_getElem?_getD, List.getD_eq_getElem?_getD, hx, hy]; rfl]
  exact rowC_set encIt_len (by simpa using hj) x
 have a1 : ∀ x, (encIt x).all AV.one = true := fun _ => rfl
 have hg : ∀ c, (σ.set R (.row c))[R]? = some (.row c) := fun c => by rw [List.getElem?_set_self hRl]
 have b3 : j * 2 + 2 ≤ (qR (l.set i y)).length := by rw [qR_len, List.length_set]; omega
 have hfin : IdsS (σ.set R (.row (qR (swapL l i j)))).length (σ.set R (.row (qR (swapL l i j)))) := by
  rw [List.length_set]; exact idsS_put' hσ _ (ids_qR _)
 simp only [go_sem, simprocAttr, hR, h1, h2, p1, p2, hi, hj, Int.toNat_natCast, Nat.zero_add, b1, b2, encIt_len, a1, s1, hg, b3, s2, List.set_set]
 exact ret_gh0 (Ghost.keep0 (s' := []) (by simp) trivial hfin) (by simp) hfin ⟨rfl, rfl⟩
def qS (σ : Store) (q R : Nat) (l : List It) : Store := (σ.set q (.row [.ref R 2 0 l.length])).set R (.row (qR l))
theorem qS_len (σ : Store) (q R : Nat) (l : List It) : (qS σ q R l).length = σ.length := by simp [qS]
theorem qS_ids {σ : Store} {q R : Nat} {l : List It} (h : IdsS σ.length σ) (hR : R < σ.length) : IdsS (qS σ q R l).length (qS σ q R l) := by
 rw [qS_len]
 exact idsS_put' (idsS_put' h _ (idsO_row (idsL_cons (.ref _ _ _ _ hR) idsL_nil))) _ (ids_qR _)
def c_qPop : CCode := .seq (.ops [oS 2 (.move (.lit (.conc Value.nilIface)))]) (.seq (.ops [oS 5 (.move (.tmp 0)), oS 6 (.nilck (.tmp 5)), oS 7 (.load none (.tmp 6)), oS 8 (.blen 1 (.tmp 7)), oS 9 (.bin .sub .none (.tmp 8) (.lit (.int .i64 1))), oS 3 (.move (.tmp 9))]) (.seq (.ops [oS 10 (.move (.tmp 0)), oS 11 (.nilck (.tmp 10)), oS 12 (.load none (.tmp 11)), oS 13 (.move (.tmp 3)), oS 14 (.iaddr 2 (.tmp 12) (.tmp 13)), oS 15 (.load (some 2) (.tmp 14)), oS 4 (.alloc (.agg [.int .i64 0, .int .i64 0])), oN (.store 2 (.tmp 4) (.tmp 15))]) (.seq (.ops [oS 16 (.move (.tmp 0)), oS 17 (.move (.tmp 0)), oS 18 (.nilck (.tmp 17)), oS 19 (.load none (.tmp 18)), oS 20 (.move (.tmp 3)), oS 21 (.slc 2 (.tmp 19) none (some (.tmp 20)) none), oS 22 (.nilck (.tmp 16)), oN (.store 1 (.tmp 22) (.tmp 21))]) (.seq (.ops [oS 23 (.load (some 2) (.tmp 4)), oS 24 (.mkif 94 (.tmp 23)), oS 2 (.move (.tmp 24))]) .ret))))
theorem qPop_spec (q R m : Nat) (l : List It) (x : It) (σ : Store) (hqR : q ≠ R) (hq : σ[q]? = some (.row [.ref R 2 0 (m + 1)])) (hR : σ[R]? = some (.row (qR l))) (hl : l.length = m + 1) (hx : l[m]? = some x) (hm : m ≤ 1000000000) :
  ACalls Tryz.prog 149 [.ptr q 0] σ (isR (.iface 94 (.agg (encIt x))) (qS σ q R (l.take m))) := by
 refine ACalls.intro (rs := [(.tmp 2)]) (by kernel_rfl) { own := [], ghosts := [] } Tryz.func149 (c := Tryz.f149.body.getD .skip) (by kernel_rfl) (by decide) (by rw [show Tryz.f149.ntmps = 25 by kernel_rfl]; exact Nat.le_of_ble_eq_true rfl) (by kernel_rfl) ?_
 intro hσ hids
 rw [show comp Tryz.prog { own := [], ghosts := [] } (Tryz.f149.body.getD .skip) = c_qPop by kernel_rfl, show Tryz.f149.ntmps = 25 by kernel_rfl]
 unfold c_qPop
 have hql := lt_of_get hq
 have hRl := lt_of_get hR
 have hw : IntKind.i64.wrap (((m + 1 : Nat) : Int) - 1) = (m : Int) := by rw [wrap_ok (by omega)]; omega
 have h1 := qR_sub hx
 have p1 : (0 : Int) ≤ (m : Int) := by omega
 have p2 : m < m + 1 := by omega
 have b1 : m * 2 + 2 ≤ (qR l).length := by rw [qR_len]; omega
 have a1 : ∀ x, (encIt x).all AV.one = true := fun _ => rfl
 have g1 : ∀ t, (σ ++ t)[q]? = some (.row [.ref R 2 0 (m + 1)]) := fun t => by rw [List.getElem?_append_left hql]; exact hq
 have g2 : ∀ t, (σ ++ t)[R]? = some (.row (qR l)) := fun t => by rw [List.getElem?_append_left hRl]; exact hR
 have sA : setAll [AV.int .i64 0, AV.int .i64 0] 0 (encIt x) = encIt x := rfl
 have t0 : ((encIt x).drop 0).take 2 = encIt x := rfl
 have t1 : (encIt x).take 2 = encIt x := rfl
 have g3 : ∀ v, ((σ ++ [AObj.row (encIt x)]).set q v)[σ.length]? = some (.row (encIt x)) := fun v => by rw [List.getElem?_set_ne (by omega)]; simp
 have p3 : m ≤ m + 1 := by omega
 simp only [go_sem, simprocAttr, hq, hR, g1, g2, hw, h1, p1, p2, b1, a1, encIt_len, Int.toNat_natCast, Nat.zero_add, sA, t0, t1, g3, p3, Nat.zero_le, Nat.sub_zero]
 have hlt : (l.take m).length = m := List.length_take_of_le (by omega)
 have hid := qS_ids (σ := σ) (q := q) (R := R) (l := l.take m) hσ hRl
 refine ret_gh (v := .iface 94 (.agg (encIt x))) (σ' := qS σ q R (l.take m)) ?_ (by rw [qS_len]; exact Nat.le_refl _) hid (.iface _ _ (.agg _ (fun j y hy => by
  match j, hy with
  | 0, hy => simp [encIt] at hy; subst hy; exact .int _ _
  | 1, hy => simp [encIt] at hy; subst hy; exact .int _ _))) ⟨rfl, rfl⟩
 have hst : (σ ++ [AObj.row (encIt x)]).set q (.row [.ref R 2 0 m]) = σ.set q (.row [.ref R 2 0 m]) ++ [.row (encIt x)] := List.set_append_left _ _ hql
 rw [hst]
 have hgR : (σ.set q (.row [.ref R 2 0 m]) ++ [AObj.row (encIt x)])[R]? = some (.row (qR l)) := by
  rw [List.getElem?_append_left (by simpa using hRl), List.getElem?_set_ne hqR]; exact hR
 refine Ghost.trans (Ghost.trunc R (m * 2) hgR) ?_
 have htk : (qR l).take (m * 2) = qR (l.take m) := rowC_take encIt_len l m
 rw [htk, List.set_append_left _ _ (by simpa using hRl)]
 rw [show (σ.set q (.row [.ref R 2 0 m])).set R (.row (qR (l.take m))) = qS σ q R (l.take m) by unfold qS; rw [hlt]]
 exact Ghost.keep _ (by rw [qS_len]; exact Nat.le_refl _) ⟨⟨by simp only [lk, Nat.reduceBEq, cond_true, cond_false]; exact .refl _, .iface _ _ (.agg _ (fun j y hy => by
  match j, hy with
  | 0, hy => simp [encIt] at hy; subst hy; exact .int _ _
  | 1, hy => simp [encIt] at hy; subst hy; exact .int _ _))⟩, trivial⟩ hid
def e_qPush_0 : List COp := [oS 12 (.move (.tmp 0)), oS 13 (.move (.tmp 0)), oA 14 (.nilck (.tmp 13)) [1], oA 15 (.load none (.tmp 14)) [2], oS 16 (.load (some 2) (.tmp 4)), oA 17 (.bsliceC 2 [.tmp 16]) [4], oA 18 (.bappend 2 16 (.tmp 15) (.tmp 17) true) [3, 5], oA 19 (.nilck (.tmp 12)) [0, 0, 1, 2, 3, 4, 5, 6], ⟨none, .store 1 (.tmp 19) (.tmp 18), none, [7, 6, 6, 0, 1, 2, 3, 4, 5, 6]⟩]
def d_qPush_0 : List COp := e_qPush_0
theorem dr_qPush_0 (P : Program) (nt n0 : Nat) (Q : Post) (s : Slots) (σ : Store) : wpc P nt n0 (.draw d_qPush_0) Q s σ = aOpsD P nt e_qPush_0 (Q .normal) s σ := wpc_draw _ (by decide)
attribute [local go_sem] dr_qPush_0 e_qPush_0
def c_qPush : CCode := .seq (.ops [oS 7 (.move (.tmp 1)), oS 8 (.asrt 94 (.agg [.int .i64 0, .int .i64 0]) (.tmp 7) true), oS 6 (.move (.tmp 8)), oS 9 (.extract (.tmp 6) 0), oS 10 (.extract (.tmp 6) 1), oS 4 (.alloc (.agg [.int .i64 0, .int .i64 0])), oN (.store 2 (.tmp 4) (.tmp 9)), oS 5 (.move (.tmp 10))]) (.seq (.ops [oS 11 (.move (.tmp 5))]) (.cond (.tmp 11) (.draw d_qPush_0) .skip))
theorem qPush_spec (q R : Nat) (l : List It) (x : It) (σ : Store) (hqR : q ≠ R) (hq : σ[q]? = some (.row [.ref R 2 0 l.length])) (hR : σ[R]? = some (.row (qR l))) (hl : l.length ≤ 1000000000) :
  ACalls Tryz.prog 150 [.ptr q 0, .iface 94 (.agg (encIt x))] σ (isR (.tuple []) (((σ.set q (.row [.ref σ.length 2 0 (l ++ [x]).length])).set R .dead) ++ [.row (qR (l ++ [x]))])) := by
 refine ACalls.intro (rs := []) (by kernel_rfl) { own := [(2, 6)], ghosts := [], cold := [(2, 5)] } Tryz.func150 (c := Tryz.f150.body.getD .skip) (by kernel_rfl) (by decide) (by rw [show Tryz.f150.ntmps = 20 by kernel_rfl]; exact Nat.le_of_ble_eq_true rfl) (by kernel_rfl) ?_
 intro hσ hids
 rw [show comp Tryz.prog { own := [(2, 6)], ghosts := [], cold := [(2, 5)] } (Tryz.f150.body.getD .skip) = c_qPush by kernel_rfl, show Tryz.f150.ntmps = 20 by kernel_rfl]
 unfold c_qPush
 have hql := lt_of_get hq
 have hRl := lt_of_get hR
 have a1 : ∀ x, (encIt x).all AV.one = true := fun _ => rfl
 have g1 : ∀ t, (σ ++ t)[q]? = some (.row [.ref R 2 0 l.length]) := fun t => by rw [List.getElem?_append_left hql]; exact hq
 have g2 : ∀ t, (σ ++ t)[R]? = some (.row (qR l)) := fun t => by rw [List.getElem?_append_left hRl]; exact hR
 have hbig : bigLen (l.length + 1) 16 := big_ok (by omega) (by omega)
 have sA : setAll [AV.int .i64 0, AV.int .i64 0] 0 (encIt x) = encIt x := rfl
 have t0 : ((encIt x).drop 0).take 2 = encIt x := rfl
 have t1 : (encIt x).take 2 = encIt x := rfl
 have hsn : qR l ++ [encIt x].flatten = qR (l ++ [x]) := (rowC_snoc encIt l x).symm
 have g3 : ∀ o r, ((σ ++ [AObj.row (encIt x)]).set R o ++ r)[q]? = some (.row [.ref R 2 0 l.length]) := fun o r => by
  rw [List.getElem?_append_left (by simp; omega), List.getElem?_set_ne (fun e => hqR e.symm)]; exact g1 _
 simp only [go_sem, simprocAttr, g1, g2, a1, encIt_len, hbig, qR_len, sA, t0, t1, hsn, g3]
 obtain ⟨S, hS⟩ : ∃ S, S = ((σ ++ [AObj.row (encIt x)]).set R .dead ++ [AObj.row (qR (l ++ [x]))]).set q (AObj.row [AV.ref (σ.length + 1) 2 0 (l.length + 1)]) := ⟨_, rfl⟩
 obtain ⟨T, hT⟩ : ∃ T, T = (σ.set q (AObj.row [AV.ref σ.length 2 0 (l.length + 1)])).set R .dead ++ [AObj.row (qR (l ++ [x]))] := ⟨_, rfl⟩
 have hSl : S.length = σ.length + 2 := by rw [hS]; simp
 have hTl : T.length = σ.length + 1 := by rw [hT]; simp
 have hSi : ∀ i, i < σ.length → S[i]? = if i = q then some (.row [AV.ref (σ.length + 1) 2 0 (l.length + 1)]) else if i = R then some .dead else σ[i]? := fun i hi => by
  rw [hS]
  by_cases e : i = q
  ·subst e; rw [if_pos rfl, List.getElem?_set_self (by simp; omega)]
  ·rw [if_neg e, List.getElem?_set_ne (fun h => e h.symm), List.getElem?_append_left (by simp; omega)]
   by_cases e2 : i = R
   ·subst e2; rw [if_pos rfl, List.getElem?_set_self (by simp; omega)]
   ·rw [if_neg e2, List.getElem?_set_ne (fun h => e2 h.symm), List.getElem?_append_left hi]
 have hTi : ∀ i, i < σ.length → T[i]? = if i = R then some .dead else if i = q then some (.row [AV.ref σ.length 2 0 (l.length + 1)]) else σ[i]? := fun i hi => by
  rw [hT, List.getElem?_append_left (by simp; omega)]
  by_cases e2 : i = R
  ·subst e2; rw [if_pos rfl, List.getElem?_set_self (by simp; omega)]
  ·rw [if_neg e2, List.getElem?_set_ne (fun h => e2 h.symm)]
   by_cases e : i = q
   ·subst e; rw [if_pos rfl, List.getElem?_set_self hql]
   ·rw [if_neg e, List.getElem?_set_ne (fun h => e h.symm)]
 have hSn : S[σ.length + 1]? = some (.row (qR (l ++ [x]))) := by
  rw [hS, List.getElem?_set_ne (by omega), List.getElem?_append_right (by simp)]; simp
 have hTn : T[σ.length]? = some (.row (qR (l ++ [x]))) := by
  rw [hT, List.getElem?_append_right (by simp)]; simp
 have hp : Picks S σ.length [σ.length + 1] T := by
  refine ⟨by omega, by simp; omega, by simp, by simp [hTl], fun i o' hi e => ?_, fun k p o' e1 e2 => ?_⟩
  ·rw [hTi i hi] at e
   by_cases e2 : i = R
   ·rw [if_pos e2] at e; injection e with e; exact .inl e.symm
   rw [if_neg e2] at e
   refine .inr ⟨by simp; omega, ?_⟩
   by_cases e1 : i = q
   ·rw [if_pos e1] at e; injection e with e; subst e
    refine ⟨_, by rw [hSi i hi, if_pos e1], .row (xs := [.ref (σ.length + 1) 2 0 (l.length + 1)]) ⟨?_, trivial⟩⟩
    exact MvP.ref (k := 0) rfl 2 0 (l.length + 1)
   ·rw [if_neg e1] at e
    exact ⟨o', by rw [hSi i hi, if_neg e1, if_neg e2]; exact e, .same (hσ i o' e)⟩
  ·match k, e1 with
   | 0, e1 =>
    simp at e1; subst e1
    rw [Nat.add_zero, hTn] at e2; injection e2 with e2; subst e2
    exact ⟨_, hSn, .same (ids_qR _)⟩
 have hTids : IdsS T.length T := by
  intro i o e
  rcases Nat.lt_or_ge i σ.length with hi | hi
  ·rw [hTi i hi] at e
   split at e
   ·injection e with e; subst e; trivial
   ·split at e
    ·injection e with e; subst e
     exact idsO_row (idsL_cons (.ref _ _ _ _ (by omega)) idsL_nil)
    ·exact idsO_up (by omega) (hσ i o e)
  ·have hi2 : i = σ.length := by have := lt_of_get e; omega
   subst hi2
   rw [hTn] at e; injection e with e; subst e; exact ids_qR _
 rw [← hS, ← hT]
 exact ret_gh0 (Ghost.picks (Nat.le_refl _) hp trivial) (by omega) hTids ⟨rfl, rfl⟩
def c_hup : CCode := .block 0 (.loop (.block 1 (.seq (.ops [oS 5 (.move (.tmp 1)), oS 6 (.bin .sub .none (.tmp 5) (.lit (.int .i64 1))), oS 7 (.bin .quo .none (.tmp 6) (.lit (.int .i64 2))), oS 4 (.move (.tmp 7))]) (.seq (.seq (.ops [oS 8 (.move (.tmp 4)), oS 9 (.move (.tmp 1)), oS 10 (.bin .eql .none (.tmp 8) (.tmp 9)), oS 11 (.move (.tmp 10)), oG 12 11 false (.move (.tmp 0)), oG 13 11 false (.move (.tmp 1)), oG 14 11 false (.move (.tmp 4)), oG 15 11 false (.inv [(92, 148, some none), (96, 148, none)] (.tmp 12) [.tmp 13, .tmp 14]), oG 16 11 false (.un .not (.tmp 15)), oS 17 (.pick (.tmp 11) (.lit (.bool true)) (.tmp 16))]) (.cond (.tmp 17) (.exit 0) .skip)) (.seq (.ops [oS 18 (.move (.tmp 0)), oS 19 (.move (.tmp 4)), oS 20 (.move (.tmp 1)), oS 21 (.inv [(92, 151, some none), (96, 151, none)] (.tmp 18) [.tmp 19, .tmp 20])]) (.ops [oS 22 (.move (.tmp 4)), oS 1 (.move (.tmp 22))]))))))
set_option maxHeartbeats 1000000 in
theorem hup_spec (q R j0 : Nat) (l : List It) (σ : Store) (hqR : q ≠ R) (hq : σ[q]? = some (.row [.ref R 2 0 l.length])) (hR : σ[R]? = some (.row (qR l))) (hl : l.length ≤ 1000000000) (hj : j0 < l.length) (hh : HeapUp l l.length j0) :
  ACalls Tryz.prog 85 [.iface 92 (.ptr q 0), .int .i64 j0] σ fun r σ' => r = .tuple [] ∧ ∃ l' : List It, l' = upL l j0 ∧ l'.Perm l ∧ HeapOk l' l'.length ∧ σ' = σ.set R (.row (qR l')) := by
 refine ACalls.intro (rs := []) (by kernel_rfl) { own := [], ghosts := [] } Tryz.func85 (c := Tryz.f85.body.getD .skip) (by kernel_rfl) (by decide) (by rw [show Tryz.f85.ntmps = 23 by kernel_rfl]; exact Nat.le_of_ble_eq_true rfl) (by kernel_rfl) ?_
 intro hσ hids
 rw [show comp Tryz.prog { own := [], ghosts := [] } (Tryz.f85.body.getD .skip) = c_hup by kernel_rfl, show Tryz.f85.ntmps = 23 by kernel_rfl]
 unfold c_hup
 have hql := lt_of_get hq
 have hRl := lt_of_get hR
 have gq : ∀ c, (σ.set R (.row c))[q]? = some (.row [.ref R 2 0 l.length]) := fun c => by rw [List.getElem?_set_ne (fun e => hqR e.symm)]; exact hq
 have gR : ∀ c, (σ.set R (.row c))[R]? = some (.row c) := fun c => by rw [List.getElem?_set_self hRl]
 have hids : ∀ l' : List It, IdsS (σ.set R (.row (qR l'))).length (σ.set R (.row (qR l'))) := fun l' => by
  rw [List.length_set]; exact idsS_put' hσ _ (ids_qR _)
 refine wpc_while (α := List It × Nat) (fun x => [(0, .iface 92 (.ptr q 0)), (1, .int .i64 (x.2 : Nat))]) (fun x => σ.set R (.row (qR x.1))) (fun x => x.1.Perm l ∧ x.2 < l.length ∧ HeapUp x.1 l.length x.2 ∧ upL x.1 x.2 = upL l j0) (fun x => x.2) (l, j0) ⟨.refl _, hj, hh, rfl⟩ ?_ ?_
 ·rw [set_get_same hR]
  exact Ghost.keep0 (Nat.le_refl _) ⟨⟨.refl _, .iface _ _ (.ptr _ _ hql)⟩, ⟨.refl _, .int _ _⟩, trivial⟩ hσ
 rintro ⟨m, j⟩ ⟨hp, hj, hh, hup⟩ K hK hE hR'
 dsimp only at hp hj hh hup ⊢
 have hml := hp.length_eq
 have hw1 : IntKind.i64.wrap ((j : Int) - 1) = (j : Int) - 1 := wrap_ok (by omega)
 have hw2 : IntKind.i64.wrap (((j : Int) - 1).tdiv 2) = (((j - 1) / 2 : Nat) : Int) := by
  rcases Nat.eq_zero_or_pos j with rfl | h0
  ·rfl
  ·rw [Int.tdiv_eq_ediv_of_nonneg (by omega), wrap_ok (by omega)]; omega
 have fin : ∀ (s : Slots), HeapOk m m.length → upL m j = m → bodyK [] σ.length 23 (fun r σ' => r = .tuple [] ∧ ∃ l' : List It, l' = upL l j0 ∧ l'.Perm l ∧ HeapOk l' l'.length ∧ σ' = σ.set R (.row (qR l'))) .ret s (σ.set R (.row (qR m))) := fun s hok hu =>
  ret_gh0 (Ghost.keep0 (s' := []) (by simp) trivial (hids m)) (by simp) (hids m) ⟨rfl, m, by rw [← hup, hu], hp, hok, rfl⟩
 by_cases h0 : j = 0
 ·have he : ((((j - 1) / 2 : Nat) : Int) == (j : Int)) = true := by subst h0; rfl
  simp only [go_sem, simprocAttr, hw1, hw2, he, hE]
  exact fin _ (by rw [hml]; exact hh.done (.inl h0)) (upL_stop (by omega))
 have he : ((((j - 1) / 2 : Nat) : Int) == (j : Int)) = false := by simp; omega
 simp only [go_sem, simprocAttr, hw1, hw2, he, gq]
 rw [← hml]
 refine (qLess_spec R j ((j - 1) / 2) m _ (gR _) (by omega) (by omega)).is ?_
 by_cases hlt : itC m j < itC m ((j - 1) / 2)
 ·rw [decide_eq_true hlt]
  simp only [go_sem, simprocAttr, gq]
  rw [← hml]
  refine (qSwap_spec R ((j - 1) / 2) j m _ (gR _) (by omega) (by omega)).to ?_
  simp only [go_sem, simprocAttr, List.set_set]
  refine hK _ _ (swapL m ((j - 1) / 2) j, (j - 1) / 2) ⟨(swapL_perm (by omega) (by omega)).trans hp, by simp only []; omega, hh.step (by omega) hj (by omega) hlt, by rw [← hup, upL_go (by omega) hlt]⟩ (by simp only []; omega) ?_
  (try dsimp only)
  exact Ghost.keep0 (by simp) ⟨⟨.refl _, .iface _ _ (.ptr _ _ (by simpa using hql))⟩, ⟨.refl _, .int _ _⟩, trivial⟩ (hids _)
 ·rw [decide_eq_false hlt]
  simp only [go_sem, simprocAttr, hE]
  exact fin _ (by rw [hml]; exact hh.done (.inr (by omega))) (upL_stop (by omega))
def c_hdown : CCode := .seq (.ops [oS 6 (.move (.lit (.bool false)))]) (.seq (.ops [oS 11 (.move (.tmp 1)), oS 7 (.move (.tmp 11))]) (.seq (.block 0 (.loop (.block 1 (.seq (.ops [oS 12 (.move (.tmp 7)), oS 13 (.bin .mul .none (.lit (.int .i64 2)) (.tmp 12)), oS 14 (.bin .add .none (.tmp 13) (.lit (.int .i64 1))), oS 8 (.move (.tmp 14))]) (.seq (.seq (.ops [oS 15 (.move (.tmp 8)), oS 16 (.move (.tmp 2)), oS 17 (.bin .geq .none (.tmp 15) (.tmp 16)), oS 18 (.move (.tmp 17)), oG 19 18 false (.move (.tmp 8)), oG 20 18 false (.bin .lss .none (.tmp 19) (.lit (.int .i64 0))), oS 21 (.pick (.tmp 18) (.lit (.bool true)) (.tmp 20))]) (.cond (.tmp 21) (.exit 0) .skip)) (.seq (.ops [oS 22 (.move (.tmp 8)), oS 9 (.move (.tmp 22))]) (.seq (.seq (.ops [oS 23 (.move (.tmp 8)), oS 24 (.bin .add .none (.tmp 23) (.lit (.int .i64 1))), oS 10 (.move (.tmp 24))]) (.seq (.ops [oS 25 (.move (.tmp 10)), oS 26 (.move (.tmp 2)), oS 27 (.bin .lss .none (.tmp 25) (.tmp 26)), oS 28 (.move (.tmp 27)), oG 29 28 true (.move (.tmp 0)), oG 30 28 true (.move (.tmp 10)), oG 31 28 true (.move (.tmp 8)), oG 32 28 true (.inv [(92, 148, some none), (96, 148, none)] (.tmp 29) [.tmp 30, .tmp 31]), oS 33 (.pick (.tmp 28) (.tmp 32) (.lit (.bool false)))]) (.cond (.tmp 33) (.ops [oS 34 (.move (.tmp 10)), oS 9 (.move (.tmp 34))]) .skip))) (.seq (.seq (.ops [oS 35 (.move (.tmp 0)), oS 36 (.move (.tmp 9)), oS 37 (.move (.tmp 7)), oS 38 (.inv [(92, 148, some none), (96, 148, none)] (.tmp 35) [.tmp 36, .tmp 37]), oS 39 (.un .not (.tmp 38))]) (.cond (.tmp 39) (.exit 0) .skip)) (.seq (.ops [oS 40 (.move (.tmp 0)), oS 41 (.move (.tmp 7)), oS 42 (.move (.tmp 9)), oS 43 (.inv [(92, 151, some none), (96, 151, none)] (.tmp 40) [.tmp 41, .tmp 42])]) (.ops [oS 44 (.move (.tmp 9)), oS 7 (.move (.tmp 44))])))))))))) (.seq (.ops [oS 45 (.move (.tmp 7)), oS 46 (.move (.tmp 1)), oS 47 (.bin .gtr .none (.tmp 45) (.tmp 46)), oS 6 (.move (.tmp 47))]) .ret)))
set_option maxHeartbeats 2000000 in
theorem hdown_spec (q R i0 n : Nat) (l : List It) (σ : Store) (hqR : q ≠ R) (hq : σ[q]? = some (.row [.ref R 2 0 l.length])) (hR : σ[R]? = some (.row (qR l))) (hl : l.length ≤ 1000000000) (hn : n ≤ l.length) (hi : i0 < l.length) (hh : HeapDn l n i0) :
  ACalls Tryz.prog 84 [.iface 92 (.ptr q 0), .int .i64 i0, .int .i64 n] σ fun r σ' => (∃ b, r = .bool b) ∧ ∃ l' : List It, l' = dnL l n i0 ∧ l'.Perm l ∧ HeapOk l' n ∧ (∀ k, n ≤ k → l'[k]? = l[k]?) ∧ σ' = σ.set R (.row (qR l')) := by
 refine ACalls.intro (rs := [(.tmp 6)]) (by kernel_rfl) { own := [], ghosts := [] } Tryz.func84 (c := Tryz.f84.body.getD .skip) (by kernel_rfl) (by decide) (by rw [show Tryz.f84.ntmps = 48 by kernel_rfl]; exact Nat.le_of_ble_eq_true rfl) (by kernel_rfl) ?_
 intro hσ hids
 rw [show comp Tryz.prog { own := [], ghosts := [] } (Tryz.f84.body.getD .skip) = c_hdown by kernel_rfl, show Tryz.f84.ntmps = 48 by kernel_rfl]
 unfold c_hdown
 have hql := lt_of_get hq
 have hRl := lt_of_get hR
 have gq : ∀ c, (σ.set R (.row c))[q]? = some (.row [.ref R 2 0 l.length]) := fun c => by rw [List.getElem?_set_ne (fun e => hqR e.symm)]; exact hq
 have gR : ∀ c, (σ.set R (.row c))[R]? = some (.row c) := fun c => by rw [List.getElem?_set_self hRl]
 have hids : ∀ l' : List It, IdsS (σ.set R (.row (qR l'))).length (σ.set R (.row (qR l'))) := fun l' => by
  rw [List.length_set]; exact idsS_put' hσ _ (ids_qR _)
 simp only [go_sem, simprocAttr]
 refine wpc_while (α := List It × Nat) (fun x => [(0, .iface 92 (.ptr q 0)), (1, .int .i64 i0), (2, .int .i64 n), (7, .int .i64 (x.2 : Nat))]) (fun x => σ.set R (.row (qR x.1))) (fun x => x.1.Perm l ∧ x.2 < l.length ∧ HeapDn x.1 n x.2 ∧ (∀ k, n ≤ k → x.1[k]? = l[k]?) ∧ dnL x.1 n x.2 = dnL l n i0) (fun x => l.length - x.2) (l, i0) ⟨.refl _, hi, hh, fun _ _ => rfl, rfl⟩ ?_ ?_
 ·rw [set_get_same hR]
  exact Ghost.keep0 (Nat.le_refl _) ⟨⟨.refl _, .iface _ _ (.ptr _ _ hql)⟩, ⟨.refl _, .int _ _⟩, ⟨.refl _, .int _ _⟩, ⟨.refl _, .int _ _⟩, trivial⟩ hσ
 rintro ⟨m, i⟩ ⟨hp, hi, hh, hout, hdn⟩ K hK hE hR'
 dsimp only at hp hi hh hout hdn ⊢
 have hml := hp.length_eq
 have hw1 : IntKind.i64.wrap (2 * (i : Int)) = ((2 * i : Nat) : Int) := by rw [wrap_ok (by omega)]; omega
 have hw2 : IntKind.i64.wrap (((2 * i : Nat) : Int) + 1) = ((2 * i + 1 : Nat) : Int) := by rw [wrap_ok (by omega)]; omega
 have hw3 : IntKind.i64.wrap (((2 * i + 1 : Nat) : Int) + 1) = ((2 * i + 2 : Nat) : Int) := by rw [wrap_ok (by omega)]; omega
 have hnn : ¬ (((2 * i + 1 : Nat) : Int) < 0) := by omega
 have fin : ∀ (s : Slots) (c : Bool), lk s 6 = .bool c → HeapOk m n → dnL m n i = m → bodyK [.tmp 6] σ.length 48 (fun r σ' => (∃ b, r = .bool b) ∧ ∃ l' : List It, l' = dnL l n i0 ∧ l'.Perm l ∧ HeapOk l' n ∧ (∀ k, n ≤ k → l'[k]? = l[k]?) ∧ σ' = σ.set R (.row (qR l'))) .ret s (σ.set R (.row (qR m))) := fun s c hc hok hd =>
  ret_gh (v := .bool c) (Ghost.keep0 (s' := [(6, .bool c)]) (by simp) ⟨⟨by rw [hc]; exact .refl _, .bool _⟩, trivial⟩ (hids m)) (by simp) (hids m) (.bool _) ⟨⟨c, rfl⟩, m, by rw [← hdn, hd], hp, hok, hout, rfl⟩
 by_cases h1 : ((2 * i + 1 : Nat) : Int) ≥ (n : Int)
 ·simp only [go_sem, simprocAttr, hw1, hw2, h1, hE]
  exact fin _ _ rfl (hh.done fun k h0 hk e => by omega) (dnL_stop (by omega))
 have down : ∀ jn : Nat, jn < n → (jn - 1) / 2 = i → 0 < jn → (∀ k, 0 < k → k < n → (k - 1) / 2 = i → itC m jn ≤ itC m k) → itC m jn < itC m i → HeapDn (swapL m i jn) n jn ∧ (swapL m i jn).Perm l ∧ ∀ k, n ≤ k → (swapL m i jn)[k]? = l[k]? := fun jn hjn hpj h0 hmin hlt => by
  refine ⟨hh.step (by omega) hjn hpj h0 hlt hmin, (swapL_perm (by omega) (by omega)).trans hp, fun k hk => ?_⟩
  rw [← hout k hk]
  unfold swapL
  rw [List.getElem?_set_ne (by omega), List.getElem?_set_ne (by omega)]
 have hgo : ∀ jn : Nat, kidL m n i = jn → 2 * i + 1 < n → itC m jn < itC m i → dnL (swapL m i jn) n jn = dnL l n i0 := fun jn hk h0 hlt => by
  have h1 := dnL_go (l := m) h0 (by rw [hk]; exact hlt)
  rw [hk] at h1
  rw [← hdn, h1]
 have stop : ∀ jn : Nat, (∀ k, 0 < k → k < n → (k - 1) / 2 = i → itC m jn ≤ itC m k) → ¬ itC m jn < itC m i → HeapOk m n := fun jn hmin hlt => hh.done fun k h0 hk e => by have := hmin k h0 hk e; omega
 by_cases h2 : ((2 * i + 2 : Nat) : Int) < (n : Int)
 ·simp only [go_sem, simprocAttr, hw1, hw2, hw3, h1, hnn, h2, gq]
  rw [← hml]
  refine (qLess_spec R (2 * i + 2) (2 * i + 1) m _ (gR _) (by omega) (by omega)).is ?_
  by_cases hlt2 : itC m (2 * i + 2) < itC m (2 * i + 1)
  ·have hmin : ∀ k, 0 < k → k < n → (k - 1) / 2 = i → itC m (2 * i + 2) ≤ itC m k := fun k h0 hk e => by
    rcases (by omega : k = 2 * i + 1 ∨ k = 2 * i + 2) with rfl | rfl <;> omega
   have hkid : kidL m n i = 2 * i + 2 := if_pos ⟨by omega, hlt2⟩
   rw [decide_eq_true hlt2]
   simp only [go_sem, simprocAttr, gq]
   rw [← hml]
   refine (qLess_spec R (2 * i + 2) i m _ (gR _) (by omega) (by omega)).is ?_
   by_cases hlt : itC m (2 * i + 2) < itC m i
   ·obtain ⟨d1, d2, d3⟩ := down (2 * i + 2) (by omega) (by omega) (by omega) hmin hlt
    rw [decide_eq_true hlt]
    simp only [go_sem, simprocAttr, gq]
    rw [← hml]
    refine (qSwap_spec R i (2 * i + 2) m _ (gR _) (by omega) (by omega)).to ?_
    simp only [go_sem, simprocAttr, List.set_set]
    refine hK _ _ (swapL m i (2 * i + 2), 2 * i + 2) ⟨d2, by simp only []; omega, d1, d3, hgo _ hkid (by omega) hlt⟩ (by simp only []; omega) ?_
    (try dsimp only)
    exact Ghost.keep0 (by simp) ⟨⟨.refl _, .iface _ _ (.ptr _ _ (by simpa using hql))⟩, ⟨.refl _, .int _ _⟩, ⟨.refl _, .int _ _⟩, ⟨.refl _, .int _ _⟩, trivial⟩ (hids _)
   ·rw [decide_eq_false hlt]
    simp only [go_sem, simprocAttr, hE]
    exact fin _ _ rfl (stop _ hmin hlt) (dnL_stop (fun q => hlt (by rw [← hkid]; exact q.2)))
  ·have hmin : ∀ k, 0 < k → k < n → (k - 1) / 2 = i → itC m (2 * i + 1) ≤ itC m k := fun k h0 hk e => by
    rcases (by omega : k = 2 * i + 1 ∨ k = 2 * i + 2) with rfl | rfl <;> omega
   have hkid : kidL m n i = 2 * i + 1 := if_neg (fun q => hlt2 q.2)
   rw [decide_eq_false hlt2]
   simp only [go_sem, simprocAttr, gq]
   rw [← hml]
   refine (qLess_spec R (2 * i + 1) i m _ (gR _) (by omega) (by omega)).is ?_
   by_cases hlt : itC m (2 * i + 1) < itC m i
   ·obtain ⟨d1, d2, d3⟩ := down (2 * i + 1) (by omega) (by omega) (by omega) hmin hlt
    rw [decide_eq_true hlt]
    simp only [go_sem, simprocAttr, gq]
    rw [← hml]
    refine (qSwap_spec R i (2 * i + 1) m _ (gR _) (by omega) (by omega)).to ?_
    simp only [go_sem, simprocAttr, List.set_set]
    refine hK _ _ (swapL m i (2 * i + 1), 2 * i + 1) ⟨d2, by simp only []; omega, d1, d3, hgo _ hkid (by omega) hlt⟩ (by simp only []; omega) ?_
    (try dsimp only)
    exact Ghost.keep0 (by simp) ⟨⟨.refl _, .iface _ _ (.ptr _ _ (by simpa using hql))⟩, ⟨.refl _, .int _ _⟩, ⟨.refl _, .int _ _⟩, ⟨.refl _, .int _ _⟩, trivial⟩ (hids _)
   ·rw [decide_eq_false hlt]
    simp only [go_sem, simprocAttr, hE]
    exact fin _ _ rfl (stop _ hmin hlt) (dnL_stop (fun q => hlt (by rw [← hkid]; exact q.2)))
 ·have hmin : ∀ k, 0 < k → k < n → (k - 1) / 2 = i → itC m (2 * i + 1) ≤ itC m k := fun k h0 hk e => by
   obtain rfl : k = 2 * i + 1 := by omega
   exact Int.le_refl _
  have hkid : kidL m n i = 2 * i + 1 := if_neg (fun q => h2 (by omega))
  simp only [go_sem, simprocAttr, hw1, hw2, hw3, h1, hnn, h2, gq]
  rw [← hml]
  refine (qLess_spec R (2 * i + 1) i m _ (gR _) (by omega) (by omega)).is ?_
  by_cases hlt : itC m (2 * i + 1) < itC m i
  ·obtain ⟨d1, d2, d3⟩ := down (2 * i + 1) (by omega) (by omega) (by omega) hmin hlt
   rw [decide_eq_true hlt]
   simp only [go_sem, simprocAttr, gq]
   rw [← hml]
   refine (qSwap_spec R i (2 * i + 1) m _ (gR _) (by omega) (by omega)).to ?_
   simp only [go_sem, simprocAttr, List.set_set]
   refine hK _ _ (swapL m i (2 * i + 1), 2 * i + 1) ⟨d2, by simp only []; omega, d1, d3, hgo _ hkid (by omega) hlt⟩ (by simp only []; omega) ?_
   (try dsimp only)
   exact Ghost.keep0 (by simp) ⟨⟨.refl _, .iface _ _ (.ptr _ _ (by simpa using hql))⟩, ⟨.refl _, .int _ _⟩, ⟨.refl _, .int _ _⟩, ⟨.refl _, .int _ _⟩, trivial⟩ (hids _)
  ·rw [decide_eq_false hlt]
   simp only [go_sem, simprocAttr, hE]
   exact fin _ _ rfl (stop _ hmin hlt) (dnL_stop (fun q => hlt (by rw [← hkid]; exact q.2)))
def c_hpop : CCode := .seq (.ops [oS 2 (.move (.lit (.conc Value.nilIface)))]) (.seq (.ops [oS 4 (.move (.tmp 0)), oS 5 (.inv [(17, 145, none), (92, 50, some none), (96, 50, none)] (.tmp 4) []), oS 6 (.bin .sub .none (.tmp 5) (.lit (.int .i64 1))), oS 3 (.move (.tmp 6))]) (.seq (.ops [oS 7 (.move (.tmp 0)), oS 8 (.move (.tmp 3)), oS 9 (.inv [(92, 151, some none), (96, 151, none)] (.tmp 7) [.lit (.int .i64 0), .tmp 8])]) (.seq (.ops [oS 10 (.move (.tmp 0)), oS 11 (.move (.tmp 3)), oS 12 (.call (.lit (.func 84 [])) [.tmp 10, .lit (.int .i64 0), .tmp 11])]) (.seq (.ops [oS 13 (.move (.tmp 0)), oS 14 (.inv [(92, 149, none)] (.tmp 13) []), oS 2 (.move (.tmp 14))]) .ret))))
theorem hpop_spec (q R : Nat) (l : List It) (σ : Store) (hqR : q ≠ R) (hq : σ[q]? = some (.row [.ref R 2 0 l.length])) (hR : σ[R]? = some (.row (qR l))) (hl : l.length ≤ 1000000000) (h0 : 0 < l.length) (hh : HeapOk l l.length) :
  ACalls Tryz.prog 51 [.iface 92 (.ptr q 0)] σ fun r σ' => ∃ (x : It) (l' : List It), r = .iface 94 (.agg (encIt x)) ∧ l[0]? = some x ∧ l' = popL l ∧ l.Perm (x :: l') ∧ HeapOk l' l'.length ∧ (∀ y ∈ l', x.2 ≤ y.2) ∧ σ' = qS σ q R l' := by
 refine ACalls.intro (rs := [(.tmp 2)]) (by kernel_rfl) { own := [], ghosts := [] } Tryz.func51 (c := Tryz.f51.body.getD .skip) (by kernel_rfl) (by decide) (by rw [show Tryz.f51.ntmps = 15 by kernel_rfl]; exact Nat.le_of_ble_eq_true rfl) (by kernel_rfl) ?_
 intro hσ hids
 rw [show comp Tryz.prog { own := [], ghosts := [] } (Tryz.f51.body.getD .skip) = c_hpop by kernel_rfl, show Tryz.f51.ntmps = 15 by kernel_rfl]
 unfold c_hpop
 have hql := lt_of_get hq
 have hRl := lt_of_get hR
 obtain ⟨m, hm⟩ : ∃ m, l.length = m + 1 := ⟨l.length - 1, by omega⟩
 have gq : ∀ c, (σ.set R (.row c))[q]? = some (.row [.ref R 2 0 (m + 1)]) := fun c => by rw [List.getElem?_set_ne (fun e => hqR e.symm), hq, hm]
 have gR : ∀ c, (σ.set R (.row c))[R]? = some (.row c) := fun c => by rw [List.getElem?_set_self hRl]
 have hw : IntKind.i64.wrap (((m + 1 : Nat) : Int) - 1) = (m : Int) := by rw [wrap_ok (by omega)]; omega
 rw [hm] at hq hh
 simp only [go_sem, simprocAttr, hq]
 refine (qLen_spec R (m + 1) _).is ?_
 simp only [go_sem, simprocAttr, hw, hq]
 rw [← hm]
 refine (qSwap_spec R 0 m l _ hR (by omega) (by omega)).to ?_
 simp only [go_sem, simprocAttr]
 have hsl := swapL_len l 0 m
 have hsp := swapL_perm (l := l) (i := 0) (j := m) (by omega) (by omega)
 refine (hdown_spec q R 0 m (swapL l 0 m) _ hqR (by rw [gq, hsl, hm]) (gR _) (by omega) (by omega) (by omega) (hh.swap0 hm)).mono ?_
 rintro _ _ ⟨⟨c, rfl⟩, l', hdn, hp, hok, hout, rfl⟩
 have hll : l'.length = m + 1 := by rw [hp.length_eq, hsl, hm]
 simp only [go_sem, simprocAttr, gq, List.set_set]
 obtain ⟨x, hx⟩ : ∃ x, l[0]? = some x := get_ex (by omega)
 have hxm : l'[m]? = some x := by
  rw [hout m (Nat.le_refl _)]
  unfold swapL
  rw [List.getElem?_set_self (by rw [List.length_set]; omega), List.getD_eq_getElem?_getD, hx]; rfl
 refine (qPop_spec q R m l' x _ hqR (gq _) (gR _) hll hxm (by omega)).to ?_
 have hpl : l.Perm (x :: l'.take m) := by
  have h1 : l' = l'.take m ++ [x] := by
   rw [← take_succ' hxm, List.take_of_length_le (by omega)]
  refine (hsp.symm.trans hp.symm).trans ?_
  rw [h1]
  refine List.Perm.trans (List.perm_append_comm) ?_
  rw [← h1]; exact .refl _
 have hlt : (l'.take m).length = m := List.length_take_of_le (by omega)
 have hst : qS (σ.set R (.row (qR l'))) q R (l'.take m) = qS σ q R (l'.take m) := by
  unfold qS
  rw [List.set_comm _ _ (fun e => hqR e.symm), List.set_set]
 simp only [go_sem, simprocAttr]
 rw [hst]
 have hid := qS_ids (σ := σ) (q := q) (R := R) (l := l'.take m) hσ hRl
 have hix : ∀ n, Ids n (.iface 94 (.agg (encIt x))) := fun n => .iface _ _ (.agg _ (fun j y hy => by
  match j, hy with
  | 0, hy => simp [encIt] at hy; subst hy; exact .int _ _
  | 1, hy => simp [encIt] at hy; subst hy; exact .int _ _))
 refine ret_gh (v := .iface 94 (.agg (encIt x))) (σ' := qS σ q R (l'.take m)) (Ghost.keep0 (by rw [qS_len]; exact Nat.le_refl _) ⟨⟨.refl _, hix _⟩, trivial⟩ hid) (by rw [qS_len]; exact Nat.le_refl _) hid (hix _) ⟨x, l'.take m, rfl, hx, by rw [hdn, popL, hm]; rfl, hpl, ?_, fun y hy => ?_, rfl⟩
 ·rw [hlt]
  exact hok.congr fun i hi => by unfold itC; rw [List.getD_eq_getElem?_getD, List.getD_eq_getElem?_getD, List.getElem?_take_of_lt hi]
 ·have hym : y ∈ l := hpl.mem_iff.2 (List.mem_cons_of_mem _ hy)
  obtain ⟨i, hi, rfl⟩ := List.mem_iff_getElem.1 hym
  have := hh.root i (by omega)
  rw [itC_get hx, itC_get (List.getElem?_eq_getElem hi)] at this
  exact this
def c_hpush : CCode := .seq (.ops [oS 4 (.move (.tmp 0)), oS 5 (.move (.tmp 1)), oS 6 (.inv [(92, 150, none)] (.tmp 4) [.tmp 5])]) (.ops [oS 7 (.move (.tmp 0)), oS 8 (.move (.tmp 0)), oS 9 (.inv [(17, 145, none), (92, 50, some none), (96, 50, none)] (.tmp 8) []), oS 10 (.bin .sub .none (.tmp 9) (.lit (.int .i64 1))), oS 11 (.call (.lit (.func 85 [])) [.tmp 7, .tmp 10])])
theorem hpush_spec (q R : Nat) (l : List It) (x : It) (σ : Store) (hqR : q ≠ R) (hq : σ[q]? = some (.row [.ref R 2 0 l.length])) (hR : σ[R]? = some (.row (qR l))) (hl : l.length ≤ 100000000) (hh : HeapOk l l.length) :
  ACalls Tryz.prog 52 [.iface 92 (.ptr q 0), .iface 94 (.agg (encIt x))] σ fun r σ' => r = .tuple [] ∧ ∃ l' : List It, l' = pushL l x ∧ l'.Perm (x :: l) ∧ HeapOk l' l'.length ∧ σ' = ((σ.set q (.row [.ref σ.length 2 0 l'.length])).set R .dead) ++ [.row (qR l')] := by
 refine ACalls.intro (rs := []) (by kernel_rfl) { own := [], ghosts := [] } Tryz.func52 (c := Tryz.f52.body.getD .skip) (by kernel_rfl) (by decide) (by rw [show Tryz.f52.ntmps = 12 by kernel_rfl]; exact Nat.le_of_ble_eq_true rfl) (by kernel_rfl) ?_
 intro hσ hids
 rw [show comp Tryz.prog { own := [], ghosts := [] } (Tryz.f52.body.getD .skip) = c_hpush by kernel_rfl, show Tryz.f52.ntmps = 12 by kernel_rfl]
 unfold c_hpush
 have hql := lt_of_get hq
 have hRl := lt_of_get hR
 simp only [go_sem, simprocAttr]
 refine (qPush_spec q R l x _ hqR hq hR (by omega)).to ?_
 obtain ⟨T, hT⟩ : ∃ T, T = (σ.set q (AObj.row [AV.ref σ.length 2 0 (l ++ [x]).length])).set R .dead := ⟨_, rfl⟩
 have hTl : T.length = σ.length := by rw [hT]; simp
 have hll : (l ++ [x]).length = l.length + 1 := by simp
 have hw : IntKind.i64.wrap (((l.length + 1 : Nat) : Int) - 1) = (l.length : Int) := by rw [wrap_ok (by omega)]; omega
 have gq : ∀ r, (T ++ r)[q]? = some (.row [.ref σ.length 2 0 (l ++ [x]).length]) := fun r => by
  rw [List.getElem?_append_left (by omega), hT, List.getElem?_set_ne (fun e => hqR e.symm), List.getElem?_set_self hql]
 have gn : ∀ c, (T ++ [AObj.row c])[σ.length]? = some (.row c) := fun c => by rw [← hTl]; simp
 rw [← hT]
 simp only [go_sem, simprocAttr, gq]
 refine (qLen_spec σ.length (l.length + 1) _).is ?_
 simp only [go_sem, simprocAttr, hw]
 refine (hup_spec q σ.length l.length (l ++ [x]) _ (by omega) (gq _) (gn _) (by omega) (by omega) (by rw [hll]; exact heap_push hh x)).mono ?_
 rintro _ _ ⟨rfl, l', hup, hp, hok, rfl⟩
 have hl' : l'.length = (l ++ [x]).length := hp.length_eq
 have hset : ∀ c c', (T ++ [AObj.row c]).set σ.length (.row c') = T ++ [.row c'] := fun c c' => by rw [← hTl]; simp
 simp only [go_sem, simprocAttr]
 rw [hset]
 have hids : IdsS (T ++ [AObj.row (qR l')]).length (T ++ [AObj.row (qR l')]) := by
  intro i o e
  rw [List.length_append, hTl, List.length_singleton]
  rcases Nat.lt_or_ge i σ.length with hi | hi
  ·rw [List.getElem?_append_left (by omega), hT] at e
   rcases get_set e with ⟨_, rfl⟩ | ⟨_, e⟩
   ·trivial
   ·rcases get_set e with ⟨_, rfl⟩ | ⟨_, e⟩
    ·exact idsO_row (idsL_cons (.ref _ _ _ _ (by omega)) idsL_nil)
    ·exact idsO_up (by omega) (hσ i o e)
  ·have hi2 : i = σ.length := by have := lt_of_get e; rw [List.length_append, hTl, List.length_singleton] at this; omega
   subst hi2
   rw [gn] at e; injection e with e; subst e; exact ids_qR _
 refine ret_gh0 (Ghost.keep0 (s' := []) (by simp; omega) trivial hids) (by simp; omega) hids ⟨rfl, l', hup, hp.trans List.perm_append_comm, hok, by rw [hT, hl']⟩
end Go.Proofs.YtcjgoomlaojljaaGreat
namespace Go.Ahl
section
variable {β : Type} {A : Nat} {st : β → Nat → Option β} {c : Nat → Int} {goal : β → Bool} {root : β} {C : Int}
abbrev St3 := Nat × Nat × Int
structure BInv (A : Nat) (st : β → Nat → Option β) (c : Nat → Int) (root : β) (all : List β) (steps : List St3) (i k : Nat) : Prop where
 nd : all.Nodup
 a0 : all[0]? = some root
 fwd : ∀ (j : Nat) b, all[j]? = some b → ∀ a, a < A → (j < i ∨ j = i ∧ a < k) → ∀ u, st b a = some u → ∃ y : Nat, all[y]? = some u ∧ (j, y, c a) ∈ steps
 sound : ∀ s ∈ steps, ∃ bx u a, all[s.1]? = some bx ∧ all[s.2.1]? = some u ∧ a < A ∧ st bx a = some u ∧ s.2.2 = c a
 len : steps.length ≤ A * i + k
theorem BInv.start : BInv A st c root [root] [] 0 0 where
 nd := by simp
 a0 := rfl
 fwd := fun j b _ a _ h => by omega
 sound := by simp
 len := by simp
theorem BInv.row {all : List β} {steps : List St3} {i : Nat} (h : BInv A st c root all steps i A) : BInv A st c root all steps (i + 1) 0 :=
 {h with
  fwd := fun j b hb a ha hj => h.fwd j b hb a ha (by omega)
  len := by have := h.len; rw [Nat.mul_succ]; omega }
theorem BInv.skip {all : List β} {steps : List St3} {i k : Nat} {b : β} (h : BInv A st c root all steps i k) (hb : all[i]? = some b) (hs : st b k = none) : BInv A st c root all steps i (k + 1) :=
 {h with
  fwd := fun j b' hb' a ha hj u hu => by
   rcases hj with hj | ⟨rfl, hj⟩
   ·exact h.fwd j b' hb' a ha (.inl hj) u hu
   ·rw [hb] at hb'; injection hb' with hb'; subst hb'
    rcases Nat.lt_or_ge a k with q | q
    ·exact h.fwd j b hb a ha (.inr ⟨rfl, q⟩) u hu
    ·have : a = k := by omega
     subst this; rw [hs] at hu; simp at hu
  len := by have := h.len; omega }
theorem BInv.old {all : List β} {steps : List St3} {i k j : Nat} {b u : β} (h : BInv A st c root all steps i k) (hk : k < A) (hb : all[i]? = some b) (hs : st b k = some u) (hj : all[j]? = some u) : BInv A st c root all (steps ++ [(i, j, c k)]) i (k + 1) where
 nd := h.nd
 a0 := h.a0
 fwd := fun j' b' hb' a ha hj' u' hu' => by
  rcases hj' with hj' | ⟨rfl, hj'⟩
  ·obtain ⟨y, h1, h2⟩ := h.fwd j' b' hb' a ha (.inl hj') u' hu'
   exact ⟨y, h1, List.mem_append_left _ h2⟩
  ·rw [hb] at hb'; injection hb' with hb'; subst hb'
   rcases Nat.lt_or_ge a k with q | q
   ·obtain ⟨y, h1, h2⟩ := h.fwd j' b hb a ha (.inr ⟨rfl, q⟩) u' hu'
    exact ⟨y, h1, List.mem_append_left _ h2⟩
   ·have : a = k := by omega
    subst this
    rw [hs] at hu'; injection hu' with hu'; subst hu'
    exact ⟨j, hj, List.mem_append_right _ (List.mem_singleton_self _)⟩
 sound := fun s hs' => by
  rcases List.mem_append.1 hs' with hs' | hs'
  ·exact h.sound s hs'
  ·simp at hs'; subst hs'; exact ⟨b, u, k, hb, hj, hk, hs, rfl⟩
 len := by have := h.len; rw [List.length_append]; simp only [List.length_singleton]; omega
theorem BInv.push {all : List β} {steps : List St3} {i k : Nat} {u : β} (h : BInv A st c root all steps i k) (hi : i < all.length) (hu : u ∉ all) : BInv A st c root (all ++ [u]) steps i k where
 nd := by rw [List.nodup_append]; exact ⟨h.nd, by simp, fun a ha b hb => by simp at hb; subst hb; exact fun e => hu (e ▸ ha)⟩
 a0 := get_app_of h.a0
 fwd := fun j b hb a ha hj v hv => by
  rcases get_app_lt hb with hb | ⟨rfl, _⟩
  ·obtain ⟨y, h1, h2⟩ := h.fwd j b hb a ha hj v hv
   exact ⟨y, get_app_of h1, h2⟩
  ·omega
 sound := fun s hs => by
  obtain ⟨bx, v, a, h1, h2, h3⟩ := h.sound s hs
  exact ⟨bx, v, a, get_app_of h1, get_app_of h2, h3⟩
 len := h.len
def relax3 (d : List Int) (s : St3) : List Int := if 0 ≤ d.getD s.2.1 (-1) ∧ (d.getD s.1 (-1) < 0 ∨ d.getD s.2.1 (-1) + s.2.2 < d.getD s.1 (-1)) then d.set s.1 (d.getD s.2.1 (-1) + s.2.2) else d
def calm (d : List Int) (s : St3) : Prop := ¬ (0 ≤ d.getD s.2.1 (-1) ∧ (d.getD s.1 (-1) < 0 ∨ d.getD s.2.1 (-1) + s.2.2 < d.getD s.1 (-1)))
def neg3 (d : List Int) : Nat := d.countP (· < 0)
def mu3 (M : Nat) (d : List Int) : Nat := (d.map fun v => if v < 0 then M + 1 else v.toNat).sum
structure RInv (A : Nat) (st : β → Nat → Option β) (c : Nat → Int) (goal : β → Bool) (C : Int) (all : List β) (d : List Int) : Prop where
 len : d.length = all.length
 lo : ∀ v ∈ d, -1 ≤ v
 hi : ∀ v ∈ d, v ≤ C * ((all.length : Int) - neg3 d)
 snd : ∀ (i : Nat) b v, all[i]? = some b → d[i]? = some v → 0 ≤ v → ∃ l u, runD A st c l b = some (u, v) ∧ goal u = true
 gl : ∀ (i : Nat) b v, all[i]? = some b → d[i]? = some v → goal b = true → v = 0
theorem sum_set : ∀ {l : List Nat} {i x y : Nat}, l[i]? = some y → (l.set i x).sum + y = l.sum + x
 | [], _, _, _, h => by simp at h
 | a :: l, 0, x, y, h => by simp at h; subst h; simp only [List.set_cons_zero, List.sum_cons]; omega
 | a :: l, i + 1, x, y, h => by
  have := sum_set (l := l) (i := i) (x := x) (y := y) (by simpa using h)
  simp only [List.set_cons_succ, List.sum_cons]; omega
theorem count_set {p : Int → Bool} : ∀ {l : List Int} {i : Nat} {x y : Int}, l[i]? = some y → (l.set i x).countP p + (if p y then 1 else 0) = l.countP p + (if p x then 1 else 0)
 | [], _, _, _, h => by simp at h
 | a :: l, 0, x, y, h => by simp at h; subst h; simp only [List.set_cons_zero, List.countP_cons]; omega
 | a :: l, i + 1, x, y, h => by
  have := count_set (p := p) (l := l) (i := i) (x := x) (y := y) (by simpa using h)
  simp only [List.set_cons_succ, List.countP_cons]; omega
theorem neg3_le (d : List Int) : neg3 d ≤ d.length := List.countP_le_length
theorem RInv.step {all : List β} {d : List Int} (h : RInv A st c goal C all d) (hC : 0 ≤ C) {s : St3} {bx u : β} {a : Nat} (h1 : all[s.1]? = some bx) (h2 : all[s.2.1]? = some u) (ha : a < A) (hst : st bx a = some u) (hz : s.2.2 = c a) (hc : 0 ≤ c a) (hcC : c a ≤ C) (hn : ¬ calm d s) {M : Nat} (hM : C * all.length ≤ M) :
  RInv A st c goal C all (relax3 d s) ∧ mu3 M (relax3 d s) < mu3 M d := by
 have hn := Decidable.not_not.1 hn
 have l1 : s.1 < d.length := by rw [h.len]; exact (List.getElem?_eq_some_iff.1 h1).1
 have l2 : s.2.1 < d.length := by rw [h.len]; exact (List.getElem?_eq_some_iff.1 h2).1
 obtain ⟨vx, hvx⟩ : ∃ v, d[s.1]? = some v := ⟨_, List.getElem?_eq_getElem l1⟩
 obtain ⟨vy, hvy⟩ : ∃ v, d[s.2.1]? = some v := ⟨_, List.getElem?_eq_getElem l2⟩
 have ex : d.getD s.1 (-1) = vx := by rw [List.getD_eq_getElem?_getD, hvx]; rfl
 have ey : d.getD s.2.1 (-1) = vy := by rw [List.getD_eq_getElem?_getD, hvy]; rfl
 have er : relax3 d s = d.set s.1 (vy + c a) := by unfold relax3; rw [if_pos hn, ey, hz]
 rw [ex, ey, hz] at hn
 rw [er]
 have hym := List.mem_of_getElem? hvy
 have hxm := List.mem_of_getElem? hvx
 have hy1 := h.hi vy hym
 have hcnt := count_set (p := fun v => decide (v < 0)) (x := vy + c a) hvx
 have hp2 : decide (vy + c a < 0) = false := decide_eq_false (by omega)
 rw [hp2] at hcnt
 have hle := neg3_le d
 have hle2 := neg3_le (d.set s.1 (vy + c a))
 have hnew : vy + c a ≤ C * ((all.length : Int) - neg3 (d.set s.1 (vy + c a))) := by
  by_cases hx0 : vx < 0
  ·rw [decide_eq_true hx0] at hcnt
   have : neg3 d = neg3 (d.set s.1 (vy + c a)) + 1 := by unfold neg3; simpa using hcnt.symm
   rw [this] at hy1
   rw [show ((all.length : Int) - ((neg3 (d.set s.1 (vy + c a)) + 1 : Nat) : Int)) = ((all.length : Int) - neg3 (d.set s.1 (vy + c a))) - 1 by omega, Int.mul_sub] at hy1
   omega
  ·rw [decide_eq_false hx0] at hcnt
   have : neg3 d = neg3 (d.set s.1 (vy + c a)) := by unfold neg3; simpa using hcnt.symm
   rw [← this]
   have := h.hi vx hxm
   omega
 have hmono : neg3 (d.set s.1 (vy + c a)) ≤ neg3 d := by unfold neg3; simp at hcnt; omega
 have hbig : ∀ v ∈ d, v ≤ C * ((all.length : Int) - neg3 (d.set s.1 (vy + c a))) := fun v hv =>
  Int.le_trans (h.hi v hv) (Int.mul_le_mul_of_nonneg_left (by omega) hC)
 refine ⟨⟨by rw [List.length_set]; exact h.len, fun v hv => ?_, fun v hv => ?_, fun i b v hb hv hv0 => ?_, fun i b v hb hv hg => ?_⟩, ?_⟩
 ·rcases List.mem_or_eq_of_mem_set hv with q | rfl
  ·exact h.lo v q
  ·omega
 ·rcases List.mem_or_eq_of_mem_set hv with q | rfl
  ·exact hbig v q
  ·exact hnew
 ·rcases set_get hv with ⟨rfl, rfl⟩ | ⟨_, hv⟩
  ·rw [h1] at hb; injection hb with hb; subst hb
   obtain ⟨l, w, r1, r2⟩ := h.snd s.2.1 u vy h2 hvy hn.1
   refine ⟨a :: l, w, ?_, r2⟩
   simp only [runD, if_pos ha, hst, r1]
   rw [Int.add_comm]
  ·exact h.snd i b v hb hv hv0
 ·rcases set_get hv with ⟨rfl, rfl⟩ | ⟨_, hv⟩
  ·have := h.gl s.1 b vx hb hvx hg
   omega
  ·exact h.gl i b v hb hv hg
 ·unfold mu3
  rw [List.map_set]
  have hs := sum_set (l := d.map fun v => if v < 0 then M + 1 else v.toNat) (i := s.1) (x := if vy + c a < 0 then M + 1 else (vy + c a).toNat) (y := if vx < 0 then M + 1 else vx.toNat) (by rw [List.getElem?_map, hvx]; rfl)
  rw [if_neg (by omega)] at hs ⊢
  have hMb : vy + c a ≤ M := by
   refine Int.le_trans hnew (Int.le_trans (Int.mul_le_mul_of_nonneg_left ?_ hC) hM)
   omega
  split at hs <;> omega
theorem RInv.fin {all : List β} {steps : List St3} {i : Nat} {d : List Int} (h : RInv A st c goal C all d) (hb : BInv A st c root all steps i 0) (hi : all.length ≤ i) (hcalm : ∀ s ∈ steps, calm d s) :
  ∀ (l : List Nat) (j : Nat) b v u k, all[j]? = some b → d[j]? = some v → runD A st c l b = some (u, k) → goal u = true → 0 ≤ v ∧ v ≤ k
 | [], j, b, v, u, k, hj, hv, e, hg => by
  simp only [runD, Option.some.injEq, Prod.mk.injEq] at e
  obtain ⟨rfl, rfl⟩ := e
  have := h.gl j b v hj hv hg; omega
 | a :: l, j, b, v, u, k, hj, hv, e, hg => by
  simp only [runD] at e
  split at e
  ·rename_i ha
   cases hu : st b a with
   | none => rw [hu] at e; simp at e
   | some w =>
    rw [hu] at e; dsimp only at e
    cases hr : runD A st c l w with
    | none => rw [hr] at e; simp at e
    | some r =>
     rw [hr] at e
     simp only [Option.some.injEq, Prod.mk.injEq] at e
     have hjl : j < all.length := (List.getElem?_eq_some_iff.1 hj).1
     obtain ⟨y, hy, hy2⟩ := hb.fwd j b hj a ha (.inl (by omega)) w hu
     obtain ⟨vy, hvy⟩ : ∃ vy, d[y]? = some vy := ⟨_, List.getElem?_eq_getElem (by rw [h.len]; exact (List.getElem?_eq_some_iff.1 hy).1)⟩
     have ih := RInv.fin h hb hi hcalm l y w vy u r.2 hy hvy (by rw [hr, ← e.1]) hg
     have hcm := hcalm _ hy2
     unfold calm at hcm
     rw [show d.getD j (-1) = v by rw [List.getD_eq_getElem?_getD, hv]; rfl, show d.getD y (-1) = vy by rw [List.getD_eq_getElem?_getD, hvy]; rfl] at hcm
     dsimp only at hcm
     omega
  ·simp at e
theorem RInv.start {all : List β} (hC : 0 ≤ C) : RInv A st c goal C all (all.map fun b => if goal b then 0 else -1) where
 len := by simp
 lo := by intro v hv; obtain ⟨b, _, rfl⟩ := List.mem_map.1 hv; split <;> omega
 hi := by
  intro v hv
  have h0 : v ≤ 0 := by obtain ⟨b, _, rfl⟩ := List.mem_map.1 hv; split <;> omega
  have := neg3_le (all.map fun b => if goal b then (0 : Int) else -1)
  rw [List.length_map] at this
  exact Int.le_trans h0 (Int.mul_nonneg hC (by omega))
 snd := by
  intro i b v hb hv h0
  rw [List.getElem?_map, hb] at hv
  simp only [Option.map_some, Option.some.injEq] at hv
  cases hg : goal b
  ·rw [hg] at hv; simp at hv; omega
  ·rw [hg] at hv; simp at hv; subst hv
   exact ⟨[], b, rfl, hg⟩
 gl := by
  intro i b v hb hv hg
  rw [List.getElem?_map, hb] at hv
  simp only [Option.map_some, Option.some.injEq] at hv
  rw [hg] at hv; simp at hv; exact hv.symm
theorem BInv.closed {all : List β} {steps : List St3} {i : Nat} (hb : BInv A st c root all steps i 0) (hi : all.length ≤ i) {b u : β} {a : Nat} (h : b ∈ all) (ha : a < A) (hs : st b a = some u) : u ∈ all := by
 obtain ⟨j, hj, rfl⟩ := List.mem_iff_getElem.1 h
 obtain ⟨y, hy, _⟩ := hb.fwd j _ (List.getElem?_eq_getElem hj) a ha (.inl (by omega)) u hs
 exact List.mem_of_getElem? hy
end
end Go.Ahl
namespace Go.Ahl
section
variable {α : Type}
def encKF (key : α → ByteArray) : Nat → List α → List (AV × AV)
 | _, [] => []
 | k, s :: r => (.str (key s), .int .i64 (k : Nat)) :: encKF key (k + 1) r
def encKM (key : α → ByteArray) (l : List α) : List (AV × AV) := encKF key 0 l
theorem encKF_app (key : α → ByteArray) : ∀ (k : Nat) (l m : List α), encKF key k (l ++ m) = encKF key k l ++ encKF key (k + l.length) m
 | k, [], m => by simp [encKF]
 | k, s :: l, m => by rw [List.cons_append, encKF, encKF, encKF_app key (k + 1) l m, List.length_cons, List.cons_append, Nat.add_assoc, Nat.add_comm 1]
theorem encKM_snoc (key : α → ByteArray) (l : List α) (x : α) : encKM key l ++ [(.str (key x), .int .i64 (l.length : Nat))] = encKM key (l ++ [x]) := by
 unfold encKM; rw [encKF_app, Nat.zero_add]; rfl
theorem findK [BEq α] [LawfulBEq α] {key : α → ByteArray} (x : α) : ∀ (l : List α) (k j : Nat), (∀ y ∈ l, key y = key x → y = x) →
  aFind (.str (key x)) (encKF key k l) j = some (if x ∈ l then some (j + l.idxOf x, .int .i64 ((k + l.idxOf x : Nat) : Int)) else none)
 | [], k, j, _ => by simp [encKF, aFind]
 | s :: r, k, j, h => by
  rw [encKF, aFind]
  by_cases e : s = x
  ·subst e
   have : keyEq (.str (key s)) (.str (key s)) = some true := by simp [keyEq]
   rw [this]
   simp
  ·have hk : ¬ key s = key x := fun q => e (h s List.mem_cons_self q)
   have : keyEq (.str (key x)) (.str (key s)) = some false := by
    simp only [keyEq, Option.some.injEq, beq_eq_false_iff_ne, ne_eq]
    exact fun q => hk q.symm
   rw [this]
   simp only
   rw [findK x r (k + 1) (j + 1) (fun y hy => h y (List.mem_cons_of_mem _ hy))]
   have hxs : x ≠ s := fun q => e q.symm
   by_cases hm : x ∈ r
   ·rw [if_pos hm, if_pos (List.mem_cons_of_mem _ hm), List.idxOf_cons, show (s == x) = false by simpa using e]
    simp only [cond_false, Nat.add_comm, Nat.add_left_comm, Nat.add_assoc]
   ·rw [if_neg hm, if_neg (by simp [hxs, hm])]
theorem ids_encKF (key : α → ByteArray) (n : Nat) : ∀ (k : Nat) (l : List α), ∀ (j : Nat) a b, (encKF key k l)[j]? = some (a, b) → Ids n a ∧ Ids n b
 | _, [], j, a, b, h => by simp [encKF] at h
 | k, s :: r, j, a, b, h => by
  rw [encKF] at h
  cases j with
  | zero => simp at h; obtain ⟨rfl, rfl⟩ := h; exact ⟨.str _, .int _ _⟩
  | succ j => exact ids_encKF key n (k + 1) r j a b (by simpa using h)
theorem idsO_encKM (key : α → ByteArray) (n : Nat) (l : List α) : IdsO n (.map (encKM key l)) := ids_encKF key n 0 l
end
end Go.Ahl
namespace Go.Proofs.YtcjgoomlaojljaaGreat
open Go.Ahl
def e_rev_0 : List COp := [oS 14 (.move (.tmp 0)), oS 15 (.move (.tmp 2)), oS 16 (.move (.tmp 0)), oS 17 (.move (.tmp 3)), oS 18 (.move (.tmp 0)), oS 19 (.move (.tmp 3)), oA 20 (.iaddr 1 (.tmp 18) (.tmp 19)) [4, 5], oA 21 (.load none (.tmp 20)) [6], oS 22 (.move (.tmp 0)), oS 23 (.move (.tmp 2)), oA 24 (.iaddr 1 (.tmp 22) (.tmp 23)) [8, 9], oA 25 (.load none (.tmp 24)) [10], oA 26 (.iaddr 1 (.tmp 14) (.tmp 15)) [0, 1, 0, 1, 4, 5, 6, 7, 11], ⟨none, .store 1 (.tmp 26) (.tmp 21), none, [12, 7, 0, 1, 4, 5, 6, 7, 11]⟩, oA 27 (.iaddr 1 (.tmp 16) (.tmp 17)) [2, 3, 0, 1, 2, 3, 4, 5, 6, 7, 8, 9, 10, 11, 12, 13], ⟨none, .store 1 (.tmp 27) (.tmp 25), none, [14, 11, 13, 0, 1, 2, 3, 4, 5, 6, 7, 8, 9, 10, 11, 12, 13]⟩]
def d_rev_0 : List COp := e_rev_0
theorem dr_rev_0 (P : Program) (nt n0 : Nat) (Q : Post) (s : Slots) (σ : Store) : wpc P nt n0 (.draw d_rev_0) Q s σ = aOpsD P nt e_rev_0 (Q .normal) s σ := wpc_draw _ (by decide)
attribute [local go_sem] dr_rev_0 e_rev_0
def c_rev : CCode := .seq (.ops [oS 4 (.move (.tmp 0)), oS 5 (.blen 1 (.tmp 4)), oS 6 (.bin .sub .none (.tmp 5) (.lit (.int .i64 1))), oS 2 (.move (.lit (.int .i64 0))), oS 3 (.move (.tmp 6))]) (.block 0 (.loop (.seq (.seq (.ops [oS 7 (.move (.tmp 2)), oS 8 (.move (.tmp 3)), oS 9 (.bin .lss .none (.tmp 7) (.tmp 8))]) (.cond (.tmp 9) .skip (.exit 0))) (.seq (.block 1 (.draw d_rev_0)) (.ops [oS 10 (.move (.tmp 2)), oS 11 (.bin .add .none (.tmp 10) (.lit (.int .i64 1))), oS 12 (.move (.tmp 3)), oS 13 (.bin .sub .none (.tmp 12) (.lit (.int .i64 1))), oS 2 (.move (.tmp 11)), oS 3 (.move (.tmp 13))])))))
set_option maxHeartbeats 1000000 in
theorem rev_spec (R : Nat) (w : List Int) (σ : Store) (hR : σ[R]? = some (.row (w.map ai))) (hw : w.length ≤ 1000000000) :
  ACalls Tryz.prog 53 [.ref R 1 0 w.length] σ (isR (.tuple []) (σ.set R (.row (w.reverse.map ai)))) := by
 refine ACalls.intro (rs := []) (by kernel_rfl) { own := [], ghosts := [] } Tryz.func53 (c := Tryz.f53.body.getD .skip) (by kernel_rfl) (by decide) (by rw [show Tryz.f53.ntmps = 28 by kernel_rfl]; exact Nat.le_of_ble_eq_true rfl) (by kernel_rfl) ?_
 intro hσ hids
 rw [show comp Tryz.prog { own := [], ghosts := [] } (Tryz.f53.body.getD .skip) = c_rev by kernel_rfl, show Tryz.f53.ntmps = 28 by kernel_rfl]
 unfold c_rev
 have hRl := lt_of_get hR
 have gR : ∀ c, (σ.set R (.row c))[R]? = some (.row c) := fun c => by rw [List.getElem?_set_self hRl]
 have hids : ∀ m : List Int, IdsS (σ.set R (.row (m.map ai))).length (σ.set R (.row (m.map ai))) := fun m => by
  rw [List.length_set]; exact idsS_put' hσ _ (ids_ai _)
 have hw0 : IntKind.i64.wrap ((w.length : Int) - 1) = (w.length : Int) - 1 := wrap_ok (by omega)
 simp only [go_sem, simprocAttr, hw0]
 refine wpc_while (α := List Int × Nat) (fun x => [(0, .ref R 1 0 w.length), (2, .int .i64 (x.2 : Nat)), (3, .int .i64 ((w.length : Int) - 1 - (x.2 : Nat)))]) (fun x => σ.set R (.row (x.1.map ai)))
  (fun x => x.1.length = w.length ∧ x.2 ≤ w.length ∧ ∀ k, k < w.length → x.1[k]? = if k < x.2 ∨ w.length ≤ k + x.2 then w[w.length - 1 - k]? else w[k]?) (fun x => w.length - x.2) (w, 0) ⟨rfl, Nat.zero_le _, fun k hk => by rw [if_neg (by omega)]⟩ ?_ ?_
 ·(try dsimp only)
  rw [set_get_same hR]
  exact Ghost.keep0 (Nat.le_refl _) ⟨⟨.refl _, .ref _ _ _ _ hRl⟩, ⟨.refl _, .int _ _⟩, ⟨by simp only [lk, Nat.reduceBEq, cond_true, cond_false]; rw [show ((w.length : Int) - 1 - ((0 : Nat) : Int)) = (w.length : Int) - 1 by omega]; exact .refl _, .int _ _⟩, trivial⟩ hσ
 rintro ⟨m, i⟩ ⟨hml, hi, hm⟩ K hK hE hR'
 dsimp only at hml hi hm ⊢
 by_cases h : (i : Int) < (w.length : Int) - 1 - (i : Int)
 ·obtain ⟨j, hj⟩ : ∃ j : Nat, (w.length : Int) - 1 - (i : Int) = (j : Int) := ⟨w.length - 1 - i, by omega⟩
  have hil : i < m.length := by omega
  have hjl : j < m.length := by omega
  obtain ⟨x, hx⟩ := get_ex hil
  obtain ⟨y, hy⟩ := get_ex hjl
  have hx' : (m.map ai)[i]? = some (ai x) := by rw [List.getElem?_map, hx]; rfl
  have hy' : (m.map ai)[j]? = some (ai y) := by rw [List.getElem?_map, hy]; rfl
  have p1 : (0 : Int) ≤ (i : Int) := by omega
  have p2 : (0 : Int) ≤ (j : Int) := by omega
  have q1 : i < w.length := by omega
  have q2 : j < w.length := by omega
  have hlt : (i : Int) < (j : Int) := by omega
  have hw1 := wrapS (i := i) (by omega)
  have hw2 : IntKind.i64.wrap ((j : Int) - 1) = (j : Int) - 1 := wrap_ok (by omega)
  have b1 : i + 1 ≤ (m.map ai).length := by rw [List.length_map]; omega
  have b2 : j + 1 ≤ (m.map ai).length := by rw [List.length_map]; omega
  have s1 : ∀ (l : List Int) (k : Nat) (z : Int), (l.map ai).set k (ai z) = (l.set k z).map ai := fun l k z => List.map_set.symm
  have s2 : (m.map ai).set i (AV.int .i64 y) = (m.set i y).map ai := s1 m i y
  have s3 : ((m.set i y).map ai).set j (AV.int .i64 x) = ((m.set i y).set j x).map ai := s1 _ j x
  have b3 : j + 1 ≤ ((m.set i y).map ai).length := by rw [List.length_map, List.length_set]; omega
  rw [hj]
  simp only [go_sem, simprocAttr, gR, hx', hy', p1, p2, q1, q2, hlt, hw1, hw2, b1, b2, ai, s2, s3, b3, List.set_set, Int.toNat_natCast]
  refine ⟨by omega, by rw [List.length_set]; omega, ?_⟩
  refine hK _ _ ((m.set i y).set j x, i + 1) ⟨by simp only [List.length_set]; omega, by simp only []; omega, fun k hk => ?_⟩ (by simp only []; omega) ?_
  ·have hxw : w[i]? = some x := by have := hm i q1; rw [if_neg (by omega), hx] at this; exact this.symm
   have hyw : w[j]? = some y := by have := hm j q2; rw [if_neg (by omega), hy] at this; exact this.symm
   by_cases e1 : k = j
   ·subst e1
    rw [List.getElem?_set_self (by rw [List.length_set]; omega), if_pos (.inr (by simp only []; omega)), ← hxw]
    congr 1; omega
   ·rw [List.getElem?_set_ne (fun e => e1 e.symm)]
    by_cases e2 : k = i
    ·subst e2
     rw [List.getElem?_set_self hil, if_pos (.inl (by simp only []; omega)), ← hyw]
     congr 1; omega
    ·rw [List.getElem?_set_ne (fun e => e2 e.symm), hm k hk]
     simp only []
     by_cases e3 : k < i ∨ w.length ≤ k + i
     ·rw [if_pos e3, if_pos (by omega)]
     ·rw [if_neg e3, if_neg (by omega)]
  ·(try dsimp only)
   rw [show ((w.length : Int) - 1 - ((i + 1 : Nat) : Int)) = (j : Int) - 1 by omega]
   exact Ghost.keep0 (by simp) ⟨⟨.refl _, .ref _ _ _ _ (by simpa using hRl)⟩, ⟨.refl _, .int _ _⟩, ⟨.refl _, .int _ _⟩, trivial⟩ (hids _)
 ·simp only [go_sem, simprocAttr, h, hE]
  have hmr : m = w.reverse := by
   refine List.ext_getElem? fun k => ?_
   by_cases hk : k < w.length
   ·rw [hm k hk, List.getElem?_reverse hk]
    split
    ·rfl
    ·rw [show w.length - 1 - k = k by omega]
   ·rw [List.getElem?_eq_none (by omega), List.getElem?_eq_none (by simp; omega)]
  rw [hmr]
  exact ret_gh0 (Ghost.keep0 (s' := []) (by simp) trivial (hids _)) (by simp) (hids _) ⟨rfl, rfl⟩
abbrev Bel := List (List Int)
abbrev ND := DN Bel
def cN (t : FTask) (a : Nat) : Int := costB t (a : Nat)
def idxB (ns : List ND) (u : Bel) : Nat := (ns.map (·.b)).idxOf u
def stepA (t : FTask) (n : Nat) (x : ND) (p : List ND × List It) (a : Nat) : Option (List ND × List It) :=
 match stB t x.b a with
 | none => some p
 | some u => match p.1[idxB p.1 u]? with
  | some y => if y.cost ≤ x.cost + cN t a then some p else some (p.1.set (idxB p.1 u) ⟨y.b, n, a, x.cost + cN t a⟩, pushL p.2 (idxB p.1 u, x.cost + cN t a))
  | none => if p.1.length + 1 > 20000 then none else some (p.1 ++ [⟨u, n, a, x.cost + cN t a⟩], pushL p.2 (p.1.length, x.cost + cN t a))
def foldA {α : Type} (f : α → Nat → Option α) (p : α) : Nat → Option α
 | 0 => some p
 | k + 1 => (foldA f p k).bind fun q => f q k
theorem foldA_none {α : Type} {f : α → Nat → Option α} {p : α} {k : Nat} (h : foldA f p k = none) : ∀ m, k ≤ m → foldA f p m = none
 | 0, hm => by
  have : k = 0 := by omega
  subst this; exact h
 | m + 1, hm => by
  rcases Nat.lt_or_ge k (m + 1) with q | q
  ·rw [foldA, foldA_none h m (by omega)]; rfl
  ·have : k = m + 1 := by omega
   subst this; exact h
theorem foldA_succ {α : Type} {f : α → Nat → Option α} {p q : α} {k : Nat} (h : foldA f p k = some q) : foldA f p (k + 1) = f q k := by rw [foldA, h]; rfl
structure FS where
 ns : List ND
 Q : List It
 best : Int
def bestF (t : FTask) (best : Int) (n : Nat) (x : ND) : Int := if best < 0 ∧ allH x.b t.goal = true then (n : Int) else best
def stepF (t : FTask) (s : FS) : Option FS := match s.Q[0]? with
 | none => none
 | some q => match s.ns[q.1]? with
  | none => none
  | some x => if x.cost < q.2 then some ⟨s.ns, popL s.Q, s.best⟩ else (foldA (stepA t q.1 x) (s.ns, popL s.Q) t.actions.length).map fun p => ⟨p.1, p.2, bestF t s.best q.1 x⟩
def startF (b : Bel) : FS := ⟨[⟨b, -1, 0, 0⟩], [(0, 0)], -1⟩
def iterF (t : FTask) (b : Bel) : Nat → Option FS
 | 0 => some (startF b)
 | k + 1 => (iterF t b k).bind (stepF t)
def FEnd (t : FTask) (b : Bel) (s : FS) : Prop := ∃ k, iterF t b k = some s ∧ iterF t b (k + 1) = none
theorem iterF_none {t : FTask} {b : Bel} {k : Nat} (h : iterF t b k = none) : ∀ m, k ≤ m → iterF t b m = none
 | 0, hm => by
  have : k = 0 := by omega
  subst this; exact h
 | m + 1, hm => by
  rcases Nat.lt_or_ge k (m + 1) with q | q
  ·rw [iterF, iterF_none h m (by omega)]; rfl
  ·have : k = m + 1 := by omega
   subst this; exact h
theorem FEnd.uniq {t : FTask} {b : Bel} {s s' : FS} (h : FEnd t b s) (h' : FEnd t b s') : s = s' := by
 obtain ⟨k, h1, h2⟩ := h
 obtain ⟨j, h3, h4⟩ := h'
 have : k = j := by
  rcases Nat.lt_trichotomy k j with q | q | q
  ·rw [iterF_none h2 j (by omega)] at h3; simp at h3
  ·exact q
  ·rw [iterF_none h4 k (by omega)] at h1; simp at h1
 subst this
 rw [h1] at h3; injection h3
theorem chain_uniq {ns : List ND} (h0 : ∀ x, ns[0]? = some x → x.fr = -1) {i : Nat} {l l' : List Nat} (h : Chain ns i l) (h' : Chain ns i l') : l = l' := by
 induction h generalizing l' with
 | nil =>
  cases h' with
  | nil => rfl
  | cons hx hf _ _ => have := h0 _ hx; omega
 | cons hx hf ha t ih =>
  cases h' with
  | nil => have := h0 _ hx; omega
  | cons hx' hf' ha' t' =>
   rw [hx] at hx'; injection hx' with hx'; subst hx'
   rw [hf] at hf'; rw [ha] at ha'
   have e1 := Int.ofNat.inj hf'
   have e2 := Int.ofNat.inj ha'
   subst e1; subst e2
   rw [ih t']
def Rch (t : FTask) (b u : Bel) : Prop := BelOk t.facts.length u ∧ ∃ l v, runD t.actions.length (stB t) (cN t) l b = some (u, v)
def goalF (t : FTask) (u : Bel) : Bool := allH u t.goal
def spaceR : AV := .tuple [.slice .nil [], .int .i64 0, .int .i64 3]
def manyB (t : FTask) (b : Bel) : Prop := ∃ bs : List Bel, bs.Nodup ∧ (∀ u ∈ bs, Rch t b u) ∧ 10000 < bs.length
def FindOk (t : FTask) (b : Bel) (r : AV) (s : FS) : Prop :=
 (s.Q ≠ [] ∧ r = spaceR ∧ manyB t b) ∨
 (s.Q = [] ∧ s.best = -1 ∧ r = .tuple [.slice .nil [], .int .i64 0, .int .i64 4] ∧ ∀ l v k, runD t.actions.length (stB t) (cN t) l b = some (v, k) → goalF t v = false) ∨
 (s.Q = [] ∧ ∃ (i : Nat) (x : ND) (l : List Nat), s.best = i ∧ s.ns[i]? = some x ∧ Chain s.ns i l ∧ (∀ x, s.ns[0]? = some x → x.fr = -1) ∧ (∀ a ∈ l, a < t.actions.length) ∧ runD t.actions.length (stB t) (cN t) l.reverse b = some (x.b, x.cost) ∧ goalF t x.b = true ∧
  (∀ l v k, runD t.actions.length (stB t) (cN t) l b = some (v, k) → goalF t v = true → x.cost ≤ k) ∧
  ((l.length ≤ 10000 ∧ r = .tuple [.slice .fresh ((l.reverse.map fun (a : Nat) => (a : Int)).map Ahl.encI), .int .i64 x.cost, .int .i64 0]) ∨ (10000 < l.length ∧ r = spaceR ∧ manyB t b)))
def FindOut (t : FTask) (b : Bel) (r : AV) : Prop :=
 (bErr t b ≠ 0 ∧ r = .tuple [.slice .nil [], .int .i64 0, .int .i64 (bErr t b)]) ∨ (bErr t b = 0 ∧ ∃ s, FEnd t b s ∧ FindOk t b r s)
theorem FindOut.uniq {t : FTask} {b : Bel} {r r' : AV} (h : FindOut t b r) (h' : FindOut t b r') : r = r' := by
 rcases h with ⟨h1, rfl⟩ | ⟨h1, s, h2, h3⟩ <;> rcases h' with ⟨k1, rfl⟩ | ⟨k1, s', k2, k3⟩
 ·rfl
 ·exact absurd k1 h1
 ·exact absurd h1 k1
 ·have e := h2.uniq k2
  subst e
  rcases h3 with ⟨a1, rfl, _⟩ | ⟨a1, a2, rfl, _⟩ | ⟨a1, i, x, l, a2, a3, a4, a0, _, _, _, _, a5⟩ <;> rcases k3 with ⟨b1, rfl, _⟩ | ⟨b1, b2, rfl, _⟩ | ⟨b1, j, y, m, b2, b3, b4, _, _, _, _, _, b5⟩
  ·rfl
  ·exact absurd b1 a1
  ·exact absurd b1 a1
  ·exact absurd a1 b1
  ·rfl
  ·omega
  ·exact absurd a1 b1
  ·omega
  ·have : i = j := by omega
   subst this
   rw [a3] at b3; injection b3 with b3; subst b3
   have := chain_uniq a0 a4 b4
   subst this
   rcases a5 with ⟨a6, rfl⟩ | ⟨a6, rfl, _⟩ <;> rcases b5 with ⟨b6, rfl⟩ | ⟨b6, rfl, _⟩
   ·rfl
   ·omega
   ·omega
   ·rfl
def encN (x : ND) : List AV := [.slice .unk (x.b.map encL), .int .i64 x.fr, .int .i64 x.act, .int .i64 x.cost]
theorem encN_len (x : ND) : (encN x).length = 4 := rfl
def nR (l : List ND) : List AV := rowC encN l
theorem nR_len (l : List ND) : (nR l).length = l.length * 4 := rowC_len encN_len l
theorem nR_get {l : List ND} {i : Nat} {x : ND} (h : l[i]? = some x) : (nR l)[i * 4]? = some (.slice .unk (x.b.map encL)) ∧ (nR l)[i * 4 + 1]? = some (.int .i64 x.fr) ∧ (nR l)[i * 4 + 2]? = some (.int .i64 x.act) ∧ (nR l)[i * 4 + 3]? = some (.int .i64 x.cost) := by
 refine ⟨?_, ?_, ?_, ?_⟩
 ·have := rowC_get encN_len h (show 0 < 4 by omega); rw [Nat.add_zero] at this; rw [nR, this]; rfl
 ·rw [nR, rowC_get encN_len h (by omega)]; rfl
 ·rw [nR, rowC_get encN_len h (by omega)]; rfl
 ·rw [nR, rowC_get encN_len h (by omega)]; rfl
theorem idsL_encN (n : Nat) (x : ND) : IdsL n (encN x) := idsL_cons (ids_map ids_encL _) (idsL_cons (.int _ _) (idsL_cons (.int _ _) (idsL_cons (.int _ _) idsL_nil)))
theorem ids_nR {n : Nat} (l : List ND) : IdsO n (.row (nR l)) := ids_rowC (idsL_encN n) l
def mapN (l : List ND) : List (AV × AV) := encKM keyB (l.map (·.b))
theorem ids_mapN (n : Nat) (l : List ND) : IdsO n (.map (mapN l)) := idsO_encKM _ _ _
theorem nR_write {l : List ND} {j : Nat} {y : ND} (h : l[j]? = some y) (f a c : Int) :
  (((nR l).set (j * 4 + 1) (.int .i64 f)).set (j * 4 + 2) (.int .i64 a)).set (j * 4 + 3) (.int .i64 c) = nR (l.set j ⟨y.b, f, a, c⟩) := by
 have hj := lt_of_get h
 have h1 := rowC_cell (f := encN) (k := 4) encN_len h (show 1 < 4 by omega) (v := .int .i64 f) (y := ⟨y.b, f, y.act, y.cost⟩) rfl
 have g1 : (l.set j ⟨y.b, f, y.act, y.cost⟩)[j]? = some ⟨y.b, f, y.act, y.cost⟩ := List.getElem?_set_self hj
 have h2 := rowC_cell (f := encN) (k := 4) encN_len g1 (show 2 < 4 by omega) (v := .int .i64 a) (y := ⟨y.b, f, a, y.cost⟩) rfl
 rw [List.set_set] at h2
 have g2 : (l.set j ⟨y.b, f, a, y.cost⟩)[j]? = some ⟨y.b, f, a, y.cost⟩ := List.getElem?_set_self hj
 have h3 := rowC_cell (f := encN) (k := 4) encN_len g2 (show 3 < 4 by omega) (v := .int .i64 c) (y := ⟨y.b, f, a, c⟩) rfl
 rw [List.set_set] at h3
 unfold nR
 rw [h1, h2, h3]
def sF (σ : Store) (t : FTask) (ns : List ND) (Q : List It) : Store := σ ++ [.row (encTask t), .map (mapN ns), .row [.ref (σ.length + 4) 2 0 Q.length], .row (nR ns), .row (qR Q)]
def sG (σ : Store) (t : FTask) (x : It) (ns : List ND) (Q : List It) : Store := σ ++ [.row (encTask t), .map (mapN ns), .row [.ref (σ.length + 5) 2 0 Q.length], .row (encIt x), .row (nR ns), .row (qR Q)]
end Go.Proofs.YtcjgoomlaojljaaGreat
