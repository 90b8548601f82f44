/- Contracts of the given program's functions, and an abstract layer over the model; no condition. -/
import Derived.Test.YtocphglkceidhaaGreatBase4
set_option linter.unusedVariables false
set_option linter.unusedSimpArgs false
namespace Go.Proofs.YtocphglkceidhaaGreat
open Go.Ahl
def c_some1 : CCode := .seq (.ops [⟨some 2, .box (.tmp 0), none, []⟩, ⟨some 3, .move (.lit (.bool false)), none, []⟩]) (.seq (.ops [⟨some 4, .load none (.tmp 1), none, []⟩, ⟨some 5, .load (some 2) (.tmp 2), none, []⟩, ⟨some 6, .bslice 2 [.tmp 5] false, none, []⟩, ⟨some 7, .call (.lit (.func 108 [])) [.tmp 4, .tmp 6], none, []⟩, ⟨some 3, .move (.tmp 7), none, []⟩]) .ret)
set_option maxRecDepth 20000 in
theorem some1_spec (s : List Int) (x : FLit) (tok : Tok) (V : Nat) (σ : Store) (hl : s.length ≤ 140737488355328) (hs : s.Pairwise (· < ·)) (hV : σ[V]? = some (.row [.slice tok (s.map Ahl.encI)])) :
    ACalls Tryz.prog 133 [.agg (encLit x), .ptr V 0] σ (isR (.bool (s.contains x.fact != x.neg)) σ) := by
  refine ACalls.intro (rs := [(.tmp 3)]) (by kernel_rfl) { own := [], ghosts := [] } Tryz.func133 (c := Tryz.f133.body.getD .skip) (by kernel_rfl) (by decide) (by rw [show Tryz.f133.ntmps = 8 by kernel_rfl]; exact Nat.le_of_ble_eq_true rfl) (by kernel_rfl) ?_
  intro hσ hids
  rw [show comp Tryz.prog { own := [], ghosts := [] } (Tryz.f133.body.getD .skip) = c_some1 by kernel_rfl, show Tryz.f133.ntmps = 8 by kernel_rfl]
  unfold c_some1
  have hV' : ∀ l, (σ ++ l)[V]? = some (.row [.slice tok (s.map Ahl.encI)]) := fun l => by rw [List.getElem?_append_left (lt_of_get hV)]; exact hV
  simp only [go_sem, Int.reduceToNat, Int.reduceLE, Int.reduceLT, Nat.reduceBEq, Nat.reduceLT, Nat.reduceAdd, Nat.reduceLeDiff, encLit, hV']
  refine (sTrue_spec s [x] tok _ _ hl hs (by simp)).is ?_
  simp only [go_sem, Int.reduceToNat, Int.reduceLE, Int.reduceLT, Nat.reduceBEq, Nat.reduceLT, Nat.reduceAdd, Nat.reduceLeDiff]
  first | exact rtw (v := .bool _) wkS ⟨by simp [condHolds], rfl⟩ | exact rtw0 (v := .bool _) wkS ⟨by simp [condHolds], rfl⟩
def c_some : CCode := .seq (.ops [⟨some 2, .box (.tmp 0), none, []⟩, ⟨some 4, .move (.lit (.bool false)), none, []⟩]) (.seq (.ops [⟨some 5, .move (.tmp 1), none, []⟩, ⟨some 6, .mkfunc 133 [.tmp 2], none, []⟩, ⟨some 7, .call (.lit (.func 132 [])) [.tmp 5, .tmp 6], none, []⟩, ⟨some 4, .move (.tmp 7), none, []⟩]) .ret)
set_option maxRecDepth 20000 in
theorem some_spec (s : List Int) (c : List FLit) (tok tok' : Tok) (σ : Store) (hl : s.length ≤ 140737488355328) (hs : s.Pairwise (· < ·)) (hc : c.length ≤ 140737488355328) :
    ACalls Tryz.prog 93 [.slice tok (s.map Ahl.encI), .slice tok' (c.map encLit)] σ (isR (.bool (clauseT s c)) σ) := by
  refine ACalls.intro (rs := [(.tmp 4)]) (by kernel_rfl) { own := [], ghosts := [] } Tryz.func93 (c := Tryz.f93.body.getD .skip) (by kernel_rfl) (by decide) (by rw [show Tryz.f93.ntmps = 8 by kernel_rfl]; exact Nat.le_of_ble_eq_true rfl) (by kernel_rfl) ?_
  intro hσ hids
  rw [show comp Tryz.prog { own := [], ghosts := [] } (Tryz.f93.body.getD .skip) = c_some by kernel_rfl, show Tryz.f93.ntmps = 8 by kernel_rfl]
  unfold c_some
  simp only [go_sem, Int.reduceToNat, Int.reduceLE, Int.reduceLT, Nat.reduceBEq, Nat.reduceLT, Nat.reduceAdd, Nat.reduceLeDiff]
  refine (containsFuncL_spec c _ _ (fun x => s.contains x.fact != x.neg) tok' _ hc (fun x _ => some1_spec s x tok _ _ hl hs (by simp))).is ?_
  simp only [go_sem, Int.reduceToNat, Int.reduceLE, Int.reduceLT, Nat.reduceBEq, Nat.reduceLT, Nat.reduceAdd, Nat.reduceLeDiff]
  first | exact rtw (v := .bool _) wkS ⟨rfl, rfl⟩ | exact rtw0 (v := .bool _) wkS ⟨rfl, rfl⟩
def c_every1 : CCode := .seq (.ops [⟨some 3, .move (.lit (.bool false)), none, []⟩]) (.seq (.ops [⟨some 4, .load none (.tmp 1), none, []⟩, ⟨some 5, .move (.tmp 0), none, []⟩, ⟨some 6, .call (.lit (.func 93 [])) [.tmp 4, .tmp 5], none, []⟩, ⟨some 7, .un .not (.tmp 6), none, []⟩, ⟨some 3, .move (.tmp 7), none, []⟩]) .ret)
set_option maxRecDepth 20000 in
theorem every1_spec (s : List Int) (c : List FLit) (tok : Tok) (V : Nat) (σ : Store) (hl : s.length ≤ 140737488355328) (hs : s.Pairwise (· < ·)) (hc : c.length ≤ 140737488355328) (hV : σ[V]? = some (.row [.slice tok (s.map Ahl.encI)])) :
    ACalls Tryz.prog 102 [.slice .unk (c.map encLit), .ptr V 0] σ (isR (.bool (!(clauseT s c))) σ) := by
  refine ACalls.intro (rs := [(.tmp 3)]) (by kernel_rfl) { own := [], ghosts := [] } Tryz.func102 (c := Tryz.f102.body.getD .skip) (by kernel_rfl) (by decide) (by rw [show Tryz.f102.ntmps = 8 by kernel_rfl]; exact Nat.le_of_ble_eq_true rfl) (by kernel_rfl) ?_
  intro hσ hids
  rw [show comp Tryz.prog { own := [], ghosts := [] } (Tryz.f102.body.getD .skip) = c_every1 by kernel_rfl, show Tryz.f102.ntmps = 8 by kernel_rfl]
  unfold c_every1
  simp only [go_sem, Int.reduceToNat, Int.reduceLE, Int.reduceLT, Nat.reduceBEq, Nat.reduceLT, Nat.reduceAdd, Nat.reduceLeDiff, hV]
  refine (some_spec s c tok .unk _ hl hs hc).is ?_
  simp only [go_sem, Int.reduceToNat, Int.reduceLE, Int.reduceLT, Nat.reduceBEq, Nat.reduceLT, Nat.reduceAdd, Nat.reduceLeDiff]
  first | exact rtw (v := .bool _) wkS ⟨rfl, rfl⟩ | exact rtw0 (v := .bool _) wkS ⟨rfl, rfl⟩
def c_every : CCode := .seq (.ops [⟨some 2, .box (.tmp 0), none, []⟩, ⟨some 4, .move (.lit (.bool false)), none, []⟩]) (.seq (.ops [⟨some 5, .move (.tmp 1), none, []⟩, ⟨some 6, .mkfunc 102 [.tmp 2], none, []⟩, ⟨some 7, .call (.lit (.func 56 [])) [.tmp 5, .tmp 6], none, []⟩, ⟨some 8, .un .not (.tmp 7), none, []⟩, ⟨some 4, .move (.tmp 8), none, []⟩]) .ret)
set_option maxRecDepth 20000 in
theorem every_spec (s : List Int) (l : List (List FLit)) (tok tok' : Tok) (σ : Store) (hl : s.length ≤ 140737488355328) (hs : s.Pairwise (· < ·)) (hf : FB l) :
    ACalls Tryz.prog 69 [.slice tok (s.map Ahl.encI), .slice tok' (l.map encC)] σ (isR (.bool (clausesT s l)) σ) := by
  refine ACalls.intro (rs := [(.tmp 4)]) (by kernel_rfl) { own := [], ghosts := [] } Tryz.func69 (c := Tryz.f69.body.getD .skip) (by kernel_rfl) (by decide) (by rw [show Tryz.f69.ntmps = 9 by kernel_rfl]; exact Nat.le_of_ble_eq_true rfl) (by kernel_rfl) ?_
  intro hσ hids
  rw [show comp Tryz.prog { own := [], ghosts := [] } (Tryz.f69.body.getD .skip) = c_every by kernel_rfl, show Tryz.f69.ntmps = 9 by kernel_rfl]
  unfold c_every
  simp only [go_sem, Int.reduceToNat, Int.reduceLE, Int.reduceLT, Nat.reduceBEq, Nat.reduceLT, Nat.reduceAdd, Nat.reduceLeDiff]
  refine (containsFuncC_spec (fun l => .slice .unk (l.map encLit)) l _ [.ptr σ.length 0] (fun c => !(clauseT s c)) tok' (σ ++ [.row [.slice tok (s.map Ahl.encI)]]) hf.1 (fun c hm => every1_spec s c tok σ.length _ hl hs (hf.2 c hm) (by rw [List.getElem?_append_right (Nat.le_refl _), Nat.sub_self]; rfl))).is ?_
  simp only [go_sem, Int.reduceToNat, Int.reduceLE, Int.reduceLT, Nat.reduceBEq, Nat.reduceLT, Nat.reduceAdd, Nat.reduceLeDiff]
  first | exact rtw (v := .bool _) wkS ⟨by rw [any_not]; rfl, rfl⟩ | exact rtw0 (v := .bool _) wkS ⟨by rw [any_not]; rfl, rfl⟩
def c_clauses1 : CCode := .seq (.ops [⟨some 3, .move (.lit (.bool false)), none, []⟩]) (.seq (.ops [⟨some 4, .faddr 0 (.tmp 1), none, []⟩, ⟨some 5, .load none (.tmp 4), none, []⟩, ⟨some 6, .blen 1 (.tmp 5), none, []⟩, ⟨some 7, .move (.tmp 0), none, []⟩, ⟨some 8, .call (.lit (.func 65 [])) [.tmp 6, .tmp 7], none, []⟩, ⟨some 9, .un .not (.tmp 8), none, []⟩, ⟨some 3, .move (.tmp 9), none, []⟩]) .ret)
set_option maxRecDepth 20000 in
theorem clauses1_spec (t : FTask) (l : List FLit) (id : Nat) (σ : Store) (hl : l.length ≤ 140737488355328) (hid : σ[id]? = some (.row (encTask t))) :
    ACalls Tryz.prog 78 [.slice .unk (l.map encLit), .ptr id 0] σ (isR (.bool (!(condB t.facts.length (-1) l))) σ) := by
  refine ACalls.intro (rs := [(.tmp 3)]) (by kernel_rfl) { own := [], ghosts := [] } Tryz.func78 (c := Tryz.f78.body.getD .skip) (by kernel_rfl) (by decide) (by rw [show Tryz.f78.ntmps = 10 by kernel_rfl]; exact Nat.le_of_ble_eq_true rfl) (by kernel_rfl) ?_
  intro hσ hids
  rw [show comp Tryz.prog { own := [], ghosts := [] } (Tryz.f78.body.getD .skip) = c_clauses1 by kernel_rfl, show Tryz.f78.ntmps = 10 by kernel_rfl]
  unfold c_clauses1
  simp only [encTask] at hid
  simp only [go_sem, Int.reduceToNat, Int.reduceLE, Int.reduceLT, Nat.reduceBEq, Nat.reduceLT, Nat.reduceAdd, Nat.reduceLeDiff, hid]
  refine (cond_spec l t.facts.length .unk _ hl).is ?_
  simp only [go_sem, Int.reduceToNat, Int.reduceLE, Int.reduceLT, Nat.reduceBEq, Nat.reduceLT, Nat.reduceAdd, Nat.reduceLeDiff]
  first | exact rtw (v := .bool _) wkS ⟨rfl, rfl⟩ | exact rtw0 (v := .bool _) wkS ⟨rfl, rfl⟩
/-- Is a list a set of clauses? -/
def isClauses (n : Int) (l : List (List FLit)) : Bool := decide (l.length ≤ 2000) && formB n l
def clE (t : FTask) (l : List (List FLit)) : Int := if validB t then (if isClauses t.facts.length l then 0 else 70) else 10
def c_clauses : CCode := .seq (.ops [⟨some 2, .box (.tmp 0), none, []⟩, ⟨some 4, .move (.lit (.int .i64 0)), none, []⟩]) (.seq (.seq (.ops [⟨some 5, .load (some 4) (.tmp 2), none, []⟩, ⟨some 6, .call (.lit (.func 53 [])) [.tmp 5], none, []⟩, ⟨some 7, .un .not (.tmp 6), none, []⟩]) (.cond (.tmp 7) (.seq (.ops [⟨some 4, .move (.lit (.int .i64 10)), none, []⟩]) .ret) .skip)) (.seq (.seq (.ops [⟨some 8, .move (.tmp 1), none, []⟩, ⟨some 9, .blen 1 (.tmp 8), none, []⟩, ⟨some 10, .bin .gtr .none (.tmp 9) (.lit (.int .i64 2000)), none, []⟩, ⟨some 11, .move (.tmp 10), none, []⟩, ⟨some 12, .move (.tmp 1), some (some 11, false), []⟩, ⟨some 13, .mkfunc 78 [.tmp 2], some (some 11, false), []⟩, ⟨some 14, .call (.lit (.func 56 [])) [.tmp 12, .tmp 13], some (some 11, false), []⟩, ⟨some 15, .pick (.tmp 11) (.lit (.bool true)) (.tmp 14), none, []⟩]) (.cond (.tmp 15) (.seq (.ops [⟨some 4, .move (.lit (.int .i64 70)), none, []⟩]) .ret) .skip)) (.seq (.ops [⟨some 4, .move (.lit (.int .i64 0)), none, []⟩]) .ret)))
set_option maxRecDepth 20000 in
theorem clauses_spec (t : FTask) (l : List (List FLit)) (tok : Tok) (σ : Store) (ht : TB t) (hl : FB l) :
    ACalls Tryz.prog 37 [.agg (encTask t), .slice tok (l.map encC)] σ (isR (.int .i64 (clE t l)) σ) := by
  refine ACalls.intro (rs := [(.tmp 4)]) (by kernel_rfl) { own := [], ghosts := [] } Tryz.func37 (c := Tryz.f37.body.getD .skip) (by kernel_rfl) (by decide) (by rw [show Tryz.f37.ntmps = 16 by kernel_rfl]; exact Nat.le_of_ble_eq_true rfl) (by kernel_rfl) ?_
  intro hσ hids
  rw [show comp Tryz.prog { own := [], ghosts := [] } (Tryz.f37.body.getD .skip) = c_clauses by kernel_rfl, show Tryz.f37.ntmps = 16 by kernel_rfl]
  unfold c_clauses
  simp only [go_sem, Int.reduceToNat, Int.reduceLE, Int.reduceLT, Nat.reduceBEq, Nat.reduceLT, Nat.reduceAdd, Nat.reduceLeDiff, encTask]
  refine (valid_spec t _ ht).is ?_
  cases h1 : validB t
  · simp only [go_sem, Int.reduceToNat, Int.reduceLE, Int.reduceLT, Nat.reduceBEq, Nat.reduceLT, Nat.reduceAdd, Nat.reduceLeDiff]
    first | exact rtk (.int .i64 10) ⟨by rw [clE, h1]; rfl, rfl⟩ | exact rtk0 (.int .i64 10) ⟨by rw [clE, h1]; rfl, rfl⟩
  by_cases h : (l.length : Int) > 2000
  · simp only [go_sem, Int.reduceToNat, Int.reduceLE, Int.reduceLT, Nat.reduceBEq, Nat.reduceLT, Nat.reduceAdd, Nat.reduceLeDiff, h]
    first | exact rtk (.int .i64 70) ⟨by rw [clE, h1, isClauses, decide_eq_false (by omega : ¬ l.length ≤ 2000)]; rfl, rfl⟩ | exact rtk0 (.int .i64 70) ⟨by rw [clE, h1, isClauses, decide_eq_false (by omega : ¬ l.length ≤ 2000)]; rfl, rfl⟩
  simp only [go_sem, Int.reduceToNat, Int.reduceLE, Int.reduceLT, Nat.reduceBEq, Nat.reduceLT, Nat.reduceAdd, Nat.reduceLeDiff, h]
  refine (containsFuncC_spec (fun l => .slice .unk (l.map encLit)) l _ [.ptr σ.length 0] (fun l => !(condB t.facts.length (-1) l)) tok (σ ++ [.row (encTask t)]) hl.1 (fun c hm => clauses1_spec t c σ.length _ (hl.2 c hm) (by rw [List.getElem?_append_right (Nat.le_refl _), Nat.sub_self]; rfl))).is ?_
  have hf : l.any (fun c => !(condB t.facts.length (-1) c)) = !(formB t.facts.length l) := by
    rw [← Bool.not_not (l.any _), any_not]; rfl
  rw [hf]
  cases h2 : formB t.facts.length l
  · simp only [go_sem, Int.reduceToNat, Int.reduceLE, Int.reduceLT, Nat.reduceBEq, Nat.reduceLT, Nat.reduceAdd, Nat.reduceLeDiff]
    first | exact rtk (.int .i64 70) ⟨by rw [clE, h1, isClauses, decide_eq_true (by omega : l.length ≤ 2000), h2]; rfl, rfl⟩ | exact rtk0 (.int .i64 70) ⟨by rw [clE, h1, isClauses, decide_eq_true (by omega : l.length ≤ 2000), h2]; rfl, rfl⟩
  · simp only [go_sem, Int.reduceToNat, Int.reduceLE, Int.reduceLT, Nat.reduceBEq, Nat.reduceLT, Nat.reduceAdd, Nat.reduceLeDiff]
    first | exact rtk (.int .i64 0) ⟨by rw [clE, h1, isClauses, decide_eq_true (by omega : l.length ≤ 2000), h2]; rfl, rfl⟩ | exact rtk0 (.int .i64 0) ⟨by rw [clE, h1, isClauses, decide_eq_true (by omega : l.length ≤ 2000), h2]; rfl, rfl⟩
/-- Whether clauses hold, and the error. -/
def ihR (t : FTask) (s : List Int) (l : List (List FLit)) : AV :=
  if stE t s = 0 then (if clE t l = 0 then .tuple [.bool (clausesT s l), .int .i64 0] else .tuple [.bool false, .int .i64 (clE t l)]) else .tuple [.bool false, .int .i64 (stE t s)]
theorem stE_rising {t : FTask} {s : List Int} (h : stE t s = 0) : risingB t.facts.length (-1) s = true := by
  unfold stE at h
  split at h
  · split at h
    · assumption
    · simp at h
  · simp at h
def c_iHolds : CCode := .seq (.ops [⟨some 3, .box (.tmp 0), none, []⟩, ⟨some 6, .move (.lit (.bool false)), none, []⟩, ⟨some 7, .move (.lit (.int .i64 0)), none, []⟩]) (.seq (.seq (.ops [⟨some 10, .load (some 4) (.tmp 3), none, []⟩, ⟨some 11, .move (.tmp 1), none, []⟩, ⟨some 12, .call (.lit (.func 68 [])) [.tmp 10, .tmp 11], none, []⟩, ⟨some 8, .move (.tmp 12), none, []⟩]) (.seq (.ops [⟨some 13, .move (.tmp 8), none, []⟩, ⟨some 14, .bin .neq .none (.tmp 13) (.lit (.int .i64 0)), none, []⟩]) (.cond (.tmp 14) (.seq (.ops [⟨some 15, .move (.tmp 8), none, []⟩, ⟨some 6, .move (.lit (.bool false)), none, []⟩, ⟨some 7, .move (.tmp 15), none, []⟩]) .ret) .skip))) (.seq (.seq (.ops [⟨some 16, .load (some 4) (.tmp 3), none, []⟩, ⟨some 17, .move (.tmp 2), none, []⟩, ⟨some 18, .call (.lit (.func 37 [])) [.tmp 16, .tmp 17], none, []⟩, ⟨some 9, .move (.tmp 18), none, []⟩]) (.seq (.ops [⟨some 19, .move (.tmp 9), none, []⟩, ⟨some 20, .bin .neq .none (.tmp 19) (.lit (.int .i64 0)), none, []⟩]) (.cond (.tmp 20) (.seq (.ops [⟨some 21, .move (.tmp 9), none, []⟩, ⟨some 6, .move (.lit (.bool false)), none, []⟩, ⟨some 7, .move (.tmp 21), none, []⟩]) .ret) .skip))) (.seq (.ops [⟨some 22, .move (.tmp 1), none, []⟩, ⟨some 23, .move (.tmp 2), none, []⟩, ⟨some 24, .call (.lit (.func 69 [])) [.tmp 22, .tmp 23], none, []⟩, ⟨some 6, .move (.tmp 24), none, []⟩, ⟨some 7, .move (.lit (.int .i64 0)), none, []⟩]) .ret)))
set_option maxRecDepth 20000 in
theorem iHolds_spec (t : FTask) (s : List Int) (l : List (List FLit)) (tok tok' : Tok) (σ : Store) (ht : TB t) (hs : s.length ≤ 140737488355328) (hl : FB l) :
    ACalls Tryz.prog 25 [.agg (encTask t), .slice tok (s.map Ahl.encI), .slice tok' (l.map encC)] σ (isR (ihR t s l) σ) := by
  refine ACalls.intro (rs := [(.tmp 6), (.tmp 7)]) (by kernel_rfl) { own := [], ghosts := [] } Tryz.func25 (c := Tryz.f25.body.getD .skip) (by kernel_rfl) (by decide) (by rw [show Tryz.f25.ntmps = 25 by kernel_rfl]; exact Nat.le_of_ble_eq_true rfl) (by kernel_rfl) ?_
  intro hσ hids
  rw [show comp Tryz.prog { own := [], ghosts := [] } (Tryz.f25.body.getD .skip) = c_iHolds by kernel_rfl, show Tryz.f25.ntmps = 25 by kernel_rfl]
  unfold c_iHolds
  simp only [go_sem, Int.reduceToNat, Int.reduceLE, Int.reduceLT, Nat.reduceBEq, Nat.reduceLT, Nat.reduceAdd, Nat.reduceLeDiff, encTask]
  refine (sFine_spec t s tok _ ht hs).is ?_
  by_cases h1 : stE t s = 0
  · rw [h1]
    simp only [go_sem, Int.reduceToNat, Int.reduceLE, Int.reduceLT, Nat.reduceBEq, Nat.reduceLT, Nat.reduceAdd, Nat.reduceLeDiff, encTask]
    refine (clauses_spec t l tok' _ ht hl).is ?_
    by_cases h2 : clE t l = 0
    · rw [h2]
      simp only [go_sem, Int.reduceToNat, Int.reduceLE, Int.reduceLT, Nat.reduceBEq, Nat.reduceLT, Nat.reduceAdd, Nat.reduceLeDiff]
      refine (every_spec s l tok tok' _ hs (rising_pw (stE_rising h1)).1 hl).is ?_
      simp only [go_sem, Int.reduceToNat, Int.reduceLE, Int.reduceLT, Nat.reduceBEq, Nat.reduceLT, Nat.reduceAdd, Nat.reduceLeDiff]
      first | exact rtx (v := .bool _) (x := .int .i64 0) wkS wkS ⟨by rw [ihR, if_pos h1, if_pos h2], rfl⟩ | exact rtx0 (v := .bool _) (x := .int .i64 0) wkS wkS ⟨by rw [ihR, if_pos h1, if_pos h2], rfl⟩
    · have h2' : (clE t l != 0) = true := by simpa using h2
      simp only [go_sem, Int.reduceToNat, Int.reduceLE, Int.reduceLT, Nat.reduceBEq, Nat.reduceLT, Nat.reduceAdd, Nat.reduceLeDiff, h2']
      first | exact rtl (.bool false) (.int .i64 (clE t l)) ⟨by rw [ihR, if_pos h1, if_neg h2], rfl⟩ | exact rtl0 (.bool false) (.int .i64 (clE t l)) ⟨by rw [ihR, if_pos h1, if_neg h2], rfl⟩
  · have h1' : (stE t s != 0) = true := by simpa using h1
    simp only [go_sem, Int.reduceToNat, Int.reduceLE, Int.reduceLT, Nat.reduceBEq, Nat.reduceLT, Nat.reduceAdd, Nat.reduceLeDiff, h1']
    first | exact rtl (.bool false) (.int .i64 (stE t s)) ⟨by rw [ihR, if_neg h1], rfl⟩ | exact rtl0 (.bool false) (.int .i64 (stE t s)) ⟨by rw [ihR, if_neg h1], rfl⟩
theorem bitsL_len (n k : Nat) : (bitsL n k).length ≤ n := by
  unfold bitsL; rw [List.length_map]; exact Nat.le_trans (List.length_filter_le _ _) (by simp)
def c_stateOf : CCode := .seq (.ops [⟨some 4, .move (.lit (.slice .nil [])), none, []⟩]) (.seq (.ops [⟨some 5, .move (.lit (.slice .nil [])), none, []⟩]) (.seq (.seq (.ops [⟨some 7, .move (.tmp 0), none, []⟩, ⟨some 8, .move (.lit (.int .i64 0)), none, []⟩]) (.block 0 (.loop (.seq (.ops [⟨some 9, .bin .lss .none (.tmp 8) (.tmp 7), none, []⟩]) (.seq (.cond (.tmp 9) .skip (.exit 0)) (.seq (.block 1 (.seq (.ops [⟨some 10, .move (.tmp 8), none, []⟩, ⟨some 6, .move (.tmp 10), none, []⟩]) (.seq (.ops [⟨some 11, .move (.tmp 1), none, []⟩, ⟨some 12, .move (.tmp 6), none, []⟩, ⟨some 13, .bin .shr .none (.tmp 11) (.tmp 12), none, []⟩, ⟨some 14, .bin .and .none (.tmp 13) (.lit (.int .i64 1)), none, []⟩, ⟨some 15, .bin .eql .none (.tmp 14) (.lit (.int .i64 1)), none, []⟩]) (.cond (.tmp 15) (.ops [⟨some 16, .move (.tmp 5), none, []⟩, ⟨some 17, .move (.tmp 6), none, []⟩, ⟨some 18, .bslice 1 [.tmp 17] false, none, []⟩, ⟨some 19, .bappend 1 8 (.tmp 16) (.tmp 18) false, none, []⟩, ⟨some 5, .move (.tmp 19), none, []⟩]) .skip)))) (.ops [⟨some 20, .bin .add .none (.tmp 8) (.lit (.int .i64 1)), none, []⟩, ⟨some 8, .move (.tmp 20), none, []⟩]))))))) (.seq (.ops [⟨some 21, .move (.tmp 5), none, []⟩, ⟨some 4, .move (.tmp 21), none, []⟩]) .ret)))
set_option maxRecDepth 20000 in
theorem stateOf_spec (n k : Nat) (σ : Store) (hn : n ≤ 59) (hk : k < 1152921504606846976) : ACalls Tryz.prog 134 [.int .i64 n, .int .i64 k] σ (isR (.slice .unk ((bitsL n k).map Ahl.encI)) σ) := by
  refine ACalls.intro (rs := [(.tmp 4)]) (by kernel_rfl) { own := [], ghosts := [] } Tryz.func134 (c := Tryz.f134.body.getD .skip) (by kernel_rfl) (by decide) (by rw [show Tryz.f134.ntmps = 22 by kernel_rfl]; exact Nat.le_of_ble_eq_true rfl) (by kernel_rfl) ?_
  intro hσ hids
  rw [show comp Tryz.prog { own := [], ghosts := [] } (Tryz.f134.body.getD .skip) = c_stateOf by kernel_rfl, show Tryz.f134.ntmps = 22 by kernel_rfl]
  unfold c_stateOf
  have hs1 : ∀ k : Nat, IdsS (σ ++ [AObj.grow 1 k]).length (σ ++ [AObj.grow 1 k]) := fun k => idsS_push hσ trivial
  simp only [go_sem, Int.reduceToNat, Int.reduceLE, Int.reduceLT, Nat.reduceBEq, Nat.reduceLT, Nat.reduceAdd, Nat.reduceLeDiff]
  refine wpc_while (fun (i : Nat) => [(5, .slice (.grow σ.length) ((bitsL i k).map Ahl.encI)), (1, .int .i64 k), (7, .int .i64 n), (8, .int .i64 i)]) (fun i => σ ++ [.grow 1 (bitsL i k).length])
    (fun i => i ≤ n) (fun i => n - i) 0 (Nat.zero_le _) (by first | exact .begin0 5 1 _ (Nat.le_refl _) tellT hσ | exact .begin 5 1 _ (Nat.le_refl _) tellT hσ) ?_
  intro i hi K hK hE hR
  by_cases h : i < n
  · have hlt : ((i : Int) < (n : Int)) := by omega
    have hw : IntKind.i64.wrap ((i : Int) + 1) = ((i + 1 : Nat) : Int) := by rw [wrap_ok (by omega)]; omega
    have hbl := bitsL_len i k
    have hb1 : bigLen ((bitsL i k).length + 1) 8 := big_ok (by omega) (by omega)
    have hbit := bit_and (k := k) (x := i) hk (by omega)
    have h0 : (0 : Int) ≤ (i : Int) := by omega
    have hsu := bitsL_succ i k
    cases hb : k.testBit i
    · rw [hb] at hsu hbit
      simp only [Bool.false_eq_true, if_false] at hbit hsu
      rw [List.append_nil] at hsu
      simp only [go_sem, Int.reduceToNat, Int.reduceLE, Int.reduceLT, Nat.reduceBEq, Nat.reduceLT, Nat.reduceAdd, Nat.reduceLeDiff, hlt, h0, Int.toNat_natCast]
      erw [hbit]
      simp only [go_sem, Int.reduceToNat, Int.reduceLE, Int.reduceLT, Nat.reduceBEq, Nat.reduceLT, Nat.reduceAdd, Nat.reduceLeDiff, Int.reduceBEq]
      refine hK _ _ (i + 1) (by omega) (by omega) ?_
      (try dsimp only); simp only [hw, hsu]; first | exact ghL (hs1 _) | exact ghL0 (hs1 _)
    · rw [hb] at hsu hbit
      simp only [if_true] at hbit hsu
      simp only [go_sem, Int.reduceToNat, Int.reduceLE, Int.reduceLT, Nat.reduceBEq, Nat.reduceLT, Nat.reduceAdd, Nat.reduceLeDiff, hlt, h0, Int.toNat_natCast]
      erw [hbit]
      simp only [go_sem, Int.reduceToNat, Int.reduceLE, Int.reduceLT, Nat.reduceBEq, Nat.reduceLT, Nat.reduceAdd, Nat.reduceLeDiff, Int.reduceBEq, hb1]
      have hc : (bitsL i k).map Ahl.encI ++ [[AV.int .i64 i]] = (bitsL (i + 1) k).map Ahl.encI := by rw [hsu]; simp [Ahl.encI]
      have hc2 : (bitsL i k).length + 1 = (bitsL (i + 1) k).length := by rw [hsu]; simp
      refine hK _ _ (i + 1) (by omega) (by omega) ?_
      (try dsimp only); simp only [hw, hc, hc2]; exact ghL (hs1 _)
  · have hlt : ¬ ((i : Int) < (n : Int)) := by omega
    obtain rfl : i = n := by omega
    simp only [go_sem, Int.reduceToNat, Int.reduceLE, Int.reduceLT, Nat.reduceBEq, Nat.reduceLT, Nat.reduceAdd, Nat.reduceLeDiff, hlt, hE]
    first | exact rtk (.slice .unk ((bitsL i k).map Ahl.encI)) ⟨rfl, rfl⟩ | exact rtk0 (.slice .unk ((bitsL i k).map Ahl.encI)) ⟨rfl, rfl⟩
end Go.Proofs.YtocphglkceidhaaGreat
namespace Go.Proofs.YtocphglkceidhaaGreat
open Go.Ahl
/-- States are visited, until one time no more is wanted. -/
def foldV {α : Type} (ok : List Int → Bool) (nx : List Int → List Int) (step : α → List Int → α × Bool) : α → List (List Int) → α
  | x, [] => x
  | x, s :: r => if ok s then (if (step x (nx s)).2 then foldV ok nx step (step x (nx s)).1 r else (step x (nx s)).1) else foldV ok nx step x r
def c_iafter : CCode := .seq (.ops [⟨some 4, .box (.tmp 0), none, []⟩, ⟨some 6, .box (.tmp 2), none, []⟩]) (.seq (.ops [⟨some 10, .faddr 0 (.tmp 4), none, []⟩, ⟨some 11, .load none (.tmp 10), none, []⟩, ⟨some 12, .blen 1 (.tmp 11), none, []⟩, ⟨some 13, .bin .shl .none (.lit (.int .i64 1)) (.tmp 12), none, []⟩, ⟨some 14, .move (.lit (.int .i64 0)), none, []⟩]) (.block 0 (.loop (.seq (.ops [⟨some 15, .bin .lss .none (.tmp 14) (.tmp 13), none, []⟩]) (.seq (.cond (.tmp 15) .skip (.exit 0)) (.seq (.block 1 (.seq (.ops [⟨some 16, .move (.tmp 14), none, []⟩, ⟨some 8, .move (.tmp 16), none, []⟩]) (.seq (.ops [⟨some 17, .faddr 0 (.tmp 4), none, []⟩, ⟨some 18, .load none (.tmp 17), none, []⟩, ⟨some 19, .blen 1 (.tmp 18), none, []⟩, ⟨some 20, .move (.tmp 8), none, []⟩, ⟨some 21, .call (.lit (.func 134 [])) [.tmp 19, .tmp 20], none, []⟩, ⟨some 9, .move (.tmp 21), none, []⟩]) (.seq (.ops [⟨some 22, .move (.tmp 9), none, []⟩, ⟨some 23, .faddr 2 (.tmp 6), none, []⟩, ⟨some 24, .load none (.tmp 23), none, []⟩, ⟨some 25, .call (.lit (.func 108 [])) [.tmp 22, .tmp 24], none, []⟩, ⟨some 26, .move (.tmp 25), none, []⟩, ⟨some 27, .move (.tmp 9), some (some 26, true), []⟩, ⟨some 28, .move (.tmp 1), some (some 26, true), []⟩, ⟨some 29, .call (.lit (.func 69 [])) [.tmp 27, .tmp 28], some (some 26, true), []⟩, ⟨some 30, .pick (.tmp 26) (.tmp 29) (.lit (.bool false)), none, []⟩, ⟨some 31, .move (.tmp 30), none, []⟩, ⟨some 32, .move (.tmp 3), some (some 31, true), []⟩, ⟨some 33, .move (.tmp 9), some (some 31, true), []⟩, ⟨some 34, .load (some 4) (.tmp 6), some (some 31, true), []⟩, ⟨some 35, .call (.lit (.func 135 [])) [.tmp 33, .tmp 34], some (some 31, true), []⟩, ⟨some 36, .call (.tmp 32) [.tmp 35], some (some 31, true), []⟩, ⟨some 37, .un .not (.tmp 36), some (some 31, true), []⟩, ⟨some 38, .pick (.tmp 31) (.tmp 37) (.lit (.bool false)), none, []⟩]) (.cond (.tmp 38) .ret .skip))))) (.ops [⟨some 39, .bin .add .none (.tmp 14) (.lit (.int .i64 1)), none, []⟩, ⟨some 14, .move (.tmp 39), none, []⟩])))))))
set_option maxRecDepth 20000 in
set_option maxHeartbeats 1000000 in
theorem iafter_spec {α : Type} (t : FTask) (l : List (List FLit)) (a : FAct) (g : FuncId) (cap : List AV) (tok : Tok) (σ : Store) (st : α → Store) (step : α → List Int → α × Bool) (x0 : α)
    (hn : t.facts.length ≤ 12) (hl : FB l) (hap : a.pre.length ≤ 140737488355328) (hae : a.effects.length ≤ 1000000) (hwh : ∀ e ∈ a.effects, e.when_.length ≤ 140737488355328) (hfa : ∀ e ∈ a.effects, 0 ≤ e.lit.fact ∧ e.lit.fact < (t.facts.length : Int))
    (hcap : Ids σ.length (.func g cap)) (h0 : st x0 = σ) (hst : ∀ x, (st x).length = σ.length ∧ IdsS (st x).length (st x))
    (hv : ∀ x s tl, risingB t.facts.length (-1) s = true → ACalls Tryz.prog g (.slice .unk (s.map Ahl.encI) :: cap) (st x ++ tl) (isR (.bool (step x s).2) (st (step x s).1 ++ tl))) :
    ACalls Tryz.prog 94 [.agg (encTask t), .slice tok (l.map encC), .agg (encA a), .func g cap] σ
      (isR (.tuple []) (st (foldV (fun s => condHolds s a.pre && clausesT s l) (fun s => afterL t.facts.length s a) step x0 (statesL t.facts.length)))) := by
  subst h0
  refine ACalls.intro (rs := []) (by kernel_rfl) { own := [], ghosts := [] } Tryz.func94 (c := Tryz.f94.body.getD .skip) (by kernel_rfl) (by decide) (by rw [show Tryz.f94.ntmps = 40 by kernel_rfl]; exact Nat.le_of_ble_eq_true rfl) (by kernel_rfl) ?_
  intro hσ hids
  rw [show comp Tryz.prog { own := [], ghosts := [] } (Tryz.f94.body.getD .skip) = c_iafter by kernel_rfl, show Tryz.f94.ntmps = 40 by kernel_rfl]
  unfold c_iafter
  obtain ⟨N, hN⟩ : ∃ N, N = (st x0).length := ⟨_, rfl⟩
  have hlen : ∀ x, (st x).length = N := fun x => by rw [hN]; exact (hst x).1
  have hT0 : ∀ x a r, (st x ++ a :: r)[N]? = some a := fun x a r => by rw [← hlen x, List.getElem?_append_right (Nat.le_refl _), Nat.sub_self]; rfl
  have hT1 : ∀ x a b r, (st x ++ a :: b :: r)[N + 1]? = some b := fun x a b r => by rw [← hlen x, List.getElem?_append_right (by omega), Nat.add_sub_cancel_left]; rfl
  have hil : Ids N (.slice tok (l.map encC)) := by rw [hN]; exact hids _ (by simp)
  have hid' : ∀ x, IdsS (st x ++ [AObj.row (encTask t), .row (encA a)]).length (st x ++ [AObj.row (encTask t), .row (encA a)]) := fun x => idsS_app _ (hst x).2 (all_cons' (idsO_row (ids_encTask t)) (all_cons' (idsO_row (ids_encA a)) all_nil'))
  obtain ⟨p, hpe⟩ : ∃ p, p = 2 ^ t.facts.length := ⟨_, rfl⟩
  have hp : p ≤ 4096 := by rw [hpe]; exact Nat.pow_le_pow_right (n := 2) (by omega) hn
  have hw2 : IntKind.i64.wrap (1 * 2 ^ min t.facts.length 64) = (p : Int) := by
    rw [Nat.min_eq_left (by omega), Int.one_mul, show ((2 : Int) ^ t.facts.length) = (p : Int) by rw [hpe]; simp, wrap_ok (by omega)]
  have hstl : ∀ j, j < p → (statesL t.facts.length)[j]? = some (bitsL t.facts.length j) := fun j hj => by
    rw [← bits_all, List.getElem?_map, List.getElem?_range (by rw [← hpe]; exact hj)]; rfl
  have hsl : (statesL t.facts.length).length = p := by rw [statesL_len, hpe]
  rw [← hN] at hcap
  let ok : List Int → Bool := fun s => condHolds s a.pre && clausesT s l
  let nx : List Int → List Int := fun s => afterL t.facts.length s a
  simp only [go_sem, Int.reduceToNat, Int.reduceLE, Int.reduceLT, Nat.reduceBEq, Nat.reduceLT, Nat.reduceAdd, Nat.reduceLeDiff, encTask, encA, hT0, Int.toNat_natCast, IntKind.bits, hw2, ← hN]
  refine wpc_while (fun (q : Nat × α) => [(1, .slice tok (l.map encC)), (3, .func g cap), (4, .ptr N 0), (6, .ptr (N + 1) 0), (13, .int .i64 p), (14, .int .i64 q.1)])
    (fun q => st q.2 ++ [.row (encTask t), .row (encA a)]) (fun q => q.1 ≤ p ∧ foldV ok nx step x0 (statesL t.facts.length) = foldV ok nx step q.2 ((statesL t.facts.length).drop q.1)) (fun q => p - q.1) (0, x0) ⟨Nat.zero_le _, rfl⟩
    (by have hl0 := hlen x0; first | exact ghP0 (hid' x0) | exact ghP (l := [.row (encTask t), .row (encA a)]) (hid' x0)) ?_
  rintro ⟨j, x⟩ ⟨hj, hv'⟩ K hK hE hR
  dsimp only at hj hv' ⊢
  have hlx := hlen x
  by_cases h : j < p
  · have hlt : ((j : Int) < (p : Int)) := by omega
    have hw : IntKind.i64.wrap ((j : Int) + 1) = ((j + 1 : Nat) : Int) := by rw [wrap_ok (by omega)]; omega
    rw [drop_cons (hstl j h), foldV] at hv'
    have hbr : risingB t.facts.length (-1) (bitsL t.facts.length j) = true := (statesL_mem _ _ (List.mem_of_getElem? (hstl j h))).2
    have hbl := bitsL_len t.facts.length j
    have hpw := (rising_pw hbr).1
    simp only [go_sem, Int.reduceToNat, Int.reduceLE, Int.reduceLT, Nat.reduceBEq, Nat.reduceLT, Nat.reduceAdd, Nat.reduceLeDiff, hlt, hT0, encTask]
    refine (stateOf_spec t.facts.length j _ (by omega) (by omega)).is ?_
    simp only [go_sem, Int.reduceToNat, Int.reduceLE, Int.reduceLT, Nat.reduceBEq, Nat.reduceLT, Nat.reduceAdd, Nat.reduceLeDiff, hT1, encA]
    refine (sTrue_spec (bitsL t.facts.length j) a.pre .unk .unk _ (by omega) hpw hap).is ?_
    cases h1 : condHolds (bitsL t.facts.length j) a.pre
    · have hok : ok (bitsL t.facts.length j) = false := by show (_ && _) = false; rw [h1]; rfl
      rw [if_neg (by rw [hok]; simp)] at hv'
      simp only [go_sem, Int.reduceToNat, Int.reduceLE, Int.reduceLT, Nat.reduceBEq, Nat.reduceLT, Nat.reduceAdd, Nat.reduceLeDiff]
      refine hK _ _ (j + 1, x) ⟨by simp only []; omega, hv'⟩ (by simp only []; omega) ?_
      (try dsimp only)
      rw [hw]
      first | exact ghP0 (hid' _) | exact ghP (l := [.row (encTask t), .row (encA a)]) (hid' _)
    cases h2 : clausesT (bitsL t.facts.length j) l
    · have hok : ok (bitsL t.facts.length j) = false := by show (_ && _) = false; rw [h1, h2]; rfl
      rw [if_neg (by rw [hok]; simp)] at hv'
      simp only [go_sem, Int.reduceToNat, Int.reduceLE, Int.reduceLT, Nat.reduceBEq, Nat.reduceLT, Nat.reduceAdd, Nat.reduceLeDiff]
      refine (every_spec (bitsL t.facts.length j) l .unk tok _ (by omega) hpw hl).is ?_
      rw [h2]
      simp only [go_sem, Int.reduceToNat, Int.reduceLE, Int.reduceLT, Nat.reduceBEq, Nat.reduceLT, Nat.reduceAdd, Nat.reduceLeDiff]
      refine hK _ _ (j + 1, x) ⟨by simp only []; omega, hv'⟩ (by simp only []; omega) ?_
      (try dsimp only)
      rw [hw]
      first | exact ghP0 (hid' _) | exact ghP (l := [.row (encTask t), .row (encA a)]) (hid' _)
    have hok : ok (bitsL t.facts.length j) = true := by show (_ && _) = true; rw [h1, h2]; rfl
    rw [if_pos hok] at hv'
    have hax : risingB t.facts.length (-1) (nx (bitsL t.facts.length j)) = true := afterL_rising _ _ _
    have hse := afterS_eq (a := a) hbr hfa
    simp only [go_sem, Int.reduceToNat, Int.reduceLE, Int.reduceLT, Nat.reduceBEq, Nat.reduceLT, Nat.reduceAdd, Nat.reduceLeDiff]
    refine (every_spec (bitsL t.facts.length j) l .unk tok _ (by omega) hpw hl).is ?_
    rw [h2]
    simp only [go_sem, Int.reduceToNat, Int.reduceLE, Int.reduceLT, Nat.reduceBEq, Nat.reduceLT, Nat.reduceAdd, Nat.reduceLeDiff, hT1, encA]
    refine (sAfter_spec (bitsL t.facts.length j) a .unk _ (by omega) hpw hae hwh).is ?_
    rw [hse]
    simp only [go_sem, Int.reduceToNat, Int.reduceLE, Int.reduceLT, Nat.reduceBEq, Nat.reduceLT, Nat.reduceAdd, Nat.reduceLeDiff]
    refine (hv x (nx (bitsL t.facts.length j)) _ hax).mono ?_
    rintro _ _ ⟨rfl, rfl⟩
    cases h3 : (step x (nx (bitsL t.facts.length j))).2
    · rw [if_neg (by rw [h3]; simp)] at hv'
      simp only [go_sem, Int.reduceToNat, Int.reduceLE, Int.reduceLT, Nat.reduceBEq, Nat.reduceLT, Nat.reduceAdd, Nat.reduceLeDiff, hR]
      have hlx2 := hlen (step x (nx (bitsL t.facts.length j))).1
      refine ret_gh0 (σ' := st (step x (nx (bitsL t.facts.length j))).1) ?_ (by omega) (hst _).2 ⟨rfl, by rw [hv']⟩
      first | exact Ghost.keep _ (by omega) trivial (hst _).2 | exact Ghost.keep0 (by omega) trivial (hst _).2
    · rw [if_pos h3] at hv'
      have hlx2 := hlen (step x (nx (bitsL t.facts.length j))).1
      simp only [go_sem, Int.reduceToNat, Int.reduceLE, Int.reduceLT, Nat.reduceBEq, Nat.reduceLT, Nat.reduceAdd, Nat.reduceLeDiff]
      refine hK _ _ (j + 1, (step x (nx (bitsL t.facts.length j))).1) ⟨by simp only []; omega, hv'⟩ (by simp only []; omega) ?_
      (try dsimp only)
      rw [hw]
      first | exact ghP0 (hid' _) | exact ghP (l := [.row (encTask t), .row (encA a)]) (hid' _)
  · have hlt : ¬ ((j : Int) < (p : Int)) := by omega
    rw [drop_len (by omega), foldV] at hv'
    simp only [go_sem, Int.reduceToNat, Int.reduceLE, Int.reduceLT, Nat.reduceBEq, Nat.reduceLT, Nat.reduceAdd, Nat.reduceLeDiff, hlt, hE]
    refine ret_gh0 (σ' := st x) ?_ (by omega) (hst _).2 ⟨rfl, by rw [← hv']⟩
    first | exact Ghost.keep _ (by omega) trivial (hst _).2 | exact Ghost.keep0 (by omega) trivial (hst _).2
theorem idsS_put {n : Nat} {σ : Store} (h : IdsS n σ) (i : Nat) {o : AObj} (ho : IdsO n o) : IdsS n (σ.set i o) := by
  intro j o' hj
  rcases get_set hj with ⟨rfl, rfl⟩ | ⟨_, hj⟩
  · exact ho
  · exact h j o' hj
end Go.Proofs.YtocphglkceidhaaGreat
namespace Go.Proofs.YtocphglkceidhaaGreat
open Go.Ahl
/-- An action that may be executed. -/
structure AOk (n : Nat) (a : FAct) : Prop where
  pre : a.pre.length ≤ 1000000
  eff : a.effects.length ≤ 1000000
  whens : ∀ e ∈ a.effects, e.when_.length ≤ 1000000
  rng : ∀ e ∈ a.effects, 0 ≤ e.lit.fact ∧ e.lit.fact < (n : Int)
theorem valid_AOk {t : FTask} (h : validB t = true) {a : FAct} (ha : a ∈ t.actions) : AOk t.facts.length a := by
  have hv := valid_act h ha
  have hf := valid_facts h
  have hc : ∀ l, cV t.facts.length l → l.length ≤ 1000000 := fun l hl => by rcases condB_len hl with rfl | q; simp; omega
  refine ⟨hc _ hv.pre, by have := hv.many; omega, fun e he => hc _ (hv.whens e he), fun e he => ?_⟩
  simp only [validB, Bool.and_eq_true] at h
  have h1 := List.all_eq_true.1 h.2.2.2.2.2.2 a ha
  simp only [actB, Bool.and_eq_true] at h1
  have h2 := List.all_eq_true.1 h1.2.2.2.2 e he
  simp only [effB, Bool.and_eq_true, decide_eq_true_eq] at h2
  exact ⟨h2.2.1, h2.2.2⟩
theorem clE_zero {t : FTask} {l : List (List FLit)} (h : clE t l = 0) : validB t = true ∧ l.length ≤ 2000 ∧ vF t.facts.length l := by
  unfold clE at h
  cases h1 : validB t
  · rw [h1] at h; simp at h
  rw [h1] at h
  cases h2 : isClauses t.facts.length l
  · rw [h2] at h; simp at h
  simp only [isClauses, Bool.and_eq_true, decide_eq_true_eq] at h2
  exact ⟨rfl, h2.1, fun c hc => List.all_eq_true.1 h2.2 c hc⟩
end Go.Proofs.YtocphglkceidhaaGreat
namespace Go.Proofs.YtocphglkceidhaaGreat
open Go.Ahl
/-- The marks behind a look at a state. -/
def markB (s : List Int) (l : List (List FLit)) (p : Nat → Bool) (i : Nat) : Bool := p i || !(clauseT s (l.getD i []))
theorem genB_get' {n : Nat} {p : Nat → Bool} {k : Nat} (h : k < n) : ((genB n p).map ab)[k]? = some (.bool (p k)) := by rw [List.getElem?_map, genB_get h]; rfl
def d_removed1_0 : List COp := [⟨some 14, .load none (.tmp 2), none, []⟩, ⟨some 15, .move (.tmp 5), none, []⟩, ⟨some 16, .load none (.tmp 2), none, []⟩, ⟨some 17, .move (.tmp 5), none, []⟩, ⟨some 18, .iaddr 1 (.tmp 16) (.tmp 17), none, [2, 3]⟩, ⟨some 19, .load none (.tmp 18), none, [4]⟩, ⟨some 20, .move (.tmp 19), none, [5]⟩, ⟨some 21, .move (.tmp 0), some (some 20, false), [6]⟩, ⟨some 22, .move (.tmp 6), some (some 20, false), [6]⟩, ⟨some 23, .call (.lit (.func 93 [])) [.tmp 21, .tmp 22], some (some 20, false), [7, 8, 6, 6]⟩, ⟨some 24, .un .not (.tmp 23), some (some 20, false), [9, 6]⟩, ⟨some 25, .pick (.tmp 20) (.lit (.bool true)) (.tmp 24), none, [6, 10]⟩, ⟨some 26, .iaddr 1 (.tmp 14) (.tmp 15), none, [0, 1, 0, 1, 2, 3, 4, 5, 6, 7, 8, 9, 10, 11]⟩, ⟨none, .store 1 (.tmp 26) (.tmp 25), none, [12, 11, 9, 0, 1, 2, 3, 4, 5, 6, 7, 8, 9, 10, 11]⟩]
theorem dr_removed1_0 (P : Program) (nt n0 : Nat) (Q : Post) (s : Slots) (σ : Store) : wpc P nt n0 (.draw d_removed1_0) Q s σ = aOpsD P nt [⟨some 14, .load none (.tmp 2), none, []⟩, ⟨some 15, .move (.tmp 5), none, []⟩, ⟨some 16, .load none (.tmp 2), none, []⟩, ⟨some 17, .move (.tmp 5), none, []⟩, ⟨some 18, .iaddr 1 (.tmp 16) (.tmp 17), none, [2, 3]⟩, ⟨some 19, .load none (.tmp 18), none, [4]⟩, ⟨some 20, .move (.tmp 19), none, [5]⟩, ⟨some 21, .move (.tmp 0), some (some 20, false), [6]⟩, ⟨some 22, .move (.tmp 6), some (some 20, false), [6]⟩, ⟨some 23, .call (.lit (.func 93 [])) [.tmp 21, .tmp 22], some (some 20, false), [7, 8, 6, 6]⟩, ⟨some 24, .un .not (.tmp 23), some (some 20, false), [9, 6]⟩, ⟨some 25, .pick (.tmp 20) (.lit (.bool true)) (.tmp 24), none, [6, 10]⟩, ⟨some 26, .iaddr 1 (.tmp 14) (.tmp 15), none, [0, 1, 0, 1, 2, 3, 4, 5, 6, 7, 8, 9, 10, 11]⟩, ⟨none, .store 1 (.tmp 26) (.tmp 25), none, [12, 11, 9, 0, 1, 2, 3, 4, 5, 6, 7, 8, 9, 10, 11]⟩] (Q .normal) s σ := wpc_draw _ (by decide)
def c_removed1 : CCode := .seq (.ops [⟨some 4, .move (.lit (.bool false)), none, []⟩]) (.seq (.seq (.ops [⟨some 7, .load none (.tmp 1), none, []⟩, ⟨some 8, .blen 1 (.tmp 7), none, []⟩, ⟨some 9, .move (.lit (.int .i64 0)), none, []⟩]) (.block 0 (.loop (.seq (.ops [⟨some 10, .bin .lss .none (.tmp 9) (.tmp 8), none, []⟩]) (.seq (.cond (.tmp 10) .skip (.exit 0)) (.seq (.block 1 (.seq (.ops [⟨some 11, .move (.tmp 9), none, []⟩, ⟨some 12, .iaddr 1 (.tmp 7) (.tmp 9), none, []⟩, ⟨some 13, .load none (.tmp 12), none, []⟩, ⟨some 5, .move (.tmp 11), none, []⟩, ⟨some 6, .move (.tmp 13), none, []⟩]) (.draw d_removed1_0))) (.ops [⟨some 27, .bin .add .none (.tmp 9) (.lit (.int .i64 1)), none, []⟩, ⟨some 9, .move (.tmp 27), none, []⟩]))))))) (.seq (.ops [⟨some 4, .move (.lit (.bool true)), none, []⟩]) .ret))
set_option maxRecDepth 20000 in
set_option maxHeartbeats 1000000 in
theorem removed1_spec (s : List Int) (l : List (List FLit)) (p : Nat → Bool) (tok : Tok) (L B D : Nat) (σ : Store) (hs : s.length ≤ 140737488355328) (hp : s.Pairwise (· < ·)) (hl : FB l) (hll : l.length ≤ 1000000)
    (hL : σ[L]? = some (.row [.slice tok (l.map encC)])) (hB : σ[B]? = some (.row [.ref D 1 0 l.length])) (hD : σ[D]? = some (.row ((genB l.length p).map ab))) (hLD : L ≠ D) (hBD : B ≠ D) :
    ACalls Tryz.prog 95 [.slice .unk (s.map Ahl.encI), .ptr L 0, .ptr B 0] σ (isR (.bool true) (σ.set D (.row ((genB l.length (markB s l p)).map ab)))) := by
  refine ACalls.intro (rs := [(.tmp 4)]) (by kernel_rfl) { own := [], ghosts := [] } Tryz.func95 (c := Tryz.f95.body.getD .skip) (by kernel_rfl) (by decide) (by rw [show Tryz.f95.ntmps = 28 by kernel_rfl]; exact Nat.le_of_ble_eq_true rfl) (by kernel_rfl) ?_
  intro hσ hids
  rw [show comp Tryz.prog { own := [], ghosts := [] } (Tryz.f95.body.getD .skip) = c_removed1 by kernel_rfl, show Tryz.f95.ntmps = 28 by kernel_rfl]
  unfold c_removed1
  have hii : Ids σ.length (.slice .unk (s.map Ahl.encI)) := hids _ (by simp)
  have hil : Ids σ.length (.slice tok (l.map encC)) := (hσ L _ hL) 0 _ rfl
  obtain ⟨T, hT⟩ : ∃ T : (Nat → Bool) → Store, ∀ q, T q = σ.set D (.row ((genB l.length q).map ab)) := ⟨_, fun _ => rfl⟩
  have hT0 : T p = σ := by rw [hT]; exact set_same hD
  have hTl : ∀ q, (T q).length = σ.length := fun q => by rw [hT, List.length_set]
  have hTi : ∀ q, IdsS (T q).length (T q) := fun q => by rw [hTl, hT]; exact idsS_put hσ D (ids_ab _)
  have hTB : ∀ q x, (T q ++ x)[B]? = some (.row [.ref D 1 0 l.length]) := fun q x => by
    rw [List.getElem?_append_left (by rw [hTl]; exact lt_of_get hB), hT, List.getElem?_set_ne (Ne.symm hBD)]; exact hB
  have hTD : ∀ q x, (T q ++ x)[D]? = some (.row ((genB l.length q).map ab)) := fun q x => by
    rw [List.getElem?_append_left (by rw [hTl]; exact lt_of_get hD), hT, List.getElem?_set_self (lt_of_get hD)]
  have hTB0 : ∀ q, (T q)[B]? = some (.row [.ref D 1 0 l.length]) := fun q => by have := hTB q []; rwa [List.append_nil] at this
  have hTD0 : ∀ q, (T q)[D]? = some (.row ((genB l.length q).map ab)) := fun q => by have := hTD q []; rwa [List.append_nil] at this
  have hTs : ∀ q (w : List AV), (T q).set D (.row w) = σ.set D (.row w) := fun q w => by rw [hT, List.set_set]
  simp only [go_sem, Int.reduceToNat, Int.reduceLE, Int.reduceLT, Nat.reduceBEq, Nat.reduceLT, Nat.reduceAdd, Nat.reduceLeDiff, dr_removed1_0, hL]
  refine wpc_while (fun (i : Nat) => [(0, .slice .unk (s.map Ahl.encI)), (2, .ptr B 0), (7, .slice tok (l.map encC)), (8, .int .i64 l.length), (9, .int .i64 i)]) (fun i => T (fun j => if j < i then markB s l p j else p j)) (fun i => i ≤ l.length) (fun i => l.length - i) 0 (Nat.zero_le _)
    (by
      have hB' := lt_of_get hB
      rw [show T (fun j => if j < 0 then markB s l p j else p j) = σ by rw [show (fun j => if j < 0 then markB s l p j else p j) = p by funext j; simp, hT0]]
      exact (by (try dsimp only); first | exact ghk | exact ghk0)) ?_
  intro i hi K hK hE hR
  by_cases h : i < l.length
  · obtain ⟨c, hx⟩ := get_ex h; have hlt : ((i : Int) < (l.length : Int)) := (by omega); have hw : IntKind.i64.wrap ((i : Int) + 1) = ((i + 1 : Nat) : Int) := (by rw [wrap_ok (by omega)]; omega)
    have hcl := hl.2 c (List.mem_of_getElem? hx)
    have hgd : l.getD i [] = c := by rw [List.getD_eq_getElem?_getD, hx]; rfl
    have hq : (fun j => if j < i then markB s l p j else p j) i = p i := by simp
    obtain ⟨q, hqe⟩ : ∃ q : Nat → Bool, q = fun j => if j < i then markB s l p j else p j := ⟨_, rfl⟩
    rw [← hqe] at hq ⊢
    have hgq : ((genB l.length q).map ab)[i]? = some (.bool (p i)) := by rw [genB_get' h, hq]
    have h0 : (0 : Int) ≤ (i : Int) := by omega
    have hnew : ∀ v, v = markB s l p i → (T q).set D (.row (((genB l.length q).map ab).set i (.bool v))) = T (fun j => if j < i + 1 then markB s l p j else p j) := fun v hv => by
      rw [hTs, bset, genB_set, hT]
      congr 3
      refine genB_cong fun j hj => ?_
      rw [hqe]
      by_cases h1 : j = i
      · subst h1; rw [if_pos rfl, if_pos (by omega), hv]
      · rw [if_neg h1]; simp only []
        by_cases h2 : j < i
        · rw [if_pos h2, if_pos (by omega)]
        · rw [if_neg h2, if_neg (by omega)]
    have hmk : markB s l p i = (p i || !(clauseT s c)) := by unfold markB; rw [hgd]
    cases hpi : p i
    · rw [hpi] at hgq hmk
      simp only [go_sem, Int.reduceToNat, Int.reduceLE, Int.reduceLT, Nat.reduceBEq, Nat.reduceLT, Nat.reduceAdd, Nat.reduceLeDiff, dr_removed1_0, hlt, hx, hTB0, hTD0, hgq, h0, Int.toNat_natCast, h, encC]
      refine ⟨_, some_spec s c .unk .unk _ hs hp hcl, ?_⟩
      simp only [go_sem, Int.reduceToNat, Int.reduceLE, Int.reduceLT, Nat.reduceBEq, Nat.reduceLT, Nat.reduceAdd, Nat.reduceLeDiff, dr_removed1_0, hTB0, hTD0, hgq, h0, Int.toNat_natCast, h]
      refine ⟨by rw [genB_len]; omega, ?_⟩
      rw [hnew _ (by rw [hmk]; rfl)]
      have hTl2 := hTl (fun j => if j < i + 1 then markB s l p j else p j)
      refine hK _ _ (i + 1) (by omega) (by omega) ?_
      (try dsimp only)
      rw [hw]
      have hB' := lt_of_get hB
      first | exact ghN0 (hTi _) | exact ghN (hTi _)
    · rw [hpi] at hgq hmk
      simp only [go_sem, Int.reduceToNat, Int.reduceLE, Int.reduceLT, Nat.reduceBEq, Nat.reduceLT, Nat.reduceAdd, Nat.reduceLeDiff, dr_removed1_0, hlt, hx, hTB0, hTD0, hgq, h0, Int.toNat_natCast, h, encC]
      refine ⟨by rw [genB_len]; omega, ?_⟩
      rw [hnew _ (by rw [hmk]; rfl)]
      have hTl2 := hTl (fun j => if j < i + 1 then markB s l p j else p j)
      refine hK _ _ (i + 1) (by omega) (by omega) ?_
      (try dsimp only)
      rw [hw]
      have hB' := lt_of_get hB
      first | exact ghN0 (hTi _) | exact ghN (hTi _)
  · have hlt : ¬ ((i : Int) < (l.length : Int)) := by omega
    simp only [go_sem, Int.reduceToNat, Int.reduceLE, Int.reduceLT, Nat.reduceBEq, Nat.reduceLT, Nat.reduceAdd, Nat.reduceLeDiff, dr_removed1_0, hlt, hE]
    have e : T (fun j => if j < i then markB s l p j else p j) = σ.set D (.row ((genB l.length (markB s l p)).map ab)) := by
      rw [hT]; congr 3
      exact genB_cong fun j hj => by rw [if_pos (by omega)]
    rw [e]
    have hq : IdsS (σ.set D (.row ((genB l.length (markB s l p)).map ab))).length (σ.set D (.row ((genB l.length (markB s l p)).map ab))) := by rw [← e]; exact hTi _
    refine ret_gh (v := .bool true) (σ' := σ.set D (.row ((genB l.length (markB s l p)).map ab))) ?_ (by simp) hq (.bool _) ⟨rfl, rfl⟩
    exact Ghost.keep0 (by simp) ⟨⟨Wk.refl _, .bool _⟩, trivial⟩ hq
end Go.Proofs.YtocphglkceidhaaGreat
namespace Go.Proofs.YtocphglkceidhaaGreat
open Go.Ahl
theorem foldV_mark (ok : List Int → Bool) (nx : List Int → List Int) (l : List (List FLit)) (i : Nat) : ∀ (L : List (List Int)) (p : Nat → Bool), foldV ok nx (fun (p : Nat → Bool) s => (markB s l p, true)) p L i = (p i || !(L.all fun s => !(ok s) || clauseT (nx s) (l.getD i [])))
  | [], p => by simp [foldV]
  | s :: L, p => by
    rw [foldV, List.all_cons]
    cases h : ok s
    · rw [if_neg (by simp), foldV_mark ok nx l i L p]; simp
    · rw [if_pos rfl, if_pos rfl, foldV_mark ok nx l i L _]
      simp only [markB, Bool.not_true, Bool.false_or]
      cases p i <;> cases clauseT (nx s) (l.getD i []) <;> simp
/-- Which clauses do not stay. -/
def badB (t : FTask) (l : List (List FLit)) (k : Nat) (i : Nat) : Bool := !(clauseT t.init (l.getD i [])) || !(keepB t.facts.length (t.actions.take k) l (l.getD i []))
def stayB (t : FTask) (l : List (List FLit)) (c : List FLit) : Bool := clauseT t.init c && keepB t.facts.length t.actions l c
theorem badB_zero (t : FTask) (l : List (List FLit)) : badB t l 0 = fun i => !(clauseT t.init (l.getD i [])) := by
  funext i; simp [badB, keepB]
theorem badB_succ {t : FTask} {l : List (List FLit)} {k : Nat} {a : FAct} (h : t.actions[k]? = some a) (i : Nat) : badB t l (k + 1) i = (badB t l k i || !(stepB t.facts.length l a (l.getD i []))) := by
  unfold badB keepB
  rw [take_succ' h, List.all_append]
  simp only [List.all_cons, List.all_nil, Bool.and_true, Bool.not_and]
  rw [Bool.or_assoc]
theorem badB_all {t : FTask} {l : List (List FLit)} {k : Nat} (hk : t.actions.length ≤ k) (i : Nat) : badB t l k i = !(stayB t l (l.getD i [])) := by
  unfold badB stayB; rw [List.take_of_length_le hk, Bool.not_and]
def d_removed_0 : List COp := [⟨some 28, .load none (.tmp 7), none, []⟩, ⟨some 29, .move (.tmp 8), none, []⟩, ⟨some 30, .faddr 1 (.tmp 2), none, []⟩, ⟨some 31, .load none (.tmp 30), none, [2]⟩, ⟨some 32, .move (.tmp 9), none, []⟩, ⟨some 33, .call (.lit (.func 93 [])) [.tmp 31, .tmp 32], none, [3, 4]⟩, ⟨some 34, .un .not (.tmp 33), none, [5]⟩, ⟨some 35, .iaddr 1 (.tmp 28) (.tmp 29), none, [0, 1, 0, 1, 2, 3, 4, 5, 6]⟩, ⟨none, .store 1 (.tmp 35) (.tmp 34), none, [7, 6, 5, 0, 1, 2, 3, 4, 5, 6]⟩]
theorem dr_removed_0 (P : Program) (nt n0 : Nat) (Q : Post) (s : Slots) (σ : Store) : wpc P nt n0 (.draw d_removed_0) Q s σ = aOpsD P nt [⟨some 28, .load none (.tmp 7), none, []⟩, ⟨some 29, .move (.tmp 8), none, []⟩, ⟨some 30, .faddr 1 (.tmp 2), none, []⟩, ⟨some 31, .load none (.tmp 30), none, [2]⟩, ⟨some 32, .move (.tmp 9), none, []⟩, ⟨some 33, .call (.lit (.func 93 [])) [.tmp 31, .tmp 32], none, [3, 4]⟩, ⟨some 34, .un .not (.tmp 33), none, [5]⟩, ⟨some 35, .iaddr 1 (.tmp 28) (.tmp 29), none, [0, 1, 0, 1, 2, 3, 4, 5, 6]⟩, ⟨none, .store 1 (.tmp 35) (.tmp 34), none, [7, 6, 5, 0, 1, 2, 3, 4, 5, 6]⟩] (Q .normal) s σ := wpc_draw _ (by decide)
def c_removed : CCode := .seq (.ops [⟨some 2, .box (.tmp 0), none, []⟩, ⟨some 3, .box (.tmp 1), none, []⟩, ⟨some 4, .move (.lit (.slice .nil [])), none, []⟩, ⟨some 5, .move (.lit (.bool false)), none, []⟩, ⟨some 6, .move (.lit (.bool false)), none, []⟩]) (.seq (.ops [⟨some 18, .load none (.tmp 3), none, []⟩, ⟨some 19, .blen 1 (.tmp 18), none, []⟩, ⟨some 20, .mkslice 1 1 [.bool false] (.tmp 19) (.tmp 19) true, none, []⟩, ⟨some 7, .alloc (.slice .nil []), none, []⟩, ⟨none, .store 1 (.tmp 7) (.tmp 20), none, []⟩]) (.seq (.seq (.ops [⟨some 21, .load none (.tmp 3), none, []⟩, ⟨some 22, .blen 1 (.tmp 21), none, []⟩, ⟨some 23, .move (.lit (.int .i64 0)), none, []⟩]) (.block 0 (.loop (.seq (.ops [⟨some 24, .bin .lss .none (.tmp 23) (.tmp 22), none, []⟩]) (.seq (.cond (.tmp 24) .skip (.exit 0)) (.seq (.block 1 (.seq (.ops [⟨some 25, .move (.tmp 23), none, []⟩, ⟨some 26, .iaddr 1 (.tmp 21) (.tmp 23), none, []⟩, ⟨some 27, .load none (.tmp 26), none, []⟩, ⟨some 8, .move (.tmp 25), none, []⟩, ⟨some 9, .move (.tmp 27), none, []⟩]) (.draw d_removed_0))) (.ops [⟨some 36, .bin .add .none (.tmp 23) (.lit (.int .i64 1)), none, []⟩, ⟨some 23, .move (.tmp 36), none, []⟩]))))))) (.seq (.seq (.ops [⟨some 37, .faddr 3 (.tmp 2), none, []⟩, ⟨some 38, .load none (.tmp 37), none, []⟩, ⟨some 39, .blen 1 (.tmp 38), none, []⟩, ⟨some 40, .move (.lit (.int .i64 0)), none, []⟩]) (.block 2 (.loop (.seq (.ops [⟨some 41, .bin .lss .none (.tmp 40) (.tmp 39), none, []⟩]) (.seq (.cond (.tmp 41) .skip (.exit 2)) (.seq (.block 3 (.seq (.ops [⟨some 42, .iaddr 4 (.tmp 38) (.tmp 40), none, []⟩, ⟨some 43, .load (some 4) (.tmp 42), none, []⟩, ⟨some 11, .alloc (.agg [.str (bys []), .int .i64 0, .slice .nil [], .slice .nil []]), none, []⟩, ⟨none, .store 4 (.tmp 11) (.tmp 43), none, []⟩]) (.seq (.seq (.ops [⟨some 44, .faddr 0 (.tmp 2), none, []⟩, ⟨some 45, .load none (.tmp 44), none, []⟩, ⟨some 46, .blen 1 (.tmp 45), none, []⟩, ⟨some 47, .bin .leq .none (.tmp 46) (.lit (.int .i64 12)), none, []⟩]) (.cond (.tmp 47) (.seq (.ops [⟨some 48, .load (some 4) (.tmp 2), none, []⟩, ⟨some 49, .load none (.tmp 3), none, []⟩, ⟨some 50, .load (some 4) (.tmp 11), none, []⟩, ⟨some 51, .mkfunc 95 [.tmp 3, .tmp 7], none, []⟩, ⟨some 52, .call (.lit (.func 94 [])) [.tmp 48, .tmp 49, .tmp 50, .tmp 51], none, []⟩]) (.exit 3)) .skip)) (.seq (.ops [⟨some 53, .load none (.tmp 3), none, []⟩, ⟨some 54, .blen 1 (.tmp 53), none, []⟩, ⟨some 55, .move (.lit (.int .i64 0)), none, []⟩]) (.block 4 (.loop (.seq (.ops [⟨some 56, .bin .lss .none (.tmp 55) (.tmp 54), none, []⟩]) (.seq (.cond (.tmp 56) .skip (.exit 4)) (.seq (.block 5 (.seq (.ops [⟨some 57, .move (.tmp 55), none, []⟩, ⟨some 58, .iaddr 1 (.tmp 53) (.tmp 55), none, []⟩, ⟨some 59, .load none (.tmp 58), none, []⟩, ⟨some 12, .move (.tmp 57), none, []⟩, ⟨some 13, .move (.tmp 59), none, []⟩]) (.seq (.seq (.ops [⟨some 60, .load none (.tmp 7), none, []⟩, ⟨some 61, .move (.tmp 12), none, []⟩, ⟨some 62, .iaddr 1 (.tmp 60) (.tmp 61), none, []⟩, ⟨some 63, .load none (.tmp 62), none, []⟩]) (.cond (.tmp 63) (.exit 5) .skip)) (.seq (.ops [⟨some 65, .load (some 4) (.tmp 2), none, []⟩, ⟨some 66, .load none (.tmp 3), none, []⟩, ⟨some 67, .load (some 4) (.tmp 11), none, []⟩, ⟨some 68, .move (.tmp 13), none, []⟩, ⟨some 69, .call (.lit (.func 66 [])) [.tmp 65, .tmp 66, .tmp 67, .tmp 68], none, []⟩, ⟨some 64, .move (.tmp 69), none, []⟩, ⟨some 70, .extract (.tmp 64) 0, none, []⟩, ⟨some 71, .extract (.tmp 64) 1, none, []⟩, ⟨some 14, .move (.tmp 70), none, []⟩, ⟨some 15, .move (.tmp 71), none, []⟩]) (.seq (.seq (.ops [⟨some 72, .move (.tmp 15), none, []⟩, ⟨some 73, .un .not (.tmp 72), none, []⟩]) (.cond (.tmp 73) (.seq (.ops [⟨some 4, .move (.lit (.slice .nil [])), none, []⟩, ⟨some 5, .move (.lit (.bool false)), none, []⟩, ⟨some 6, .move (.lit (.bool false)), none, []⟩]) .ret) .skip)) (.ops [⟨some 74, .load none (.tmp 7), none, []⟩, ⟨some 75, .move (.tmp 12), none, []⟩, ⟨some 76, .move (.tmp 14), none, []⟩, ⟨some 77, .un .not (.tmp 76), none, []⟩, ⟨some 78, .iaddr 1 (.tmp 74) (.tmp 75), none, []⟩, ⟨none, .store 1 (.tmp 78) (.tmp 77), none, []⟩])))))) (.ops [⟨some 79, .bin .add .none (.tmp 55) (.lit (.int .i64 1)), none, []⟩, ⟨some 55, .move (.tmp 79), none, []⟩])))))))))) (.ops [⟨some 80, .bin .add .none (.tmp 40) (.lit (.int .i64 1)), none, []⟩, ⟨some 40, .move (.tmp 80), none, []⟩]))))))) (.seq (.seq (.ops [⟨some 81, .load none (.tmp 3), none, []⟩, ⟨some 82, .blen 1 (.tmp 81), none, []⟩, ⟨some 83, .move (.lit (.int .i64 0)), none, []⟩]) (.block 6 (.loop (.seq (.ops [⟨some 84, .bin .lss .none (.tmp 83) (.tmp 82), none, []⟩]) (.seq (.cond (.tmp 84) .skip (.exit 6)) (.seq (.block 7 (.seq (.ops [⟨some 85, .move (.tmp 83), none, []⟩, ⟨some 86, .iaddr 1 (.tmp 81) (.tmp 83), none, []⟩, ⟨some 87, .load none (.tmp 86), none, []⟩, ⟨some 16, .move (.tmp 85), none, []⟩, ⟨some 17, .move (.tmp 87), none, []⟩]) (.seq (.seq (.ops [⟨some 88, .load none (.tmp 7), none, []⟩, ⟨some 89, .move (.tmp 16), none, []⟩, ⟨some 90, .iaddr 1 (.tmp 88) (.tmp 89), none, []⟩, ⟨some 91, .load none (.tmp 90), none, []⟩]) (.cond (.tmp 91) (.seq (.ops [⟨some 5, .move (.lit (.bool true)), none, []⟩]) (.exit 7)) .skip)) (.ops [⟨some 92, .move (.tmp 4), none, []⟩, ⟨some 93, .move (.tmp 17), none, []⟩, ⟨some 94, .call (.lit (.func 96 [])) [.tmp 93], none, []⟩, ⟨some 95, .bslice 1 [.tmp 94] false, none, []⟩, ⟨some 96, .bappend 1 24 (.tmp 92) (.tmp 95) false, none, []⟩, ⟨some 4, .move (.tmp 96), none, []⟩])))) (.ops [⟨some 97, .bin .add .none (.tmp 83) (.lit (.int .i64 1)), none, []⟩, ⟨some 83, .move (.tmp 97), none, []⟩]))))))) (.seq (.ops [⟨some 98, .move (.tmp 4), none, []⟩, ⟨some 99, .move (.tmp 5), none, []⟩, ⟨some 4, .move (.tmp 98), none, []⟩, ⟨some 5, .move (.tmp 99), none, []⟩, ⟨some 6, .move (.lit (.bool true)), none, []⟩]) .ret)))))
set_option maxRecDepth 20000 in
set_option maxHeartbeats 4000000 in
theorem removed_specF (t : FTask) (l : List (List FLit)) (tok : Tok) (σ : Store) (ht : TB t) (hn : t.facts.length ≤ 12) (hini : t.init.length ≤ 1000000 ∧ t.init.Pairwise (· < ·)) (hact : ∀ a ∈ t.actions, AOk t.facts.length a) (hl : FB l) (hll : l.length ≤ 1000000) (hlc : ∀ c ∈ l, c.length ≤ 1000000) :
    ACalls Tryz.prog 64 [.agg (encTask t), .slice tok (l.map encC)] σ (isR (.tuple [.slice .fresh ((l.filter (stayB t l)).map encCf), .bool (l.any fun c => !(stayB t l c)), .bool true]) σ) := by
  refine ACalls.intro (rs := [(.tmp 4), (.tmp 5), (.tmp 6)]) (by kernel_rfl) { own := [(0, 2), (1, 2), (2, 2)], ghosts := [] } Tryz.func64 (c := Tryz.f64.body.getD .skip) (by kernel_rfl) (by decide) (by rw [show Tryz.f64.ntmps = 100 by kernel_rfl]; exact Nat.le_of_ble_eq_true rfl) (by kernel_rfl) ?_
  intro hσ hids
  rw [show comp Tryz.prog { own := [(0, 2), (1, 2), (2, 2)], ghosts := [] } (Tryz.f64.body.getD .skip) = c_removed by kernel_rfl, show Tryz.f64.ntmps = 100 by kernel_rfl]
  unfold c_removed
  have hil : Ids σ.length (.slice tok (l.map encC)) := hids _ (by simp)
  have hbig : bigLen l.length 1 := big_ok (by omega) (by omega)
  simp only [go_sem, Int.reduceToNat, Int.reduceLE, Int.reduceLT, Nat.reduceBEq, Nat.reduceLT, Nat.reduceAdd, Nat.reduceLeDiff, dr_removed_0, encTask, hbig, aMkslice, rep_ab]
  refine ⟨Int.le_refl _, by omega, by omega, ?_⟩
  obtain ⟨S, hS⟩ : ∃ S : (Nat → Bool) → Store, ∀ p, S p = σ ++ [.row (encTask t), .row [.slice tok (l.map encC)], .row ((genB l.length p).map ab), .row [.ref (σ.length + 2) 1 0 l.length]] := ⟨_, fun _ => rfl⟩
  have hSl : ∀ p, (S p).length = σ.length + 4 := fun p => by rw [hS]; simp
  have hSt : ∀ p x, (S p ++ x)[σ.length]? = some (.row (encTask t)) := fun p x => by rw [hS, List.append_assoc, List.getElem?_append_right (Nat.le_refl _), Nat.sub_self]; rfl
  have hSL : ∀ p x, (S p ++ x)[σ.length + 1]? = some (.row [.slice tok (l.map encC)]) := fun p x => by rw [hS, List.append_assoc, List.getElem?_append_right (by omega), Nat.add_sub_cancel_left]; rfl
  have hSD : ∀ p x, (S p ++ x)[σ.length + 2]? = some (.row ((genB l.length p).map ab)) := fun p x => by rw [hS, List.append_assoc, List.getElem?_append_right (by omega), Nat.add_sub_cancel_left]; rfl
  have hSB : ∀ p x, (S p ++ x)[σ.length + 3]? = some (.row [.ref (σ.length + 2) 1 0 l.length]) := fun p x => by rw [hS, List.append_assoc, List.getElem?_append_right (by omega), Nat.add_sub_cancel_left]; rfl
  have hSt0 : ∀ p, (S p)[σ.length]? = some (.row (encTask t)) := fun p => by have := hSt p []; rwa [List.append_nil] at this
  have hSD0 : ∀ p, (S p)[σ.length + 2]? = some (.row ((genB l.length p).map ab)) := fun p => by have := hSD p []; rwa [List.append_nil] at this
  have hSB0 : ∀ p, (S p)[σ.length + 3]? = some (.row [.ref (σ.length + 2) 1 0 l.length]) := fun p => by have := hSB p []; rwa [List.append_nil] at this
  have hSs : ∀ p q x, (S p ++ x).set (σ.length + 2) (.row ((genB l.length q).map ab)) = S q ++ x := fun p q x => by rw [hS, hS, List.append_assoc, List.set_append_right _ _ (by omega), Nat.add_sub_cancel_left, List.append_assoc]; rfl
  have hSs0 : ∀ p q, (S p).set (σ.length + 2) (.row ((genB l.length q).map ab)) = S q := fun p q => by have := hSs p q []; rwa [List.append_nil, List.append_nil] at this
  have hSi : ∀ p, IdsS (S p).length (S p) := fun p => by
    rw [hS]
    exact idsS_app _ hσ (all_cons' (idsO_row (ids_encTask t)) (all_cons' (idsO_row (by intro x hx; simp at hx; subst hx; exact ids_up (by omega) hil)) (all_cons' (ids_ab _) (all_cons' (idsO_row (by intro x hx; simp at hx; subst hx; exact .ref _ _ _ _ (by simp))) all_nil'))))
  have hSc : ∀ p q : Nat → Bool, (∀ i, i < l.length → p i = q i) → S p = S q := fun p q h => by rw [hS, hS, genB_cong h]
  have hSk : ∀ p, (S p).take σ.length = σ := fun p => by rw [hS]; simp
  rw [show σ ++ [AObj.row [AV.slice Tok.unk (List.map encT t.facts), AV.slice Tok.unk (List.map Ahl.encI t.init), AV.slice Tok.unk (List.map encLit t.goal), AV.slice Tok.unk (List.map encA t.actions)], AObj.row [AV.slice tok (List.map encC l)], AObj.row (List.map ab (genB l.length fun _ => false)), AObj.row [AV.ref (σ.length + 2) 1 0 l.length]] = S (fun _ => false) by rw [hS]; rfl]
  refine wpc_while (fun (i : Nat) => [(2, .ptr σ.length 0), (3, .ptr (σ.length + 1) 0), (4, .slice .nil []), (5, .bool false), (7, .ptr (σ.length + 3) 0), (21, .slice tok (l.map encC)), (22, .int .i64 l.length), (23, .int .i64 i)])
    (fun i => S (fun j => if j < i then !(clauseT t.init (l.getD j [])) else false)) (fun i => i ≤ l.length) (fun i => l.length - i) 0 (Nat.zero_le _)
    (by
      have hl0 := hSl (fun _ => false)
      rw [show S (fun j => if j < 0 then !(clauseT t.init (l.getD j [])) else false) = S (fun _ => false) from hSc _ _ (fun i _ => by simp)]
      exact ghN0 (hSi _)) ?_
  · intro i hi K hK hE hR
    by_cases h : i < l.length
    · obtain ⟨c, hx⟩ := get_ex h; have hlt : ((i : Int) < (l.length : Int)) := (by omega); have hw : IntKind.i64.wrap ((i : Int) + 1) = ((i + 1 : Nat) : Int) := (by rw [wrap_ok (by omega)]; omega)
      have hcl := hl.2 c (List.mem_of_getElem? hx)
      have hgd : l.getD i [] = c := by rw [List.getD_eq_getElem?_getD, hx]; rfl
      obtain ⟨q, hqe⟩ : ∃ q : Nat → Bool, q = fun j => if j < i then !(clauseT t.init (l.getD j [])) else false := ⟨_, rfl⟩
      rw [← hqe]
      have h0 : (0 : Int) ≤ (i : Int) := by omega
      simp only [go_sem, Int.reduceToNat, Int.reduceLE, Int.reduceLT, Nat.reduceBEq, Nat.reduceLT, Nat.reduceAdd, Nat.reduceLeDiff, dr_removed_0, hlt, hx, hSB0, hSD0, hSt0, h0, Int.toNat_natCast, h, encC, encTask]
      refine ⟨_, some_spec t.init c .unk .unk _ (by omega) hini.2 hcl, ?_⟩
      simp only [go_sem, Int.reduceToNat, Int.reduceLE, Int.reduceLT, Nat.reduceBEq, Nat.reduceLT, Nat.reduceAdd, Nat.reduceLeDiff, dr_removed_0, hSB0, hSD0, h0, Int.toNat_natCast, h]
      refine ⟨by rw [genB_len]; omega, ?_⟩
      rw [bset, genB_set, hSs0]
      have hTl2 := hSl (fun j => if j < i + 1 then !(clauseT t.init (l.getD j [])) else false)
      rw [hSc _ (fun j => if j < i + 1 then !(clauseT t.init (l.getD j [])) else false) (fun j hj => by
        rw [hqe]
        by_cases h1 : j = i
        · subst h1; rw [if_pos rfl, if_pos (by omega), hgd]
        · rw [if_neg h1]; simp only []
          by_cases h2 : j < i
          · rw [if_pos h2, if_pos (by omega)]
          · rw [if_neg h2, if_neg (by omega)])]
      refine hK _ _ (i + 1) (by omega) (by omega) ?_
      (try dsimp only)
      rw [hw]
      first | exact ghN0 (hSi _) | exact ghN (hSi _)
    · have hlt : ¬ ((i : Int) < (l.length : Int)) := by omega
      simp only [go_sem, Int.reduceToNat, Int.reduceLE, Int.reduceLT, Nat.reduceBEq, Nat.reduceLT, Nat.reduceAdd, Nat.reduceLeDiff, dr_removed_0, hlt, hE, hSt0, encTask]
      rw [hSc _ (badB t l 0) (fun j hj => by rw [badB_zero, if_pos (by omega)])]
      clear hK hE hR
      refine wpc_while (fun (k : Nat) => [(2, .ptr σ.length 0), (3, .ptr (σ.length + 1) 0), (4, .slice .nil []), (5, .bool false), (7, .ptr (σ.length + 3) 0), (38, .slice .unk (t.actions.map encA)), (39, .int .i64 t.actions.length), (40, .int .i64 k)])
        (fun k => S (badB t l k)) (fun k => k ≤ t.actions.length) (fun k => t.actions.length - k) 0 (Nat.zero_le _) (by have hl0 := hSl (badB t l 0); exact ghN0 (hSi _)) ?_
      intro k hk K hK hE hR
      have htb := ht.actions
      by_cases h : k < t.actions.length
      · have hlt : ((k : Int) < (t.actions.length : Int)) := by omega
        obtain ⟨a, hx⟩ := get_ex h
        have hw : IntKind.i64.wrap ((k : Int) + 1) = ((k + 1 : Nat) : Int) := by rw [wrap_ok (by omega)]; omega
        have hok := hact a (List.mem_of_getElem? hx)
        have h12 : ((t.facts.length : Int) ≤ 12) := by omega
        simp only [go_sem, Int.reduceToNat, Int.reduceLE, Int.reduceLT, Nat.reduceBEq, Nat.reduceLT, Nat.reduceAdd, Nat.reduceLeDiff, dr_removed_0, hlt, hx, encA, hSt, hSL, encTask, h12]
        have hlk := hSl (badB t l k)
        refine (iafter_spec t l a 95 [.ptr (σ.length + 1) 0, .ptr (σ.length + 3) 0] tok _ (fun p => S p ++ [.row (encA a)]) (fun p s => (markB s l p, true)) (badB t l k) hn hl (by have := hok.pre; omega) hok.eff (fun e he => by have := hok.whens e he; omega) hok.rng ?_ rfl ?_ ?_).mono ?_
        · exact .func _ _ (by intro j x hx; match j, hx with | 0, hx => simp at hx; subst hx; exact .ptr _ _ (by simp; omega) | 1, hx => simp at hx; subst hx; exact .ptr _ _ (by simp; omega))
        · intro p
          have h1 := hSl p
          exact ⟨by rw [List.length_append, List.length_append, h1, hlk], idsS_push (hSi p) (idsO_row (ids_encA a))⟩
        · intro p s tl hr
          have hsl : s.length ≤ 140737488355328 := by rcases risingB_len _ _ hr with rfl | h; simp; omega
          rw [List.append_assoc]
          refine (removed1_spec s l p tok (σ.length + 1) (σ.length + 3) (σ.length + 2) _ hsl (rising_pw hr).1 hl hll (hSL _ _) (hSB _ _) (hSD _ _) (by omega) (by omega)).mono ?_
          rintro _ _ ⟨rfl, rfl⟩
          exact ⟨rfl, by rw [hSs, List.append_assoc]⟩
        · rintro _ _ ⟨rfl, rfl⟩
          have hS2 : S (foldV (fun s => condHolds s a.pre && clausesT s l) (fun s => afterL t.facts.length s a) (fun (p : Nat → Bool) s => (markB s l p, true)) (badB t l k) (statesL t.facts.length)) = S (badB t l (k + 1)) := hSc _ _ fun i _ => by
            rw [foldV_mark, badB_succ hx]; rfl
          rw [hS2]
          have hlk2 := hSl (badB t l (k + 1))
          simp only [go_sem, Int.reduceToNat, Int.reduceLE, Int.reduceLT, Nat.reduceBEq, Nat.reduceLT, Nat.reduceAdd, Nat.reduceLeDiff, dr_removed_0]
          refine hK _ _ (k + 1) (by omega) (by omega) ?_
          (try dsimp only)
          rw [hw]
          first | exact ghN (hSi _) | exact ghN0 (hSi _)
      · have hlt : ¬ ((k : Int) < (t.actions.length : Int)) := by omega
        simp only [go_sem, Int.reduceToNat, Int.reduceLE, Int.reduceLT, Nat.reduceBEq, Nat.reduceLT, Nat.reduceAdd, Nat.reduceLeDiff, dr_removed_0, hlt, hE, hSL]
        clear hK hE hR
        obtain ⟨S', hS'⟩ : ∃ S', S' = S (badB t l k) := ⟨_, rfl⟩
        have hl' : S'.length = σ.length + 4 := by rw [hS']; exact hSl _
        have hi' : IdsS S'.length S' := by rw [hS']; exact hSi _
        have hB' : ∀ x, (S' ++ x)[σ.length + 3]? = some (.row [.ref (σ.length + 2) 1 0 l.length]) := fun x => by rw [hS']; exact hSB _ _
        have hD' : ∀ x, (S' ++ x)[σ.length + 2]? = some (.row ((genB l.length (badB t l k)).map ab)) := fun x => by rw [hS']; exact hSD _ _
        have hk' : S'.take σ.length = σ := by rw [hS']; exact hSk _
        have hL' : ∀ x, (S' ++ x)[σ.length + 1]? = some (.row [.slice tok (l.map encC)]) := fun x => by rw [hS']; exact hSL _ _
        have hL'0 : S'[σ.length + 1]? = some (.row [.slice tok (l.map encC)]) := by have := hL' []; rwa [List.append_nil] at this
        rw [← hS']
        simp only [go_sem, Int.reduceToNat, Int.reduceLE, Int.reduceLT, Nat.reduceBEq, Nat.reduceLT, Nat.reduceAdd, Nat.reduceLeDiff, dr_removed_0, hL'0]
        have hs1 : ∀ k : Nat, IdsS (S' ++ [AObj.grow 1 k]).length (S' ++ [AObj.grow 1 k]) := fun k => idsS_push hi' trivial
        refine wpc_while (fun (i : Nat) => [(4, .slice (.grow S'.length) (((l.take i).filter (stayB t l)).map encCf)), (5, .bool ((l.take i).any fun c => !(stayB t l c))), (7, .ptr (σ.length + 3) 0), (81, .slice tok (l.map encC)), (82, .int .i64 l.length), (83, .int .i64 i)])
          (fun i => S' ++ [.grow 1 ((l.take i).filter (stayB t l)).length]) (fun i => i ≤ l.length) (fun i => l.length - i) 0 (Nat.zero_le _)
          (by first | exact .begin0 4 1 _ (by omega) tellT hi' | exact .begin 4 1 _ (by omega) tellT hi') ?_
        intro i hi K hK hE hR
        by_cases h2 : i < l.length
        · have hlt2 : ((i : Int) < (l.length : Int)) := by omega
          obtain ⟨c, hx⟩ := get_ex h2
          have hw : IntKind.i64.wrap ((i : Int) + 1) = ((i + 1 : Nat) : Int) := by rw [wrap_ok (by omega)]; omega
          have hcl := hlc c (List.mem_of_getElem? hx)
          have hgd : l.getD i [] = c := by rw [List.getD_eq_getElem?_getD, hx]; rfl
          have hgq : ((genB l.length (badB t l k)).map ab)[i]? = some (.bool (!(stayB t l c))) := by rw [genB_get' h2, badB_all (by omega), hgd]
          have h0 : (0 : Int) ≤ (i : Int) := by omega
          cases hst : stayB t l c
          · have e1 : (l.take (i + 1)).filter (stayB t l) = (l.take i).filter (stayB t l) := by rw [take_succ' hx, List.filter_append, List.filter_cons, hst]; simp
            have e2 : ((l.take (i + 1)).any fun c => !(stayB t l c)) = true := by rw [take_succ' hx, List.any_append]; simp [hst]
            rw [hst] at hgq
            simp only [go_sem, Int.reduceToNat, Int.reduceLE, Int.reduceLT, Nat.reduceBEq, Nat.reduceLT, Nat.reduceAdd, Nat.reduceLeDiff, dr_removed_0, hlt2, hx, hB', hD', hgq, h0, Int.toNat_natCast, h2, encC]
            refine hK _ _ (i + 1) (by omega) (by omega) ?_
            (try dsimp only)
            rw [hw, e1, e2]
            first | exact ghP0 (hs1 _) | exact ghP (l := [.grow 1 _]) (hs1 _)
          · have e1 : (l.take (i + 1)).filter (stayB t l) = (l.take i).filter (stayB t l) ++ [c] := by rw [take_succ' hx, List.filter_append, List.filter_cons, hst]; simp
            have e2 : ((l.take (i + 1)).any fun c => !(stayB t l c)) = (l.take i).any fun c => !(stayB t l c) := by rw [take_succ' hx, List.any_append]; simp [hst]
            have hfl : ((l.take i).filter (stayB t l)).length ≤ i := Nat.le_trans (List.length_filter_le _ _) (by simp; omega)
            have hbig2 : bigLen (((l.take i).filter (stayB t l)).length + 1) 24 := big_ok (by omega) (by omega)
            rw [hst] at hgq
            simp only [go_sem, Int.reduceToNat, Int.reduceLE, Int.reduceLT, Nat.reduceBEq, Nat.reduceLT, Nat.reduceAdd, Nat.reduceLeDiff, dr_removed_0, hlt2, hx, hB', hD', hgq, h0, Int.toNat_natCast, h2, encC]
            refine (cloneL_specF c .unk _ (by omega)).is ?_
            simp only [go_sem, Int.reduceToNat, Int.reduceLE, Int.reduceLT, Nat.reduceBEq, Nat.reduceLT, Nat.reduceAdd, Nat.reduceLeDiff, dr_removed_0, hbig2, hB', hD']
            have e3 : ((l.take i).filter (stayB t l)).map encCf ++ [[AV.slice .fresh (c.map encLit)]] = ((l.take (i + 1)).filter (stayB t l)).map encCf := by rw [e1, List.map_append]; rfl
            have e4 : ((l.take i).filter (stayB t l)).length + 1 = ((l.take (i + 1)).filter (stayB t l)).length := by rw [e1]; simp
            rw [e3, e4, hw, ← e2]
            refine hK _ _ (i + 1) (by omega) (by omega) ?_
            (try dsimp only)
            exact ghP (l := [.grow 1 _]) (hs1 _)
        · have hlt2 : ¬ ((i : Int) < (l.length : Int)) := by omega
          rw [List.take_of_length_le (by omega : l.length ≤ i)]
          simp only [go_sem, Int.reduceToNat, Int.reduceLE, Int.reduceLT, Nat.reduceBEq, Nat.reduceLT, Nat.reduceAdd, Nat.reduceLeDiff, dr_removed_0, hlt2, hE]
          exact ret3 (.slice .fresh ((l.filter (stayB t l)).map encCf)) (.bool (l.any fun c => !(stayB t l c))) (.bool true) (by rw [List.take_append_of_le_length (by omega), hk']) ⟨rfl, rfl⟩
theorem removed_spec (t : FTask) (l : List (List FLit)) (tok : Tok) (σ : Store) (ht : TB t) (hn : t.facts.length ≤ 12) (hini : t.init.length ≤ 1000000 ∧ t.init.Pairwise (· < ·)) (hact : ∀ a ∈ t.actions, AOk t.facts.length a) (hl : FB l) (hll : l.length ≤ 1000000) (hlc : ∀ c ∈ l, c.length ≤ 1000000) :
    ACalls Tryz.prog 64 [.agg (encTask t), .slice tok (l.map encC)] σ (isR (.tuple [.slice .unk ((l.filter (stayB t l)).map encC), .bool (l.any fun c => !(stayB t l c)), .bool true]) σ) := (removed_specF t l tok σ ht hn hini hact hl hll hlc).wkR (Wk.tuple (.cons (Wk.cfu _ _) (WkL.refl _)))
end Go.Proofs.YtocphglkceidhaaGreat
namespace Go.Proofs.YtocphglkceidhaaGreat
open Go.Ahl
/-- The largest set of clauses that keeps itself. -/
def largeL (t : FTask) (l : List (List FLit)) : List (List FLit) := progL (clauseT t.init) (keepB t.facts.length t.actions) l.length l
theorem progL_fix {α : Type} {ini : α → Bool} {K : List α → α → Bool} {l : List α} (h : l.all (fun c => ini c && K l c) = true) : ∀ n, progL ini K n l = l
  | 0 => rfl
  | n + 1 => by rw [progL, if_pos h]
theorem any_all_not (l : List (List FLit)) (p : List FLit → Bool) : (l.any fun c => !(p c)) = !(l.all p) := by
  induction l with
  | nil => rfl
  | cons c l ih => rw [List.any_cons, List.all_cons, ih, Bool.not_and]
def c_ilargest : CCode := .seq (.ops [⟨some 2, .box (.tmp 0), none, []⟩, ⟨some 4, .move (.lit (.slice .nil [])), none, []⟩, ⟨some 5, .move (.lit (.bool false)), none, []⟩]) (.scope (.seq .skip (.block 0 (.loop (.block 1 (.seq (.ops [⟨some 10, .load (some 4) (.tmp 2), none, []⟩, ⟨some 11, .move (.tmp 1), none, []⟩, ⟨some 12, .call (.lit (.func 64 [])) [.tmp 10, .tmp 11], none, []⟩, ⟨some 9, .move (.tmp 12), none, []⟩, ⟨some 13, .extract (.tmp 9) 0, none, []⟩, ⟨some 14, .extract (.tmp 9) 1, none, []⟩, ⟨some 15, .extract (.tmp 9) 2, none, []⟩, ⟨some 6, .move (.tmp 13), none, []⟩, ⟨some 7, .move (.tmp 14), none, []⟩, ⟨some 8, .move (.tmp 15), none, []⟩]) (.seq (.seq (.ops [⟨some 16, .move (.tmp 8), none, []⟩, ⟨some 17, .un .not (.tmp 16), none, []⟩]) (.cond (.tmp 17) (.seq (.ops [⟨some 4, .move (.lit (.slice .nil [])), none, []⟩, ⟨some 5, .move (.lit (.bool false)), none, []⟩]) .ret) .skip)) (.seq (.ops [⟨some 18, .move (.tmp 6), none, []⟩, ⟨some 1, .move (.tmp 18), none, []⟩]) (.seq (.seq (.ops [⟨some 19, .move (.tmp 7), none, []⟩]) (.cond (.tmp 19) (.exit 1) .skip)) (.seq (.ops [⟨some 20, .move (.tmp 1), none, []⟩, ⟨some 4, .move (.tmp 20), none, []⟩, ⟨some 5, .move (.lit (.bool true)), none, []⟩]) .ret))))))))))
set_option maxRecDepth 20000 in
set_option maxHeartbeats 1000000 in
theorem ilargest_specF (t : FTask) (l : List (List FLit)) (tok : Tok) (σ : Store) (ht : TB t) (hn : t.facts.length ≤ 12) (hini : t.init.length ≤ 1000000 ∧ t.init.Pairwise (· < ·)) (hact : ∀ a ∈ t.actions, AOk t.facts.length a) (hll : l.length ≤ 1000000) (hlc : ∀ c ∈ l, c.length ≤ 1000000) :
    ACalls Tryz.prog 52 [.agg (encTask t), .slice tok (l.map encC)] σ (isR (.tuple [.slice .fresh ((largeL t l).map encCf), .bool true]) σ) := by
  refine ACalls.intro (rs := [(.tmp 4), (.tmp 5)]) (by kernel_rfl) { own := [], ghosts := [] } Tryz.func52 (c := Tryz.f52.body.getD .skip) (by kernel_rfl) (by decide) (by rw [show Tryz.f52.ntmps = 21 by kernel_rfl]; exact Nat.le_of_ble_eq_true rfl) (by kernel_rfl) ?_
  intro hσ hids
  rw [show comp Tryz.prog { own := [], ghosts := [] } (Tryz.f52.body.getD .skip) = c_ilargest by kernel_rfl, show Tryz.f52.ntmps = 21 by kernel_rfl]
  unfold c_ilargest
  have hil : Ids σ.length (.slice tok (l.map encC)) := hids _ (by simp)
  have hσ1 := ids_grow hσ (ids_encTask t)
  simp only [go_sem, Int.reduceToNat, Int.reduceLE, Int.reduceLT, Nat.reduceBEq, Nat.reduceLT, Nat.reduceAdd, Nat.reduceLeDiff, encTask]
  refine wpc_while (fun m => [(1, .slice .unk (m.map encC)), (2, .ptr σ.length 0)]) (fun _ => σ ++ [.row (encTask t)])
    (fun m => (∃ n, m.length ≤ n ∧ largeL t l = progL (clauseT t.init) (keepB t.facts.length t.actions) n m) ∧ m.length ≤ l.length ∧ ∀ c ∈ m, c ∈ l) (fun m => m.length) l ⟨⟨_, Nat.le_refl _, rfl⟩, Nat.le_refl _, fun _ h => h⟩ (by (try dsimp only); exact ghk1) ?_
  rintro m ⟨⟨n, hmn, hv⟩, hml, hmc⟩ K hK hE hR
  simp only [go_sem, Int.reduceToNat, Int.reduceLE, Int.reduceLT, Nat.reduceBEq, Nat.reduceLT, Nat.reduceAdd, Nat.reduceLeDiff, encTask]
  refine (removed_specF t m .unk _ ht hn hini hact ⟨by omega, fun c hc => by have := hlc c (hmc c hc); omega⟩ (by omega) (fun c hc => hlc c (hmc c hc))).is ?_
  rw [any_all_not]
  have hst : ∀ c, stayB t m c = (clauseT t.init c && keepB t.facts.length t.actions m c) := fun _ => rfl
  cases ha : m.all (stayB t m)
  · simp only [go_sem, Int.reduceToNat, Int.reduceLE, Int.reduceLT, Nat.reduceBEq, Nat.reduceLT, Nat.reduceAdd, Nat.reduceLeDiff, hR, hE]
    have hlt := filter_lt ha
    obtain ⟨n', rfl⟩ : ∃ n', n = n' + 1 := ⟨n - 1, by omega⟩
    have hv2 : largeL t l = progL (clauseT t.init) (keepB t.facts.length t.actions) n' (m.filter (stayB t m)) := by
      rw [hv, progL, if_neg (by rw [show m.all (fun c => clauseT t.init c && keepB t.facts.length t.actions m c) = false from ha]; simp)]; rfl
    refine hK _ _ (m.filter (stayB t m)) ⟨⟨n', by omega, hv2⟩, by omega, fun c hc => hmc c (List.mem_filter.1 hc).1⟩ hlt ?_
    (try dsimp only)
    refine (Ghost.weak 1 (.slice .unk ((m.filter (stayB t m)).map encC)) (by exact Wk.cfu _ _)).trans ?_
    exact ghk1
  · have e : m.filter (stayB t m) = m := List.filter_eq_self.2 fun c hc => List.all_eq_true.1 ha c hc
    rw [e]
    simp only [go_sem, Int.reduceToNat, Int.reduceLE, Int.reduceLT, Nat.reduceBEq, Nat.reduceLT, Nat.reduceAdd, Nat.reduceLeDiff, hR]
    first | exact rtl (.slice .fresh (m.map encCf)) (.bool true) ⟨by rw [hv, progL_fix ha], rfl⟩ | exact rtl0 (.slice .fresh (m.map encCf)) (.bool true) ⟨by rw [hv, progL_fix ha], rfl⟩
theorem valid_init {t : FTask} (h : validB t = true) : t.init.length ≤ 1000000 ∧ t.init.Pairwise (· < ·) := by
  have hf := valid_facts h
  simp only [validB, Bool.and_eq_true] at h
  have hr := h.2.2.1
  refine ⟨?_, (rising_pw hr).1⟩
  rcases risingB_len _ _ hr with q | q
  · rw [q]; simp
  · omega
theorem vF_len {n : Nat} (hn : (n : Int) ≤ 200) {l : List (List FLit)} (h : vF n l) : ∀ c ∈ l, c.length ≤ 1000000 := fun c hc => by
  rcases condB_len (h c hc) with rfl | q
  · simp
  · omega
/-- Whether clauses are inductive, and the error. -/
def indR (t : FTask) (l : List (List FLit)) : AV := if clE t l = 0 then .tuple [.bool (l.all (stayB t l)), .int .i64 0] else .tuple [.bool false, .int .i64 (clE t l)]
def larR (t : FTask) (l : List (List FLit)) : AV := if clE t l = 0 then .tuple [.slice .unk ((largeL t l).map encC), .int .i64 0] else .tuple [.slice .nil [], .int .i64 (clE t l)]
def larRf (t : FTask) (l : List (List FLit)) : AV := if clE t l = 0 then .tuple [.slice .fresh ((largeL t l).map encCf), .int .i64 0] else .tuple [.slice .nil [], .int .i64 (clE t l)]
theorem larRf_wk (t : FTask) (l : List (List FLit)) : Wk (larRf t l) (larR t l) := by
  unfold larRf larR
  by_cases h : clE t l = 0
  · rw [if_pos h, if_pos h]; exact Wk.tuple (.cons (Wk.cfu _ _) (WkL.refl _))
  · rw [if_neg h, if_neg h]; exact .refl _
def c_Inductive : CCode := .seq (.ops [⟨some 2, .box (.tmp 0), none, []⟩, ⟨some 4, .move (.lit (.bool false)), none, []⟩, ⟨some 5, .move (.lit (.int .i64 0)), none, []⟩]) (.seq (.seq (.ops [⟨some 10, .load (some 4) (.tmp 2), none, []⟩, ⟨some 11, .move (.tmp 1), none, []⟩, ⟨some 12, .call (.lit (.func 37 [])) [.tmp 10, .tmp 11], none, []⟩, ⟨some 6, .move (.tmp 12), none, []⟩]) (.seq (.ops [⟨some 13, .move (.tmp 6), none, []⟩, ⟨some 14, .bin .neq .none (.tmp 13) (.lit (.int .i64 0)), none, []⟩]) (.cond (.tmp 14) (.seq (.ops [⟨some 15, .move (.tmp 6), none, []⟩, ⟨some 4, .move (.lit (.bool false)), none, []⟩, ⟨some 5, .move (.tmp 15), none, []⟩]) .ret) .skip))) (.seq (.ops [⟨some 17, .load (some 4) (.tmp 2), none, []⟩, ⟨some 18, .move (.tmp 1), none, []⟩, ⟨some 19, .call (.lit (.func 64 [])) [.tmp 17, .tmp 18], none, []⟩, ⟨some 16, .move (.tmp 19), none, []⟩, ⟨some 20, .extract (.tmp 16) 0, none, []⟩, ⟨some 21, .extract (.tmp 16) 1, none, []⟩, ⟨some 22, .extract (.tmp 16) 2, none, []⟩, ⟨some 7, .move (.tmp 20), none, []⟩, ⟨some 8, .move (.tmp 21), none, []⟩, ⟨some 9, .move (.tmp 22), none, []⟩]) (.seq (.seq (.ops [⟨some 23, .move (.tmp 9), none, []⟩, ⟨some 24, .un .not (.tmp 23), none, []⟩]) (.cond (.tmp 24) (.seq (.ops [⟨some 4, .move (.lit (.bool false)), none, []⟩, ⟨some 5, .move (.lit (.int .i64 3)), none, []⟩]) .ret) .skip)) (.seq (.ops [⟨some 25, .move (.tmp 8), none, []⟩, ⟨some 26, .un .not (.tmp 25), none, []⟩, ⟨some 4, .move (.tmp 26), none, []⟩, ⟨some 5, .move (.lit (.int .i64 0)), none, []⟩]) .ret))))
set_option maxRecDepth 20000 in
theorem Inductive_spec (t : FTask) (l : List (List FLit)) (tok : Tok) (σ : Store) (ht : TB t) (hl : FB l) (h12 : validB t = true → t.facts.length ≤ 12) :
    ACalls Tryz.prog 22 [.agg (encTask t), .slice tok (l.map encC)] σ (isR (indR t l) σ) := by
  refine ACalls.intro (rs := [(.tmp 4), (.tmp 5)]) (by kernel_rfl) { own := [], ghosts := [] } Tryz.func22 (c := Tryz.f22.body.getD .skip) (by kernel_rfl) (by decide) (by rw [show Tryz.f22.ntmps = 27 by kernel_rfl]; exact Nat.le_of_ble_eq_true rfl) (by kernel_rfl) ?_
  intro hσ hids
  rw [show comp Tryz.prog { own := [], ghosts := [] } (Tryz.f22.body.getD .skip) = c_Inductive by kernel_rfl, show Tryz.f22.ntmps = 27 by kernel_rfl]
  unfold c_Inductive
  simp only [go_sem, Int.reduceToNat, Int.reduceLE, Int.reduceLT, Nat.reduceBEq, Nat.reduceLT, Nat.reduceAdd, Nat.reduceLeDiff, encTask]
  refine (clauses_spec t l tok _ ht hl).is ?_
  by_cases h1 : clE t l = 0
  · obtain ⟨hv, hll, hvf⟩ := clE_zero h1
    rw [h1]
    simp only [go_sem, Int.reduceToNat, Int.reduceLE, Int.reduceLT, Nat.reduceBEq, Nat.reduceLT, Nat.reduceAdd, Nat.reduceLeDiff, encTask]
    refine (removed_spec t l tok _ ht (h12 hv) (valid_init hv) (fun a ha => valid_AOk hv ha) hl (by omega) (vF_len (valid_facts hv) hvf)).is ?_
    rw [any_all_not]
    cases h2 : l.all (stayB t l)
    · simp only [go_sem, Int.reduceToNat, Int.reduceLE, Int.reduceLT, Nat.reduceBEq, Nat.reduceLT, Nat.reduceAdd, Nat.reduceLeDiff]
      first | exact rtl (.bool false) (.int .i64 0) ⟨by rw [indR, if_pos h1, h2], rfl⟩ | exact rtl0 (.bool false) (.int .i64 0) ⟨by rw [indR, if_pos h1, h2], rfl⟩
    · simp only [go_sem, Int.reduceToNat, Int.reduceLE, Int.reduceLT, Nat.reduceBEq, Nat.reduceLT, Nat.reduceAdd, Nat.reduceLeDiff]
      first | exact rtl (.bool true) (.int .i64 0) ⟨by rw [indR, if_pos h1, h2], rfl⟩ | exact rtl0 (.bool true) (.int .i64 0) ⟨by rw [indR, if_pos h1, h2], rfl⟩
  · have h1' : (clE t l != 0) = true := by simpa using h1
    simp only [go_sem, Int.reduceToNat, Int.reduceLE, Int.reduceLT, Nat.reduceBEq, Nat.reduceLT, Nat.reduceAdd, Nat.reduceLeDiff, h1']
    first | exact rtl (.bool false) (.int .i64 (clE t l)) ⟨by rw [indR, if_neg h1], rfl⟩ | exact rtl0 (.bool false) (.int .i64 (clE t l)) ⟨by rw [indR, if_neg h1], rfl⟩
def c_Largest : CCode := .seq (.ops [⟨some 2, .box (.tmp 0), none, []⟩, ⟨some 4, .move (.lit (.slice .nil [])), none, []⟩, ⟨some 5, .move (.lit (.int .i64 0)), none, []⟩]) (.seq (.seq (.ops [⟨some 9, .load (some 4) (.tmp 2), none, []⟩, ⟨some 10, .move (.tmp 1), none, []⟩, ⟨some 11, .call (.lit (.func 37 [])) [.tmp 9, .tmp 10], none, []⟩, ⟨some 6, .move (.tmp 11), none, []⟩]) (.seq (.ops [⟨some 12, .move (.tmp 6), none, []⟩, ⟨some 13, .bin .neq .none (.tmp 12) (.lit (.int .i64 0)), none, []⟩]) (.cond (.tmp 13) (.seq (.ops [⟨some 14, .move (.tmp 6), none, []⟩, ⟨some 4, .move (.lit (.slice .nil [])), none, []⟩, ⟨some 5, .move (.tmp 14), none, []⟩]) .ret) .skip))) (.seq (.ops [⟨some 16, .load (some 4) (.tmp 2), none, []⟩, ⟨some 17, .move (.tmp 1), none, []⟩, ⟨some 18, .call (.lit (.func 52 [])) [.tmp 16, .tmp 17], none, []⟩, ⟨some 15, .move (.tmp 18), none, []⟩, ⟨some 19, .extract (.tmp 15) 0, none, []⟩, ⟨some 20, .extract (.tmp 15) 1, none, []⟩, ⟨some 7, .move (.tmp 19), none, []⟩, ⟨some 8, .move (.tmp 20), none, []⟩]) (.seq (.seq (.ops [⟨some 21, .move (.tmp 8), none, []⟩, ⟨some 22, .un .not (.tmp 21), none, []⟩]) (.cond (.tmp 22) (.seq (.ops [⟨some 4, .move (.lit (.slice .nil [])), none, []⟩, ⟨some 5, .move (.lit (.int .i64 3)), none, []⟩]) .ret) .skip)) (.seq (.ops [⟨some 23, .move (.tmp 7), none, []⟩, ⟨some 4, .move (.tmp 23), none, []⟩, ⟨some 5, .move (.lit (.int .i64 0)), none, []⟩]) .ret))))
set_option maxRecDepth 20000 in
theorem Largest_specF (t : FTask) (l : List (List FLit)) (tok : Tok) (σ : Store) (ht : TB t) (hl : FB l) (h12 : validB t = true → t.facts.length ≤ 12) :
    ACalls Tryz.prog 14 [.agg (encTask t), .slice tok (l.map encC)] σ (isR (larRf t l) σ) := by
  refine ACalls.intro (rs := [(.tmp 4), (.tmp 5)]) (by kernel_rfl) { own := [], ghosts := [] } Tryz.func14 (c := Tryz.f14.body.getD .skip) (by kernel_rfl) (by decide) (by rw [show Tryz.f14.ntmps = 24 by kernel_rfl]; exact Nat.le_of_ble_eq_true rfl) (by kernel_rfl) ?_
  intro hσ hids
  rw [show comp Tryz.prog { own := [], ghosts := [] } (Tryz.f14.body.getD .skip) = c_Largest by kernel_rfl, show Tryz.f14.ntmps = 24 by kernel_rfl]
  unfold c_Largest
  simp only [go_sem, Int.reduceToNat, Int.reduceLE, Int.reduceLT, Nat.reduceBEq, Nat.reduceLT, Nat.reduceAdd, Nat.reduceLeDiff, encTask]
  refine (clauses_spec t l tok _ ht hl).is ?_
  by_cases h1 : clE t l = 0
  · obtain ⟨hv, hll, hvf⟩ := clE_zero h1
    rw [h1]
    simp only [go_sem, Int.reduceToNat, Int.reduceLE, Int.reduceLT, Nat.reduceBEq, Nat.reduceLT, Nat.reduceAdd, Nat.reduceLeDiff, encTask]
    refine (ilargest_specF t l tok _ ht (h12 hv) (valid_init hv) (fun a ha => valid_AOk hv ha) (by omega) (vF_len (valid_facts hv) hvf)).is ?_
    simp only [go_sem, Int.reduceToNat, Int.reduceLE, Int.reduceLT, Nat.reduceBEq, Nat.reduceLT, Nat.reduceAdd, Nat.reduceLeDiff]
    first | exact rtl (.slice .fresh ((largeL t l).map encCf)) (.int .i64 0) ⟨by rw [larRf, if_pos h1], rfl⟩ | exact rtl0 (.slice .fresh ((largeL t l).map encCf)) (.int .i64 0) ⟨by rw [larRf, if_pos h1], rfl⟩
  · have h1' : (clE t l != 0) = true := by simpa using h1
    simp only [go_sem, Int.reduceToNat, Int.reduceLE, Int.reduceLT, Nat.reduceBEq, Nat.reduceLT, Nat.reduceAdd, Nat.reduceLeDiff, h1']
    first | exact rtl (.slice .nil []) (.int .i64 (clE t l)) ⟨by rw [larRf, if_neg h1], rfl⟩ | exact rtl0 (.slice .nil []) (.int .i64 (clE t l)) ⟨by rw [larRf, if_neg h1], rfl⟩
theorem Largest_spec (t : FTask) (l : List (List FLit)) (tok : Tok) (σ : Store) (ht : TB t) (hl : FB l) (h12 : validB t = true → t.facts.length ≤ 12) :
    ACalls Tryz.prog 14 [.agg (encTask t), .slice tok (l.map encC)] σ (isR (larR t l) σ) := (Largest_specF t l tok σ ht hl h12).wkR (larRf_wk t l)
end Go.Proofs.YtocphglkceidhaaGreat
namespace Go.Proofs.YtocphglkceidhaaGreat
open Go.Ahl
end Go.Proofs.YtocphglkceidhaaGreat
namespace Go.Proofs.YtocphglkceidhaaGreat
open Go.Ahl
def c_Is08 : CCode := .seq (.ops [⟨some 2, .box (.tmp 0), none, []⟩, ⟨some 4, .move (.lit (.bool false)), none, []⟩]) (.seq (.ops [⟨some 5, .move (.tmp 1), none, []⟩, ⟨some 6, .blen 1 (.tmp 5), none, []⟩, ⟨some 7, .bin .leq .none (.tmp 6) (.lit (.int .i64 2000)), none, []⟩, ⟨some 8, .move (.tmp 7), none, []⟩, ⟨some 9, .load (some 4) (.tmp 2), some (some 8, true), []⟩, ⟨some 10, .move (.tmp 1), some (some 8, true), []⟩, ⟨some 11, .call (.lit (.func 84 [])) [.tmp 9, .tmp 10], some (some 8, true), []⟩, ⟨some 12, .pick (.tmp 8) (.tmp 11) (.lit (.bool false)), none, []⟩, ⟨some 4, .move (.tmp 12), none, []⟩]) .ret)
set_option maxRecDepth 20000 in
theorem Is08_spec (t : FTask) (l : List (List FLit)) (tok : Tok) (σ : Store) (hl : FB l) :
    ACalls Tryz.prog 48 [.agg (encTask t), .slice tok (l.map encC)] σ (isR (.bool (isClauses t.facts.length l)) σ) := by
  refine ACalls.intro (rs := [(.tmp 4)]) (by kernel_rfl) { own := [], ghosts := [] } Tryz.func48 (c := Tryz.f48.body.getD .skip) (by kernel_rfl) (by decide) (by rw [show Tryz.f48.ntmps = 13 by kernel_rfl]; exact Nat.le_of_ble_eq_true rfl) (by kernel_rfl) ?_
  intro hσ hids
  rw [show comp Tryz.prog { own := [], ghosts := [] } (Tryz.f48.body.getD .skip) = c_Is08 by kernel_rfl, show Tryz.f48.ntmps = 13 by kernel_rfl]
  unfold c_Is08
  by_cases h : (l.length : Int) ≤ 2000
  · simp only [go_sem, Int.reduceToNat, Int.reduceLE, Int.reduceLT, Nat.reduceBEq, Nat.reduceLT, Nat.reduceAdd, Nat.reduceLeDiff, encTask, h]
    refine (conditions_spec t l tok _ hl.1 hl.2).is ?_
    simp only [go_sem, Int.reduceToNat, Int.reduceLE, Int.reduceLT, Nat.reduceBEq, Nat.reduceLT, Nat.reduceAdd, Nat.reduceLeDiff]
    first | exact rtw (v := .bool _) wkS ⟨by rw [isClauses, decide_eq_true (by omega : l.length ≤ 2000), Bool.true_and], rfl⟩ | exact rtw0 (v := .bool _) wkS ⟨by rw [isClauses, decide_eq_true (by omega : l.length ≤ 2000), Bool.true_and], rfl⟩
  · simp only [go_sem, Int.reduceToNat, Int.reduceLE, Int.reduceLT, Nat.reduceBEq, Nat.reduceLT, Nat.reduceAdd, Nat.reduceLeDiff, encTask, h]
    first | exact rtk (.bool false) ⟨by rw [isClauses, decide_eq_false (by omega : ¬ l.length ≤ 2000)]; rfl, rfl⟩ | exact rtk0 (.bool false) ⟨by rw [isClauses, decide_eq_false (by omega : ¬ l.length ≤ 2000)]; rfl, rfl⟩
end Go.Proofs.YtocphglkceidhaaGreat
namespace Go.Proofs.YtocphglkceidhaaGreat
open Go.Ahl
end Go.Proofs.YtocphglkceidhaaGreat
namespace Go.Proofs.YtocphglkceidhaaGreat
open Go.Ahl
end Go.Proofs.YtocphglkceidhaaGreat
namespace Go.Proofs.YtocphglkceidhaaGreat
open Go.Ahl
def c_pairs1 : CCode := .seq (.ops [⟨some 2, .alloc (.agg [.int .i64 0, .bool false]), none, []⟩]) (.seq (.ops [⟨some 3, .move (.tmp 0), none, []⟩, ⟨some 4, .bin .quo .none (.tmp 3) (.lit (.int .i64 2)), none, []⟩, ⟨some 5, .move (.tmp 0), none, []⟩, ⟨some 6, .bin .rem .none (.tmp 5) (.lit (.int .i64 2)), none, []⟩, ⟨some 7, .bin .eql .none (.tmp 6) (.lit (.int .i64 1)), none, []⟩, ⟨some 8, .build [.int .i64 0, .bool false] [(0, 1, .tmp 4), (1, 1, .tmp 7)], none, []⟩, ⟨none, .store 2 (.tmp 2) (.tmp 8), none, []⟩]) .ret)
set_option maxRecDepth 20000 in
theorem pairs1_spec (i : Nat) (σ : Store) (hi : i ≤ 1000000) : ACalls Tryz.prog 54 [.int .i64 i] σ (isR (.agg (encLit (litI i))) σ) := by
  refine ACalls.intro (rs := [(.cell (some 2) 2)]) (by kernel_rfl) { own := [], ghosts := [] } Tryz.func54 (c := Tryz.f54.body.getD .skip) (by kernel_rfl) (by decide) (by rw [show Tryz.f54.ntmps = 9 by kernel_rfl]; exact Nat.le_of_ble_eq_true rfl) (by kernel_rfl) ?_
  intro hσ hids
  rw [show comp Tryz.prog { own := [], ghosts := [] } (Tryz.f54.body.getD .skip) = c_pairs1 by kernel_rfl, show Tryz.f54.ntmps = 9 by kernel_rfl]
  unfold c_pairs1
  have h1 : IntKind.i64.wrap ((i : Int).tdiv 2) = ((i / 2 : Nat) : Int) := by
    rw [show (i : Int).tdiv 2 = ((i / 2 : Nat) : Int) by rw [Int.tdiv_eq_ediv_of_nonneg (by omega)]; omega, wrap_ok (by omega)]
  have h2 : (i : Int).tmod 2 = ((i % 2 : Nat) : Int) := by rw [Int.tmod_eq_emod_of_nonneg (by omega)]; omega
  have h3 : (((i % 2 : Nat) : Int) == 1) = (i % 2 == 1) := by
    rw [Bool.eq_iff_iff]; simp; omega
  have h20 : (2 : Int) ≠ 0 := by decide
  simp only [go_sem, Int.reduceToNat, Int.reduceLE, Int.reduceLT, Nat.reduceBEq, Nat.reduceLT, Nat.reduceAdd, Nat.reduceLeDiff, h1, h2, h3, h20]
  exact ⟨by decide, by decide, ret_cN (cells := encLit (litI i)) rfl (by rw [List.getElem?_append_right (Nat.le_refl _), Nat.sub_self]; rfl) rfl (by simp) hσ (ids_agg (ids_encLit _)) ⟨rfl, rfl⟩⟩
def d_pairs21_0 : List COp := [⟨some 4, .move (.tmp 0), none, []⟩, ⟨some 5, .blen 1 (.tmp 4), none, [0]⟩, ⟨some 6, .bin .eql .none (.tmp 5) (.lit (.int .i64 1)), none, [1]⟩, ⟨some 7, .move (.tmp 6), none, [2]⟩, ⟨some 8, .move (.tmp 0), some (some 7, true), [3]⟩, ⟨some 9, .iaddr 2 (.tmp 8) (.lit (.int .i64 0)), some (some 7, true), [4, 3]⟩, ⟨some 10, .load (some 2) (.tmp 9), some (some 7, true), [5, 3]⟩, ⟨some 11, .load (some 2) (.tmp 1), some (some 7, true), [3]⟩, ⟨some 12, .bin .eql (.flat [1, 0]) (.tmp 10) (.tmp 11), some (some 7, true), [6, 7, 3]⟩, ⟨some 13, .pick (.tmp 7) (.tmp 12) (.lit (.bool false)), none, [3, 8]⟩, ⟨some 3, .move (.tmp 13), none, [9, 3, 0, 1, 2, 3, 4, 5, 6, 7, 8, 9]⟩]
theorem dr_pairs21_0 (P : Program) (nt n0 : Nat) (Q : Post) (s : Slots) (σ : Store) : wpc P nt n0 (.draw d_pairs21_0) Q s σ = aOpsD P nt [⟨some 4, .move (.tmp 0), none, []⟩, ⟨some 5, .blen 1 (.tmp 4), none, [0]⟩, ⟨some 6, .bin .eql .none (.tmp 5) (.lit (.int .i64 1)), none, [1]⟩, ⟨some 7, .move (.tmp 6), none, [2]⟩, ⟨some 8, .move (.tmp 0), some (some 7, true), [3]⟩, ⟨some 9, .iaddr 2 (.tmp 8) (.lit (.int .i64 0)), some (some 7, true), [4, 3]⟩, ⟨some 10, .load (some 2) (.tmp 9), some (some 7, true), [5, 3]⟩, ⟨some 11, .load (some 2) (.tmp 1), some (some 7, true), [3]⟩, ⟨some 12, .bin .eql (.flat [1, 0]) (.tmp 10) (.tmp 11), some (some 7, true), [6, 7, 3]⟩, ⟨some 13, .pick (.tmp 7) (.tmp 12) (.lit (.bool false)), none, [3, 8]⟩, ⟨some 3, .move (.tmp 13), none, [9, 3, 0, 1, 2, 3, 4, 5, 6, 7, 8, 9]⟩] (Q .normal) s σ := wpc_draw _ (by decide)
def c_pairs21 : CCode := .seq (.ops [⟨some 3, .move (.lit (.bool false)), none, []⟩]) (.seq (.draw d_pairs21_0) .ret)
set_option maxRecDepth 20000 in
theorem pairs21_spec (d : List FLit) (x : FLit) (V : Nat) (σ : Store) (hd : d.length ≤ 140737488355328) (hV : σ[V]? = some (.row (encLit x))) :
    ACalls Tryz.prog 57 [.slice .fresh (d.map encLit), .ptr V 0] σ (isR (.bool (decide (d = [x]))) σ) := by
  refine ACalls.intro (rs := [(.tmp 3)]) (by kernel_rfl) { own := [], ghosts := [] } Tryz.func57 (c := Tryz.f57.body.getD .skip) (by kernel_rfl) (by decide) (by rw [show Tryz.f57.ntmps = 14 by kernel_rfl]; exact Nat.le_of_ble_eq_true rfl) (by kernel_rfl) ?_
  intro hσ hids
  rw [show comp Tryz.prog { own := [], ghosts := [] } (Tryz.f57.body.getD .skip) = c_pairs21 by kernel_rfl, show Tryz.f57.ntmps = 14 by kernel_rfl]
  unfold c_pairs21
  simp only [encLit] at hV
  match d, hd with
  | [], hd =>
    have h1 : ((0 : Int) == 1) = false := rfl
    simp only [go_sem, Int.reduceToNat, Int.reduceLE, Int.reduceLT, Nat.reduceBEq, Nat.reduceLT, Nat.reduceAdd, Nat.reduceLeDiff, dr_pairs21_0, h1]
    first | exact rtk (.bool false) ⟨by simp, rfl⟩ | exact rtk0 (.bool false) ⟨by simp, rfl⟩
  | [y], hd =>
    have hf := flat_lit y x
    simp only [encLit] at hf
    have h1 : (((1 : Nat) : Int) == 1) = true := rfl
    simp only [go_sem, Int.reduceToNat, Int.reduceLE, Int.reduceLT, Nat.reduceBEq, Nat.reduceLT, Nat.reduceAdd, Nat.reduceLeDiff, dr_pairs21_0, hV, encLit, h1]
    rw [hf]
    simp only [go_sem, Int.reduceToNat, Int.reduceLE, Int.reduceLT, Nat.reduceBEq, Nat.reduceLT, Nat.reduceAdd, Nat.reduceLeDiff, dr_pairs21_0]
    first | exact rtk (.bool (decide (y = x))) ⟨by simp, rfl⟩ | exact rtk0 (.bool (decide (y = x))) ⟨by simp, rfl⟩
  | y :: z :: r, hd =>
    have h1 : (((r.length + 1 + 1 : Nat) : Int) == 1) = false := by simp; omega
    simp only [go_sem, Int.reduceToNat, Int.reduceLE, Int.reduceLT, Nat.reduceBEq, Nat.reduceLT, Nat.reduceAdd, Nat.reduceLeDiff, dr_pairs21_0, h1]
    first | exact rtk (.bool false) ⟨by simp, rfl⟩ | exact rtk0 (.bool false) ⟨by simp, rfl⟩
def c_pairs2 : CCode := .seq (.ops [⟨some 2, .box (.tmp 0), none, []⟩, ⟨some 3, .move (.lit (.bool false)), none, []⟩]) (.seq (.ops [⟨some 4, .load none (.tmp 1), none, []⟩, ⟨some 5, .mkfunc 57 [.tmp 2], none, []⟩, ⟨some 6, .call (.lit (.func 56 [])) [.tmp 4, .tmp 5], none, []⟩, ⟨some 3, .move (.tmp 6), none, []⟩]) .ret)
set_option maxRecDepth 20000 in
theorem pairs2_spec (x : FLit) (out : List (List FLit)) (tok : Tok) (O : Nat) (σ : Store) (hl : FB out) (hO : σ[O]? = some (.row [.slice tok (out.map encCf)])) :
    ACalls Tryz.prog 55 [.agg (encLit x), .ptr O 0] σ (isR (.bool (hasOne out x)) σ) := by
  refine ACalls.intro (rs := [(.tmp 3)]) (by kernel_rfl) { own := [], ghosts := [] } Tryz.func55 (c := Tryz.f55.body.getD .skip) (by kernel_rfl) (by decide) (by rw [show Tryz.f55.ntmps = 7 by kernel_rfl]; exact Nat.le_of_ble_eq_true rfl) (by kernel_rfl) ?_
  intro hσ hids
  rw [show comp Tryz.prog { own := [], ghosts := [] } (Tryz.f55.body.getD .skip) = c_pairs2 by kernel_rfl, show Tryz.f55.ntmps = 7 by kernel_rfl]
  unfold c_pairs2
  have hO' : ∀ r, (σ ++ r)[O]? = some (.row [.slice tok (out.map encCf)]) := fun r => by rw [List.getElem?_append_left (lt_of_get hO)]; exact hO
  simp only [go_sem, Int.reduceToNat, Int.reduceLE, Int.reduceLT, Nat.reduceBEq, Nat.reduceLT, Nat.reduceAdd, Nat.reduceLeDiff, encLit, hO']
  refine (containsFuncC_spec (fun l => .slice .fresh (l.map encLit)) out _ [.ptr σ.length 0] (fun d => decide (d = [x])) tok (σ ++ [.row (encLit x)]) hl.1 (fun d hm => pairs21_spec d x σ.length _ (hl.2 d hm) (by rw [List.getElem?_append_right (Nat.le_refl _), Nat.sub_self]; rfl))).is ?_
  simp only [go_sem, Int.reduceToNat, Int.reduceLE, Int.reduceLT, Nat.reduceBEq, Nat.reduceLT, Nat.reduceAdd, Nat.reduceLeDiff]
  first | exact rtw (v := .bool _) wkS ⟨rfl, rfl⟩ | exact rtw0 (v := .bool _) wkS ⟨rfl, rfl⟩
end Go.Proofs.YtocphglkceidhaaGreat
namespace Go.Proofs.YtocphglkceidhaaGreat
open Go.Ahl
/-- The pairs with the literals below i, and those of i with the literals below k. -/
def partL (i k : Nat) : List (List FLit) := ((List.range' (i + 1) (k - (i + 1))).filter fun k => i / 2 != k / 2).map fun k => [litI i, litI k]
def belowL (n i : Nat) : List (List FLit) := (List.range i).flatMap (pairsFrom n)
theorem partL_end (n i : Nat) : partL i n = pairsFrom n i := rfl
theorem partL_zero (i : Nat) : partL i (i + 1) = [] := by unfold partL; simp
theorem partL_succ {i k : Nat} (h : i < k) : partL i (k + 1) = partL i k ++ if i / 2 != k / 2 then [[litI i, litI k]] else [] := by
  unfold partL
  rw [show k + 1 - (i + 1) = (k - (i + 1)) + 1 by omega, List.range'_concat, List.filter_append, List.map_append]
  congr 1
  rw [show i + 1 + 1 * (k - (i + 1)) = k by omega, List.filter_cons]
  split <;> simp
theorem belowL_succ (n i : Nat) : belowL n (i + 1) = belowL n i ++ pairsFrom n i := by unfold belowL; rw [List.range_succ, List.flatMap_append]; simp
theorem partL_len (i k : Nat) : (partL i k).length ≤ k := by
  unfold partL; rw [List.length_map]; exact Nat.le_trans (List.length_filter_le _ _) (by simp only [List.length_range']; omega)
theorem belowL_len (n : Nat) : ∀ i, (belowL n i).length ≤ i * n
  | 0 => by simp [belowL]
  | i + 1 => by
    have h1 := belowL_len n i
    have h2 := partL_len i n
    rw [partL_end] at h2
    rw [belowL_succ, List.length_append, Nat.succ_mul]; omega
theorem singles_succ (i : Nat) : singles (i + 1) = singles i ++ [[litI i]] := by unfold singles; rw [List.range_succ, List.map_append]; rfl
/-- The inductive clauses with one or two literals. -/
def pairsR (t : FTask) : AV := if validB t then .tuple [.slice .unk ((leanL [] (largeL t (singles (2 * t.facts.length) ++ pairsL (2 * t.facts.length)))).map encC), .int .i64 0] else .tuple [.slice .nil [], .int .i64 10]
def pairsRf (t : FTask) : AV := if validB t then .tuple [.slice .fresh ((leanL [] (largeL t (singles (2 * t.facts.length) ++ pairsL (2 * t.facts.length)))).map encCf), .int .i64 0] else .tuple [.slice .nil [], .int .i64 10]
theorem pairsRf_wk (t : FTask) : Wk (pairsRf t) (pairsR t) := by
  unfold pairsRf pairsR
  split
  · exact Wk.tuple (.cons (Wk.cfu _ _) (WkL.refl _))
  · exact .refl _
def c_Pairs : CCode := .seq (.ops [⟨some 1, .box (.tmp 0), none, []⟩, ⟨some 2, .move (.lit (.slice .nil [])), none, []⟩, ⟨some 3, .move (.lit (.int .i64 0)), none, []⟩]) (.seq (.seq (.ops [⟨some 16, .load (some 4) (.tmp 1), none, []⟩, ⟨some 17, .call (.lit (.func 53 [])) [.tmp 16], none, []⟩, ⟨some 18, .un .not (.tmp 17), none, []⟩]) (.cond (.tmp 18) (.seq (.ops [⟨some 2, .move (.lit (.slice .nil [])), none, []⟩, ⟨some 3, .move (.lit (.int .i64 10)), none, []⟩]) .ret) .skip)) (.seq (.ops [⟨some 19, .faddr 0 (.tmp 1), none, []⟩, ⟨some 20, .load none (.tmp 19), none, []⟩, ⟨some 21, .blen 1 (.tmp 20), none, []⟩, ⟨some 22, .bin .mul .none (.lit (.int .i64 2)) (.tmp 21), none, []⟩, ⟨some 4, .move (.tmp 22), none, []⟩]) (.seq (.seq (.ops [⟨some 23, .faddr 0 (.tmp 1), none, []⟩, ⟨some 24, .load none (.tmp 23), none, []⟩, ⟨some 25, .blen 1 (.tmp 24), none, []⟩, ⟨some 26, .bin .gtr .none (.tmp 25) (.lit (.int .i64 20)), none, []⟩]) (.cond (.tmp 26) (.seq (.ops [⟨some 2, .move (.lit (.slice .nil [])), none, []⟩, ⟨some 3, .move (.lit (.int .i64 3)), none, []⟩]) .ret) .skip)) (.seq (.ops [⟨some 5, .move (.lit (.func 54 [])), none, []⟩]) (.seq (.ops [⟨some 6, .move (.lit (.slice .nil [])), none, []⟩]) (.seq (.seq (.ops [⟨some 27, .move (.tmp 4), none, []⟩, ⟨some 28, .move (.lit (.int .i64 0)), none, []⟩]) (.block 0 (.loop (.seq (.ops [⟨some 29, .bin .lss .none (.tmp 28) (.tmp 27), none, []⟩]) (.seq (.cond (.tmp 29) .skip (.exit 0)) (.seq (.block 1 (.seq (.ops [⟨some 30, .move (.tmp 28), none, []⟩, ⟨some 7, .move (.tmp 30), none, []⟩]) (.ops [⟨some 31, .move (.tmp 6), none, []⟩, ⟨some 32, .move (.tmp 5), none, []⟩, ⟨some 33, .move (.tmp 7), none, []⟩, ⟨some 34, .call (.tmp 32) [.tmp 33], none, []⟩, ⟨some 35, .bslice 2 [.tmp 34] false, none, []⟩, ⟨some 36, .bslice 1 [.tmp 35] false, none, []⟩, ⟨some 37, .bappend 1 24 (.tmp 31) (.tmp 36) false, none, []⟩, ⟨some 6, .move (.tmp 37), none, []⟩]))) (.ops [⟨some 38, .bin .add .none (.tmp 28) (.lit (.int .i64 1)), none, []⟩, ⟨some 28, .move (.tmp 38), none, []⟩]))))))) (.seq (.seq (.ops [⟨some 39, .move (.tmp 4), none, []⟩, ⟨some 40, .move (.lit (.int .i64 0)), none, []⟩]) (.block 2 (.loop (.seq (.ops [⟨some 41, .bin .lss .none (.tmp 40) (.tmp 39), none, []⟩]) (.seq (.cond (.tmp 41) .skip (.exit 2)) (.seq (.block 3 (.seq (.ops [⟨some 42, .move (.tmp 40), none, []⟩, ⟨some 8, .move (.tmp 42), none, []⟩]) (.seq (.ops [⟨some 43, .move (.tmp 8), none, []⟩, ⟨some 44, .bin .add .none (.tmp 43) (.lit (.int .i64 1)), none, []⟩, ⟨some 9, .move (.tmp 44), none, []⟩]) (.block 4 (.loop (.seq (.seq (.ops [⟨some 45, .move (.tmp 9), none, []⟩, ⟨some 46, .move (.tmp 4), none, []⟩, ⟨some 47, .bin .lss .none (.tmp 45) (.tmp 46), none, []⟩]) (.cond (.tmp 47) .skip (.exit 4))) (.seq (.block 5 (.seq (.ops [⟨some 50, .move (.tmp 8), none, []⟩, ⟨some 51, .bin .quo .none (.tmp 50) (.lit (.int .i64 2)), none, []⟩, ⟨some 52, .move (.tmp 9), none, []⟩, ⟨some 53, .bin .quo .none (.tmp 52) (.lit (.int .i64 2)), none, []⟩, ⟨some 54, .bin .neq .none (.tmp 51) (.tmp 53), none, []⟩]) (.cond (.tmp 54) (.ops [⟨some 55, .move (.tmp 6), none, []⟩, ⟨some 56, .move (.tmp 5), none, []⟩, ⟨some 57, .move (.tmp 8), none, []⟩, ⟨some 58, .call (.tmp 56) [.tmp 57], none, []⟩, ⟨some 59, .move (.tmp 5), none, []⟩, ⟨some 60, .move (.tmp 9), none, []⟩, ⟨some 61, .call (.tmp 59) [.tmp 60], none, []⟩, ⟨some 62, .bslice 2 [.tmp 58, .tmp 61] false, none, []⟩, ⟨some 63, .bslice 1 [.tmp 62] false, none, []⟩, ⟨some 64, .bappend 1 24 (.tmp 55) (.tmp 63) false, none, []⟩, ⟨some 6, .move (.tmp 64), none, []⟩]) .skip))) (.ops [⟨some 48, .move (.tmp 9), none, []⟩, ⟨some 49, .bin .add .none (.tmp 48) (.lit (.int .i64 1)), none, []⟩, ⟨some 9, .move (.tmp 49), none, []⟩])))))))) (.ops [⟨some 65, .bin .add .none (.tmp 40) (.lit (.int .i64 1)), none, []⟩, ⟨some 40, .move (.tmp 65), none, []⟩]))))))) (.seq (.ops [⟨some 67, .load (some 4) (.tmp 1), none, []⟩, ⟨some 68, .move (.tmp 6), none, []⟩, ⟨some 69, .call (.lit (.func 52 [])) [.tmp 67, .tmp 68], none, []⟩, ⟨some 66, .move (.tmp 69), none, []⟩, ⟨some 70, .extract (.tmp 66) 0, none, []⟩, ⟨some 71, .extract (.tmp 66) 1, none, []⟩, ⟨some 10, .move (.tmp 70), none, []⟩, ⟨some 11, .move (.tmp 71), none, []⟩]) (.seq (.seq (.ops [⟨some 72, .move (.tmp 11), none, []⟩, ⟨some 73, .un .not (.tmp 72), none, []⟩]) (.cond (.tmp 73) (.seq (.ops [⟨some 2, .move (.lit (.slice .nil [])), none, []⟩, ⟨some 3, .move (.lit (.int .i64 3)), none, []⟩]) .ret) .skip)) (.seq (.ops [⟨some 12, .alloc (.slice .nil []), none, []⟩]) (.seq (.seq (.ops [⟨some 74, .move (.tmp 10), none, []⟩, ⟨some 75, .blen 1 (.tmp 74), none, []⟩, ⟨some 76, .move (.lit (.int .i64 0)), none, []⟩]) (.block 6 (.loop (.seq (.ops [⟨some 77, .bin .lss .none (.tmp 76) (.tmp 75), none, []⟩]) (.seq (.cond (.tmp 77) .skip (.exit 6)) (.seq (.block 7 (.seq (.ops [⟨some 78, .iaddr 1 (.tmp 74) (.tmp 76), none, []⟩, ⟨some 79, .load none (.tmp 78), none, []⟩, ⟨some 14, .move (.tmp 79), none, []⟩]) (.seq (.ops [⟨some 80, .mkfunc 55 [.tmp 12], none, []⟩, ⟨some 15, .move (.tmp 80), none, []⟩]) (.seq (.ops [⟨some 81, .move (.tmp 14), none, []⟩, ⟨some 82, .blen 1 (.tmp 81), none, []⟩, ⟨some 83, .bin .eql .none (.tmp 82) (.lit (.int .i64 1)), none, []⟩, ⟨some 84, .move (.tmp 83), none, []⟩, ⟨some 85, .move (.tmp 15), some (some 84, false), []⟩, ⟨some 86, .move (.tmp 14), some (some 84, false), []⟩, ⟨some 87, .iaddr 2 (.tmp 86) (.lit (.int .i64 0)), some (some 84, false), []⟩, ⟨some 88, .load (some 2) (.tmp 87), some (some 84, false), []⟩, ⟨some 89, .call (.tmp 85) [.tmp 88], some (some 84, false), []⟩, ⟨some 90, .un .not (.tmp 89), some (some 84, false), []⟩, ⟨some 91, .move (.tmp 90), some (some 84, false), []⟩, ⟨some 92, .move (.tmp 15), some (some 91, true), []⟩, ⟨some 93, .move (.tmp 14), some (some 91, true), []⟩, ⟨some 94, .iaddr 2 (.tmp 93) (.lit (.int .i64 1)), some (some 91, true), []⟩, ⟨some 95, .load (some 2) (.tmp 94), some (some 91, true), []⟩, ⟨some 96, .call (.tmp 92) [.tmp 95], some (some 91, true), []⟩, ⟨some 97, .un .not (.tmp 96), some (some 91, true), []⟩, ⟨some 98, .pick (.tmp 91) (.tmp 97) (.lit (.bool false)), some (some 84, false), []⟩, ⟨some 99, .pick (.tmp 84) (.lit (.bool true)) (.tmp 98), none, []⟩]) (.cond (.tmp 99) (.ops [⟨some 100, .load none (.tmp 12), none, []⟩, ⟨some 101, .move (.tmp 14), none, []⟩, ⟨some 102, .bslice 1 [.tmp 101] false, none, []⟩, ⟨some 103, .bappend 1 24 (.tmp 100) (.tmp 102) false, none, []⟩, ⟨none, .store 1 (.tmp 12) (.tmp 103), none, []⟩]) .skip))))) (.ops [⟨some 104, .bin .add .none (.tmp 76) (.lit (.int .i64 1)), none, []⟩, ⟨some 76, .move (.tmp 104), none, []⟩]))))))) (.seq (.ops [⟨some 105, .load none (.tmp 12), none, []⟩, ⟨some 2, .move (.tmp 105), none, []⟩, ⟨some 3, .move (.lit (.int .i64 0)), none, []⟩]) .ret))))))))))))
set_option maxRecDepth 20000 in
set_option maxHeartbeats 4000000 in
theorem Pairs_specF (t : FTask) (σ : Store) (ht : TB t) (h12 : validB t = true → t.facts.length ≤ 12) :
    ACalls Tryz.prog 15 [.agg (encTask t)] σ (isR (pairsRf t) σ) := by
  refine ACalls.intro (rs := [(.tmp 2), (.tmp 3)]) (by kernel_rfl) { own := [], ghosts := [] } Tryz.func15 (c := Tryz.f15.body.getD .skip) (by kernel_rfl) (by decide) (by rw [show Tryz.f15.ntmps = 106 by kernel_rfl]; exact Nat.le_of_ble_eq_true rfl) (by kernel_rfl) ?_
  intro hσ hids
  rw [show comp Tryz.prog { own := [], ghosts := [] } (Tryz.f15.body.getD .skip) = c_Pairs by kernel_rfl, show Tryz.f15.ntmps = 106 by kernel_rfl]
  unfold c_Pairs
  have hσ1 := ids_grow hσ (ids_encTask t)
  simp only [go_sem, Int.reduceToNat, Int.reduceLE, Int.reduceLT, Nat.reduceBEq, Nat.reduceLT, Nat.reduceAdd, Nat.reduceLeDiff, encTask]
  refine (valid_spec t _ ht).is ?_
  cases hv : validB t
  · simp only [go_sem, Int.reduceToNat, Int.reduceLE, Int.reduceLT, Nat.reduceBEq, Nat.reduceLT, Nat.reduceAdd, Nat.reduceLeDiff]
    first | exact rtl (.slice .nil []) (.int .i64 10) ⟨by rw [pairsRf, hv]; rfl, rfl⟩ | exact rtl0 (.slice .nil []) (.int .i64 10) ⟨by rw [pairsRf, hv]; rfl, rfl⟩
  have hn := h12 hv
  have h20 : ¬ ((t.facts.length : Int) > 20) := by omega
  obtain ⟨n, hne⟩ : ∃ n, n = 2 * t.facts.length := ⟨_, rfl⟩
  have hw0 : IntKind.i64.wrap (2 * (t.facts.length : Int)) = (n : Int) := by rw [wrap_ok (by omega)]; omega
  have hs1 : ∀ k : Nat, IdsS (σ ++ [AObj.row (encTask t), AObj.grow 1 k]).length (σ ++ [AObj.row (encTask t), AObj.grow 1 k]) := fun k => by
    have := idsS_push hσ1 (o := .grow 1 k) trivial
    rwa [List.append_assoc] at this
  simp only [go_sem, Int.reduceToNat, Int.reduceLE, Int.reduceLT, Nat.reduceBEq, Nat.reduceLT, Nat.reduceAdd, Nat.reduceLeDiff, encTask, h20, hw0]
  refine wpc_while (fun (i : Nat) => [(6, .slice (.grow (σ.length + 1)) ((singles i).map encC)), (1, .ptr σ.length 0), (4, .int .i64 n), (5, .func 54 []), (27, .int .i64 n), (28, .int .i64 i)])
    (fun i => σ ++ [.row (encTask t), .grow 1 i]) (fun i => i ≤ n) (fun i => n - i) 0 (Nat.zero_le _) (Ghost.begin1 6 1 _ (by omega) tellT hσ1) ?_
  intro i hi K hK hE hR
  by_cases h : i < n
  · have hlt : ((i : Int) < (n : Int)) := by omega
    have hw : IntKind.i64.wrap ((i : Int) + 1) = ((i + 1 : Nat) : Int) := by rw [wrap_ok (by omega)]; omega
    have hb : bigLen (i + 1) 24 := big_ok (by omega) (by omega)
    have hsl : (singles i).length = i := by simp [singles]
    simp only [go_sem, Int.reduceToNat, Int.reduceLE, Int.reduceLT, Nat.reduceBEq, Nat.reduceLT, Nat.reduceAdd, Nat.reduceLeDiff, hlt]
    refine (pairs1_spec i _ (by omega)).is ?_
    simp only [go_sem, Int.reduceToNat, Int.reduceLE, Int.reduceLT, Nat.reduceBEq, Nat.reduceLT, Nat.reduceAdd, Nat.reduceLeDiff, encLit, hsl, hb]
    refine hK _ _ (i + 1) (by omega) (by omega) ?_
    (try dsimp only)
    have e : (singles (i + 1)).map encC = (singles i).map encC ++ [[.slice .unk [encLit (litI i)]]] := by rw [singles_succ, List.map_append]; rfl
    refine Ghost.trans (Ghost.weak 6 (.slice (.grow (σ.length + 1)) ((singles (i + 1)).map encC)) ?_) ?_
    · rw [e]; exact Wk.slice _ (WkLL.append (.refl _) (WkLL.one (WkL.one (Wk.unk _ _))))
    · rw [hw]; first | exact ghL0 (hs1 _) | exact ghL (l := [.row (encTask t), .grow 1 _]) (hs1 _)
  have hlt : ¬ ((i : Int) < (n : Int)) := by omega
  obtain rfl : i = n := by omega
  simp only [go_sem, Int.reduceToNat, Int.reduceLE, Int.reduceLT, Nat.reduceBEq, Nat.reduceLT, Nat.reduceAdd, Nat.reduceLeDiff, hlt, hE]
  clear hK hE hR
  have hsl : (singles i).length = i := by simp [singles]
  refine wpc_while (fun (a : Nat) => [(6, .slice (.grow (σ.length + 1)) ((singles i ++ belowL i a).map encC)), (1, .ptr σ.length 0), (4, .int .i64 i), (5, .func 54 []), (39, .int .i64 i), (40, .int .i64 a)])
    (fun a => σ ++ [.row (encTask t), .grow 1 (singles i ++ belowL i a).length]) (fun a => a ≤ i) (fun a => i - a) 0 (Nat.zero_le _)
    (by
      have e : singles i ++ belowL i 0 = singles i := by simp [belowL]
      (try dsimp only)
      rw [e, hsl]
      first | exact ghL0 (hs1 _) | exact ghL (l := [.row (encTask t), .grow 1 _]) (hs1 _)) ?_
  intro a ha0 K hK hE hR
  by_cases ha : a < i
  · have hlt2 : ((a : Int) < (i : Int)) := by omega
    have hwa : IntKind.i64.wrap ((a : Int) + 1) = ((a + 1 : Nat) : Int) := by rw [wrap_ok (by omega)]; omega
    have hab0 := belowL_len i a
    have hbl3 : a * i ≤ 24 * 24 := Nat.mul_le_mul (by omega) (by omega)
    obtain ⟨acc, hacc⟩ : ∃ acc, acc = singles i ++ belowL i a := ⟨_, rfl⟩
    have haccl : acc.length ≤ 24 + 24 * 24 := by rw [hacc, List.length_append, hsl]; omega
    have hnx : singles i ++ belowL i (a + 1) = acc ++ partL a i := by rw [belowL_succ, ← List.append_assoc, ← hacc, partL_end]
    rw [← hacc]
    simp only [go_sem, Int.reduceToNat, Int.reduceLE, Int.reduceLT, Nat.reduceBEq, Nat.reduceLT, Nat.reduceAdd, Nat.reduceLeDiff, hlt2, hwa]
    refine wpc_while (fun (b : Nat) => [(6, .slice (.grow (σ.length + 1)) ((acc ++ partL a b).map encC)), (1, .ptr σ.length 0), (4, .int .i64 i), (5, .func 54 []), (8, .int .i64 a), (9, .int .i64 b), (39, .int .i64 i), (40, .int .i64 a)])
      (fun b => σ ++ [.row (encTask t), .grow 1 (acc ++ partL a b).length]) (fun b => a < b ∧ b ≤ i) (fun b => i - b) (a + 1) ⟨by omega, by omega⟩
      (by
        have e : acc ++ partL a (a + 1) = acc := by rw [partL_zero, List.append_nil]
        (try dsimp only)
        rw [e]
        first | exact ghL0 (hs1 _) | exact ghL (l := [.row (encTask t), .grow 1 _]) (hs1 _)) ?_
    rintro b ⟨hab, hbi⟩ K2 hK2 hE2 hR2
    by_cases hb : b < i
    · have hlt3 : ((b : Int) < (i : Int)) := by omega
      have hwb : IntKind.i64.wrap ((b : Int) + 1) = ((b + 1 : Nat) : Int) := by rw [wrap_ok (by omega)]; omega
      have hq : ∀ x : Nat, x ≤ 1000 → IntKind.i64.wrap ((x : Int).tdiv 2) = ((x / 2 : Nat) : Int) := fun x hx => by
        rw [show (x : Int).tdiv 2 = ((x / 2 : Nat) : Int) by rw [Int.tdiv_eq_ediv_of_nonneg (by omega)]; omega, wrap_ok (by omega)]
      have hqa := hq a (by omega)
      have hqb := hq b (by omega)
      have hsu := partL_succ hab
      have hbl2 := partL_len a b
      have hbig : bigLen ((acc ++ partL a b).length + 1) 24 := big_ok (by omega) (by rw [List.length_append]; omega)
      obtain ⟨cur, hcur⟩ : ∃ cur, cur = acc ++ partL a b := ⟨_, rfl⟩
      rw [← hcur] at hbig ⊢
      cases hne2 : (((a / 2 : Nat) : Int) == ((b / 2 : Nat) : Int))
      · have hh : (a / 2 != b / 2) = true := by
          have : ¬ (((a / 2 : Nat) : Int) = ((b / 2 : Nat) : Int)) := by simpa using hne2
          simp only [bne_iff_ne, ne_eq]; omega
        rw [hh, if_pos rfl] at hsu
        have hcn : acc ++ partL a (b + 1) = cur ++ [[litI a, litI b]] := by rw [hsu, ← List.append_assoc, ← hcur]
        simp only [go_sem, Int.reduceToNat, Int.reduceLE, Int.reduceLT, Nat.reduceBEq, Nat.reduceLT, Nat.reduceAdd, Nat.reduceLeDiff, hlt3, hqa, hqb, hne2]
        refine ⟨by decide, by decide, ?_⟩
        have hne3 : (((a / 2 : Nat) : Int) != ((b / 2 : Nat) : Int)) = true := by rw [bne, hne2]; rfl
        simp only [go_sem, Int.reduceToNat, Int.reduceLE, Int.reduceLT, Nat.reduceBEq, Nat.reduceLT, Nat.reduceAdd, Nat.reduceLeDiff, hne3]
        refine (pairs1_spec a _ (by omega)).is ?_
        simp only [go_sem, Int.reduceToNat, Int.reduceLE, Int.reduceLT, Nat.reduceBEq, Nat.reduceLT, Nat.reduceAdd, Nat.reduceLeDiff]
        refine (pairs1_spec b _ (by omega)).is ?_
        simp only [go_sem, Int.reduceToNat, Int.reduceLE, Int.reduceLT, Nat.reduceBEq, Nat.reduceLT, Nat.reduceAdd, Nat.reduceLeDiff, encLit, hbig]
        refine hK2 _ _ (b + 1) ⟨by omega, by omega⟩ (by omega) ?_
        (try dsimp only)
        rw [hcn, List.length_append]
        refine Ghost.trans (Ghost.weak 6 (.slice (.grow (σ.length + 1)) ((cur ++ [[litI a, litI b]]).map encC)) ?_) ?_
        · rw [List.map_append]; exact Wk.slice _ (WkLL.append (.refl _) (WkLL.one (WkL.one (Wk.unk _ _))))
        · rw [hwb]; first | exact ghL0 (hs1 _) | exact ghL (l := [.row (encTask t), .grow 1 _]) (hs1 _)
      · have hh : (a / 2 != b / 2) = false := by
          have : (((a / 2 : Nat) : Int) = ((b / 2 : Nat) : Int)) := by simpa using hne2
          simp only [bne_eq_false_iff_eq]; omega
        rw [hh, if_neg (by simp), List.append_nil] at hsu
        have hcn : acc ++ partL a (b + 1) = cur := by rw [hsu, ← hcur]
        simp only [go_sem, Int.reduceToNat, Int.reduceLE, Int.reduceLT, Nat.reduceBEq, Nat.reduceLT, Nat.reduceAdd, Nat.reduceLeDiff, hlt3, hqa, hqb, hne2]
        refine ⟨by decide, by decide, ?_⟩
        have hne3 : (((a / 2 : Nat) : Int) != ((b / 2 : Nat) : Int)) = false := by rw [bne, hne2]; rfl
        simp only [go_sem, Int.reduceToNat, Int.reduceLE, Int.reduceLT, Nat.reduceBEq, Nat.reduceLT, Nat.reduceAdd, Nat.reduceLeDiff, hne3]
        refine hK2 _ _ (b + 1) ⟨by omega, by omega⟩ (by omega) ?_
        (try dsimp only)
        rw [hcn, hwb]
        first | exact ghL0 (hs1 _) | exact ghL (l := [.row (encTask t), .grow 1 _]) (hs1 _)
    · have hlt3 : ¬ ((b : Int) < (i : Int)) := by omega
      obtain rfl : b = i := by omega
      obtain ⟨cur, hcur⟩ : ∃ cur, cur = acc ++ partL a b := ⟨_, rfl⟩
      rw [← hcur]
      simp only [go_sem, Int.reduceToNat, Int.reduceLE, Int.reduceLT, Nat.reduceBEq, Nat.reduceLT, Nat.reduceAdd, Nat.reduceLeDiff, hlt3, hE2, hwa]
      refine hK _ _ (a + 1) (by omega) (by omega) ?_
      (try dsimp only)
      rw [hnx, ← hcur]
      first | exact ghL0 (hs1 _) | exact ghL (l := [.row (encTask t), .grow 1 _]) (hs1 _)
  have hlt2 : ¬ ((a : Int) < (i : Int)) := by omega
  obtain rfl : a = i := by omega
  have hall : singles a ++ belowL a a = singles a ++ pairsL a := rfl
  rw [hall]
  obtain ⟨all, hal⟩ : ∃ all, all = singles a ++ pairsL a := ⟨_, rfl⟩
  have hall2 : all.length ≤ 1000 ∧ ∀ c ∈ all, c.length = 1 ∨ ∃ x y, c = [x, y] := by
    refine ⟨by rw [hal, ← hall, List.length_append, hsl]; have := belowL_len a a; have : a * a ≤ 24 * 24 := Nat.mul_le_mul (by omega) (by omega); omega, fun c hc => ?_⟩
    rw [hal] at hc
    rcases List.mem_append.1 hc with hc | hc
    · obtain ⟨i, _, rfl⟩ := List.mem_map.1 hc; exact .inl rfl
    · obtain ⟨i, _, hi⟩ := List.mem_flatMap.1 hc
      obtain ⟨k, _, _, _, rfl⟩ := pairsFrom_mem.1 hi; exact .inr ⟨_, _, rfl⟩
  have hclen : ∀ c ∈ all, c.length ≤ 1000000 := fun c hc => by rcases hall2.2 c hc with h | ⟨x, y, rfl⟩; omega; simp
  rw [← hal]
  simp only [go_sem, Int.reduceToNat, Int.reduceLE, Int.reduceLT, Nat.reduceBEq, Nat.reduceLT, Nat.reduceAdd, Nat.reduceLeDiff, hlt2, hE, encTask]
  clear hK hE hR
  refine (ilargest_specF t all _ _ ht hn (valid_init hv) (fun a ha => valid_AOk hv ha) (by omega) hclen).is ?_
  obtain ⟨M, hM⟩ : ∃ M, M = largeL t all := ⟨_, rfl⟩
  rw [← hM]
  have hMa : ∀ c ∈ M, c ∈ all := fun c hc => by
    obtain ⟨p, e, _, _⟩ := progL_spec (clauseT t.init) (keepB t.facts.length t.actions) (keepB_mono _ _) all.length all (Nat.le_refl _)
    rw [hM, largeL, e] at hc
    exact (List.mem_filter.1 hc).1
  have hMl : M.length ≤ 1000 := by
    obtain ⟨p, e, _, _⟩ := progL_spec (clauseT t.init) (keepB t.facts.length t.actions) (keepB_mono _ _) all.length all (Nat.le_refl _)
    rw [hM, largeL, e]; exact Nat.le_trans (List.length_filter_le _ _) hall2.1
  have hs6 : ∀ (o : List (List FLit)) (k : Nat), IdsS (σ ++ [AObj.row [.slice (.grow (σ.length + 1)) (o.map encCf)], .grow 1 k]).length (σ ++ [AObj.row [.slice (.grow (σ.length + 1)) (o.map encCf)], .grow 1 k]) := fun o k =>
    idsS_app _ hσ (all_cons' (idsO_row (by intro x hx; simp at hx; subst hx; exact ids_growE (by simp) _)) (all_cons' trivial all_nil'))
  simp only [go_sem, Int.reduceToNat, Int.reduceLE, Int.reduceLT, Nat.reduceBEq, Nat.reduceLT, Nat.reduceAdd, Nat.reduceLeDiff]
  refine wpc_while (fun (q : Nat × List (List FLit)) => [(12, .ptr σ.length 0), (74, .slice .fresh (M.map encCf)), (75, .int .i64 M.length), (76, .int .i64 q.1)])
    (fun q => σ ++ [.row [.slice (.grow (σ.length + 1)) (q.2.map encCf)], .grow 1 q.2.length])
    (fun q => q.1 ≤ M.length ∧ q.2.length ≤ q.1 ∧ (∀ c ∈ q.2, c ∈ M) ∧ leanL [] M = leanL q.2 (M.drop q.1)) (fun q => M.length - q.1) (0, []) ⟨Nat.zero_le _, Nat.le_refl _, by simp, rfl⟩
    (by
      refine Ghost.trans (s' := [(12, .ptr σ.length 0), (74, .slice .fresh (M.map encCf)), (75, .int .i64 M.length), (76, .int .i64 0)]) (σ' := σ ++ [.row [.slice .nil []]]) (ghM 2 (hio := idsO_row (by intro x hx; simp at hx; subst hx; exact ids_nil _ (by simp)))) ?_
      refine Ghost.trans (Ghost.tokCell σ.length 1 (by simp)) ?_
      rw [show ((σ ++ [AObj.row [.slice .nil []]]) ++ [AObj.grow 1 0]).set σ.length (AObj.row [AV.slice (.grow (σ ++ [AObj.row [.slice .nil []]]).length) []]) = σ ++ [.row [.slice (.grow (σ.length + 1)) []], .grow 1 0] by simp]
      exact Ghost.refl _ _ _ _) ?_
  rintro ⟨i, out⟩ ⟨hi, ho, hom, hvl⟩ K hK hE hR
  dsimp only at hi ho hom hvl ⊢
  by_cases h : i < M.length
  · have hlt : ((i : Int) < (M.length : Int)) := by omega
    obtain ⟨c, hx⟩ := get_ex h
    have hw : IntKind.i64.wrap ((i : Int) + 1) = ((i + 1 : Nat) : Int) := by rw [wrap_ok (by omega)]; omega
    have hcm := List.mem_of_getElem? hx
    have hb : bigLen (out.length + 1) 24 := big_ok (by omega) (by omega)
    have hd : leanL out (M.drop i) = leanL (leanStep out c) (M.drop (i + 1)) := by rw [drop_cons hx]; rfl
    rw [hd] at hvl
    have hFB : FB out := ⟨by omega, fun c hc => by have := hclen c (hMa c (hom c hc)); omega⟩
    rcases hall2.2 c (hMa c hcm) with h1 | ⟨x, y, rfl⟩
    · have h1' : ((c.length : Int) == 1) = true := by rw [h1]; rfl
      rw [leanStep_one h1] at hvl
      simp only [go_sem, Int.reduceToNat, Int.reduceLE, Int.reduceLT, Nat.reduceBEq, Nat.reduceLT, Nat.reduceAdd, Nat.reduceLeDiff, hlt, hx, encCf, h1', hb]
      have e3 : out.map encCf ++ [[AV.slice .fresh (c.map encLit)]] = (out ++ [c]).map encCf := by rw [List.map_append]; rfl
      have e4 : out.length + 1 = (out ++ [c]).length := by simp
      rw [e3, e4]
      refine hK _ _ (i + 1, out ++ [c]) ⟨by simp only []; omega, by simp only [List.length_append, List.length_singleton]; omega, fun d hd => by rcases List.mem_append.1 hd with hd | hd; exact hom d hd; simp at hd; subst hd; exact hcm, hvl⟩ (by simp only []; omega) ?_
      (try dsimp only)
      rw [hw]
      first | exact ghL (l := [.row _, .grow 1 _]) (hs6 _ _) | exact ghL0 (hs6 _ _)
    · have h1 : (((2 : Nat) : Int) == 1) = false := rfl
      have h2 : ((2 : Int) == 1) = false := rfl
      have hO : ∀ r, (σ ++ (AObj.row [.slice (.grow (σ.length + 1)) (out.map encCf)] :: r))[σ.length]? = some (.row [.slice (.grow (σ.length + 1)) (out.map encCf)]) := fun r => by rw [List.getElem?_append_right (Nat.le_refl _), Nat.sub_self]; rfl
      rw [leanStep_two] at hvl
      simp only [go_sem, Int.reduceToNat, Int.reduceLE, Int.reduceLT, Nat.reduceBEq, Nat.reduceLT, Nat.reduceAdd, Nat.reduceLeDiff, hlt, hx, encCf, h1, h2, encLit]
      refine (pairs2_spec x out _ σ.length _ hFB (hO _)).is ?_
      cases hx1 : hasOne out x
      · rw [hx1, Bool.false_or] at hvl
        simp only [go_sem, Int.reduceToNat, Int.reduceLE, Int.reduceLT, Nat.reduceBEq, Nat.reduceLT, Nat.reduceAdd, Nat.reduceLeDiff, encLit]
        refine (pairs2_spec y out _ σ.length _ hFB (hO _)).is ?_
        cases hy1 : hasOne out y
        · rw [hy1, if_neg (by simp)] at hvl
          simp only [go_sem, Int.reduceToNat, Int.reduceLE, Int.reduceLT, Nat.reduceBEq, Nat.reduceLT, Nat.reduceAdd, Nat.reduceLeDiff, hb]
          have e3 : out.map encCf ++ [[AV.slice .fresh [[AV.int .i64 x.fact, AV.bool x.neg], [AV.int .i64 y.fact, AV.bool y.neg]]]] = (out ++ [[x, y]]).map encCf := by rw [List.map_append]; rfl
          have e4 : out.length + 1 = (out ++ [[x, y]]).length := by simp
          rw [e3, e4]
          refine hK _ _ (i + 1, out ++ [[x, y]]) ⟨by simp only []; omega, by simp only [List.length_append, List.length_singleton]; omega, fun d hd => by rcases List.mem_append.1 hd with hd | hd; exact hom d hd; simp at hd; subst hd; exact hcm, hvl⟩ (by simp only []; omega) ?_
          (try dsimp only)
          rw [hw]
          first | exact ghL (l := [.row _, .grow 1 _]) (hs6 _ _) | exact ghL0 (hs6 _ _)
        · rw [hy1, if_pos rfl] at hvl
          simp only [go_sem, Int.reduceToNat, Int.reduceLE, Int.reduceLT, Nat.reduceBEq, Nat.reduceLT, Nat.reduceAdd, Nat.reduceLeDiff]
          refine hK _ _ (i + 1, out) ⟨by simp only []; omega, by simp only []; omega, hom, hvl⟩ (by simp only []; omega) ?_
          (try dsimp only)
          rw [hw]
          first | exact ghL (l := [.row _, .grow 1 _]) (hs6 _ _) | exact ghL0 (hs6 _ _)
      · rw [hx1, Bool.true_or, if_pos rfl] at hvl
        simp only [go_sem, Int.reduceToNat, Int.reduceLE, Int.reduceLT, Nat.reduceBEq, Nat.reduceLT, Nat.reduceAdd, Nat.reduceLeDiff]
        refine hK _ _ (i + 1, out) ⟨by simp only []; omega, by simp only []; omega, hom, hvl⟩ (by simp only []; omega) ?_
        (try dsimp only)
        rw [hw]
        first | exact ghL (l := [.row _, .grow 1 _]) (hs6 _ _) | exact ghL0 (hs6 _ _)
  · have hlt : ¬ ((i : Int) < (M.length : Int)) := by omega
    rw [drop_len h] at hvl
    simp only [go_sem, Int.reduceToNat, Int.reduceLE, Int.reduceLT, Nat.reduceBEq, Nat.reduceLT, Nat.reduceAdd, Nat.reduceLeDiff, hlt, hE]
    first | exact rtl (.slice .fresh (out.map encCf)) (.int .i64 0) ⟨by rw [pairsRf, hv, if_pos rfl, ← hne, ← hal, ← hM, hvl]; rfl, rfl⟩ | exact rtl0 (.slice .fresh (out.map encCf)) (.int .i64 0) ⟨by rw [pairsRf, hv, if_pos rfl, ← hne, ← hal, ← hM, hvl]; rfl, rfl⟩
theorem Pairs_spec (t : FTask) (σ : Store) (ht : TB t) (h12 : validB t = true → t.facts.length ≤ 12) :
    ACalls Tryz.prog 15 [.agg (encTask t)] σ (isR (pairsR t) σ) := (Pairs_specF t σ ht h12).wkR (pairsRf_wk t)
end Go.Proofs.YtocphglkceidhaaGreat
namespace Go.Proofs.YtocphglkceidhaaGreat
open Go.Ahl
theorem small_V (n : Nat) : vF (n : Int) (singles (2 * n) ++ pairsL (2 * n)) := by
  intro c hc
  rcases List.mem_append.1 hc with hc | hc
  · obtain ⟨i, hi, rfl⟩ := List.mem_map.1 hc
    have hi := List.mem_range.1 hi
    show condB (n : Int) (-1) [litI i] = true
    unfold condB litI condB
    simp; omega
  · obtain ⟨i, _, hi⟩ := List.mem_flatMap.1 hc
    obtain ⟨k, h1, h2, h3, rfl⟩ := pairsFrom_mem.1 hi
    have : i / 2 < k / 2 := by have := Nat.div_le_div_right (c := 2) (Nat.le_of_lt h1); omega
    show condB (n : Int) (-1) [litI i, litI k] = true
    unfold condB litI condB condB
    simp; omega
end Go.Proofs.YtocphglkceidhaaGreat
namespace Go.Proofs.YtocphglkceidhaaGreat
open Go.Ahl
def d_sameInts_0 : List COp := [⟨some 16, .move (.tmp 0), none, []⟩, ⟨some 17, .move (.tmp 5), none, []⟩, ⟨some 18, .iaddr 1 (.tmp 16) (.tmp 17), none, [0, 1]⟩, ⟨some 19, .load none (.tmp 18), none, [2]⟩, ⟨some 20, .move (.tmp 1), none, []⟩, ⟨some 21, .move (.tmp 5), none, []⟩, ⟨some 22, .iaddr 1 (.tmp 20) (.tmp 21), none, [4, 5]⟩, ⟨some 23, .load none (.tmp 22), none, [6]⟩, ⟨some 24, .bin .neq .none (.tmp 19) (.tmp 23), none, [3, 7]⟩]
theorem dr_sameInts_0 (P : Program) (nt n0 : Nat) (Q : Post) (s : Slots) (σ : Store) : wpc P nt n0 (.draw d_sameInts_0) Q s σ = aOpsD P nt [⟨some 16, .move (.tmp 0), none, []⟩, ⟨some 17, .move (.tmp 5), none, []⟩, ⟨some 18, .iaddr 1 (.tmp 16) (.tmp 17), none, [0, 1]⟩, ⟨some 19, .load none (.tmp 18), none, [2]⟩, ⟨some 20, .move (.tmp 1), none, []⟩, ⟨some 21, .move (.tmp 5), none, []⟩, ⟨some 22, .iaddr 1 (.tmp 20) (.tmp 21), none, [4, 5]⟩, ⟨some 23, .load none (.tmp 22), none, [6]⟩, ⟨some 24, .bin .neq .none (.tmp 19) (.tmp 23), none, [3, 7]⟩] (Q .normal) s σ := wpc_draw _ (by decide)
def c_sameInts : CCode := .seq (.ops [⟨some 4, .move (.lit (.bool false)), none, []⟩]) (.seq (.seq (.ops [⟨some 6, .move (.tmp 0), none, []⟩, ⟨some 7, .blen 1 (.tmp 6), none, []⟩, ⟨some 8, .move (.tmp 1), none, []⟩, ⟨some 9, .blen 1 (.tmp 8), none, []⟩, ⟨some 10, .bin .neq .none (.tmp 7) (.tmp 9), none, []⟩]) (.cond (.tmp 10) (.seq (.ops [⟨some 4, .move (.lit (.bool false)), none, []⟩]) .ret) .skip)) (.seq (.seq (.ops [⟨some 11, .move (.tmp 0), none, []⟩, ⟨some 12, .blen 1 (.tmp 11), none, []⟩, ⟨some 13, .move (.lit (.int .i64 0)), none, []⟩]) (.block 0 (.loop (.seq (.ops [⟨some 14, .bin .lss .none (.tmp 13) (.tmp 12), none, []⟩]) (.seq (.cond (.tmp 14) .skip (.exit 0)) (.seq (.block 1 (.seq (.ops [⟨some 15, .move (.tmp 13), none, []⟩, ⟨some 5, .move (.tmp 15), none, []⟩]) (.seq (.draw d_sameInts_0) (.cond (.tmp 24) (.seq (.ops [⟨some 4, .move (.lit (.bool false)), none, []⟩]) .ret) .skip)))) (.ops [⟨some 25, .bin .add .none (.tmp 13) (.lit (.int .i64 1)), none, []⟩, ⟨some 13, .move (.tmp 25), none, []⟩]))))))) (.seq (.ops [⟨some 4, .move (.lit (.bool true)), none, []⟩]) .ret)))
set_option maxRecDepth 20000 in
theorem sameInts_spec (l m : List Int) (tok tok' : Tok) (σ : Store) (hl : l.length ≤ 140737488355328) (hm : m.length ≤ 140737488355328) :
    ACalls Tryz.prog 36 [.slice tok (l.map Ahl.encI), .slice tok' (m.map Ahl.encI)] σ (isR (.bool (decide (l = m))) σ) := by
  refine ACalls.intro (rs := [(.tmp 4)]) (by kernel_rfl) { own := [], ghosts := [] } Tryz.func36 (c := Tryz.f36.body.getD .skip) (by kernel_rfl) (by decide) (by rw [show Tryz.f36.ntmps = 26 by kernel_rfl]; exact Nat.le_of_ble_eq_true rfl) (by kernel_rfl) ?_
  intro hσ hids
  rw [show comp Tryz.prog { own := [], ghosts := [] } (Tryz.f36.body.getD .skip) = c_sameInts by kernel_rfl, show Tryz.f36.ntmps = 26 by kernel_rfl]
  unfold c_sameInts
  have hil : Ids σ.length (.slice tok (l.map Ahl.encI)) := hids _ (by simp)
  have him : Ids σ.length (.slice tok' (m.map Ahl.encI)) := hids _ (by simp)
  by_cases hlen : l.length = m.length
  · have h' : ((l.length : Int) != m.length) = false := by rw [hlen]; exact bne_self_eq_false _
    simp only [go_sem, Int.reduceToNat, Int.reduceLE, Int.reduceLT, Nat.reduceBEq, Nat.reduceLT, Nat.reduceAdd, Nat.reduceLeDiff, dr_sameInts_0, h']
    refine wpc_while (fun (i : Nat) => [(0, .slice tok (l.map Ahl.encI)), (1, .slice tok' (m.map Ahl.encI)), (12, .int .i64 l.length), (13, .int .i64 (i : Nat))]) (fun _ => σ) (fun i => i ≤ l.length ∧ decide (l = m) = decide (l.drop i = m.drop i)) (fun i => l.length - i) 0 ⟨Nat.zero_le _, rfl⟩ (by (try dsimp only); first | exact ghk | exact ghk0) ?_
    rintro i ⟨hi, hv⟩ K hK hE hR
    by_cases h : i < l.length
    · obtain ⟨x, hx⟩ := get_ex h; have hlt : ((i : Int) < (l.length : Int)) := (by omega); have hw : IntKind.i64.wrap ((i : Int) + 1) = ((i + 1 : Nat) : Int) := (by rw [wrap_ok (by omega)]; omega)
      obtain ⟨y, hy⟩ : ∃ y, m[i]? = some y := get_ex (by omega)
      rw [drop_cons hx, drop_cons hy, dec_cons] at hv
      by_cases h1 : x = y
      · have hf : (x != y) = false := by simpa using h1
        simp only [go_sem, Int.reduceToNat, Int.reduceLE, Int.reduceLT, Nat.reduceBEq, Nat.reduceLT, Nat.reduceAdd, Nat.reduceLeDiff, dr_sameInts_0, hlt, hx, hy, Ahl.encI, hf]
        rw [decide_eq_true h1, Bool.true_and] at hv
        refine hK _ _ (i + 1) (⟨by omega, hv⟩) (by first | omega | (simp only []; omega) | (simp; omega)) ?_; (try dsimp only); (try simp only [ hw]); first | exact ghk | exact ghk0
      · have hf : (x != y) = true := by simpa using h1
        simp only [go_sem, Int.reduceToNat, Int.reduceLE, Int.reduceLT, Nat.reduceBEq, Nat.reduceLT, Nat.reduceAdd, Nat.reduceLeDiff, dr_sameInts_0, hlt, hx, hy, Ahl.encI, hf, hR]
        rw [decide_eq_false h1, Bool.false_and] at hv
        first | exact rtk (.bool false) ⟨by rw [hv], rfl⟩ | exact rtk0 (.bool false) ⟨by rw [hv], rfl⟩
    · have hlt : ¬ ((i : Int) < (l.length : Int)) := by omega
      rw [drop_len h, drop_len (by omega : ¬ i < m.length)] at hv
      simp only [go_sem, Int.reduceToNat, Int.reduceLE, Int.reduceLT, Nat.reduceBEq, Nat.reduceLT, Nat.reduceAdd, Nat.reduceLeDiff, dr_sameInts_0, hlt, hE]
      first | exact rtk (.bool true) ⟨by rw [hv]; rfl, rfl⟩ | exact rtk0 (.bool true) ⟨by rw [hv]; rfl, rfl⟩
  · have h' : ((l.length : Int) != m.length) = true := by simp; omega
    simp only [go_sem, Int.reduceToNat, Int.reduceLE, Int.reduceLT, Nat.reduceBEq, Nat.reduceLT, Nat.reduceAdd, Nat.reduceLeDiff, dr_sameInts_0, h']
    first | exact rtk (.bool false) ⟨by rw [decide_eq_false (fun e => hlen (by rw [e]))], rfl⟩ | exact rtk0 (.bool false) ⟨by rw [decide_eq_false (fun e => hlen (by rw [e]))], rfl⟩
end Go.Proofs.YtocphglkceidhaaGreat
namespace Go.Proofs.YtocphglkceidhaaGreat
open Go.Ahl
end Go.Proofs.YtocphglkceidhaaGreat
namespace Go.Proofs.YtocphglkceidhaaGreat
open Go.Ahl
def few8B (t : FTask) (fs : List (List (List FLit))) : Bool := fewT 300 t && (decide ((fs.map formSize).sum ≤ 300) && (decide (t.facts.length ≤ 8) || !(validB t)))
def c_few8 : CCode := .seq (.ops [⟨some 2, .box (.tmp 0), none, []⟩, ⟨some 4, .move (.lit (.bool false)), none, []⟩]) (.seq (.ops [⟨some 5, .load (some 4) (.tmp 2), none, []⟩, ⟨some 6, .call (.lit (.func 33 [])) [.tmp 5, .lit (.int .i64 300)], none, []⟩, ⟨some 7, .move (.tmp 6), none, []⟩, ⟨some 8, .move (.tmp 1), some (some 7, true), []⟩, ⟨some 9, .call (.lit (.func 34 [])) [.lit (.int .i64 300), .tmp 8], some (some 7, true), []⟩, ⟨some 10, .pick (.tmp 7) (.tmp 9) (.lit (.bool false)), none, []⟩, ⟨some 11, .move (.tmp 10), none, []⟩, ⟨some 12, .faddr 0 (.tmp 2), some (some 11, true), []⟩, ⟨some 13, .load none (.tmp 12), some (some 11, true), []⟩, ⟨some 14, .blen 1 (.tmp 13), some (some 11, true), []⟩, ⟨some 15, .bin .leq .none (.tmp 14) (.lit (.int .i64 8)), some (some 11, true), []⟩, ⟨some 16, .move (.tmp 15), some (some 11, true), []⟩, ⟨some 17, .load (some 4) (.tmp 2), some (some 16, false), []⟩, ⟨some 18, .call (.lit (.func 35 [])) [.tmp 17], some (some 16, false), []⟩, ⟨some 19, .un .not (.tmp 18), some (some 16, false), []⟩, ⟨some 20, .pick (.tmp 16) (.lit (.bool true)) (.tmp 19), some (some 11, true), []⟩, ⟨some 21, .pick (.tmp 11) (.tmp 20) (.lit (.bool false)), none, []⟩, ⟨some 4, .move (.tmp 21), none, []⟩]) .ret)
set_option maxRecDepth 20000 in
theorem few8_spec (t : FTask) (fs : List (List (List FLit))) (tok : Tok) (σ : Store) (ht : TB t) (hf : fs.length ≤ 140737488355328) (hl : ∀ f ∈ fs, FB f) :
    ACalls Tryz.prog 8 [.agg (encTask t), .slice tok (fs.map encF)] σ (isR (.bool (few8B t fs)) σ) := by
  refine ACalls.intro (rs := [(.tmp 4)]) (by kernel_rfl) { own := [], ghosts := [] } Tryz.func8 (c := Tryz.f8.body.getD .skip) (by kernel_rfl) (by decide) (by rw [show Tryz.f8.ntmps = 22 by kernel_rfl]; exact Nat.le_of_ble_eq_true rfl) (by kernel_rfl) ?_
  intro hσ hids
  rw [show comp Tryz.prog { own := [], ghosts := [] } (Tryz.f8.body.getD .skip) = c_few8 by kernel_rfl, show Tryz.f8.ntmps = 22 by kernel_rfl]
  unfold c_few8
  simp only [go_sem, Int.reduceToNat, Int.reduceLE, Int.reduceLT, Nat.reduceBEq, Nat.reduceLT, Nat.reduceAdd, Nat.reduceLeDiff, encTask]
  refine (few01_spec t 300 _ ht (by omega)).is ?_
  cases h1 : fewT 300 t
  · simp only [go_sem, Int.reduceToNat, Int.reduceLE, Int.reduceLT, Nat.reduceBEq, Nat.reduceLT, Nat.reduceAdd, Nat.reduceLeDiff]
    first | exact rtk (.bool false) ⟨by rw [few8B, h1]; rfl, rfl⟩ | exact rtk0 (.bool false) ⟨by rw [few8B, h1]; rfl, rfl⟩
  simp only [go_sem, Int.reduceToNat, Int.reduceLE, Int.reduceLT, Nat.reduceBEq, Nat.reduceLT, Nat.reduceAdd, Nat.reduceLeDiff]
  refine (few07_spec 300 (by omega) fs tok _ hf hl).is ?_
  cases h2 : decide ((fs.map formSize).sum ≤ 300)
  · simp only [go_sem, Int.reduceToNat, Int.reduceLE, Int.reduceLT, Nat.reduceBEq, Nat.reduceLT, Nat.reduceAdd, Nat.reduceLeDiff]
    first | exact rtk (.bool false) ⟨by rw [few8B, h1, h2]; rfl, rfl⟩ | exact rtk0 (.bool false) ⟨by rw [few8B, h1, h2]; rfl, rfl⟩
  by_cases h3 : (t.facts.length : Int) ≤ 8
  · simp only [go_sem, Int.reduceToNat, Int.reduceLE, Int.reduceLT, Nat.reduceBEq, Nat.reduceLT, Nat.reduceAdd, Nat.reduceLeDiff, encTask, h3]
    first | exact rtk (.bool true) ⟨by rw [few8B, h1, h2, decide_eq_true (by omega : t.facts.length ≤ 8)]; rfl, rfl⟩ | exact rtk0 (.bool true) ⟨by rw [few8B, h1, h2, decide_eq_true (by omega : t.facts.length ≤ 8)]; rfl, rfl⟩
  · simp only [go_sem, Int.reduceToNat, Int.reduceLE, Int.reduceLT, Nat.reduceBEq, Nat.reduceLT, Nat.reduceAdd, Nat.reduceLeDiff, encTask, h3]
    refine (is01_spec t _ ht).is ?_
    simp only [go_sem, Int.reduceToNat, Int.reduceLE, Int.reduceLT, Nat.reduceBEq, Nat.reduceLT, Nat.reduceAdd, Nat.reduceLeDiff]
    first | exact rtw (v := .bool _) wkS ⟨by rw [few8B, h1, h2, decide_eq_false (by omega : ¬ t.facts.length ≤ 8)]; rfl, rfl⟩ | exact rtw0 (v := .bool _) wkS ⟨by rw [few8B, h1, h2, decide_eq_false (by omega : ¬ t.facts.length ≤ 8)]; rfl, rfl⟩
def c_fault8 : CCode := .seq (.ops [⟨some 2, .box (.tmp 0), none, []⟩, ⟨some 4, .move (.lit (.int .i64 0)), none, []⟩]) (.seq (.seq (.ops [⟨some 7, .load (some 4) (.tmp 2), none, []⟩, ⟨some 8, .call (.lit (.func 35 [])) [.tmp 7], none, []⟩, ⟨some 9, .un .not (.tmp 8), none, []⟩]) (.cond (.tmp 9) (.seq (.ops [⟨some 4, .move (.lit (.int .i64 10)), none, []⟩]) .ret) .skip)) (.seq (.seq (.ops [⟨some 10, .move (.tmp 1), none, []⟩, ⟨some 11, .blen 1 (.tmp 10), none, []⟩, ⟨some 12, .move (.lit (.int .i64 0)), none, []⟩]) (.block 0 (.loop (.seq (.ops [⟨some 13, .bin .lss .none (.tmp 12) (.tmp 11), none, []⟩]) (.seq (.cond (.tmp 13) .skip (.exit 0)) (.seq (.block 1 (.seq (.ops [⟨some 14, .iaddr 1 (.tmp 10) (.tmp 12), none, []⟩, ⟨some 15, .load none (.tmp 14), none, []⟩, ⟨some 6, .move (.tmp 15), none, []⟩]) (.seq (.ops [⟨some 16, .load (some 4) (.tmp 2), none, []⟩, ⟨some 17, .move (.tmp 6), none, []⟩, ⟨some 18, .call (.lit (.func 48 [])) [.tmp 16, .tmp 17], none, []⟩, ⟨some 19, .un .not (.tmp 18), none, []⟩]) (.cond (.tmp 19) (.seq (.ops [⟨some 4, .move (.lit (.int .i64 70)), none, []⟩]) .ret) .skip)))) (.ops [⟨some 20, .bin .add .none (.tmp 12) (.lit (.int .i64 1)), none, []⟩, ⟨some 12, .move (.tmp 20), none, []⟩]))))))) (.seq (.ops [⟨some 4, .move (.lit (.int .i64 0)), none, []⟩]) .ret)))
set_option maxRecDepth 20000 in
theorem fault8_spec (t : FTask) (fs : List (List (List FLit))) (tok : Tok) (σ : Store) (ht : TB t) (hs : fs.length ≤ 140737488355328) (hf : ∀ f ∈ fs, FB f) :
    ACalls Tryz.prog 11 [.agg (encTask t), .slice tok (fs.map encF)] σ (isR (.int .i64 (if validB t then (if fs.all (isClauses t.facts.length) then 0 else 70) else 10)) σ) := by
  refine ACalls.intro (rs := [(.tmp 4)]) (by kernel_rfl) { own := [], ghosts := [] } Tryz.func11 (c := Tryz.f11.body.getD .skip) (by kernel_rfl) (by decide) (by rw [show Tryz.f11.ntmps = 21 by kernel_rfl]; exact Nat.le_of_ble_eq_true rfl) (by kernel_rfl) ?_
  intro hσ hids
  rw [show comp Tryz.prog { own := [], ghosts := [] } (Tryz.f11.body.getD .skip) = c_fault8 by kernel_rfl, show Tryz.f11.ntmps = 21 by kernel_rfl]
  unfold c_fault8
  have hil : Ids σ.length (.slice tok (fs.map encF)) := hids _ (by simp)
  have hσ1 := ids_grow hσ (ids_encTask t)
  simp only [go_sem, Int.reduceToNat, Int.reduceLE, Int.reduceLT, Nat.reduceBEq, Nat.reduceLT, Nat.reduceAdd, Nat.reduceLeDiff, encTask]
  refine (is01_spec t _ ht).is ?_
  cases hv : validB t
  · simp only [go_sem, Int.reduceToNat, Int.reduceLE, Int.reduceLT, Nat.reduceBEq, Nat.reduceLT, Nat.reduceAdd, Nat.reduceLeDiff]
    first | exact rtk (.int .i64 10) ⟨rfl, rfl⟩ | exact rtk0 (.int .i64 10) ⟨rfl, rfl⟩
  simp only [go_sem, Int.reduceToNat, Int.reduceLE, Int.reduceLT, Nat.reduceBEq, Nat.reduceLT, Nat.reduceAdd, Nat.reduceLeDiff, encTask]
  refine wpc_while (fun i => [(2, .ptr σ.length 0), (10, .slice tok (fs.map encF)), (11, .int .i64 fs.length), (12, .int .i64 (i : Nat))]) (fun _ => σ ++ [.row (encTask t)]) (fun i => i ≤ fs.length ∧ fs.all (isClauses t.facts.length) = (fs.drop i).all (isClauses t.facts.length)) (fun i => fs.length - i) 0 ⟨Nat.zero_le _, rfl⟩ (by (try dsimp only); exact ghk1) ?_
  rintro i ⟨hi, hv⟩ K hK hE hR
  by_cases h : i < fs.length
  · obtain ⟨f, hx⟩ := get_ex h; have hlt : ((i : Int) < (fs.length : Int)) := (by omega); have hw : IntKind.i64.wrap ((i : Int) + 1) = ((i + 1 : Nat) : Int) := (by rw [wrap_ok (by omega)]; omega)
    have hb := hf f (List.mem_of_getElem? hx)
    rw [drop_cons hx, List.all_cons] at hv
    simp only [go_sem, Int.reduceToNat, Int.reduceLE, Int.reduceLT, Nat.reduceBEq, Nat.reduceLT, Nat.reduceAdd, Nat.reduceLeDiff, hlt, hx, encF, encTask]
    refine (Is08_spec t f .unk _ hb).is ?_
    cases h1 : isClauses t.facts.length f
    · rw [h1, Bool.false_and] at hv
      simp only [go_sem, Int.reduceToNat, Int.reduceLE, Int.reduceLT, Nat.reduceBEq, Nat.reduceLT, Nat.reduceAdd, Nat.reduceLeDiff, hR]
      first | exact rtk (.int .i64 70) ⟨by rw [hv]; rfl, rfl⟩ | exact rtk0 (.int .i64 70) ⟨by rw [hv]; rfl, rfl⟩
    · rw [h1, Bool.true_and] at hv
      simp only [go_sem, Int.reduceToNat, Int.reduceLE, Int.reduceLT, Nat.reduceBEq, Nat.reduceLT, Nat.reduceAdd, Nat.reduceLeDiff]
      refine hK _ _ (i + 1) (⟨by omega, hv⟩) (by first | omega | (simp only []; omega) | (simp; omega)) ?_; (try dsimp only); (try simp only [ hw]); exact ghk1
  · have hlt : ¬ ((i : Int) < (fs.length : Int)) := by omega
    rw [drop_len h, List.all_nil] at hv
    simp only [go_sem, Int.reduceToNat, Int.reduceLE, Int.reduceLT, Nat.reduceBEq, Nat.reduceLT, Nat.reduceAdd, Nat.reduceLeDiff, hlt, hE]
    first | exact rtk (.int .i64 0) ⟨by rw [hv]; rfl, rfl⟩ | exact rtk0 (.int .i64 0) ⟨by rw [hv]; rfl, rfl⟩
end Go.Proofs.YtocphglkceidhaaGreat
namespace Go.Proofs.YtocphglkceidhaaGreat
open Go.Ahl
end Go.Proofs.YtocphglkceidhaaGreat
namespace Go.Proofs.YtocphglkceidhaaGreat
open Go.Ahl
end Go.Proofs.YtocphglkceidhaaGreat
namespace Go.Proofs.YtocphglkceidhaaGreat
open Go.Ahl
/-- Does a clause keep two facts apart? -/
def apartC (x y : Int) : List FLit → Bool
  | [a] => a.neg && (a.fact == x || a.fact == y)
  | [a, b] => decide (a = ⟨if y < x then y else x, true⟩) && decide (b = ⟨if y > x then y else x, true⟩)
  | _ => false
def apartB (l : List (List FLit)) (x y : Int) : Bool := l.any (apartC x y)
/-- Are any two of some facts kept apart? -/
def groupB (l : List (List FLit)) (f : List Int) : Bool := (List.range f.length).all fun i => (f.take i).all fun y => apartB l (f.getD i 0) y
end Go.Proofs.YtocphglkceidhaaGreat
namespace Go.Proofs.YtocphglkceidhaaGreat
open Go.Ahl
/-- Can a fact be added? -/
def growB (l : List (List FLit)) (s : List Int) (x : Nat) : Bool := !(s.contains (x : Int)) && groupB l (s ++ [(x : Int)])
def mostB (n : Nat) (l : List (List FLit)) (s : List Int) : Bool := !((List.range n).any (growB l s))
def isGroupB (n : Nat) (l : List (List FLit)) (s : List Int) : Bool := !(decide ((s.length : Int) < 2)) && groupB l s && mostB n l s
def groupsL (n : Nat) (l : List (List FLit)) : List (List Int) := ((statesL n).filter (isGroupB n l)).foldl insL []
end Go.Proofs.YtocphglkceidhaaGreat
namespace Go.Proofs.YtocphglkceidhaaGreat
open Go.Ahl
theorem idxFrom_nat {α : Type} (p : α → Bool) : ∀ (l : List α) (k : Int), (idxFrom p k l = -1 ∧ ∀ x ∈ l, p x = false) ∨ ∃ n, idxFrom p k l = k + (n : Nat) ∧ (∀ x ∈ l.take n, p x = false) ∧ ∃ x, l[n]? = some x ∧ p x = true
  | [], k => .inl ⟨rfl, by simp⟩
  | x :: l, k => by
    rw [idxFrom]
    cases hx : p x
    · simp only [Bool.false_eq_true, if_false]
      rcases idxFrom_nat p l (k + 1) with ⟨h1, h2⟩ | ⟨n, h1, h2, h3⟩
      · exact .inl ⟨h1, fun y hy => by rcases List.mem_cons.1 hy with rfl | hy; exact hx; exact h2 y hy⟩
      · exact .inr ⟨n + 1, by rw [h1]; omega, fun y hy => by rw [List.take_succ_cons] at hy; rcases List.mem_cons.1 hy with rfl | hy; exact hx; exact h2 y hy, h3⟩
    · exact .inr ⟨0, by simp, by simp, x, rfl, hx⟩
def c_idxI : CCode := .seq (.ops [⟨some 4, .move (.lit (.int .i64 0)), none, []⟩]) (.seq (.seq (.ops [⟨some 6, .move (.tmp 0), none, []⟩, ⟨some 7, .blen 1 (.tmp 6), none, []⟩, ⟨some 8, .move (.lit (.int .i64 0)), none, []⟩]) (.block 0 (.loop (.seq (.ops [⟨some 9, .bin .lss .none (.tmp 8) (.tmp 7), none, []⟩]) (.seq (.cond (.tmp 9) .skip (.exit 0)) (.seq (.block 1 (.seq (.ops [⟨some 10, .move (.tmp 8), none, []⟩, ⟨some 5, .move (.tmp 10), none, []⟩]) (.seq (.ops [⟨some 11, .move (.tmp 1), none, []⟩, ⟨some 12, .move (.tmp 0), none, []⟩, ⟨some 13, .move (.tmp 5), none, []⟩, ⟨some 14, .iaddr 1 (.tmp 12) (.tmp 13), none, []⟩, ⟨some 15, .load none (.tmp 14), none, []⟩, ⟨some 16, .call (.tmp 11) [.tmp 15], none, []⟩]) (.cond (.tmp 16) (.seq (.ops [⟨some 17, .move (.tmp 5), none, []⟩, ⟨some 4, .move (.tmp 17), none, []⟩]) .ret) .skip)))) (.ops [⟨some 18, .bin .add .none (.tmp 8) (.lit (.int .i64 1)), none, []⟩, ⟨some 8, .move (.tmp 18), none, []⟩]))))))) (.seq (.ops [⟨some 4, .move (.lit (.int .i64 (-1))), none, []⟩]) .ret))
set_option maxRecDepth 20000 in
theorem idxI_spec (id : Nat) (l : List Int) (g : FuncId) (cap : List AV) (p : Int → Bool) (σ : Store) (hl : l.length ≤ 140737488355328) (hr : σ[id]? = some (.row (l.map ai)))
    (hp : ∀ x ∈ l, ACalls Tryz.prog g (ai x :: cap) σ (isR (.bool (p x)) σ)) :
    ACalls Tryz.prog 81 [.ref id 1 0 l.length, .func g cap] σ (isR (.int .i64 (idxFrom p 0 l)) σ) := by
  refine ACalls.intro (rs := [(.tmp 4)]) (by kernel_rfl) { own := [], ghosts := [] } Tryz.func81 (c := Tryz.f81.body.getD .skip) (by kernel_rfl) (by decide) (by rw [show Tryz.f81.ntmps = 19 by kernel_rfl]; exact Nat.le_of_ble_eq_true rfl) (by kernel_rfl) ?_
  intro hσ hids
  rw [show comp Tryz.prog { own := [], ghosts := [] } (Tryz.f81.body.getD .skip) = c_idxI by kernel_rfl, show Tryz.f81.ntmps = 19 by kernel_rfl]
  unfold c_idxI
  have hif : Ids σ.length (.func g cap) := hids _ (by simp)
  have hid := lt_of_get hr
  simp only [go_sem, Int.reduceToNat, Int.reduceLE, Int.reduceLT, Nat.reduceBEq, Nat.reduceLT, Nat.reduceAdd, Nat.reduceLeDiff]
  refine wpc_while (fun i => [(0, .ref id 1 0 l.length), (1, .func g cap), (7, .int .i64 l.length), (8, .int .i64 (i : Nat))]) (fun _ => σ) (fun i => i ≤ l.length ∧ idxFrom p 0 l = idxFrom p i (l.drop i)) (fun i => l.length - i) 0 ⟨Nat.zero_le _, rfl⟩ (by (try dsimp only); first | exact ghk | exact ghk0) ?_
  rintro i ⟨hi, hv⟩ K hK hE hR
  by_cases h : i < l.length
  · obtain ⟨y, hx⟩ := get_ex h; have hlt : ((i : Int) < (l.length : Int)) := (by omega); have hw : IntKind.i64.wrap ((i : Int) + 1) = ((i + 1 : Nat) : Int) := (by rw [wrap_ok (by omega)]; omega)
    rw [drop_cons hx, idxFrom] at hv
    have hx' : (l.map ai)[i]? = some (ai y) := by rw [List.getElem?_map, hx]; rfl
    simp only [go_sem, Int.reduceToNat, Int.reduceLE, Int.reduceLT, Nat.reduceBEq, Nat.reduceLT, Nat.reduceAdd, Nat.reduceLeDiff, hlt, hr, hx', h]
    refine (hp y (List.mem_of_getElem? hx)).is ?_
    cases h1 : p y
    · simp only [go_sem, Int.reduceToNat, Int.reduceLE, Int.reduceLT, Nat.reduceBEq, Nat.reduceLT, Nat.reduceAdd, Nat.reduceLeDiff]
      rw [h1, if_neg (by simp)] at hv
      refine hK _ _ (i + 1) (⟨by omega, by rw [hv]; norm_cast⟩) (by first | omega | (simp only []; omega) | (simp; omega)) ?_; (try dsimp only); (try simp only [ hw]); first | exact ghk | exact ghk0
    · rw [h1, if_pos rfl] at hv
      simp only [go_sem, Int.reduceToNat, Int.reduceLE, Int.reduceLT, Nat.reduceBEq, Nat.reduceLT, Nat.reduceAdd, Nat.reduceLeDiff, hR]
      first | exact rtk (.int .i64 i) ⟨by rw [hv], rfl⟩ | exact rtk0 (.int .i64 i) ⟨by rw [hv], rfl⟩
  · have hlt : ¬ ((i : Int) < (l.length : Int)) := by omega
    rw [drop_len h, idxFrom] at hv
    simp only [go_sem, Int.reduceToNat, Int.reduceLE, Int.reduceLT, Nat.reduceBEq, Nat.reduceLT, Nat.reduceAdd, Nat.reduceLeDiff, hlt, hE]
    first | exact rtk (.int .i64 (-1)) ⟨by rw [hv], rfl⟩ | exact rtk0 (.int .i64 (-1)) ⟨by rw [hv], rfl⟩
def c_cloneR : CCode := .seq (.ops [⟨some 2, .move (.lit (.slice .nil [])), none, []⟩]) (.seq (.seq (.ops [⟨some 3, .move (.tmp 0), none, []⟩, ⟨some 4, .bin .eql .slice (.tmp 3) (.lit (.slice .nil [])), none, []⟩]) (.cond (.tmp 4) (.seq (.ops [⟨some 2, .move (.lit (.slice .nil [])), none, []⟩]) .ret) .skip)) (.seq (.ops [⟨some 5, .bslice 1 [] true, none, []⟩, ⟨some 6, .move (.tmp 0), none, []⟩, ⟨some 7, .bappend 1 8 (.tmp 5) (.tmp 6) true, none, []⟩, ⟨some 2, .move (.tmp 7), none, []⟩]) .ret))
set_option maxRecDepth 20000 in
theorem cloneR_spec (f : List Int) (tok : Tok) (σ : Store) (hf : f.length ≤ 1073741824) :
    ACalls Tryz.prog 40 [.slice tok (f.map Ahl.encI)] σ (isR (.ref σ.length 1 0 f.length) (σ ++ [.row (f.map ai)])) := by
  refine ACalls.intro (rs := [(.tmp 2)]) (by kernel_rfl) { own := [(3, 0), (3, 2)], ghosts := [] } Tryz.func40 (c := Tryz.f40.body.getD .skip) (by kernel_rfl) (by decide) (by rw [show Tryz.f40.ntmps = 8 by kernel_rfl]; exact Nat.le_of_ble_eq_true rfl) (by kernel_rfl) ?_
  intro hσ hids
  rw [show comp Tryz.prog { own := [(3, 0), (3, 2)], ghosts := [] } (Tryz.f40.body.getD .skip) = c_cloneR by kernel_rfl, show Tryz.f40.ntmps = 8 by kernel_rfl]
  unfold c_cloneR
  have hbig : bigLen f.length 8 := big_ok (by omega) (by omega)
  have hσ1 : IdsS (σ ++ [AObj.row (f.map ai)]).length (σ ++ [AObj.row (f.map ai)]) := idsS_push hσ (ids_ai f)
  simp only [go_sem, Int.reduceToNat, Int.reduceLE, Int.reduceLT, Nat.reduceBEq, Nat.reduceLT, Nat.reduceAdd, Nat.reduceLeDiff]
  intro b hb
  cases b
  · have hall : ∀ x ∈ f, (Ahl.encI x).length = 1 ∧ (Ahl.encI x).all AV.one = true := fun x _ => ⟨rfl, rfl⟩
    simp only [go_sem, Int.reduceToNat, Int.reduceLE, Int.reduceLT, Nat.reduceBEq, Nat.reduceLT, Nat.reduceAdd, Nat.reduceLeDiff, hbig, map_ai]
    refine ⟨hall, ?_⟩
    refine ret_gh (v := .ref σ.length 1 0 f.length) (σ' := σ ++ [.row (f.map ai)]) ?_ (by simp) hσ1 (.ref _ _ _ _ (by simp)) ⟨rfl, rfl⟩
    exact .keepL0 _ rfl (Nat.le_refl _) ⟨⟨.refl _, .ref _ _ _ _ (by simp)⟩, trivial⟩ hσ1
  · have hl0 : f = [] := by
      cases f with
      | nil => rfl
      | cons x l => exact absurd (hb (by simp)) (by simp)
    subst hl0
    simp only [go_sem, Int.reduceToNat, Int.reduceLE, Int.reduceLT, Nat.reduceBEq, Nat.reduceLT, Nat.reduceAdd, Nat.reduceLeDiff]
    refine ret_gh (v := .ref σ.length 1 0 0) (σ' := σ ++ [.row []]) ?_ (by simp) hσ1 (.ref _ _ _ _ (by simp)) ⟨rfl, rfl⟩
    exact (Ghost.keep0 (s' := [(2, .slice .nil [])]) (Nat.le_refl _) ⟨⟨.refl _, ids_nil _ (by simp)⟩, trivial⟩ hσ).trans ((Ghost.row0 2 1 0 (.inl rfl)).trans (.same (lk_twice 2 _ _ [])))
def c_cloneG : CCode := .seq (.ops [⟨some 2, .move (.lit (.slice .nil [])), none, []⟩]) (.seq (.seq (.ops [⟨some 3, .move (.tmp 0), none, []⟩, ⟨some 4, .bin .eql .slice (.tmp 3) (.lit (.slice .nil [])), none, []⟩]) (.cond (.tmp 4) (.seq (.ops [⟨some 2, .move (.lit (.slice .nil [])), none, []⟩]) .ret) .skip)) (.seq (.ops [⟨some 5, .bslice 1 [] false, none, []⟩, ⟨some 6, .move (.tmp 0), none, []⟩, ⟨some 7, .bappend 1 8 (.tmp 5) (.tmp 6) false, none, []⟩, ⟨some 2, .move (.tmp 7), none, []⟩]) .ret))
set_option maxRecDepth 20000 in
theorem cloneG_spec (f : List Int) (tok : Tok) (σ : Store) (hf : f.length ≤ 1073741824) :
    ACalls Tryz.prog 40 [.slice tok (f.map Ahl.encI)] σ (isR (.slice (.grow σ.length) (f.map Ahl.encI)) (σ ++ [.grow 1 f.length])) := by
  refine ACalls.intro (rs := [(.tmp 2)]) (by kernel_rfl) { own := [], ghosts := [] } Tryz.func40 (c := Tryz.f40.body.getD .skip) (by kernel_rfl) (by decide) (by rw [show Tryz.f40.ntmps = 8 by kernel_rfl]; exact Nat.le_of_ble_eq_true rfl) (by kernel_rfl) ?_
  intro hσ hids
  rw [show comp Tryz.prog { own := [], ghosts := [] } (Tryz.f40.body.getD .skip) = c_cloneG by kernel_rfl, show Tryz.f40.ntmps = 8 by kernel_rfl]
  unfold c_cloneG
  have hbig : bigLen f.length 8 := big_ok (by omega) (by omega)
  have hσ1 : ∀ k, IdsS (σ ++ [AObj.grow 1 k]).length (σ ++ [AObj.grow 1 k]) := fun k => idsS_push hσ trivial
  simp only [go_sem, Int.reduceToNat, Int.reduceLE, Int.reduceLT, Nat.reduceBEq, Nat.reduceLT, Nat.reduceAdd, Nat.reduceLeDiff]
  intro b hb
  cases b
  · have hall : ∀ x ∈ f, (Ahl.encI x).length = 1 ∧ (Ahl.encI x).all AV.one = true := fun x _ => ⟨rfl, rfl⟩
    simp only [go_sem, Int.reduceToNat, Int.reduceLE, Int.reduceLT, Nat.reduceBEq, Nat.reduceLT, Nat.reduceAdd, Nat.reduceLeDiff, hbig]
    refine ⟨hall, ?_⟩
    refine ret_gh (v := .slice (.grow σ.length) (f.map Ahl.encI)) (σ' := σ ++ [.grow 1 f.length]) ?_ (by simp) (hσ1 _) (ids_growE (by simp) _) ⟨rfl, rfl⟩
    exact .keepL0 _ rfl (Nat.le_refl _) ⟨⟨.refl _, ids_growE (by simp) _⟩, trivial⟩ (hσ1 _)
  · have hl0 : f = [] := by
      cases f with
      | nil => rfl
      | cons x l => exact absurd (hb (by simp)) (by simp)
    subst hl0
    simp only [go_sem, Int.reduceToNat, Int.reduceLE, Int.reduceLT, Nat.reduceBEq, Nat.reduceLT, Nat.reduceAdd, Nat.reduceLeDiff]
    refine ret_gh (v := .slice (.grow σ.length) []) (σ' := σ ++ [.grow 1 0]) ?_ (by simp) (hσ1 _) (ids_nil _ (by intro id h; cases h; simp)) ⟨rfl, rfl⟩
    exact (Ghost.keep0 (s' := [(2, .slice .nil [])]) (Nat.le_refl _) ⟨⟨.refl _, ids_nil _ (by simp)⟩, trivial⟩ hσ).trans ((Ghost.tok 2 1 (.inl rfl)).trans (.same (lk_twice 2 _ _ [])))
theorem take_setAll : ∀ (xs l : List AV) (off : Nat), (setAll l off xs).take off = l.take off
  | [], l, off => rfl
  | x :: xs, l, off => by
    rw [setAll]
    have h := take_setAll xs (l.set off x) (off + 1)
    have h2 : (setAll (l.set off x) (off + 1) xs).take off = ((setAll (l.set off x) (off + 1) xs).take (off + 1)).take off := by rw [List.take_take]; congr 1; omega
    rw [h2, h, List.take_take, Nat.min_eq_left (by omega), List.take_set_of_le (Nat.le_refl _)]
theorem mem_setAll : ∀ (xs l : List AV) (off : Nat) (v : AV), v ∈ setAll l off xs → v ∈ l ∨ v ∈ xs
  | [], l, off, v, h => .inl h
  | x :: xs, l, off, v, h => by
    rcases mem_setAll xs _ _ v h with h | h
    · rcases List.mem_or_eq_of_mem_set h with h | h
      · exact .inl h
      · exact .inr (h ▸ List.mem_cons_self)
    · exact .inr (List.mem_cons_of_mem _ h)
/-- Behind j elements, of which i stayed. -/
def DelInv (l : List Int) (p : Int → Bool) (q : Nat × Nat × List Int) : Prop :=
  q.1 ≤ l.length ∧ q.2.1 < q.1 ∧ q.2.2.length = l.length ∧ q.2.2.take q.2.1 = (l.take q.1).filter (fun x => !(p x)) ∧ q.2.2.drop q.1 = l.drop q.1
theorem DelInv.len {l : List Int} {p : Int → Bool} {j i : Nat} {w : List Int} (h : DelInv l p (j, i, w)) : ((l.take j).filter (fun x => !(p x))).length = i := by
  obtain ⟨h1, h2, h3, h4, h5⟩ := h
  simp only at h1 h2 h3 h4 h5
  rw [← h4, List.length_take]; omega
theorem DelInv.stay {l : List Int} {p : Int → Bool} {j i : Nat} {w : List Int} {x : Int} (h : DelInv l p (j, i, w)) (hx : l[j]? = some x) (hp : p x = false) : DelInv l p (j + 1, i + 1, w.set i x) := by
  have hl := h.len
  obtain ⟨h1, h2, h3, h4, h5⟩ := h
  simp only at h1 h2 h3 h4 h5
  have hj := lt_of_get hx
  have hw : i < w.length := by omega
  refine ⟨hj, by simp only; omega, by simpa using h3, ?_, ?_⟩
  · simp only
    rw [take_succ' hx, List.filter_append, List.filter_cons, hp, ← h4]
    simp only [Bool.not_false, if_true, List.filter_nil]
    rw [List.take_set, List.take_succ_eq_append_getElem hw, List.set_append_right _ _ (by rw [List.length_take]; omega)]
    congr 1
    rw [List.length_take, Nat.min_eq_left (by omega), Nat.sub_self]; rfl
  · simp only
    rw [List.drop_set_of_lt (by omega), ← List.drop_drop, ← List.drop_drop, h5]
theorem DelInv.skip {l : List Int} {p : Int → Bool} {j i : Nat} {w : List Int} {x : Int} (h : DelInv l p (j, i, w)) (hx : l[j]? = some x) (hp : p x = true) : DelInv l p (j + 1, i, w) := by
  obtain ⟨h1, h2, h3, h4, h5⟩ := h
  simp only at h1 h2 h3 h4 h5
  have hj := lt_of_get hx
  refine ⟨hj, by simp only; omega, h3, ?_, ?_⟩
  · simp only
    rw [take_succ' hx, List.filter_append, List.filter_cons, hp, ← h4]; simp
  · simp only
    rw [← List.drop_drop, ← List.drop_drop, h5]
def c_delI : CCode := .seq (.ops [⟨some 4, .move (.lit (.slice .nil [])), none, []⟩]) (.seq (.ops [⟨some 8, .move (.tmp 0), none, []⟩, ⟨some 9, .move (.tmp 1), none, []⟩, ⟨some 10, .call (.lit (.func 81 [])) [.tmp 8, .tmp 9], none, []⟩, ⟨some 5, .move (.tmp 10), none, []⟩]) (.seq (.seq (.ops [⟨some 11, .move (.tmp 5), none, []⟩, ⟨some 12, .bin .eql .none (.tmp 11) (.lit (.int .i64 (-1))), none, []⟩]) (.cond (.tmp 12) (.seq (.ops [⟨some 13, .move (.tmp 0), none, []⟩, ⟨some 4, .move (.tmp 13), none, []⟩]) .ret) .skip)) (.seq (.seq (.ops [⟨some 14, .move (.tmp 5), none, []⟩, ⟨some 15, .bin .add .none (.tmp 14) (.lit (.int .i64 1)), none, []⟩, ⟨some 6, .move (.tmp 15), none, []⟩]) (.block 0 (.loop (.seq (.seq (.ops [⟨some 16, .move (.tmp 6), none, []⟩, ⟨some 17, .move (.tmp 0), none, []⟩, ⟨some 18, .blen 1 (.tmp 17), none, []⟩, ⟨some 19, .bin .lss .none (.tmp 16) (.tmp 18), none, []⟩]) (.cond (.tmp 19) .skip (.exit 0))) (.seq (.block 1 (.seq (.ops [⟨some 22, .move (.tmp 0), none, []⟩, ⟨some 23, .move (.tmp 6), none, []⟩, ⟨some 24, .iaddr 1 (.tmp 22) (.tmp 23), none, []⟩, ⟨some 25, .load none (.tmp 24), none, []⟩, ⟨some 7, .move (.tmp 25), none, []⟩]) (.seq (.ops [⟨some 26, .move (.tmp 1), none, []⟩, ⟨some 27, .move (.tmp 7), none, []⟩, ⟨some 28, .call (.tmp 26) [.tmp 27], none, []⟩, ⟨some 29, .un .not (.tmp 28), none, []⟩]) (.cond (.tmp 29) (.seq (.ops [⟨some 30, .move (.tmp 0), none, []⟩, ⟨some 31, .move (.tmp 5), none, []⟩, ⟨some 32, .move (.tmp 7), none, []⟩, ⟨some 33, .iaddr 1 (.tmp 30) (.tmp 31), none, []⟩, ⟨none, .store 1 (.tmp 33) (.tmp 32), none, []⟩]) (.ops [⟨some 34, .move (.tmp 5), none, []⟩, ⟨some 35, .bin .add .none (.tmp 34) (.lit (.int .i64 1)), none, []⟩, ⟨some 5, .move (.tmp 35), none, []⟩])) .skip)))) (.ops [⟨some 20, .move (.tmp 6), none, []⟩, ⟨some 21, .bin .add .none (.tmp 20) (.lit (.int .i64 1)), none, []⟩, ⟨some 6, .move (.tmp 21), none, []⟩])))))) (.seq (.ops [⟨some 36, .move (.tmp 0), none, []⟩, ⟨some 37, .move (.tmp 5), none, []⟩, ⟨some 38, .slc 1 (.tmp 36) (some (.tmp 37)) none none, none, []⟩, ⟨none, .bclear [.int .i64 0] (.tmp 38), none, []⟩]) (.seq (.ops [⟨some 39, .move (.tmp 0), none, []⟩, ⟨some 40, .move (.tmp 5), none, []⟩, ⟨some 41, .slc 1 (.tmp 39) none (some (.tmp 40)) none, none, []⟩, ⟨some 4, .move (.tmp 41), none, []⟩]) .ret)))))
set_option maxRecDepth 20000 in
set_option maxHeartbeats 1000000 in
theorem delI_spec (id : Nat) (l : List Int) (g : FuncId) (cap : List AV) (p : Int → Bool) (σ : Store) (hl : l.length ≤ 1073741824) (hr : σ[id]? = some (.row (l.map ai)))
    (hp : ∀ (w : List Int), ∀ x ∈ l, ACalls Tryz.prog g (ai x :: cap) (σ.set id (.row (w.map ai))) (isR (.bool (p x)) (σ.set id (.row (w.map ai))))) :
    ACalls Tryz.prog 43 [.ref id 1 0 l.length, .func g cap] σ (isR (.ref id 1 0 (l.filter fun x => !(p x)).length) (σ.set id (.row ((l.filter fun x => !(p x)).map ai)))) := by
  refine ACalls.intro (rs := [(.tmp 4)]) (by kernel_rfl) { own := [], ghosts := [] } Tryz.func43 (c := Tryz.f43.body.getD .skip) (by kernel_rfl) (by decide) (by rw [show Tryz.f43.ntmps = 42 by kernel_rfl]; exact Nat.le_of_ble_eq_true rfl) (by kernel_rfl) ?_
  intro hσ hids
  rw [show comp Tryz.prog { own := [], ghosts := [] } (Tryz.f43.body.getD .skip) = c_delI by kernel_rfl, show Tryz.f43.ntmps = 42 by kernel_rfl]
  unfold c_delI
  have hif : Ids σ.length (.func g cap) := hids _ (by simp)
  have hid := lt_of_get hr
  obtain ⟨T, hT⟩ : ∃ T : List Int → Store, ∀ w, T w = σ.set id (.row (w.map ai)) := ⟨_, fun _ => rfl⟩
  have hT0 : T l = σ := by rw [hT]; exact set_same hr
  have hTl : ∀ w, (T w).length = σ.length := fun w => by rw [hT, List.length_set]
  have hTi : ∀ w, IdsS (T w).length (T w) := fun w => by rw [hTl, hT]; exact idsS_put hσ id (ids_ai _)
  have hTr : ∀ w, (T w)[id]? = some (.row (w.map ai)) := fun w => by rw [hT, List.getElem?_set_self hid]
  have hTs : ∀ w (v : List AV), (T w).set id (.row v) = σ.set id (.row v) := fun w v => by rw [hT, List.set_set]
  simp only [go_sem, Int.reduceToNat, Int.reduceLE, Int.reduceLT, Nat.reduceBEq, Nat.reduceLT, Nat.reduceAdd, Nat.reduceLeDiff]
  refine (idxI_spec id l g cap p σ (by omega) hr (fun x hx => by have := hp l x hx; rwa [set_same hr] at this)).is ?_
  rcases idxFrom_nat p l 0 with ⟨h1, h2⟩ | ⟨n, h1, h2, x0, hx0, hpx⟩
  · have hfl : l.filter (fun x => !(p x)) = l := List.filter_eq_self.2 fun x hx => by rw [h2 x hx]; rfl
    have h3 : (((-1 : Int)) == (-1 : Int)) = true := rfl
    rw [h1, hfl, set_same hr]
    simp only [go_sem, Int.reduceToNat, Int.reduceLE, Int.reduceLT, Nat.reduceBEq, Nat.reduceLT, Nat.reduceAdd, Nat.reduceLeDiff, h3]
    first | exact rtk (.ref id 1 0 l.length) ⟨rfl, rfl⟩ | exact rtk0 (.ref id 1 0 l.length) ⟨rfl, rfl⟩
  · have hnl := lt_of_get hx0
    have h3 : (((n : Int)) == (-1 : Int)) = false := by simp
    have hwn : IntKind.i64.wrap ((n : Int) + 1) = ((n + 1 : Nat) : Int) := by rw [wrap_ok (by omega)]; omega
    rw [h1, Int.zero_add]
    have hinv : DelInv l p (n + 1, n, l) := by
      refine ⟨hnl, Nat.lt_succ_self n, rfl, ?_, rfl⟩
      simp only
      rw [take_succ' hx0, List.filter_append, List.filter_cons, hpx]
      simp only [Bool.not_true, Bool.false_eq_true, if_false, List.filter_nil, List.append_nil]
      exact (List.filter_eq_self.2 fun x hx => by rw [h2 x hx]; rfl).symm
    simp only [go_sem, Int.reduceToNat, Int.reduceLE, Int.reduceLT, Nat.reduceBEq, Nat.reduceLT, Nat.reduceAdd, Nat.reduceLeDiff, h3, hwn]
    refine wpc_while (fun (q : Nat × Nat × List Int) => [(0, .ref id 1 0 l.length), (1, .func g cap), (5, .int .i64 q.2.1), (6, .int .i64 q.1)]) (fun q => T q.2.2) (DelInv l p) (fun q => l.length - q.1) (n + 1, n, l) hinv
      (by rw [show T (n + 1, n, l).2.2 = σ from hT0]; exact (by (try dsimp only); first | exact ghk | exact ghk0)) ?_
    rintro ⟨j, i, w⟩ hq K hK hE hR
    have hq' := hq
    obtain ⟨q1, q2, q3, q4, q5⟩ := hq'
    dsimp only at q1 q2 q3 q4 q5 ⊢
    have hTlw := hTl w
    have hifw : Ids (T w).length (.func g cap) := by rw [hTl]; exact hif
    have hidw : id < (T w).length := by rw [hTl]; exact hid
    by_cases h : j < l.length
    · obtain ⟨x, hx⟩ := get_ex h
      have hltj : ((j : Int) < (l.length : Int)) := by omega
      have hwj : IntKind.i64.wrap ((j : Int) + 1) = ((j + 1 : Nat) : Int) := by rw [wrap_ok (by omega)]; omega
      have hwi : IntKind.i64.wrap ((i : Int) + 1) = ((i + 1 : Nat) : Int) := by rw [wrap_ok (by omega)]; omega
      have hwx : w[j]? = some x := by
        have : (w.drop j)[0]? = (l.drop j)[0]? := by rw [q5]
        rw [List.getElem?_drop, List.getElem?_drop, Nat.add_zero, hx] at this; exact this
      have hwx' : (w.map ai)[j]? = some (ai x) := by rw [List.getElem?_map, hwx]; rfl
      have hil : i < l.length := by omega
      simp only [go_sem, Int.reduceToNat, Int.reduceLE, Int.reduceLT, Nat.reduceBEq, Nat.reduceLT, Nat.reduceAdd, Nat.reduceLeDiff, hltj, hTr, hwx', h]
      have hc := hp w x (List.mem_of_getElem? hx)
      rw [← hT] at hc
      refine hc.is ?_
      cases hpx1 : p x
      · have hiw : i < (w.map ai).length := by rw [List.length_map]; omega
        have hiw1 : i + 1 ≤ w.length := by omega
        simp only [go_sem, Int.reduceToNat, Int.reduceLE, Int.reduceLT, Nat.reduceBEq, Nat.reduceLT, Nat.reduceAdd, Nat.reduceLeDiff, hTr, hil, hwi, hwj, hiw1, ai]
        have hset : ∀ v, (T w).set id (.row ((w.map ai).set i (.int .i64 v))) = T (w.set i v) := fun v => by rw [hTs, hT, mset]
        rw [hset]
        refine hK _ _ (j + 1, i + 1, w.set i x) (hq.stay hx hpx1) (by simp only []; omega) ?_
        (try dsimp only)
        have hTlw2 := hTl (w.set i x)
        first | exact ghN0 (hTi _) | exact ghN (hTi _)
      · simp only [go_sem, Int.reduceToNat, Int.reduceLE, Int.reduceLT, Nat.reduceBEq, Nat.reduceLT, Nat.reduceAdd, Nat.reduceLeDiff, hwj]
        refine hK _ _ (j + 1, i, w) (hq.skip hx hpx1) (by simp only []; omega) ?_
        (try dsimp only)
        first | exact ghN0 (hTi _) | exact ghN (hTi _)
    · have hltj : ¬ ((j : Int) < (l.length : Int)) := by omega
      have hi2 : i ≤ l.length := by omega
      obtain rfl : j = l.length := by omega
      rw [List.take_length] at q4
      have hkl : (l.filter fun x => !(p x)).length = i := by rw [← q4, List.length_take]; omega
      simp only [go_sem, Int.reduceToNat, Int.reduceLE, Int.reduceLT, Nat.reduceBEq, Nat.reduceLT, Nat.reduceAdd, Nat.reduceLeDiff, hltj, hE, hTr, hi2]
      refine ⟨by omega, Nat.zero_le _, ?_⟩
      rw [Nat.sub_zero, hTs]
      refine ret_gh (v := .ref id 1 0 i) (σ' := T (l.filter fun x => !(p x))) ?_ (by rw [hTl]; exact Nat.le_refl _) (hTi _) (.ref _ _ _ _ (by rw [hTl]; exact hid)) ⟨by rw [hkl], hT _⟩
      have hgt := Ghost.trunc (n0 := σ.length) (nt := 42) (s := [(4, .ref id 1 0 i)]) (σ := σ.set id (.row (setAll (w.map ai) i (List.replicate (l.length - i) [AV.int .i64 0]).flatten))) id i (by rw [List.getElem?_set_self hid])
      rw [take_setAll, List.set_set, ← List.map_take, q4, ← hT] at hgt
      refine Ghost.trans ?_ hgt
      have hl0 : (σ.set id (.row (setAll (w.map ai) i (List.replicate (l.length - i) [AV.int .i64 0]).flatten))).length = σ.length := by simp
      refine Ghost.keep0 (by rw [hl0]; exact Nat.le_refl _) ⟨⟨.refl _, .ref _ _ _ _ (by rw [hl0]; exact hid)⟩, trivial⟩ ?_
      rw [hl0]
      refine idsS_put hσ id (idsO_row ?_)
      intro v hv
      rcases mem_setAll _ _ _ _ hv with hv | hv
      · obtain ⟨y, _, rfl⟩ := List.mem_map.1 hv; exact .int _ _
      · obtain ⟨y, hy, hv⟩ := List.mem_flatten.1 hv
        rw [List.eq_of_mem_replicate hy, List.mem_singleton] at hv
        subst hv; exact .int _ _
end Go.Proofs.YtocphglkceidhaaGreat
namespace Go.Proofs.YtocphglkceidhaaGreat
open Go.Ahl
/-- Where the table of links lies: its cell, its rows. -/
structure LinkS (σ : Store) (V D b n : Nat) (p : Nat → Nat → Bool) : Prop where
  cell : σ[V]? = some (.row [.ref D 1 0 n])
  row : σ[D]? = some (.row ((List.range n).map fun i => .ref (b + i) 1 0 n))
  rows : ∀ i, i < n → σ[b + i]? = some (.row ((genB n (p i)).map ab))
theorem LinkS.mono {σ τ : Store} {V D b n : Nat} {p : Nat → Nat → Bool} (h : LinkS σ V D b n p) (ht : ∀ i, i < σ.length → τ[i]? = σ[i]?) : LinkS τ V D b n p :=
  ⟨by rw [ht _ (lt_of_get h.cell)]; exact h.cell, by rw [ht _ (lt_of_get h.row)]; exact h.row, fun i hi => by rw [ht _ (lt_of_get (h.rows i hi))]; exact h.rows i hi⟩
theorem LinkS.app {σ : Store} {V D b n : Nat} {p : Nat → Nat → Bool} (h : LinkS σ V D b n p) (r : Store) : LinkS (σ ++ r) V D b n p := h.mono fun i hi => List.getElem?_append_left hi
theorem range_ref {n i b : Nat} (h : i < n) : ((List.range n).map fun i => AV.ref (b + i) 1 0 n)[i]? = some (.ref (b + i) 1 0 n) := by rw [List.getElem?_map, List.getElem?_range h]; rfl
def lkB (p : Nat → Nat → Bool) (x y : Int) : Bool := p x.toNat y.toNat
def c_gTest : CCode := .seq (.ops [⟨some 4, .move (.lit (.bool false)), none, []⟩]) (.seq (.ops [⟨some 5, .load none (.tmp 1), none, []⟩, ⟨some 6, .load none (.tmp 2), none, []⟩, ⟨some 7, .iaddr 1 (.tmp 5) (.tmp 6), none, []⟩, ⟨some 8, .load none (.tmp 7), none, []⟩, ⟨some 9, .move (.tmp 0), none, []⟩, ⟨some 10, .iaddr 1 (.tmp 8) (.tmp 9), none, []⟩, ⟨some 11, .load none (.tmp 10), none, []⟩, ⟨some 12, .un .not (.tmp 11), none, []⟩, ⟨some 4, .move (.tmp 12), none, []⟩]) .ret)
set_option maxRecDepth 20000 in
theorem gTest_spec (x y : Int) (V D b n X : Nat) (p : Nat → Nat → Bool) (σ : Store) (hx : 0 ≤ x ∧ x < n) (hy : 0 ≤ y ∧ y < n) (hL : LinkS σ V D b n p) (hX : σ[X]? = some (.row [.int .i64 x])) :
    ACalls Tryz.prog 44 [.int .i64 y, .ptr V 0, .ptr X 0] σ (isR (.bool (!(lkB p x y))) σ) := by
  refine ACalls.intro (rs := [(.tmp 4)]) (by kernel_rfl) { own := [], ghosts := [] } Tryz.func44 (c := Tryz.f44.body.getD .skip) (by kernel_rfl) (by decide) (by rw [show Tryz.f44.ntmps = 13 by kernel_rfl]; exact Nat.le_of_ble_eq_true rfl) (by kernel_rfl) ?_
  intro hσ hids
  rw [show comp Tryz.prog { own := [], ghosts := [] } (Tryz.f44.body.getD .skip) = c_gTest by kernel_rfl, show Tryz.f44.ntmps = 13 by kernel_rfl]
  unfold c_gTest
  have hxn : x.toNat < n := by omega
  have hyn : y.toNat < n := by omega
  have h1 := hL.cell
  have h2 := hL.row
  have h3 := hL.rows _ hxn
  have h4 := range_ref (b := b) hxn
  have h5 := genB_get' (n := n) (p := p x.toNat) hyn
  have hx0 := hx.1
  have hy0 := hy.1
  simp only [go_sem, Int.reduceToNat, Int.reduceLE, Int.reduceLT, Nat.reduceBEq, Nat.reduceLT, Nat.reduceAdd, Nat.reduceLeDiff, h1, hX, h2, h3, h4, h5, hx0, hy0, hxn, hyn]
  first | exact rtk (.bool (!(lkB p x y))) ⟨rfl, rfl⟩ | exact rtk0 (.bool (!(lkB p x y))) ⟨rfl, rfl⟩
theorem not_not_filter {α : Type} (p : α → Bool) (l : List α) : (l.filter fun x => !(!(p x))) = l.filter p := by congr 1; funext x; simp
def c_gTo : CCode := .seq (.ops [⟨some 4, .move (.lit (.slice .nil [])), none, []⟩]) (.seq (.ops [⟨some 5, .move (.tmp 0), none, []⟩, ⟨some 6, .call (.lit (.func 40 [])) [.tmp 5], none, []⟩, ⟨some 7, .mkfunc 44 [.tmp 1, .tmp 2], none, []⟩, ⟨some 8, .call (.lit (.func 43 [])) [.tmp 6, .tmp 7], none, []⟩, ⟨some 4, .move (.tmp 8), none, []⟩]) .ret)
set_option maxRecDepth 20000 in
theorem gToR_spec (l : List Int) (x : Int) (V D b n X : Nat) (p : Nat → Nat → Bool) (tok : Tok) (σ : Store) (hl : l.length ≤ 1073741824) (hx : 0 ≤ x ∧ x < n) (hln : ∀ y ∈ l, 0 ≤ y ∧ y < (n : Int)) (hL : LinkS σ V D b n p) (hX : σ[X]? = some (.row [.int .i64 x])) :
    ACalls Tryz.prog 42 [.slice tok (l.map Ahl.encI), .ptr V 0, .ptr X 0] σ (isR (.ref σ.length 1 0 (l.filter (lkB p x)).length) (σ ++ [.row ((l.filter (lkB p x)).map ai)])) := by
  refine ACalls.intro (rs := [(.tmp 4)]) (by kernel_rfl) { own := [], ghosts := [] } Tryz.func42 (c := Tryz.f42.body.getD .skip) (by kernel_rfl) (by decide) (by rw [show Tryz.f42.ntmps = 9 by kernel_rfl]; exact Nat.le_of_ble_eq_true rfl) (by kernel_rfl) ?_
  intro hσ hids
  rw [show comp Tryz.prog { own := [], ghosts := [] } (Tryz.f42.body.getD .skip) = c_gTo by kernel_rfl, show Tryz.f42.ntmps = 9 by kernel_rfl]
  unfold c_gTo
  simp only [go_sem, Int.reduceToNat, Int.reduceLE, Int.reduceLT, Nat.reduceBEq, Nat.reduceLT, Nat.reduceAdd, Nat.reduceLeDiff]
  refine (cloneR_spec l tok _ hl).to ?_
  simp only [go_sem, Int.reduceToNat, Int.reduceLE, Int.reduceLT, Nat.reduceBEq, Nat.reduceLT, Nat.reduceAdd, Nat.reduceLeDiff]
  refine (delI_spec σ.length l _ _ (fun y => !(lkB p x y)) _ hl (by rw [List.getElem?_append_right (Nat.le_refl _), Nat.sub_self]; rfl) (fun w y hy => ?_)).to ?_
  · have e : (σ ++ [AObj.row (l.map ai)]).set σ.length (.row (w.map ai)) = σ ++ [.row (w.map ai)] := by simp
    rw [e]
    exact gTest_spec x y V D b n X p _ hx (hln y hy) (hL.app _) (by rw [List.getElem?_append_left (lt_of_get hX)]; exact hX)
  · rw [not_not_filter]
    have e : (σ ++ [AObj.row (l.map ai)]).set σ.length (.row ((l.filter (lkB p x)).map ai)) = σ ++ [.row ((l.filter (lkB p x)).map ai)] := by simp
    rw [e]
    have hσ1 : IdsS (σ ++ [AObj.row ((l.filter (lkB p x)).map ai)]).length (σ ++ [AObj.row ((l.filter (lkB p x)).map ai)]) := idsS_push hσ (ids_ai _)
    simp only [go_sem, Int.reduceToNat, Int.reduceLE, Int.reduceLT, Nat.reduceBEq, Nat.reduceLT, Nat.reduceAdd, Nat.reduceLeDiff]
    refine ret_gh (v := .ref σ.length 1 0 (l.filter (lkB p x)).length) (σ' := σ ++ [.row ((l.filter (lkB p x)).map ai)]) ?_ (by simp) hσ1 (.ref _ _ _ _ (by simp)) ⟨rfl, rfl⟩
    exact .keepL0 _ rfl (Nat.le_refl _) ⟨⟨.refl _, .ref _ _ _ _ (by simp)⟩, trivial⟩ hσ1
theorem row_frz (l : List Int) : ∀ (i : Nat) e, (l.map Ahl.encI)[i]? = some e → e.length = 1 ∧ ∀ j, j < 1 → (l.map ai)[0 + (i * 1 + j)]? = e[j]? := by
  intro i e he
  rw [List.getElem?_map] at he
  cases hq : l[i]? with
  | none => rw [hq] at he; simp at he
  | some y =>
    rw [hq] at he; simp at he; subst he
    refine ⟨rfl, fun j hj => ?_⟩
    obtain rfl : j = 0 := by omega
    rw [List.getElem?_map, show 0 + (i * 1 + 0) = i by omega, hq]; rfl
theorem gToS_spec (l : List Int) (x : Int) (V D b n X : Nat) (p : Nat → Nat → Bool) (tok : Tok) (σ : Store) (hl : l.length ≤ 1073741824) (hx : 0 ≤ x ∧ x < n) (hln : ∀ y ∈ l, 0 ≤ y ∧ y < (n : Int)) (hL : LinkS σ V D b n p) (hX : σ[X]? = some (.row [.int .i64 x])) :
    ACalls Tryz.prog 42 [.slice tok (l.map Ahl.encI), .ptr V 0, .ptr X 0] σ (isR (.slice .unk ((l.filter (lkB p x)).map Ahl.encI)) σ) := by
  refine (gToR_spec l x V D b n X p tok σ hl hx hln hL hX).ghost fun hσ => ?_
  refine Ghost.trans (Ghost.freeze 0 (es := (l.filter (lkB p x)).map Ahl.encI) rfl (by rw [List.getElem?_append_right (Nat.le_refl _), Nat.sub_self]; rfl) (by simp) (row_frz _)) ?_
  have e : (σ ++ [AObj.row ((l.filter (lkB p x)).map ai)]).set σ.length .dead = σ ++ [.dead] := by simp
  rw [e]
  exact Ghost.keep _ (Nat.le_refl _) ⟨⟨.refl _, ids_mapE _⟩, trivial⟩ hσ
theorem gToG_spec (l : List Int) (x : Int) (V D b n X : Nat) (p : Nat → Nat → Bool) (tok : Tok) (σ : Store) (hl : l.length ≤ 1073741824) (hx : 0 ≤ x ∧ x < n) (hln : ∀ y ∈ l, 0 ≤ y ∧ y < (n : Int)) (hL : LinkS σ V D b n p) (hX : σ[X]? = some (.row [.int .i64 x])) :
    ACalls Tryz.prog 42 [.slice tok (l.map Ahl.encI), .ptr V 0, .ptr X 0] σ (isR (.slice (.grow σ.length) ((l.filter (lkB p x)).map Ahl.encI)) (σ ++ [.grow 1 (l.filter (lkB p x)).length])) := by
  refine (gToR_spec l x V D b n X p tok σ hl hx hln hL hX).ghost fun hσ => ?_
  refine Ghost.trans (Ghost.freezeG 0 (es := (l.filter (lkB p x)).map Ahl.encI) rfl (by rw [List.getElem?_append_right (Nat.le_refl _), Nat.sub_self]; rfl) (by simp) (by intro e he; obtain ⟨y, _, rfl⟩ := List.mem_map.1 he; rfl) (map_ai _).symm) ?_
  have e : (σ ++ [AObj.row ((l.filter (lkB p x)).map ai)]).set σ.length .dead = σ ++ [.dead] := by simp
  rw [e, List.append_assoc, List.length_append, List.length_singleton]
  exact .moved _ 1 _ (Nat.le_refl _) rfl hσ trivial ⟨mv_mapE _, trivial⟩
end Go.Proofs.YtocphglkceidhaaGreat
namespace Go.Proofs.YtocphglkceidhaaGreat
open Go.Ahl
section
variable (L : Int → Int → Bool)
theorem bk_len : ∀ (f : Nat) (g may tried : List Int), (bk L f g may tried).length ≤ bkN L f may
  | 0, g, may, tried => by simp [bk]
  | f + 1, g, may, tried => by
    have h : ∀ (may tried : List Int), (bkLoop L (bk L f) g may tried).length ≤ bkLoopN L (bkN L f) may := by
      intro may
      induction may with
      | nil => intro tried; simp [bkLoop]
      | cons x r ih =>
        intro tried
        have h1 := bk_len f (g ++ [x]) (r.filter (L x)) (tried.filter (L x))
        have h2 := ih (tried ++ [x])
        rw [bkLoop, bkLoopN, List.length_append]; omega
    have h1 := h may tried
    have h2 : (bkHead g may tried).length ≤ 1 := by unfold bkHead; split <;> simp
    rw [bk, bkN, List.length_append]; omega
end
/-- What the search's cells lie among. -/
structure XS (B : Store) (V D b n Oc Lc E G : Nat) (p : Nat → Nat → Bool) : Prop where
  link : LinkS B V D b n p
  ext : B[E]? = some (.row [.func 39 [.ptr Lc 0, .ptr Oc 0, .ptr V 0, .ptr E 0]])
  o1 : V < Oc
  o2 : D < Oc
  o3 : b + n ≤ Oc
  o4 : Oc < Lc
  o5 : Lc < E
  o6 : E < G
  o7 : G < B.length
theorem XS.app {B : Store} {V D b n Oc Lc E G : Nat} {p : Nat → Nat → Bool} (h : XS B V D b n Oc Lc E G p) (r : Store) : XS (B ++ r) V D b n Oc Lc E G p :=
  ⟨h.link.app r, by rw [List.getElem?_append_left (lt_of_get h.ext)]; exact h.ext, h.o1, h.o2, h.o3, h.o4, h.o5, h.o6, by rw [List.length_append]; have := h.o7; omega⟩
def vI (l : List Int) : AV := .slice .fresh (l.map Ahl.encI)
def xst (B : Store) (Oc Lc G : Nat) (k : Int) (out : List (List Int)) : Store := ((B.set Oc (.row [.vec G 1 out.length])).set Lc (.row [.int .i64 k])).set G (.vec 1 out.length (out.map vI))
def xt (B : Store) (Oc Lc G m : Nat) (k : Int) (out : List (List Int)) : Store := xst B Oc Lc G k out ++ [.grow 1 m]
theorem xst_app {B : Store} {Oc Lc G : Nat} {k : Int} {out : List (List Int)} (r : Store) (h1 : Oc < B.length) (h2 : Lc < B.length) (h3 : G < B.length) : xst (B ++ r) Oc Lc G k out = xst B Oc Lc G k out ++ r := by
  unfold xst
  rw [List.set_append_left _ _ h1, List.set_append_left _ _ (by simpa using h2), List.set_append_left _ _ (by simpa using h3)]
theorem xst_len (B : Store) (Oc Lc G : Nat) (k : Int) (out : List (List Int)) : (xst B Oc Lc G k out).length = B.length := by simp [xst]
theorem xt_len (B : Store) (Oc Lc G m : Nat) (k : Int) (out : List (List Int)) : (xt B Oc Lc G m k out).length = B.length + 1 := by simp [xt, xst_len]
section
variable {B : Store} {V D b n Oc Lc E G : Nat} {p : Nat → Nat → Bool}
theorem xst_old (h : XS B V D b n Oc Lc E G p) (k : Int) (out : List (List Int)) {i : Nat} (h1 : i ≠ Oc) (h2 : i ≠ Lc) (h3 : i ≠ G) : (xst B Oc Lc G k out)[i]? = B[i]? := by
  unfold xst
  rw [List.getElem?_set_ne (Ne.symm h3), List.getElem?_set_ne (Ne.symm h2), List.getElem?_set_ne (Ne.symm h1)]
theorem xst_link (h : XS B V D b n Oc Lc E G p) (k : Int) (out : List (List Int)) : LinkS (xst B Oc Lc G k out) V D b n p := by
  have := h.o1; have := h.o2; have := h.o3; have := h.o4; have := h.o5; have := h.o6
  refine ⟨?_, ?_, fun i hi => ?_⟩
  · rw [xst_old h _ _ (by omega) (by omega) (by omega)]; exact h.link.cell
  · rw [xst_old h _ _ (by omega) (by omega) (by omega)]; exact h.link.row
  · rw [xst_old h _ _ (by omega) (by omega) (by omega)]; exact h.link.rows i hi
theorem xt_get (h : XS B V D b n Oc Lc E G p) (m : Nat) (k : Int) (out : List (List Int)) {i : Nat} {o : AObj} (r : Store) (hi : (xst B Oc Lc G k out)[i]? = some o) : (xt B Oc Lc G m k out ++ r)[i]? = some o := by
  unfold xt
  rw [List.append_assoc, List.getElem?_append_left (lt_of_get hi)]; exact hi
theorem xst_E (h : XS B V D b n Oc Lc E G p) (k : Int) (out : List (List Int)) : (xst B Oc Lc G k out)[E]? = some (.row [.func 39 [.ptr Lc 0, .ptr Oc 0, .ptr V 0, .ptr E 0]]) := by
  have := h.o4; have := h.o5; have := h.o6
  rw [xst_old h _ _ (by omega) (by omega) (by omega)]; exact h.ext
theorem xst_L (h : XS B V D b n Oc Lc E G p) (k : Int) (out : List (List Int)) : (xst B Oc Lc G k out)[Lc]? = some (.row [.int .i64 k]) := by
  have := h.o4; have := h.o5; have := h.o6; have := h.o7
  unfold xst
  rw [List.getElem?_set_ne (by omega), List.getElem?_set_self (by simp; omega)]
theorem xst_O (h : XS B V D b n Oc Lc E G p) (k : Int) (out : List (List Int)) : (xst B Oc Lc G k out)[Oc]? = some (.row [.vec G 1 out.length]) := by
  have := h.o4; have := h.o5; have := h.o6; have := h.o7
  unfold xst
  rw [List.getElem?_set_ne (by omega), List.getElem?_set_ne (by omega), List.getElem?_set_self (by omega)]
theorem xst_G (h : XS B V D b n Oc Lc E G p) (k : Int) (out : List (List Int)) : (xst B Oc Lc G k out)[G]? = some (.vec 1 out.length (out.map vI)) := by
  have := h.o7
  unfold xst
  rw [List.getElem?_set_self (by simp; omega)]
theorem xst_setL (h : XS B V D b n Oc Lc E G p) (k : Int) (out : List (List Int)) (k' : Int) : (xst B Oc Lc G k out).set Lc (.row [.int .i64 k']) = xst B Oc Lc G k' out := by
  have := h.o5; have := h.o6
  unfold xst
  rw [List.set_comm _ _ (by omega : G ≠ Lc), List.set_set]
theorem xst_setO (h : XS B V D b n Oc Lc E G p) (k : Int) (out : List (List Int)) (g : List Int) : ((xst B Oc Lc G k out).set G (.vec 1 (out.length + 1) (out.map vI ++ [vI g]))).set Oc (.row [.vec G 1 (out.length + 1)]) = xst B Oc Lc G k (out ++ [g]) := by
  have := h.o4; have := h.o5; have := h.o6
  unfold xst
  rw [List.set_set, List.set_comm _ _ (by omega : G ≠ Oc), List.set_comm _ _ (by omega : Lc ≠ Oc), List.set_set, List.length_append, List.length_singleton, List.map_append]; rfl
theorem xt_set (h : XS B V D b n Oc Lc E G p) (m : Nat) (k : Int) (out : List (List Int)) {i : Nat} (o : AObj) (r : Store) (hi : i < B.length) : (xt B Oc Lc G m k out ++ r).set i o = (xst B Oc Lc G k out).set i o ++ (.grow 1 m :: r) := by
  unfold xt
  rw [List.append_assoc, List.set_append_left _ _ (by rw [xst_len]; exact hi)]; rfl
theorem xt_tok (h : XS B V D b n Oc Lc E G p) (m : Nat) (k : Int) (out : List (List Int)) (r : Store) : (xt B Oc Lc G m k out ++ r)[B.length]? = some (.grow 1 m) := by
  unfold xt
  rw [List.append_assoc, List.getElem?_append_right (by rw [xst_len]; exact Nat.le_refl _), xst_len, Nat.sub_self]; rfl
theorem xt_setT (h : XS B V D b n Oc Lc E G p) (m : Nat) (k : Int) (out : List (List Int)) (m' : Nat) (r : Store) : (xt B Oc Lc G m k out ++ r).set B.length (.grow 1 m') = xt B Oc Lc G m' k out ++ r := by
  unfold xt
  rw [List.append_assoc, List.append_assoc, List.set_append_right _ _ (by rw [xst_len]; exact Nat.le_refl _), xst_len, Nat.sub_self]; rfl
end
theorem xt_ids {B : Store} {V D b n Oc Lc E G : Nat} {p : Nat → Nat → Bool} (h : XS B V D b n Oc Lc E G p) {m m' : Nat} {k k' : Int} {o o' : List (List Int)} (hs : IdsS (B.length + 1) (xt B Oc Lc G m k o)) : IdsS (B.length + 1) (xt B Oc Lc G m' k' o') := by
  intro i ob hi
  have o4 := h.o4
  have o5 := h.o5
  have o6 := h.o6
  have o7 := h.o7
  rcases Nat.lt_trichotomy i B.length with hl | hl | hl
  · have e : ∀ m k o, (xt B Oc Lc G m k o)[i]? = (xst B Oc Lc G k o)[i]? := fun m k o => by
      unfold xt; rw [List.getElem?_append_left (by rw [xst_len]; exact hl)]
    rw [e] at hi
    by_cases h1 : i = Oc
    · subst h1; rw [xst_O h] at hi; injection hi with hi; subst hi
      exact idsO_row (by intro x hx; simp at hx; subst hx; exact .vec _ _ _ (by omega))
    · by_cases h2 : i = Lc
      · subst h2; rw [xst_L h] at hi; injection hi with hi; subst hi
        exact idsO_row (by intro x hx; simp at hx; subst hx; exact .int _ _)
      · by_cases h3 : i = G
        · subst h3; rw [xst_G h] at hi; injection hi with hi; subst hi
          intro j x hx
          rw [List.getElem?_map] at hx
          cases hq : o'[j]? with
          | none => rw [hq] at hx; simp at hx
          | some y => rw [hq] at hx; simp at hx; subst hx; exact ids_mapF _
        · rw [xst_old h _ _ h1 h2 h3] at hi
          exact hs i ob (by rw [e, xst_old h _ _ h1 h2 h3]; exact hi)
  · subst hl
    have := xt_tok h m' k' o' []
    rw [List.append_nil] at this
    rw [this] at hi; injection hi with hi; subst hi; trivial
  · have := lt_of_get hi
    rw [xt_len] at this; omega
def d_gExt_0 : List COp := [⟨some 45, .load none (.tmp 6), none, []⟩, ⟨some 46, .move (.tmp 0), none, []⟩, ⟨some 47, .callE (.lit (.func 40 [])) [.tmp 46], none, [1]⟩, ⟨some 48, .load none (.tmp 11), none, []⟩, ⟨some 49, .bsliceC 1 [.tmp 48], none, [3]⟩, ⟨some 50, .bappend 1 8 (.tmp 47) (.tmp 49) false, none, [2, 4, 2]⟩, ⟨some 51, .move (.tmp 12), none, []⟩, ⟨some 52, .move (.tmp 1), none, []⟩, ⟨some 53, .callE (.tmp 51) [.tmp 52], none, [6, 7, 5]⟩, ⟨some 54, .move (.tmp 12), none, []⟩, ⟨some 55, .move (.tmp 2), none, []⟩, ⟨some 56, .callE (.tmp 54) [.tmp 55], none, [9, 10, 8]⟩, ⟨some 57, .callE (.tmp 45) [.tmp 50, .tmp 53, .tmp 56], none, [0, 5, 8, 11, 11]⟩]
theorem dr_gExt_0 (P : Program) (nt n0 : Nat) (Q : Post) (s : Slots) (σ : Store) : wpc P nt n0 (.drawU d_gExt_0 [[2, 5, 8, 11], [], [0, 3], [2], [], [0], [], [], [0], [], [], [0], []]) Q s σ = aOpsU P nt [⟨some 45, .load none (.tmp 6), none, []⟩, ⟨some 46, .move (.tmp 0), none, []⟩, ⟨some 47, .callE (.lit (.func 40 [])) [.tmp 46], none, [1]⟩, ⟨some 48, .load none (.tmp 11), none, []⟩, ⟨some 49, .bsliceC 1 [.tmp 48], none, [3]⟩, ⟨some 50, .bappend 1 8 (.tmp 47) (.tmp 49) false, none, [2, 4, 2]⟩, ⟨some 51, .move (.tmp 12), none, []⟩, ⟨some 52, .move (.tmp 1), none, []⟩, ⟨some 53, .callE (.tmp 51) [.tmp 52], none, [6, 7, 5]⟩, ⟨some 54, .move (.tmp 12), none, []⟩, ⟨some 55, .move (.tmp 2), none, []⟩, ⟨some 56, .callE (.tmp 54) [.tmp 55], none, [9, 10, 8]⟩, ⟨some 57, .callE (.tmp 45) [.tmp 50, .tmp 53, .tmp 56], none, [0, 5, 8, 11, 11]⟩] [[2, 5, 8, 11], [], [0, 3], [2], [], [0], [], [], [0], [], [], [0], []] 0 [] [] (Q .normal) s σ := wpc_drawU _ _ (by decide)
def d_gExt_1 : List COp := [⟨some 58, .move (.tmp 1), none, []⟩, ⟨some 59, .slc 1 (.tmp 58) (some (.lit (.int .i64 1))) none none, none, [0]⟩, ⟨some 60, .move (.tmp 2), none, []⟩, ⟨some 61, .load none (.tmp 11), none, []⟩, ⟨some 62, .bsliceC 1 [.tmp 61], none, [3]⟩, ⟨some 63, .bappend 1 8 (.tmp 60) (.tmp 62) false, none, [2, 4]⟩, ⟨some 1, .move (.tmp 59), none, [1, 5, 0, 1]⟩, ⟨some 2, .move (.tmp 63), none, [5, 6, 0, 1, 2, 3, 4, 5, 6]⟩]
theorem dr_gExt_1 (P : Program) (nt n0 : Nat) (Q : Post) (s : Slots) (σ : Store) : wpc P nt n0 (.draw d_gExt_1) Q s σ = aOpsD P nt [⟨some 58, .move (.tmp 1), none, []⟩, ⟨some 59, .slc 1 (.tmp 58) (some (.lit (.int .i64 1))) none none, none, [0]⟩, ⟨some 60, .move (.tmp 2), none, []⟩, ⟨some 61, .load none (.tmp 11), none, []⟩, ⟨some 62, .bsliceC 1 [.tmp 61], none, [3]⟩, ⟨some 63, .bappend 1 8 (.tmp 60) (.tmp 62) false, none, [2, 4]⟩, ⟨some 1, .move (.tmp 59), none, [1, 5, 0, 1]⟩, ⟨some 2, .move (.tmp 63), none, [5, 6, 0, 1, 2, 3, 4, 5, 6]⟩] (Q .normal) s σ := wpc_draw _ (by decide)
def c_gExt : CCode := .seq (.seq (.ops [⟨some 13, .load none (.tmp 3), none, []⟩, ⟨some 14, .bin .sub .none (.tmp 13) (.lit (.int .i64 1)), none, []⟩, ⟨none, .store 1 (.tmp 3) (.tmp 14), none, []⟩]) (.seq (.ops [⟨some 15, .load none (.tmp 3), none, []⟩, ⟨some 16, .bin .lss .none (.tmp 15) (.lit (.int .i64 0)), none, []⟩]) (.cond (.tmp 16) .ret .skip))) (.seq (.seq (.ops [⟨some 17, .move (.tmp 1), none, []⟩, ⟨some 18, .blen 1 (.tmp 17), none, []⟩, ⟨some 19, .bin .eql .none (.tmp 18) (.lit (.int .i64 0)), none, []⟩, ⟨some 20, .move (.tmp 19), none, []⟩, ⟨some 21, .move (.tmp 2), some (some 20, true), []⟩, ⟨some 22, .blen 1 (.tmp 21), some (some 20, true), []⟩, ⟨some 23, .bin .eql .none (.tmp 22) (.lit (.int .i64 0)), some (some 20, true), []⟩, ⟨some 24, .pick (.tmp 20) (.tmp 23) (.lit (.bool false)), none, []⟩, ⟨some 25, .move (.tmp 24), none, []⟩, ⟨some 26, .move (.tmp 0), some (some 25, true), []⟩, ⟨some 27, .blen 1 (.tmp 26), some (some 25, true), []⟩, ⟨some 28, .bin .gtr .none (.tmp 27) (.lit (.int .i64 1)), some (some 25, true), []⟩, ⟨some 29, .pick (.tmp 25) (.tmp 28) (.lit (.bool false)), none, []⟩]) (.cond (.tmp 29) (.seq (.ops [⟨some 30, .move (.tmp 0), none, []⟩, ⟨some 31, .call (.lit (.func 40 [])) [.tmp 30], none, []⟩, ⟨some 10, .move (.tmp 31), none, []⟩]) (.seq (.ops [⟨some 32, .move (.tmp 10), none, []⟩, ⟨some 33, .call (.lit (.func 41 [])) [.tmp 32], none, []⟩]) (.ghost (.ops [⟨some 34, .load none (.tmp 4), none, []⟩, ⟨some 35, .move (.tmp 10), none, []⟩, ⟨some 36, .bsliceC 1 [.tmp 35], none, []⟩, ⟨some 37, .bappend 1 24 (.tmp 34) (.tmp 36) false, none, []⟩, ⟨none, .store 1 (.tmp 4) (.tmp 37), none, []⟩])))) .skip)) (.block 0 (.loop (.seq (.seq (.ops [⟨some 38, .move (.tmp 1), none, []⟩, ⟨some 39, .blen 1 (.tmp 38), none, []⟩, ⟨some 40, .bin .gtr .none (.tmp 39) (.lit (.int .i64 0)), none, []⟩]) (.cond (.tmp 40) .skip (.exit 0))) (.block 1 (.seq (.ops [⟨some 41, .move (.tmp 1), none, []⟩, ⟨some 42, .iaddr 1 (.tmp 41) (.lit (.int .i64 0)), none, []⟩, ⟨some 43, .load none (.tmp 42), none, []⟩, ⟨some 11, .alloc (.int .i64 0), none, []⟩, ⟨none, .store 1 (.tmp 11) (.tmp 43), none, []⟩]) (.seq (.ops [⟨some 44, .mkfunc 42 [.tmp 5, .tmp 11], none, []⟩, ⟨some 12, .move (.tmp 44), none, []⟩]) (.seq (.drawU d_gExt_0 [[2, 5, 8, 11], [], [0, 3], [2], [], [0], [], [], [0], [], [], [0], []]) (.draw d_gExt_1)))))))))
set_option maxRecDepth 20000 in
set_option maxHeartbeats 4000000 in
theorem gExt_spec (V D b n Oc Lc E G : Nat) (p : Nat → Nat → Bool) (hirr : ∀ x, p x x = false) : ∀ (f : Nat) (B : Store) (g may tried : List Int) (k : Int) (out : List (List Int)) (tok tok' : Tok), XS B V D b n Oc Lc E G p →
    may.length < f → (∀ x ∈ may, 0 ≤ x ∧ x < (n : Int)) → (∀ x ∈ tried, 0 ≤ x ∧ x < (n : Int)) → g.length + may.length ≤ 1000 → tried.length + may.length ≤ 1000 → (bkN (lkB p) f may : Int) ≤ k → (out.length : Int) + k ≤ 1000000 →
    ACalls Tryz.prog 39 [.slice tok (g.map Ahl.encI), .slice tok' (may.map Ahl.encI), .slice (.grow B.length) (tried.map Ahl.encI), .ptr Lc 0, .ptr Oc 0, .ptr V 0, .ptr E 0] (xt B Oc Lc G tried.length k out)
      (isR (.tuple []) (xt B Oc Lc G (tried.length + may.length) (k - bkN (lkB p) f may) (out ++ bk (lkB p) f g may tried))) := by
  intro f
  induction f with
  | zero => intro B g may tried k out tok tok' h hf; omega
  | succ f ih =>
  intro B g may tried k out tok tok' h hf hm ht hg1 ht1 hk ho
  have hN0 := xt_len B Oc Lc G
  refine ACalls.intro (rs := []) (by kernel_rfl) { own := [], ghosts := [5], cold := [(5, 2), (9, 4), (10, 4)], loud := [(9, 2), (9, 8), (9, 11), (9, 12)], free := [(9, [[2, 5, 8, 11], [], [0, 3], [2], [], [0], [], [], [0], [], [], [0], []])] } Tryz.func39 (c := Tryz.f39.body.getD .skip) (by kernel_rfl) (by decide) (by rw [show Tryz.f39.ntmps = 64 by kernel_rfl]; exact Nat.le_of_ble_eq_true rfl) (by kernel_rfl) ?_
  intro hσ hids
  rw [show comp Tryz.prog { own := [], ghosts := [5], cold := [(5, 2), (9, 4), (10, 4)], loud := [(9, 2), (9, 8), (9, 11), (9, 12)], free := [(9, [[2, 5, 8, 11], [], [0, 3], [2], [], [0], [], [], [0], [], [], [0], []])] } (Tryz.f39.body.getD .skip) = c_gExt by kernel_rfl, show Tryz.f39.ntmps = 64 by kernel_rfl]
  unfold c_gExt
  have o1 := h.o1
  have o4 := h.o4
  have o5 := h.o5
  have o6 := h.o6
  have o7 := h.o7
  have gL : ∀ m k o r, (xt B Oc Lc G m k o ++ r)[Lc]? = some (.row [.int .i64 k]) := fun m k o r => xt_get h m k o r (xst_L h k o)
  have gO : ∀ m k o r, (xt B Oc Lc G m k o ++ r)[Oc]? = some (.row [.vec G 1 o.length]) := fun m k o r => xt_get h m k o r (xst_O h k o)
  have gG : ∀ m k o r, (xt B Oc Lc G m k o ++ r)[G]? = some (.vec 1 o.length (o.map vI)) := fun m k o r => xt_get h m k o r (xst_G h k o)
  have gE : ∀ m k o r, (xt B Oc Lc G m k o ++ r)[E]? = some (.row [.func 39 [.ptr Lc 0, .ptr Oc 0, .ptr V 0, .ptr E 0]]) := fun m k o r => xt_get h m k o r (xst_E h k o)
  have gL0 : ∀ m k o, (xt B Oc Lc G m k o)[Lc]? = some (.row [.int .i64 k]) := fun m k o => by have := gL m k o []; rwa [List.append_nil] at this
  have gT : ∀ m k o r, (xt B Oc Lc G m k o ++ r)[B.length]? = some (.grow 1 m) := fun m k o r => xt_tok h m k o r
  have gLk : ∀ m k o r, LinkS (xt B Oc Lc G m k o ++ r) V D b n p := fun m k o r => by
    unfold xt; rw [List.append_assoc]; exact (xst_link h k o).app _
  have sL : ∀ m k o k' r, (xt B Oc Lc G m k o ++ r).set Lc (.row [.int .i64 k']) = xt B Oc Lc G m k' o ++ r := fun m k o k' r => by
    rw [xt_set h m k o _ r (by omega), xst_setL h]; unfold xt; rw [List.append_assoc]; rfl
  have sL0 : ∀ m k o k', (xt B Oc Lc G m k o).set Lc (.row [.int .i64 k']) = xt B Oc Lc G m k' o := fun m k o k' => by have := sL m k o k' []; rwa [List.append_nil, List.append_nil] at this
  have sT : ∀ m k o m' r, (xt B Oc Lc G m k o ++ r).set B.length (.grow 1 m') = xt B Oc Lc G m' k o ++ r := fun m k o m' r => xt_setT h m k o m' r
  have gN : ∀ m k o r j, (xt B Oc Lc G m k o ++ r)[B.length + 1 + j]? = r[j]? := fun m k o r j => by rw [← hN0 m k o]; exact g_get _ _ _
  have gN0 : ∀ m k o r, (xt B Oc Lc G m k o ++ r)[B.length + 1]? = r[0]? := fun m k o r => by rw [← hN0 m k o]; exact g_get0 _ _
  have sN0 : ∀ m k o r x, (xt B Oc Lc G m k o ++ r).set (B.length + 1) x = xt B Oc Lc G m k o ++ r.set 0 x := fun m k o r x => by rw [← hN0 m k o]; exact g_set0 _ _ _
  have sN : ∀ m k o r j x, (xt B Oc Lc G m k o ++ r).set (B.length + 1 + j) x = xt B Oc Lc G m k o ++ r.set j x := fun m k o r j x => by rw [← hN0 m k o]; exact g_set _ _ _ _
  have hk1 : 1 ≤ k := by rw [bkN] at hk; omega
  have hwk : IntKind.i64.wrap (k - 1) = k - 1 := wrap_ok (by omega)
  have hk0 : ¬ (k - 1 < 0) := by omega
  have hNk := hN0 tried.length k out
  obtain ⟨L, hL⟩ : ∃ L, L = lkB p := ⟨_, rfl⟩
  rw [← hL] at ih hk ⊢
  have ht0 := hids (.slice (.grow B.length) (tried.map Ahl.encI)) (by simp)
  rw [hNk] at ht0
  have hg0 := hids (.slice tok (g.map Ahl.encI)) (by simp)
  rw [hNk] at hg0
  have hi1 : ∀ m k o, IdsS (B.length + 1) (xt B Oc Lc G m k o) := fun m k o => by rw [hNk] at hσ; exact xt_ids h hσ
  cases may with
  | nil =>
    have hb1 : bkN L (f + 1) [] = 1 := by simp [bkN, bkLoopN]
    have hb2 : bk L (f + 1) g [] tried = bkHead g [] tried := by simp [bk, bkLoop]
    have hn1 : ¬ (((0 : Nat) : Int) > 0) := by omega
    have hn1' : ¬ ((0 : Int) > 0) := by omega
    have hn2 : (((0 : Nat) : Int) == 0) = true := rfl
    have hn2' : ((0 : Int) == 0) = true := rfl
    rw [hb1, hb2, List.length_nil, Nat.add_zero]
    have hNk2 := hN0 tried.length (k - 1) out
    have hi2 := hi1 tried.length (k - 1) out
    cases htd : ((tried.length : Int) == 0)
    · have hh : bkHead g [] tried = [] := by
        unfold bkHead; rw [if_neg]; rintro ⟨_, q, _⟩; rw [q] at htd; simp at htd
      rw [hh, List.append_nil]
      simp only [go_sem, Int.reduceToNat, Int.reduceLE, Int.reduceLT, Nat.reduceBEq, Nat.reduceLT, Nat.reduceAdd, Nat.reduceLeDiff, dr_gExt_0, dr_gExt_1, gL0, sL0, hwk, hk0, hn2, hn2', htd]
      refine wpc_while (fun (_ : Unit) => [(0, .slice tok (g.map Ahl.encI)), (1, .slice .unk []), (2, .slice (.grow B.length) (tried.map Ahl.encI)), (5, .ptr V 0), (6, .ptr E 0)])
        (fun _ => xt B Oc Lc G tried.length (k - 1) out) (fun _ => True) (fun _ => 0) () trivial
        (by
          (try dsimp only)
          rw [← hNk2] at ht0 hg0 hi2
          (try rw [hNk])
          first | exact ghN0 hi2 | exact ghN hi2) ?_
      intro _ _ K hK hE hR
      simp only [go_sem, Int.reduceToNat, Int.reduceLE, Int.reduceLT, Nat.reduceBEq, Nat.reduceLT, Nat.reduceAdd, Nat.reduceLeDiff, dr_gExt_0, dr_gExt_1, hn1, hn1', hE]
      rw [← hNk2] at hi2
      refine ret_gh0 (σ' := xt B Oc Lc G tried.length (k - 1) out) ?_ (by (try rw [hNk]); rw [hNk2]; exact Nat.le_refl _) hi2 ⟨rfl, rfl⟩
      exact Ghost.keep0 (by (try rw [hNk]); rw [hNk2]; exact Nat.le_refl _) trivial hi2
    · by_cases hg2 : (g.length : Int) > 1
      · have hh : bkHead g [] tried = [Ahl.sortI g] := by
          have ht3 : (tried.length : Int) = 0 := by simpa using htd
          unfold bkHead; rw [if_pos ⟨rfl, by omega, by omega⟩]
        rw [hh]
        simp only [go_sem, Int.reduceToNat, Int.reduceLE, Int.reduceLT, Nat.reduceBEq, Nat.reduceLT, Nat.reduceAdd, Nat.reduceLeDiff, dr_gExt_0, dr_gExt_1, gL0, sL0, hwk, hk0, hn2, hn2', htd, hg2]
        refine (cloneR_spec g tok _ (by omega)).to ?_
        simp only [go_sem, Int.reduceToNat, Int.reduceLE, Int.reduceLT, Nat.reduceBEq, Nat.reduceLT, Nat.reduceAdd, Nat.reduceLeDiff, dr_gExt_0, dr_gExt_1, hN0]
        refine (sortI_spec (B.length + 1) g _ (by rw [gN0]; rfl) (by omega)).mono ?_
        rintro _ _ ⟨rfl, rfl⟩
        simp only [go_sem, Int.reduceToNat, Int.reduceLE, Int.reduceLT, Nat.reduceBEq, Nat.reduceLT, Nat.reduceAdd, Nat.reduceLeDiff, dr_gExt_0, dr_gExt_1, sN0]
        rw [wpc_ghost]
        refine Gh.of (Ghost.freezeF 10 ((Ahl.sortI g).map Ahl.encI) rfl (by rw [gN0]; rfl) (by rw [List.length_map, Ahl.sortI_len]) (row_frz _)) ?_
        have gO2 : ∀ (x : AObj) m k o r, ((xt B Oc Lc G m k o ++ r).set G x)[Oc]? = some (.row [.vec G 1 o.length]) := fun x m k o r => by rw [List.getElem?_set_ne (by omega)]; exact gO m k o r
        have sO : ∀ m k o (y : List Int) r, ((xt B Oc Lc G m k o ++ r).set G (.vec 1 (o.length + 1) (o.map vI ++ [vI y]))).set Oc (.row [.vec G 1 (o.length + 1)]) = xt B Oc Lc G m k (o ++ [y]) ++ r := fun m k o y r => by
          rw [xt_set h m k o _ r (by omega), List.set_append_left _ _ (by rw [List.length_set, xst_len]; omega), xst_setO h]; unfold xt; rw [List.append_assoc]; rfl
        have hbo : bigLen (out.length + 1) 24 := big_ok (by omega) (by omega)
        have hfl1 : ([[AV.slice .fresh ((Ahl.sortI g).map Ahl.encI)]] : List (List AV)).flatten = [vI (Ahl.sortI g)] := rfl
        simp only [go_sem, Int.reduceToNat, Int.reduceLE, Int.reduceLT, Nat.reduceBEq, Nat.reduceLT, Nat.reduceAdd, Nat.reduceLeDiff, dr_gExt_0, dr_gExt_1, sN0, gO, gG, gO2, hbo]
        rw [hfl1, sO]
        have hNk2 := hN0 tried.length (k - 1) (out ++ [Ahl.sortI g])
        have hi2 := hi1 tried.length (k - 1) (out ++ [Ahl.sortI g])
        obtain ⟨out1, ho1⟩ : ∃ out1, out1 = out ++ [Ahl.sortI g] := ⟨_, rfl⟩
        rw [← ho1] at hNk2 hi2 ⊢
        refine wpc_while (fun (_ : Unit) => [(0, .slice tok (g.map Ahl.encI)), (1, .slice .unk []), (2, .slice (.grow B.length) (tried.map Ahl.encI)), (5, .ptr V 0), (6, .ptr E 0)])
          (fun _ => xt B Oc Lc G tried.length (k - 1) out1) (fun _ => True) (fun _ => 0) () trivial
          (by
            (try dsimp only)
            rw [← hNk2] at ht0 hg0 hi2
            (try rw [hNk])
            first | exact ghN0 hi2 | exact ghN hi2) ?_
        intro _ _ K hK hE hR
        simp only [go_sem, Int.reduceToNat, Int.reduceLE, Int.reduceLT, Nat.reduceBEq, Nat.reduceLT, Nat.reduceAdd, Nat.reduceLeDiff, dr_gExt_0, dr_gExt_1, hn1, hn1', hE]
        rw [← hNk2] at hi2
        refine ret_gh0 (σ' := xt B Oc Lc G tried.length (k - 1) out1) ?_ (by (try rw [hNk]); rw [hNk2]; exact Nat.le_refl _) hi2 ⟨rfl, rfl⟩
        exact Ghost.keep0 (by (try rw [hNk]); rw [hNk2]; exact Nat.le_refl _) trivial hi2
      · have hh : bkHead g [] tried = [] := by
          unfold bkHead; rw [if_neg]; rintro ⟨_, _, q⟩; omega
        rw [hh, List.append_nil]
        simp only [go_sem, Int.reduceToNat, Int.reduceLE, Int.reduceLT, Nat.reduceBEq, Nat.reduceLT, Nat.reduceAdd, Nat.reduceLeDiff, dr_gExt_0, dr_gExt_1, gL0, sL0, hwk, hk0, hn2, hn2', htd, hg2]
        refine wpc_while (fun (_ : Unit) => [(0, .slice tok (g.map Ahl.encI)), (1, .slice .unk []), (2, .slice (.grow B.length) (tried.map Ahl.encI)), (5, .ptr V 0), (6, .ptr E 0)])
          (fun _ => xt B Oc Lc G tried.length (k - 1) out) (fun _ => True) (fun _ => 0) () trivial
          (by
            (try dsimp only)
            rw [← hNk2] at ht0 hg0 hi2
            (try rw [hNk])
            first | exact ghN0 hi2 | exact ghN hi2) ?_
        intro _ _ K hK hE hR
        simp only [go_sem, Int.reduceToNat, Int.reduceLE, Int.reduceLT, Nat.reduceBEq, Nat.reduceLT, Nat.reduceAdd, Nat.reduceLeDiff, dr_gExt_0, dr_gExt_1, hn1, hn1', hE]
        rw [← hNk2] at hi2
        refine ret_gh0 (σ' := xt B Oc Lc G tried.length (k - 1) out) ?_ (by (try rw [hNk]); rw [hNk2]; exact Nat.le_refl _) hi2 ⟨rfl, rfl⟩
        exact Ghost.keep0 (by (try rw [hNk]); rw [hNk2]; exact Nat.le_refl _) trivial hi2
  | cons x0 r0 =>
    obtain ⟨may, hmay⟩ : ∃ may, may = x0 :: r0 := ⟨_, rfl⟩
    have h0 : ((may.length : Int) == 0) = false := by rw [hmay]; simp; omega
    have hbk : bk L (f + 1) g may tried = bkLoop L (bk L f) g may tried := by rw [bk, bkHead, if_neg (by rw [hmay]; simp)]; rfl
    rw [← hmay] at hf hm hg1 ht1 hk ⊢
    clear hmay
    simp only [go_sem, Int.reduceToNat, Int.reduceLE, Int.reduceLT, Nat.reduceBEq, Nat.reduceLT, Nat.reduceAdd, Nat.reduceLeDiff, dr_gExt_0, dr_gExt_1, gL0, sL0, hwk, hk0, h0]
    refine wpc_while (fun (q : List Int × List Int × List (List Int) × Int) => [(0, .slice tok (g.map Ahl.encI)), (1, .slice .unk (q.1.map Ahl.encI)), (2, .slice (.grow B.length) (q.2.1.map Ahl.encI)), (5, .ptr V 0), (6, .ptr E 0)])
      (fun q => xt B Oc Lc G q.2.1.length q.2.2.2 q.2.2.1)
      (fun q => (∀ x ∈ q.1, 0 ≤ x ∧ x < (n : Int)) ∧ (∀ x ∈ q.2.1, 0 ≤ x ∧ x < (n : Int)) ∧ q.1.length ≤ may.length ∧ q.2.1.length + q.1.length = tried.length + may.length ∧ (bkLoopN L (bkN L f) q.1 : Int) ≤ q.2.2.2 ∧ (q.2.2.1.length : Int) + q.2.2.2 ≤ 1000000 ∧
        q.2.2.1 ++ bkLoop L (bk L f) g q.1 q.2.1 = out ++ bk L (f + 1) g may tried ∧ q.2.2.2 - (bkLoopN L (bkN L f) q.1 : Int) = k - (bkN L (f + 1) may : Int))
      (fun q => q.1.length) (may, tried, out, k - 1) ⟨hm, ht, Nat.le_refl _, rfl, by rw [bkN] at hk; simp only []; omega, by simp only []; omega, by rw [hbk], by rw [bkN]; simp only []; omega⟩
      (by
        (try dsimp only)
        have hNk2 := hN0 tried.length (k - 1) out
        have hi2 := hi1 tried.length (k - 1) out
        rw [← hNk2] at hi2
        rw [hNk]
        rw [← hNk2] at ht0 hg0
        first | exact ghN0 hi2 | exact ghN hi2) ?_
    rintro ⟨r, td, o, k1⟩ ⟨jr, jt, jl, jn, jk, jo, jb, jd⟩ K hK hE hR
    dsimp only at jr jt jl jn jk jo jb jd ⊢
    cases r with
    | nil => 
      have h1 : ¬ ((0 : Int) > 0) := by omega
      have h1' : ¬ (((0 : Nat) : Int) > 0) := by omega
      simp only [go_sem, Int.reduceToNat, Int.reduceLE, Int.reduceLT, Nat.reduceBEq, Nat.reduceLT, Nat.reduceAdd, Nat.reduceLeDiff, dr_gExt_0, dr_gExt_1, h1, h1', hE]
      have hNk2 := hN0 td.length k1 o
      have hi2 := hi1 td.length k1 o
      have e1 : k1 = k - (bkN L (f + 1) may : Int) := by rw [← jd]; simp [bkLoopN]
      have e2 : o = out ++ bk L (f + 1) g may tried := by rw [← jb]; simp [bkLoop]
      have e3 : td.length = tried.length + may.length := by rw [← jn]; simp
      rw [← hNk2] at hi2
      refine ret_gh0 (σ' := xt B Oc Lc G td.length k1 o) ?_ (by rw [hNk, hNk2]; exact Nat.le_refl _) hi2 ⟨rfl, by rw [e3, e1, e2]⟩
      exact Ghost.keep0 (by rw [hNk, hNk2]; exact Nat.le_refl _) trivial hi2
    | cons x r =>
      obtain ⟨hx0, hxn⟩ := jr x List.mem_cons_self
      have h1 : (((r.length + 1 : Nat) : Int) > 0) := by omega
      simp only [go_sem, Int.reduceToNat, Int.reduceLE, Int.reduceLT, Nat.reduceBEq, Nat.reduceLT, Nat.reduceAdd, Nat.reduceLeDiff, dr_gExt_0, dr_gExt_1, h1, hN0, gE, gN0, sN0, Ahl.encI]
      refine ⟨_, _, cloneG_spec g tok _ (by omega), ?_⟩
      have hbg : bigLen (g.length + 1) 8 := big_ok (by omega) (by omega)
      have hlr : r.length + 1 ≤ 1000 := by rw [List.length_cons] at jl; omega
      have hltd : td.length ≤ 1000 := by omega
      have hrm : ∀ y ∈ r, 0 ≤ y ∧ y < (n : Int) := fun y hy => jr y (List.mem_cons_of_mem _ hy)
      have hfx : (x :: r).filter (lkB p x) = r.filter (L x) := by
        rw [List.filter_cons, show lkB p x x = false from hirr _, hL]; rfl
      have hft : td.filter (lkB p x) = td.filter (L x) := by rw [hL]
      have hX : ∀ r' : Store, (xt B Oc Lc G td.length k1 o ++ (AObj.row [.int .i64 x] :: r'))[B.length + 1]? = some (.row [.int .i64 x]) := fun r' => by rw [gN0]; rfl
      simp only [go_sem, Int.reduceToNat, Int.reduceLE, Int.reduceLT, Nat.reduceBEq, Nat.reduceLT, Nat.reduceAdd, Nat.reduceLeDiff, dr_gExt_0, dr_gExt_1, hN0, gE, gN0, sN0, gN, sN, hbg]
      have c1 := gToS_spec (x :: r) x V D b n (B.length + 1) p .unk (xt B Oc Lc G td.length k1 o ++ [AObj.row [.int .i64 x], AObj.grow 1 (g.length + 1)]) (by rw [List.length_cons]; omega) ⟨hx0, hxn⟩ jr (gLk _ _ _ _) (hX _)
      rw [hfx] at c1
      refine ⟨_, _, c1, ?_⟩
      simp only [go_sem, Int.reduceToNat, Int.reduceLE, Int.reduceLT, Nat.reduceBEq, Nat.reduceLT, Nat.reduceAdd, Nat.reduceLeDiff, dr_gExt_0, dr_gExt_1, hN0, gE, gN0, sN0, gN, sN, hbg]
      have c2 := gToG_spec td x V D b n (B.length + 1) p (.grow B.length) (xt B Oc Lc G td.length k1 o ++ [AObj.row [.int .i64 x], AObj.grow 1 (g.length + 1)]) (by omega) ⟨hx0, hxn⟩ jt (gLk _ _ _ _) (hX _)
      rw [hft] at c2
      refine ⟨_, _, c2, ?_⟩
      obtain ⟨B', hB'⟩ : ∃ B', B' = B ++ [AObj.grow 1 td.length, AObj.row [.int .i64 x], AObj.grow 1 (g.length + 1)] := ⟨_, rfl⟩
      have hB'l : B'.length = B.length + 1 + 2 := by rw [hB']; simp
      have heq : ∀ m2 k o, xt B' Oc Lc G m2 k o = xt B Oc Lc G td.length k o ++ [AObj.row [.int .i64 x], AObj.grow 1 (g.length + 1), AObj.grow 1 m2] := fun m2 k o => by
        rw [hB', xt, xst_app _ (by omega) (by omega) (by omega), xt]; simp
      have hrf : (r.filter (L x)).length ≤ r.length := List.length_filter_le _ _
      have htf : (td.filter (L x)).length ≤ td.length := List.length_filter_le _ _
      have hxs : XS B' V D b n Oc Lc E G p := by rw [hB']; exact h.app _
      rw [bkLoopN] at jk jd
      have jk2 : ((bkN L f (r.filter (L x)) : Int)) ≤ k1 := by omega
      have hlr2 : r.length + 1 ≤ may.length := by rw [List.length_cons] at jl; exact jl
      have jn2 : td.length + (r.length + 1) = tried.length + may.length := by rw [List.length_cons] at jn; exact jn
      have c3 := ih B' (g ++ [x]) (r.filter (L x)) (td.filter (L x)) k1 o (.grow (B.length + 1 + 1)) .unk hxs (by omega) (fun y hy => hrm y (List.mem_filter.1 hy).1) (fun y hy => jt y (List.mem_filter.1 hy).1)
        (by rw [List.length_append, List.length_singleton]; omega) (by omega) jk2 jo
      rw [heq, heq, hB'l] at c3
      rw [List.map_append] at c3
      simp only [go_sem, Int.reduceToNat, Int.reduceLE, Int.reduceLT, Nat.reduceBEq, Nat.reduceLT, Nat.reduceAdd, Nat.reduceLeDiff, dr_gExt_0, dr_gExt_1, hN0, gE, gN0, sN0, gN, sN, hbg]
      refine ⟨_, _, c3, ?_⟩
      have hbt : bigLen (td.length + 1) 8 := big_ok (by omega) (by omega)
      have hal : ∀ e ∈ r, (Ahl.encI e).length = 1 := fun _ _ => rfl
      have hNk2 := hN0 (td.length + 1) (k1 - bkN L f (r.filter (L x))) (o ++ bk L f (g ++ [x]) (r.filter (L x)) (td.filter (L x)))
      have hi2 := hi1 (td.length + 1) (k1 - bkN L f (r.filter (L x))) (o ++ bk L f (g ++ [x]) (r.filter (L x)) (td.filter (L x)))
      have hlen := bk_len L f (g ++ [x]) (r.filter (L x)) (td.filter (L x))
      have he : td.map Ahl.encI ++ [[AV.int .i64 x]] = (td ++ [x]).map Ahl.encI := by rw [List.map_append]; rfl
      simp only [go_sem, Int.reduceToNat, Int.reduceLE, Int.reduceLT, Nat.reduceBEq, Nat.reduceLT, Nat.reduceAdd, Nat.reduceLeDiff, dr_gExt_0, dr_gExt_1, hN0, gE, gN0, sN0, gN, sN, gT, sT, hbt]
      refine ⟨hal, ?_⟩
      rw [← hNk2] at hi2
      refine hK _ _ (r, td ++ [x], o ++ bk L f (g ++ [x]) (r.filter (L x)) (td.filter (L x)), k1 - bkN L f (r.filter (L x))) ⟨hrm, ?_, by simp only []; omega, by simp only [List.length_append, List.length_singleton]; omega, by simp only []; omega, by simp only [List.length_append]; omega, ?_, by simp only []; omega⟩ (by simp only [List.length_cons]; omega) ?_
      · intro y hy
        rcases List.mem_append.1 hy with hy | hy
        · exact jt y hy
        · rw [List.mem_singleton.1 hy]; exact ⟨hx0, hxn⟩
      · simp only []
        rw [List.append_assoc, ← jb, bkLoop]
      · (try dsimp only)
        rw [List.length_append, List.length_singleton, hNk, he]
        rw [← hNk2] at ht0 hg0
        first | exact ghN0 hi2 | exact ghN hi2
end Go.Proofs.YtocphglkceidhaaGreat
namespace Go.Proofs
open Go.Shelf Go.RowKit Go.Lib Go.Sort
def YtocphglkceidhaaGreat.laysLL_ren : Go.Shelf.Ren := ⟨fun | 6 => 45 | 15 => 80 | 14 => 82 | 28 => 119 | 29 => 120 | 20 => 121 | 21 => 122 | 22 => 123 | 23 => 124 | 24 => 125 | 25 => 126 | 26 => 127 | 27 => 128 | 46 => 154 | 47 => 150 | 48 => 151 | 49 => 155 | 50 => 156 | 57 => 168 | n => n, fun | 22 => 31 | 24 => 23 | 25 => 85 | 3 => 3 | 39 => 113 | 0 => 0 | 53 => 144 | 55 => 146 | 4 => 4 | 46 => 136 | 45 => 135 | 50 => 141 | 5 => 5 | 9 => 9 | 66 => 161 | 70 => 165 | 76 => 177 | 77 => 178 | n => n, fun | n => n⟩
theorem YtocphglkceidhaaGreat.laysLL : Go.Proofs.SlLaysF.n6 Tryz.prog YtocphglkceidhaaGreat.laysLL_ren := {
  mixed := by kernel_rfl
  f6 := ⟨Tryz.f45.name, by decide, Tryz.func45.trans (congrArg some (by kernel_rfl))⟩
  f14 := ⟨Tryz.f82.name, by decide, Tryz.func82.trans (congrArg some (by kernel_rfl))⟩
  f15 := Tryz.func80.trans (congrArg some (by kernel_rfl))
  f20 := ⟨Tryz.f121.name, by decide, Tryz.func121.trans (congrArg some (by kernel_rfl))⟩
  f21 := ⟨Tryz.f122.name, by decide, Tryz.func122.trans (congrArg some (by kernel_rfl))⟩
  f22 := ⟨Tryz.f123.name, by decide, Tryz.func123.trans (congrArg some (by kernel_rfl))⟩
  f23 := ⟨Tryz.f124.name, by decide, Tryz.func124.trans (congrArg some (by kernel_rfl))⟩
  f24 := ⟨Tryz.f125.name, by decide, Tryz.func125.trans (congrArg some (by kernel_rfl))⟩
  f25 := ⟨Tryz.f126.name, by decide, Tryz.func126.trans (congrArg some (by kernel_rfl))⟩
  f26 := ⟨Tryz.f127.name, by decide, Tryz.func127.trans (congrArg some (by kernel_rfl))⟩
  f27 := ⟨Tryz.f128.name, by decide, Tryz.func128.trans (congrArg some (by kernel_rfl))⟩
  f28 := Tryz.func119.trans (congrArg some (by kernel_rfl))
  f29 := Tryz.func120.trans (congrArg some (by kernel_rfl))
  f46 := ⟨Tryz.f154.name, by decide, Tryz.func154.trans (congrArg some (by kernel_rfl))⟩
  f47 := Tryz.func150.trans (congrArg some (by kernel_rfl))
  f48 := Tryz.func151.trans (congrArg some (by kernel_rfl))
  f49 := ⟨Tryz.f155.name, by decide, Tryz.func155.trans (congrArg some (by kernel_rfl))⟩
  f50 := ⟨Tryz.f156.name, by decide, Tryz.func156.trans (congrArg some (by kernel_rfl))⟩
  f57 := ⟨Tryz.f168.name, by decide, Tryz.func168.trans (congrArg some (by kernel_rfl))⟩
  t0 := Tryz.underlying0
  a0 := Tryz.isAgg0
  z0 := Tryz.sizeOf0
  v0 := Tryz.zeroValue0
  t3 := Tryz.underlying3
  a3 := Tryz.isAgg3
  z3 := Tryz.sizeOf3
  v3 := Tryz.zeroValue3
  t4 := Tryz.underlying4
  a4 := Tryz.isAgg4
  z4 := Tryz.sizeOf4
  v4 := Tryz.zeroValue4
  t5 := Tryz.underlying5
  a5 := Tryz.isAgg5
  z5 := Tryz.sizeOf5
  v5 := Tryz.zeroValue5
  t9 := Tryz.underlying9
  a9 := Tryz.isAgg9
  z9 := Tryz.sizeOf9
  v9 := Tryz.zeroValue9
  t22 := Tryz.underlying31
  a22 := Tryz.isAgg31
  z22 := Tryz.sizeOf31
  v22 := Tryz.zeroValue31
  a24 := Tryz.isAgg23
  z24 := Tryz.sizeOf23
  t25 := Tryz.underlying85
  a25 := Tryz.isAgg85
  z25 := Tryz.sizeOf85
  v25 := Tryz.zeroValue85
  t39 := Tryz.underlying113
  a39 := Tryz.isAgg113
  z39 := Tryz.sizeOf113
  v39 := Tryz.zeroValue113
  t45 := Tryz.underlying135
  a45 := Tryz.isAgg135
  z45 := Tryz.sizeOf135
  v45 := Tryz.zeroValue135
  t46 := Tryz.underlying136
  a46 := Tryz.isAgg136
  z46 := Tryz.sizeOf136
  v46 := Tryz.zeroValue136
  t50 := Tryz.underlying141
  a50 := Tryz.isAgg141
  z50 := Tryz.sizeOf141
  v50 := Tryz.zeroValue141
  t53 := Tryz.underlying144
  a53 := Tryz.isAgg144
  z53 := Tryz.sizeOf144
  v53 := Tryz.zeroValue144
  t55 := Tryz.underlying146
  a55 := Tryz.isAgg146
  z55 := Tryz.sizeOf146
  v55 := Tryz.zeroValue146
  t66 := Tryz.underlying161
  a66 := Tryz.isAgg161
  z66 := Tryz.sizeOf161
  v66 := Tryz.zeroValue161
  t70 := Tryz.underlying165
  a70 := Tryz.isAgg165
  z70 := Tryz.sizeOf165
  v70 := Tryz.zeroValue165
  t76 := Tryz.underlying177
  a76 := Tryz.isAgg177
  z76 := Tryz.sizeOf177
  v76 := Tryz.zeroValue177
  t77 := Tryz.underlying178
  a77 := Tryz.isAgg178
  z77 := Tryz.sizeOf178
  v77 := Tryz.zeroValue178 }
end Go.Proofs
namespace Go.Proofs.YtocphglkceidhaaGreat
open Go.Ahl
def c_cmpI : CCode := .seq (.ops [⟨some 4, .move (.lit (.int .i64 0)), none, []⟩]) (.seq (.ops [⟨some 7, .move (.tmp 0), none, []⟩, ⟨some 8, .call (.lit (.func 129 [])) [.tmp 7], none, []⟩, ⟨some 5, .move (.tmp 8), none, []⟩]) (.seq (.ops [⟨some 9, .move (.tmp 1), none, []⟩, ⟨some 10, .call (.lit (.func 129 [])) [.tmp 9], none, []⟩, ⟨some 6, .move (.tmp 10), none, []⟩]) (.seq (.seq (.ops [⟨some 11, .move (.tmp 5), none, []⟩]) (.cond (.tmp 11) (.seq (.seq (.ops [⟨some 12, .move (.tmp 6), none, []⟩]) (.cond (.tmp 12) (.seq (.ops [⟨some 4, .move (.lit (.int .i64 0)), none, []⟩]) .ret) .skip)) (.seq (.ops [⟨some 4, .move (.lit (.int .i64 (-1))), none, []⟩]) .ret)) .skip)) (.seq (.seq (.ops [⟨some 13, .move (.tmp 6), none, []⟩]) (.cond (.tmp 13) (.seq (.ops [⟨some 4, .move (.lit (.int .i64 1)), none, []⟩]) .ret) .skip)) (.seq (.seq (.ops [⟨some 14, .move (.tmp 0), none, []⟩, ⟨some 15, .move (.tmp 1), none, []⟩, ⟨some 16, .bin .lss .none (.tmp 14) (.tmp 15), none, []⟩]) (.cond (.tmp 16) (.seq (.ops [⟨some 4, .move (.lit (.int .i64 (-1))), none, []⟩]) .ret) .skip)) (.seq (.seq (.ops [⟨some 17, .move (.tmp 0), none, []⟩, ⟨some 18, .move (.tmp 1), none, []⟩, ⟨some 19, .bin .gtr .none (.tmp 17) (.tmp 18), none, []⟩]) (.cond (.tmp 19) (.seq (.ops [⟨some 4, .move (.lit (.int .i64 1)), none, []⟩]) .ret) .skip)) (.seq (.ops [⟨some 4, .move (.lit (.int .i64 0)), none, []⟩]) .ret)))))))
theorem cmpI_spec (x y : Int) (σ : Store) : ACalls Tryz.prog 83 [.int .i64 x, .int .i64 y] σ (isR (.int .i64 (if x < y then -1 else if y < x then 1 else 0)) σ) := by
  refine ACalls.intro (rs := [(.tmp 4)]) (by kernel_rfl) { own := [], ghosts := [] } Tryz.func83 (c := Tryz.f83.body.getD .skip) (by kernel_rfl) (by decide) (by rw [show Tryz.f83.ntmps = 20 by kernel_rfl]; exact Nat.le_of_ble_eq_true rfl) (by kernel_rfl) ?_
  intro hσ hids
  rw [show comp Tryz.prog { own := [], ghosts := [] } (Tryz.f83.body.getD .skip) = c_cmpI by kernel_rfl, show Tryz.f83.ntmps = 20 by kernel_rfl]
  unfold c_cmpI
  simp only [go_sem, Int.reduceToNat, Int.reduceLE, Int.reduceLT, Nat.reduceBEq, Nat.reduceLT, Nat.reduceAdd, Nat.reduceLeDiff]
  refine (cNaN_spec x σ).is ?_
  simp only [go_sem, Int.reduceToNat, Int.reduceLE, Int.reduceLT, Nat.reduceBEq, Nat.reduceLT, Nat.reduceAdd, Nat.reduceLeDiff]
  refine (cNaN_spec y σ).is ?_
  simp only [go_sem, Int.reduceToNat, Int.reduceLE, Int.reduceLT, Nat.reduceBEq, Nat.reduceLT, Nat.reduceAdd, Nat.reduceLeDiff]
  by_cases h1 : x < y
  · simp only [go_sem, Int.reduceToNat, Int.reduceLE, Int.reduceLT, Nat.reduceBEq, Nat.reduceLT, Nat.reduceAdd, Nat.reduceLeDiff, h1]
    first | exact rtk (.int .i64 (-1)) ⟨rfl, rfl⟩ | exact rtk0 (.int .i64 (-1)) ⟨rfl, rfl⟩
  · by_cases h2 : x > y
    · simp only [go_sem, Int.reduceToNat, Int.reduceLE, Int.reduceLT, Nat.reduceBEq, Nat.reduceLT, Nat.reduceAdd, Nat.reduceLeDiff, h1, h2]
      first | exact rtk (.int .i64 1) ⟨rfl, rfl⟩ | exact rtk0 (.int .i64 1) ⟨rfl, rfl⟩
    · simp only [go_sem, Int.reduceToNat, Int.reduceLE, Int.reduceLT, Nat.reduceBEq, Nat.reduceLT, Nat.reduceAdd, Nat.reduceLeDiff, h1, h2]
      first | exact rtk (.int .i64 0) ⟨rfl, rfl⟩ | exact rtk0 (.int .i64 0) ⟨rfl, rfl⟩
def c_slCmp : CCode := .seq (.ops [⟨some 4, .move (.lit (.int .i64 0)), none, []⟩]) (.seq (.seq (.ops [⟨some 9, .move (.tmp 0), none, []⟩, ⟨some 10, .blen 1 (.tmp 9), none, []⟩, ⟨some 11, .move (.lit (.int .i64 0)), none, []⟩]) (.block 0 (.loop (.seq (.ops [⟨some 12, .bin .lss .none (.tmp 11) (.tmp 10), none, []⟩]) (.seq (.cond (.tmp 12) .skip (.exit 0)) (.seq (.block 1 (.seq (.ops [⟨some 13, .move (.tmp 11), none, []⟩, ⟨some 14, .iaddr 1 (.tmp 9) (.tmp 11), none, []⟩, ⟨some 15, .load none (.tmp 14), none, []⟩, ⟨some 5, .move (.tmp 13), none, []⟩, ⟨some 6, .move (.tmp 15), none, []⟩]) (.seq (.seq (.ops [⟨some 16, .move (.tmp 5), none, []⟩, ⟨some 17, .move (.tmp 1), none, []⟩, ⟨some 18, .blen 1 (.tmp 17), none, []⟩, ⟨some 19, .bin .geq .none (.tmp 16) (.tmp 18), none, []⟩]) (.cond (.tmp 19) (.seq (.ops [⟨some 4, .move (.lit (.int .i64 1)), none, []⟩]) .ret) .skip)) (.seq (.ops [⟨some 20, .move (.tmp 1), none, []⟩, ⟨some 21, .move (.tmp 5), none, []⟩, ⟨some 22, .iaddr 1 (.tmp 20) (.tmp 21), none, []⟩, ⟨some 23, .load none (.tmp 22), none, []⟩, ⟨some 7, .move (.tmp 23), none, []⟩]) (.seq (.ops [⟨some 24, .move (.tmp 6), none, []⟩, ⟨some 25, .move (.tmp 7), none, []⟩, ⟨some 26, .call (.lit (.func 83 [])) [.tmp 24, .tmp 25], none, []⟩, ⟨some 8, .move (.tmp 26), none, []⟩]) (.seq (.ops [⟨some 27, .move (.tmp 8), none, []⟩, ⟨some 28, .bin .neq .none (.tmp 27) (.lit (.int .i64 0)), none, []⟩]) (.cond (.tmp 28) (.seq (.ops [⟨some 29, .move (.tmp 8), none, []⟩, ⟨some 4, .move (.tmp 29), none, []⟩]) .ret) .skip))))))) (.ops [⟨some 30, .bin .add .none (.tmp 11) (.lit (.int .i64 1)), none, []⟩, ⟨some 11, .move (.tmp 30), none, []⟩]))))))) (.seq (.seq (.ops [⟨some 31, .move (.tmp 0), none, []⟩, ⟨some 32, .blen 1 (.tmp 31), none, []⟩, ⟨some 33, .move (.tmp 1), none, []⟩, ⟨some 34, .blen 1 (.tmp 33), none, []⟩, ⟨some 35, .bin .lss .none (.tmp 32) (.tmp 34), none, []⟩]) (.cond (.tmp 35) (.seq (.ops [⟨some 4, .move (.lit (.int .i64 (-1))), none, []⟩]) .ret) .skip)) (.seq (.ops [⟨some 4, .move (.lit (.int .i64 0)), none, []⟩]) .ret)))
set_option maxRecDepth 20000 in
theorem slCmp_spec (l m : List Int) (tok tok' : Tok) (σ : Store) (hl : l.length ≤ 140737488355328) (hm : m.length ≤ 140737488355328) :
    ACalls Tryz.prog 47 [.slice tok (l.map Ahl.encI), .slice tok' (m.map Ahl.encI)] σ (isR (.int .i64 (cmpInts l m)) σ) := by
  refine ACalls.intro (rs := [(.tmp 4)]) (by kernel_rfl) { own := [], ghosts := [] } Tryz.func47 (c := Tryz.f47.body.getD .skip) (by kernel_rfl) (by decide) (by rw [show Tryz.f47.ntmps = 36 by kernel_rfl]; exact Nat.le_of_ble_eq_true rfl) (by kernel_rfl) ?_
  intro hσ hids
  rw [show comp Tryz.prog { own := [], ghosts := [] } (Tryz.f47.body.getD .skip) = c_slCmp by kernel_rfl, show Tryz.f47.ntmps = 36 by kernel_rfl]
  unfold c_slCmp
  have hil : Ids σ.length (.slice tok (l.map Ahl.encI)) := hids _ (by simp)
  have him : Ids σ.length (.slice tok' (m.map Ahl.encI)) := hids _ (by simp)
  simp only [go_sem, Int.reduceToNat, Int.reduceLE, Int.reduceLT, Nat.reduceBEq, Nat.reduceLT, Nat.reduceAdd, Nat.reduceLeDiff]
  refine wpc_while (fun (i : Nat) => [(0, .slice tok (l.map Ahl.encI)), (1, .slice tok' (m.map Ahl.encI)), (9, .slice tok (l.map Ahl.encI)), (10, .int .i64 l.length), (11, .int .i64 i)]) (fun _ => σ) (fun i => i ≤ l.length ∧ i ≤ m.length ∧ cmpInts l m = cmpInts (l.drop i) (m.drop i)) (fun i => l.length - i) 0 ⟨Nat.zero_le _, Nat.zero_le _, rfl⟩ (by (try dsimp only); first | exact ghk | exact ghk0) ?_
  rintro i ⟨hi, hi2, hv⟩ K hK hE hR
  by_cases h : i < l.length
  · obtain ⟨x, hx⟩ := get_ex h; have hlt : ((i : Int) < (l.length : Int)) := (by omega); have hw : IntKind.i64.wrap ((i : Int) + 1) = ((i + 1 : Nat) : Int) := (by rw [wrap_ok (by omega)]; omega)
    by_cases h2 : i < m.length
    · obtain ⟨y, hy⟩ := get_ex h2
      have hge : ¬ ((i : Int) ≥ (m.length : Int)) := by omega
      rw [drop_cons hx, drop_cons hy, cmpInts] at hv
      simp only [go_sem, Int.reduceToNat, Int.reduceLE, Int.reduceLT, Nat.reduceBEq, Nat.reduceLT, Nat.reduceAdd, Nat.reduceLeDiff, hlt, hge, hx, hy, Ahl.encI]
      refine (cmpI_spec x y σ).is ?_
      by_cases h3 : x < y
      · rw [if_pos h3] at hv ⊢
        have hne : ((-1 : Int) != 0) = true := rfl
        simp only [go_sem, Int.reduceToNat, Int.reduceLE, Int.reduceLT, Nat.reduceBEq, Nat.reduceLT, Nat.reduceAdd, Nat.reduceLeDiff, hne, hR]
        first | exact rtk (.int .i64 (-1)) ⟨by rw [hv], rfl⟩ | exact rtk0 (.int .i64 (-1)) ⟨by rw [hv], rfl⟩
      · by_cases h4 : y < x
        · rw [if_neg h3, if_pos h4] at hv ⊢
          have hne : ((1 : Int) != 0) = true := rfl
          simp only [go_sem, Int.reduceToNat, Int.reduceLE, Int.reduceLT, Nat.reduceBEq, Nat.reduceLT, Nat.reduceAdd, Nat.reduceLeDiff, hne, hR]
          first | exact rtk (.int .i64 1) ⟨by rw [hv], rfl⟩ | exact rtk0 (.int .i64 1) ⟨by rw [hv], rfl⟩
        · rw [if_neg h3, if_neg h4] at hv ⊢
          have hne : ((0 : Int) != 0) = false := rfl
          simp only [go_sem, Int.reduceToNat, Int.reduceLE, Int.reduceLT, Nat.reduceBEq, Nat.reduceLT, Nat.reduceAdd, Nat.reduceLeDiff, hne]
          refine hK _ _ (i + 1) (⟨by omega, by omega, hv⟩) (by first | omega | (simp only []; omega) | (simp; omega)) ?_; (try dsimp only); (try simp only [ hw]); first | exact ghk | exact ghk0
    · have hge : ((i : Int) ≥ (m.length : Int)) := by omega
      rw [drop_cons hx, drop_len h2] at hv
      simp only [go_sem, Int.reduceToNat, Int.reduceLE, Int.reduceLT, Nat.reduceBEq, Nat.reduceLT, Nat.reduceAdd, Nat.reduceLeDiff, hlt, hge, hx, hR, Ahl.encI]
      first | exact rtk (.int .i64 1) ⟨by rw [hv]; rfl, rfl⟩ | exact rtk0 (.int .i64 1) ⟨by rw [hv]; rfl, rfl⟩
  · have hlt : ¬ ((i : Int) < (l.length : Int)) := by omega
    rw [drop_len h] at hv
    by_cases h2 : (l.length : Int) < (m.length : Int)
    · obtain ⟨y, hy⟩ := get_ex (show i < m.length by omega)
      rw [drop_cons hy] at hv
      simp only [go_sem, Int.reduceToNat, Int.reduceLE, Int.reduceLT, Nat.reduceBEq, Nat.reduceLT, Nat.reduceAdd, Nat.reduceLeDiff, hlt, hE, h2]
      first | exact rtk (.int .i64 (-1)) ⟨by rw [hv]; rfl, rfl⟩ | exact rtk0 (.int .i64 (-1)) ⟨by rw [hv]; rfl, rfl⟩
    · rw [drop_len (show ¬ i < m.length by omega)] at hv
      simp only [go_sem, Int.reduceToNat, Int.reduceLE, Int.reduceLT, Nat.reduceBEq, Nat.reduceLT, Nat.reduceAdd, Nat.reduceLeDiff, hlt, hE, h2]
      first | exact rtk (.int .i64 0) ⟨by rw [hv]; rfl, rfl⟩ | exact rtk0 (.int .i64 0) ⟨by rw [hv]; rfl, rfl⟩
def c_gOrd : CCode := .seq (.ops [⟨some 4, .move (.lit (.int .i64 0)), none, []⟩]) (.seq (.ops [⟨some 5, .move (.tmp 0), none, []⟩, ⟨some 6, .move (.tmp 1), none, []⟩, ⟨some 7, .call (.lit (.func 47 [])) [.tmp 5, .tmp 6], none, []⟩, ⟨some 4, .move (.tmp 7), none, []⟩]) .ret)
theorem gOrd_spec (l m : List Int) (tok tok' : Tok) (σ : Store) (hl : l.length ≤ 140737488355328) (hm : m.length ≤ 140737488355328) :
    ACalls Tryz.prog 46 [.slice tok (l.map Ahl.encI), .slice tok' (m.map Ahl.encI)] σ (isR (.int .i64 (cmpInts l m)) σ) := by
  refine ACalls.intro (rs := [(.tmp 4)]) (by kernel_rfl) { own := [], ghosts := [] } Tryz.func46 (c := Tryz.f46.body.getD .skip) (by kernel_rfl) (by decide) (by rw [show Tryz.f46.ntmps = 8 by kernel_rfl]; exact Nat.le_of_ble_eq_true rfl) (by kernel_rfl) ?_
  intro hσ hids
  rw [show comp Tryz.prog { own := [], ghosts := [] } (Tryz.f46.body.getD .skip) = c_gOrd by kernel_rfl, show Tryz.f46.ntmps = 8 by kernel_rfl]
  unfold c_gOrd
  have hil : Ids σ.length (.slice tok (l.map Ahl.encI)) := hids _ (by simp)
  have him : Ids σ.length (.slice tok' (m.map Ahl.encI)) := hids _ (by simp)
  simp only [go_sem, Int.reduceToNat, Int.reduceLE, Int.reduceLT, Nat.reduceBEq, Nat.reduceLT, Nat.reduceAdd, Nat.reduceLeDiff]
  refine (slCmp_spec l m tok tok' σ hl hm).is ?_
  simp only [go_sem, Int.reduceToNat, Int.reduceLE, Int.reduceLT, Nat.reduceBEq, Nat.reduceLT, Nat.reduceAdd, Nat.reduceLeDiff]
  first | exact rtk (.int .i64 (cmpInts l m)) ⟨rfl, rfl⟩ | exact rtk0 (.int .i64 (cmpInts l m)) ⟨rfl, rfl⟩
theorem cmpInts_total {a b : List Int} (h : ¬ cmpInts a b < 0) : cmpInts b a < 0 ∨ a = b := by
  rcases Int.lt_trichotomy (cmpInts a b) 0 with q | q | q
  · exact absurd q h
  · exact .inr (cmpInts_anti q)
  · exact .inl (cmpInts_swap.2 q)
theorem sortLL_spec (id : Nat) (l : List (List Int)) (hl : ∀ x ∈ l, x.length ≤ 140737488355328) (hnd : l.Nodup) (σ : Store) (hσ : σ[id]? = some (.row (l.map vI))) (hlen : l.length ≤ 1073741824) :
    ACalls Tryz.prog 45 [.ref id 1 0 l.length, .func 46 []] σ fun r σ' => r = .tuple [] ∧ ∃ l' : List (List Int), l'.Perm l ∧ l'.Pairwise ltL ∧ σ' = σ.set id (.row (l'.map vI)) := by
  have h := sort1 laysLL (fn := Tryz.f45) (gn := Tryz.f46) Tryz.func45 (by kernel_rfl) (by decide) vI (fun x => x.length ≤ 140737488355328) cmpInts (fun _ => rfl) (fun l => ids_mapf ids_encI l) [] (.slice none 0 0) (by simp)
    (fun m => .slice .fresh [] none 0 0 0 0 (fun _ _ => undef) (Nat.le_refl _) (fun h => absurd h (by simp)) (by simp) (fun h => absurd rfl h) (fun i hi => absurd hi (by simp)) (by simp))
    (fun x _ => by rw [cmpInts_refl]; omega) (fun x y z _ _ _ => cmpInts_trans)
    (fun x y z _ _ _ h k => by
      rcases cmpInts_total h with q | rfl
      · rcases cmpInts_total k with q' | rfl
        · have := cmpInts_trans q' q
          intro hh; have := cmpInts_swap.1 hh; omega
        · exact h
      · exact k)
    46 Tryz.func46 (by kernel_rfl) (by kernel_rfl) (fun x y hx hy => gOrd_spec x y .fresh .fresh [] hx hy) id l hl σ hσ (by omega)
  refine h.mono ?_
  rintro r σ' ⟨rfl, l', hp, hs, rfl⟩
  refine ⟨rfl, l', hp, ?_, rfl⟩
  have hnd' : l'.Nodup := hp.nodup_iff.2 hnd
  have := List.pairwise_and_iff.2 ⟨hs, hnd'⟩
  refine this.imp ?_
  rintro a b ⟨h1, h2⟩
  rcases cmpInts_total h1 with q | q
  · exact q
  · exact absurd q.symm h2
end Go.Proofs.YtocphglkceidhaaGreat
namespace Go.Proofs.YtocphglkceidhaaGreat
open Go.Ahl
def rowsP (n : Nat) (p : Nat → Nat → Bool) : Store := (List.range n).map fun i => AObj.row ((genB n (p i)).map ab)
def updP (p : Nat → Nat → Bool) (i j : Nat) (v : Bool) : Nat → Nat → Bool := fun a c => if a = i ∧ c = j then v else p a c
theorem rowsP_len (n : Nat) (p : Nat → Nat → Bool) : (rowsP n p).length = n := by simp [rowsP]
theorem rowsP_get {n i : Nat} (p : Nat → Nat → Bool) (h : i < n) : (rowsP n p)[i]? = some (.row ((genB n (p i)).map ab)) := by unfold rowsP; rw [List.getElem?_map, List.getElem?_range h]; rfl
theorem rowsP_cong {n : Nat} {p q : Nat → Nat → Bool} (h : ∀ i j, i < n → j < n → p i j = q i j) : rowsP n p = rowsP n q := by
  unfold rowsP
  refine List.map_congr_left fun i hi => ?_
  rw [genB_cong fun j hj => h i j (List.mem_range.1 hi) hj]
theorem rowsP_set {n : Nat} (p : Nat → Nat → Bool) (i j : Nat) (v : Bool) (h : i < n) : (rowsP n p).set i (.row (((genB n (p i)).map ab).set j (.bool v))) = rowsP n (updP p i j v) := by
  apply List.ext_getElem?
  intro k
  by_cases hk : k < n
  · rw [rowsP_get _ hk]
    by_cases hki : i = k
    · subst hki
      rw [List.getElem?_set_self (by rw [rowsP_len]; exact h), bset, genB_set]
      congr 3
      exact genB_cong fun c _ => by unfold updP; simp
    · rw [List.getElem?_set_ne hki, rowsP_get _ hk]
      congr 3
      exact genB_cong fun c _ => by unfold updP; rw [if_neg (by rintro ⟨e, _⟩; exact hki e.symm)]
  · rw [List.getElem?_eq_none (by simp [rowsP_len]; omega), List.getElem?_eq_none (by rw [rowsP_len]; omega)]
theorem ids_rowsP {n k : Nat} {p : Nat → Nat → Bool} : ∀ o ∈ rowsP n p, IdsO k o := by
  intro o ho
  obtain ⟨i, _, rfl⟩ := List.mem_map.1 ho
  exact ids_ab _
def d_gLink_0 : List COp := [⟨some 5, .load none (.tmp 2), none, []⟩, ⟨some 6, .move (.tmp 0), none, []⟩, ⟨some 7, .iaddr 1 (.tmp 5) (.tmp 6), none, [0, 1]⟩, ⟨some 8, .load none (.tmp 7), none, [2]⟩, ⟨some 9, .move (.tmp 1), none, []⟩, ⟨some 10, .load none (.tmp 2), none, []⟩, ⟨some 11, .move (.tmp 1), none, []⟩, ⟨some 12, .iaddr 1 (.tmp 10) (.tmp 11), none, [5, 6]⟩, ⟨some 13, .load none (.tmp 12), none, [7]⟩, ⟨some 14, .move (.tmp 0), none, []⟩, ⟨some 15, .move (.tmp 0), none, []⟩, ⟨some 16, .move (.tmp 1), none, []⟩, ⟨some 17, .bin .neq .none (.tmp 15) (.tmp 16), none, [10, 11]⟩, ⟨some 18, .move (.tmp 0), none, []⟩, ⟨some 19, .move (.tmp 1), none, []⟩, ⟨some 20, .bin .neq .none (.tmp 18) (.tmp 19), none, [13, 14]⟩, ⟨some 21, .iaddr 1 (.tmp 8) (.tmp 9), none, [3, 4, 0, 1, 2, 3, 4, 8, 10, 11, 12]⟩, ⟨none, .store 1 (.tmp 21) (.tmp 17), none, [16, 12, 0, 1, 2, 3, 4, 8, 10, 11, 12]⟩, ⟨some 22, .iaddr 1 (.tmp 13) (.tmp 14), none, [8, 9, 0, 1, 2, 3, 4, 5, 6, 7, 8, 9, 10, 11, 12, 13, 14, 15, 16, 17]⟩, ⟨none, .store 1 (.tmp 22) (.tmp 20), none, [18, 15, 17, 0, 1, 2, 3, 4, 5, 6, 7, 8, 9, 10, 11, 12, 13, 14, 15, 16, 17]⟩]
theorem dr_gLink_0 (P : Program) (nt n0 : Nat) (Q : Post) (s : Slots) (σ : Store) : wpc P nt n0 (.draw d_gLink_0) Q s σ = aOpsD P nt [⟨some 5, .load none (.tmp 2), none, []⟩, ⟨some 6, .move (.tmp 0), none, []⟩, ⟨some 7, .iaddr 1 (.tmp 5) (.tmp 6), none, [0, 1]⟩, ⟨some 8, .load none (.tmp 7), none, [2]⟩, ⟨some 9, .move (.tmp 1), none, []⟩, ⟨some 10, .load none (.tmp 2), none, []⟩, ⟨some 11, .move (.tmp 1), none, []⟩, ⟨some 12, .iaddr 1 (.tmp 10) (.tmp 11), none, [5, 6]⟩, ⟨some 13, .load none (.tmp 12), none, [7]⟩, ⟨some 14, .move (.tmp 0), none, []⟩, ⟨some 15, .move (.tmp 0), none, []⟩, ⟨some 16, .move (.tmp 1), none, []⟩, ⟨some 17, .bin .neq .none (.tmp 15) (.tmp 16), none, [10, 11]⟩, ⟨some 18, .move (.tmp 0), none, []⟩, ⟨some 19, .move (.tmp 1), none, []⟩, ⟨some 20, .bin .neq .none (.tmp 18) (.tmp 19), none, [13, 14]⟩, ⟨some 21, .iaddr 1 (.tmp 8) (.tmp 9), none, [3, 4, 0, 1, 2, 3, 4, 8, 10, 11, 12]⟩, ⟨none, .store 1 (.tmp 21) (.tmp 17), none, [16, 12, 0, 1, 2, 3, 4, 8, 10, 11, 12]⟩, ⟨some 22, .iaddr 1 (.tmp 13) (.tmp 14), none, [8, 9, 0, 1, 2, 3, 4, 5, 6, 7, 8, 9, 10, 11, 12, 13, 14, 15, 16, 17]⟩, ⟨none, .store 1 (.tmp 22) (.tmp 20), none, [18, 15, 17, 0, 1, 2, 3, 4, 5, 6, 7, 8, 9, 10, 11, 12, 13, 14, 15, 16, 17]⟩] (Q .normal) s σ := wpc_draw _ (by decide)
def c_gLink : CCode := .draw d_gLink_0
set_option maxRecDepth 20000 in
set_option maxHeartbeats 1000000 in
theorem gLink_spec (pre : Store) (V D n : Nat) (p : Nat → Nat → Bool) (x y : Int) (hV : pre[V]? = some (.row [.ref D 1 0 n])) (hD : pre[D]? = some (.row ((List.range n).map fun i => .ref (pre.length + i) 1 0 n))) (hx : 0 ≤ x ∧ x < n) (hy : 0 ≤ y ∧ y < n) :
    ACalls Tryz.prog 38 [.int .i64 x, .int .i64 y, .ptr V 0] (pre ++ rowsP n p) (isR (.tuple []) (pre ++ rowsP n (updP (updP p x.toNat y.toNat (x != y)) y.toNat x.toNat (x != y)))) := by
  refine ACalls.intro (rs := []) (by kernel_rfl) { own := [], ghosts := [] } Tryz.func38 (c := Tryz.f38.body.getD .skip) (by kernel_rfl) (by decide) (by rw [show Tryz.f38.ntmps = 23 by kernel_rfl]; exact Nat.le_of_ble_eq_true rfl) (by kernel_rfl) ?_
  intro hσ hids
  rw [show comp Tryz.prog { own := [], ghosts := [] } (Tryz.f38.body.getD .skip) = c_gLink by kernel_rfl, show Tryz.f38.ntmps = 23 by kernel_rfl]
  unfold c_gLink
  obtain ⟨T, hT⟩ : ∃ T : (Nat → Nat → Bool) → Store, ∀ q, T q = pre ++ rowsP n q := ⟨_, fun _ => rfl⟩
  have gV : ∀ q, (T q)[V]? = some (.row [.ref D 1 0 n]) := fun q => by rw [hT, List.getElem?_append_left (lt_of_get hV)]; exact hV
  have gD : ∀ q, (T q)[D]? = some (.row ((List.range n).map fun i => .ref (pre.length + i) 1 0 n)) := fun q => by rw [hT, List.getElem?_append_left (lt_of_get hD)]; exact hD
  have gR : ∀ q i, i < n → (T q)[pre.length + i]? = some (.row ((genB n (q i)).map ab)) := fun q i hi => by rw [hT, List.getElem?_append_right (by omega), Nat.add_sub_cancel_left, rowsP_get _ hi]
  have sR : ∀ q i j v, i < n → (T q).set (pre.length + i) (.row (((genB n (q i)).map ab).set j (.bool v))) = T (updP q i j v) := fun q i j v hi => by
    rw [hT, hT, List.set_append_right _ _ (by omega), Nat.add_sub_cancel_left, rowsP_set q i j v hi]
  have hTl : ∀ q, (T q).length = pre.length + n := fun q => by rw [hT, List.length_append, rowsP_len]
  have hTi : ∀ q, IdsS (T q).length (T q) := fun q => by
    intro i o ho
    rw [hTl]
    rw [hT] at ho
    by_cases hi : i < pre.length
    · rw [List.getElem?_append_left hi] at ho
      have := hσ i o (by rw [List.getElem?_append_left hi]; exact ho)
      rw [List.length_append, rowsP_len] at this; exact this
    · rw [List.getElem?_append_right (by omega)] at ho
      exact ids_rowsP o (List.mem_of_getElem? ho)
  have hx0 := hx.1
  have hy0 := hy.1
  have hxn : x.toNat < n := by omega
  have hyn : y.toNat < n := by omega
  have rx := range_ref (b := pre.length) hxn
  have ry := range_ref (b := pre.length) hyn
  have gx := fun q => gR q x.toNat hxn
  have gy := fun q => gR q y.toNat hyn
  have sx := fun q j v => sR q x.toNat j v hxn
  have sy := fun q j v => sR q y.toNat j v hyn
  have hly : ∀ q, y.toNat + 1 ≤ (genB n q).length := fun q => by rw [genB_len]; omega
  have hlx : ∀ q, x.toNat + 1 ≤ (genB n q).length := fun q => by rw [genB_len]; omega
  rw [← hT, ← hT]
  simp only [go_sem, Int.reduceToNat, Int.reduceLE, Int.reduceLT, Nat.reduceBEq, Nat.reduceLT, Nat.reduceAdd, Nat.reduceLeDiff, dr_gLink_0, gV, gD, hx0, hy0, hxn, hyn, rx, ry, gx, gy, hlx, hly, sx, sy]
  refine ret_gh0 (σ' := T _) ?_ (by rw [hTl, hTl]; exact Nat.le_refl _) (hTi _) ⟨rfl, rfl⟩
  exact Ghost.keep0 (by rw [hTl, hTl]; exact Nat.le_refl _) trivial (hTi _)
end Go.Proofs.YtocphglkceidhaaGreat
namespace Go.Proofs.YtocphglkceidhaaGreat
open Go.Ahl
/-! ### What the clauses link -/
def linkP (l : List (List FLit)) (x y : Nat) : Bool := (x != y) && apartB l x y
theorem apartC_swap (x y : Int) (c : List FLit) : apartC x y c = apartC y x c := by
  match c with
  | [] => rfl
  | [a] => simp only [apartC]; rw [Bool.or_comm (a.fact == x)]
  | [a, b] =>
    simp only [apartC]
    rcases Int.lt_trichotomy x y with h | h | h
    · rw [if_neg (by omega), if_pos h, if_pos h, if_neg (by omega)]
    · subst h; rfl
    · rw [if_pos h, if_neg (by omega), if_neg (by omega), if_pos h]
  | _ :: _ :: _ :: _ => rfl
theorem apartB_swap (l : List (List FLit)) (x y : Int) : apartB l x y = apartB l y x := by
  unfold apartB; congr 1; funext c; exact apartC_swap x y c
theorem linkP_swap (l : List (List FLit)) (x y : Nat) : linkP l x y = linkP l y x := by
  unfold linkP; rw [apartB_swap, bne_comm]
theorem linkP_self (l : List (List FLit)) (x : Nat) : linkP l x x = false := by unfold linkP; simp
theorem linkP_nil (x y : Nat) : linkP [] x y = false := by unfold linkP apartB; simp
theorem linkP_snoc (l : List (List FLit)) (c : List FLit) (x y : Nat) : linkP (l ++ [c]) x y = (linkP l x y || ((x != y) && apartC x y c)) := by
  unfold linkP apartB
  rw [List.any_append]
  cases (x != y) <;> simp
/-- The links behind those of a fact with the facts below z. -/
def oneP (l : List (List FLit)) (A z : Nat) (x y : Nat) : Bool := linkP l x y || ((x != y) && (decide (x = A) && decide (y < z) || decide (y = A) && decide (x < z)))
theorem oneP_zero (l : List (List FLit)) (A : Nat) : oneP l A 0 = linkP l := by funext x y; simp [oneP]
theorem linkP_ne {l : List (List FLit)} {x y : Nat} (h : linkP l x y = true) : x ≠ y := by
  rintro rfl; rw [linkP_self] at h; simp at h
theorem oneP_succ (l : List (List FLit)) (A z : Nat) : updP (updP (oneP l A z) A z ((A : Int) != (z : Int))) z A ((A : Int) != (z : Int)) = oneP l A (z + 1) := by
  have hb : ((A : Int) != (z : Int)) = (A != z) := by rw [Bool.eq_iff_iff]; simp; omega
  rw [hb]
  funext x y
  unfold updP
  by_cases h1 : x = z ∧ y = A
  · obtain ⟨rfl, rfl⟩ := h1
    rw [if_pos ⟨rfl, rfl⟩]
    unfold oneP
    cases hl : linkP l x y
    · by_cases hxy : x = y
      · subst hxy; simp
      · have e1 : (x != y) = true := by simpa using hxy
        have e2 : (y != x) = true := by simpa using Ne.symm hxy
        rw [e1, e2]; simp
    · have := linkP_ne hl
      have e2 : (y != x) = true := by simpa using Ne.symm this
      rw [e2]; simp
  · rw [if_neg h1]
    by_cases h2 : x = A ∧ y = z
    · obtain ⟨rfl, rfl⟩ := h2
      rw [if_pos ⟨rfl, rfl⟩]
      unfold oneP
      cases hl : linkP l x y
      · by_cases hxy : x = y
        · subst hxy; simp
        · have e1 : (x != y) = true := by simpa using hxy
          rw [e1]; simp
      · have := linkP_ne hl
        have e2 : (x != y) = true := by simpa using this
        rw [e2]; simp
    · rw [if_neg h2]
      unfold oneP
      congr 2
      have e1 : (decide (x = A) && decide (y < z)) = (decide (x = A) && decide (y < z + 1)) := by
        by_cases hx : x = A
        · have : y ≠ z := fun e => h2 ⟨hx, e⟩
          rw [show (decide (y < z)) = decide (y < z + 1) by rw [decide_eq_decide]; omega]
        · simp [hx]
      have e2 : (decide (y = A) && decide (x < z)) = (decide (y = A) && decide (x < z + 1)) := by
        by_cases hy : y = A
        · have : x ≠ z := fun e => h1 ⟨e, hy⟩
          rw [show (decide (x < z)) = decide (x < z + 1) by rw [decide_eq_decide]; omega]
        · simp [hy]
      rw [e1, e2]
theorem oneP_end (l : List (List FLit)) (a : FLit) {n A : Nat} (ha : a.fact = (A : Int)) (hn : a.neg = true) {x y : Nat} (hx : x < n) (hy : y < n) : oneP l A n x y = linkP (l ++ [[a]]) x y := by
  rw [linkP_snoc]
  unfold oneP
  congr 2
  simp only [apartC, hn, Bool.true_and, ha]
  have e1 : ((A : Int) == (x : Int)) = decide (x = A) := by rw [Bool.eq_iff_iff]; simp; omega
  have e2 : ((A : Int) == (y : Int)) = decide (y = A) := by rw [Bool.eq_iff_iff]; simp; omega
  rw [e1, e2]; simp [hx, hy]
theorem twoP_end (l : List (List FLit)) (a b : FLit) {A B : Nat} (ha : a.fact = (A : Int)) (hb : b.fact = (B : Int)) (hab : A < B) (hna : a.neg = true) (hnb : b.neg = true) :
    updP (updP (linkP l) A B ((A : Int) != (B : Int))) B A ((A : Int) != (B : Int)) = linkP (l ++ [[a, b]]) := by
  have hv : ((A : Int) != (B : Int)) = true := by simp; omega
  rw [hv]
  funext x y
  rw [linkP_snoc]
  have hap : apartC x y [a, b] = (decide (x = A ∧ y = B) || decide (x = B ∧ y = A)) := by
    simp only [apartC]
    obtain ⟨fa, na⟩ := a
    obtain ⟨fb, nb⟩ := b
    simp only at ha hb hna hnb
    subst ha hb hna hnb
    simp only [FLit.mk.injEq, and_true]
    rw [← Bool.decide_and, ← Bool.decide_or, decide_eq_decide]
    rcases Nat.lt_trichotomy x y with h | h | h
    · rw [if_neg (by omega), if_pos (by omega)]; omega
    · subst h
      simp only [Int.lt_irrefl, if_false, gt_iff_lt]; omega
    · rw [if_pos (by omega), if_neg (by omega)]; omega
  rw [hap]
  unfold updP
  by_cases h1 : x = B ∧ y = A
  · obtain ⟨rfl, rfl⟩ := h1
    rw [if_pos ⟨rfl, rfl⟩]
    have : (x != y) = true := by simp; omega
    rw [this]; simp
  · rw [if_neg h1]
    by_cases h2 : x = A ∧ y = B
    · obtain ⟨rfl, rfl⟩ := h2
      rw [if_pos ⟨rfl, rfl⟩]
      have : (x != y) = true := by simp; omega
      rw [this]; simp
    · rw [if_neg h2, decide_eq_false h1, decide_eq_false h2]; simp
theorem noP_end (l : List (List FLit)) (c : List FLit) (h : ∀ x y, apartC x y c = false) : linkP l = linkP (l ++ [c]) := by
  funext x y; rw [linkP_snoc, h]; simp
/-! ### The program's groups are the reference's -/
def allI (n : Nat) : List Int := (List.range n).map fun (i : Nat) => (i : Int)
theorem allI_mem {n : Nat} {v : Int} : v ∈ allI n ↔ 0 ≤ v ∧ v < n := by
  unfold allI
  rw [List.mem_map]
  constructor
  · rintro ⟨i, hi, rfl⟩; have := List.mem_range.1 hi; omega
  · rintro ⟨h1, h2⟩; exact ⟨v.toNat, List.mem_range.2 (by omega), by omega⟩
theorem allI_nodup (n : Nat) : (allI n).Nodup := by
  unfold allI
  refine List.pairwise_map.2 ?_
  exact List.nodup_range.imp fun {a b} h e => h (by have : (a : Int) = (b : Int) := e; omega)
theorem bk_start (n : Nat) (L : Int → Int → Bool) : BK L n [] (allI n) [] :=
  ⟨by simp, by simp, by simp, fun v => by simp [allI_mem], allI_nodup n, by simp⟩
theorem groupB_iff {l : List (List FLit)} {s : List Int} (hs : s.Nodup) : groupB l s = true ↔ ∀ a ∈ s, ∀ b ∈ s, a ≠ b → apartB l a b = true := by
  unfold groupB
  rw [List.all_eq_true]
  constructor
  · intro h a ha b hb hab
    have key : ∀ i j : Nat, i < j → ∀ x y, s[i]? = some x → s[j]? = some y → apartB l y x = true := by
      intro i j hij x y hx hy
      have := List.all_eq_true.1 (h j (List.mem_range.2 (lt_of_get hy))) x (List.mem_of_getElem? (i := i) (by rw [List.getElem?_take, if_pos hij]; exact hx))
      rw [List.getD_eq_getElem?_getD, hy] at this; exact this
    obtain ⟨i, hi⟩ := List.mem_iff_getElem?.1 ha
    obtain ⟨j, hj⟩ := List.mem_iff_getElem?.1 hb
    rcases Nat.lt_trichotomy i j with h' | h' | h'
    · rw [apartB_swap]; exact key i j h' a b hi hj
    · subst h'; rw [hi] at hj; injection hj with hj; exact absurd hj hab
    · exact key j i h' b a hj hi
  · intro h i hi
    have hi := List.mem_range.1 hi
    rw [List.all_eq_true]
    intro y hy
    obtain ⟨j, hj⟩ := List.mem_iff_getElem?.1 hy
    obtain ⟨hj1, hj2⟩ := get_take hj
    have hx : s[i]? = some s[i] := List.getElem?_eq_getElem hi
    rw [List.getD_eq_getElem?_getD, hx]
    refine h _ (List.getElem_mem hi) _ (List.mem_of_getElem? hj2) ?_
    intro e
    have h1 := List.getElem?_eq_some_iff.1 hj2
    obtain ⟨q1, q2⟩ := h1
    have : s[j] = s[i] := q2.trans e.symm
    exact absurd this (List.pairwise_iff_getElem.1 hs j i q1 hi hj1)
theorem lk_of {l : List (List FLit)} {a b : Int} (ha : 0 ≤ a) (hb : 0 ≤ b) : lkB (linkP l) a b = ((a != b) && apartB l a b) := by
  unfold lkB linkP
  have e1 : ((a.toNat : Nat) : Int) = a := by omega
  have e2 : ((b.toNat : Nat) : Int) = b := by omega
  rw [e1, e2]
  congr 1
  rw [Bool.eq_iff_iff]; simp; omega
theorem isGroup_iff {n : Nat} {l : List (List FLit)} {s : List Int} (h1 : s.Pairwise (· < ·)) (h2 : ∀ v ∈ s, 0 ≤ v ∧ v < (n : Int)) :
    isGroupB n l s = true ↔ Aim (lkB (linkP l)) n [] (allI n) s := by
  have hnd : s.Nodup := h1.imp fun h => by omega
  unfold isGroupB Aim
  rw [Bool.and_eq_true, Bool.and_eq_true, groupB_iff hnd]
  have hm : mostB n l s = true ↔ ∀ v, 0 ≤ v → v < (n : Int) → v ∉ s → groupB l (s ++ [v]) = false := by
    unfold mostB
    rw [Bool.not_eq_true', List.any_eq_false]
    constructor
    · intro h v hv0 hvn hvs
      have := h v.toNat (List.mem_range.2 (by omega))
      have e1 : ((v.toNat : Nat) : Int) = v := by omega
      unfold growB at this
      rw [e1, show s.contains v = false by simpa using hvs] at this
      simpa using this
    · intro h x hx
      have hx := List.mem_range.1 hx
      unfold growB
      cases hc : s.contains (x : Int)
      · rw [h x (by omega) (by omega) (by simpa using hc)]; simp
      · simp
  rw [hm]
  constructor
  · rintro ⟨⟨g0, g1⟩, g2⟩
    have g0 : 2 ≤ s.length := by simp at g0; omega
    refine ⟨⟨h1, h2, fun a ha b hb hab => ?_, fun v hv0 hvn hvs => ?_⟩, by simp, fun v hv => .inr (allI_mem.2 (h2 v hv)), g0⟩
    · rw [lk_of (h2 a ha).1 (h2 b hb).1, g1 a ha b hb hab]; simpa using hab
    · have hnd2 : (s ++ [v]).Nodup := by
        rw [List.nodup_append]
        exact ⟨hnd, by simp, fun a ha b hb e => by simp at hb; subst hb; subst e; exact hvs ha⟩
      have hf := g2 v hv0 hvn hvs
      have : ¬ ∀ a ∈ s, apartB l v a = true := by
        intro hall
        have : groupB l (s ++ [v]) = true := (groupB_iff hnd2).2 fun a ha b hb hab => by
          rcases List.mem_append.1 ha with ha' | ha' <;> rcases List.mem_append.1 hb with hb' | hb'
          · exact g1 a ha' b hb' hab
          · simp only [List.mem_singleton] at hb'; subst hb'; rw [apartB_swap]; exact hall a ha'
          · simp only [List.mem_singleton] at ha'; subst ha'; exact hall b hb'
          · simp only [List.mem_singleton] at ha' hb'; subst ha'; subst hb'; exact absurd rfl hab
        rw [hf] at this; simp at this
      have : ∃ a ∈ s, apartB l v a ≠ true := by
        rcases Classical.em (∃ a ∈ s, apartB l v a ≠ true) with q | q
        · exact q
        · exact absurd (fun a ha => by
            rcases Classical.em (apartB l v a = true) with r | r
            · exact r
            · exact absurd ⟨a, ha, r⟩ q) this
      obtain ⟨a, ha, hq⟩ := this
      refine ⟨a, ha, ?_⟩
      rw [lk_of hv0 (h2 a ha).1]
      have : apartB l v a = false := by simpa using hq
      rw [this]; simp
  · rintro ⟨⟨_, _, g1, g2⟩, _, _, g0⟩
    refine ⟨⟨by simp; omega, fun a ha b hb hab => ?_⟩, fun v hv0 hvn hvs => ?_⟩
    · have := g1 a ha b hb hab
      rw [lk_of (h2 a ha).1 (h2 b hb).1, Bool.and_eq_true] at this; exact this.2
    · obtain ⟨a, ha, hq⟩ := g2 v hv0 hvn hvs
      rw [lk_of hv0 (h2 a ha).1] at hq
      have hne : (v != a) = true := by
        have : v ≠ a := by rintro rfl; exact hvs ha
        simpa using this
      rw [hne, Bool.true_and] at hq
      have hnd2 : (s ++ [v]).Nodup := by
        rw [List.nodup_append]
        exact ⟨hnd, by simp, fun a ha b hb e => by simp at hb; subst hb; subst e; exact hvs ha⟩
      cases hg : groupB l (s ++ [v])
      · rfl
      · have := (groupB_iff hnd2).1 hg v (by simp) a (by simp [ha]) (by simpa using hne)
        rw [hq] at this; simp at this
theorem groups_same (n : Nat) (l : List (List FLit)) {l' : List (List Int)} (hp : l'.Perm (bk (lkB (linkP l)) (n + 1) [] (allI n) [])) (hs : l'.Pairwise ltL) : l' = groupsL n l := by
  have hal : (allI n).length = n := by simp [allI]
  have hsym : ∀ a b, lkB (linkP l) a b = lkB (linkP l) b a := fun a b => linkP_swap l _ _
  have hirr : ∀ a, lkB (linkP l) a a = false := fun a => linkP_self l _
  have hnd : ((statesL n).filter (isGroupB n l)).Nodup := (statesL_nodup n).filter _
  obtain ⟨q1, q2⟩ := insAll _ [] (by simp) hnd (by simp)
  refine ltL_unique hs q1 fun s => ?_
  rw [hp.mem_iff, bk_mem hsym hirr n (n + 1) [] (allI n) [] (by omega) (bk_start n _)]
  show _ ↔ s ∈ ((statesL n).filter (isGroupB n l)).foldl insL []
  rw [q2, List.mem_filter]
  simp only [List.not_mem_nil, or_false]
  constructor
  · intro h
    exact ⟨statesL_all n s h.1.srt h.1.rng, (isGroup_iff h.1.srt h.1.rng).2 h⟩
  · rintro ⟨h1, h2⟩
    have hr := rising_pw (statesL_mem n s h1).2
    exact (isGroup_iff hr.1 fun v hv => by have := hr.2 v hv; omega).1 h2
end Go.Proofs.YtocphglkceidhaaGreat
