/- 'forethoughtlaw06.SearchOptimal' returns true for every task, state and number, and its arguments read as before; conditions: none beyond the row's own (the listed tables hold what the program's text lays). -/
import Derived.Lib.LaidTab
import GoSem.ClaimJoined
import Derived.Lay
import Derived.ProofKit
import Derived.OpenShut
import Derived.LaidMore
import Derived.SevenTiedAt
import Derived.Stop.Joined
import Derived.Test.YtpabiedjneognaaGreatDoorTie
import Derived.Test.YtpabiedjneognaaGreatDoorCards
import Derived.Test.YtpabiedjneognaaGreatDoorBase6
set_option maxRecDepth 20000
set_option linter.unusedVariables false
set_option linter.unusedSimpArgs false
namespace Go.Proofs.YtpabiedjneognaaGreatDoor
open Go.Ahl
theorem best_opt {t : FTask} (hVT : VT t) {s : List Int} {c : Int} {l : List Nat} (h : BestRun false t s c l) : optF t s = c := by
 obtain ⟨⟨v, h1, h2⟩, h3⟩ := h
 refine optF_some ⟨l, v, h1, h2⟩ fun l' w k e g => ?_
 have h4 := h3 l' w k e g (MB + (l.length : Int) + l'.length) (by omega)
 have h5 : (MB + (l.length : Int) + l'.length) * c + l.length ≤ (MB + (l.length : Int) + l'.length) * k + l'.length := h4
 rcases (lexle (M := MB + (l.length : Int) + l'.length) (by omega) (by unfold MB; omega) (by omega) (by unfold MB; omega)).1 h5 with q | q <;> omega
theorem best_short {t : FTask} (hVT : VT t) {s : List Int} {c b : Int} {l : List Nat} {k : Nat} (h : BestRun true t s c l) (h1 : ∃ u, RunK t s k u b ∧ goalT t u = true) (h2 : ∀ u c, RunK t s k u c → goalT t u = true → b ≤ c) (h3 : ∀ k', k' < k → ∀ u c, RunK t s k' u c → goalT t u = false) : l.length = k ∧ c = b := by
 obtain ⟨⟨v, e1, e2⟩, e3⟩ := h
 obtain ⟨u, ⟨l', hl', e'⟩, hg⟩ := h1
 have hk : k ≤ l.length := by
  rcases Nat.lt_or_ge l.length k with q | q
  ·have := h3 _ q v c ⟨l, rfl, e1⟩
   rw [show goalT t v = true from e2] at this; simp at this
  ·exact q
 have hc0 := runD_nn (coO_ok hVT) e1
 have hb0 := runD_nn (coO_ok hVT) e'
 have h4 := e3 l' u b e' hg (MB + c + b) (by omega)
 have h5 : (MB + c + b) * (l.length : Int) + c ≤ (MB + c + b) * (l'.length : Int) + b := h4
 rcases (lexle (M := MB + c + b) hc0.1 (by unfold MB; omega) hb0.1 (by unfold MB; omega)).1 h5 with q | q
 ·omega
 ·have hlk : l.length = k := by omega
  refine ⟨hlk, ?_⟩
  have := h2 v c ⟨l, hlk, e1⟩ e2
  omega
def e_law_0 : List COp := [oS 67 (.load (some 4) (.tmp 3)), oS 68 (.move (.tmp 1)), oS 69 (.load (some 3) (.tmp 7)), oS 70 (.move (.tmp 8)), oS 71 (.load (some 4) (.tmp 3)), oS 72 (.move (.tmp 12)), oS 73 (.move (.tmp 1)), oA 74 (.call (.lit (.func 16 [])) [.tmp 71, .tmp 72, .tmp 73]) [4, 5, 6], oS 75 (.move (.tmp 12)), oA 76 (.blen 1 (.tmp 75)) [8], oS 77 (.move (.tmp 2)), oA 78 (.bin .gtr .none (.tmp 76) (.tmp 77)) [9, 10], oA 79 (.call (.lit (.func 15 [])) [.tmp 67, .tmp 68, .tmp 69, .tmp 70, .tmp 74, .tmp 78]) [0, 1, 2, 3, 7, 11, 7], oA 80 (.un .not (.tmp 79)) [12]]
def d_law_0 : List COp := e_law_0
theorem dr_law_0 (P : Program) (nt n0 : Nat) (Q : Post) (s : Slots) (σ : Store) : wpc P nt n0 (.draw d_law_0) Q s σ = aOpsD P nt e_law_0 (Q .normal) s σ := wpc_draw _ (by decide)
attribute [local go_sem] dr_law_0 e_law_0
def c_law : CCode := .seq (.ops [oS 3 (.box (.tmp 0)), oS 6 (.move (.lit (.bool false)))]) (.seq (.seq (.ops [oS 17 (.load (some 4) (.tmp 3)), oS 18 (.move (.tmp 1)), oS 19 (.call (.lit (.func 8 [])) [.tmp 17, .tmp 18]), oS 20 (.un .not (.tmp 19))]) (.cond (.tmp 20) (.seq (.ops [oS 21 (.call (.lit (.func 9 [])) []), oS 6 (.move (.tmp 21))]) .ret) .skip)) (.seq (.ops [oS 23 (.load (some 4) (.tmp 3)), oS 24 (.move (.tmp 1)), oS 25 (.move (.tmp 2)), oS 26 (.call (.lit (.func 10 [])) [.tmp 23, .tmp 24, .tmp 25]), oS 22 (.move (.tmp 26)), oS 27 (.extract (.tmp 22) 0), oS 28 (.extract (.tmp 22) 1), oS 7 (.alloc (.agg [.bool false, .int .i64 0, .slice .nil []])), oN (.store 3 (.tmp 7) (.tmp 27)), oS 8 (.move (.tmp 28))]) (.seq (.ops [oS 30 (.load (some 4) (.tmp 3)), oS 31 (.move (.tmp 1)), oS 32 (.move (.tmp 2)), oS 33 (.call (.lit (.func 11 [])) [.tmp 30, .tmp 31, .tmp 32]), oS 29 (.move (.tmp 33)), oS 34 (.extract (.tmp 29) 0), oS 35 (.extract (.tmp 29) 1), oS 9 (.alloc (.agg [.bool false, .int .i64 0, .slice .nil []])), oN (.store 3 (.tmp 9) (.tmp 34)), oS 10 (.move (.tmp 35))]) (.seq (.seq (.ops [oS 36 (.load (some 4) (.tmp 3)), oS 37 (.move (.tmp 1)), oS 38 (.move (.tmp 2)), oS 39 (.call (.lit (.func 12 [])) [.tmp 36, .tmp 37, .tmp 38]), oS 11 (.move (.tmp 39))]) (.seq (.ops [oS 40 (.move (.tmp 11)), oS 41 (.bin .neq .none (.tmp 40) (.lit (.int .i64 0)))]) (.cond (.tmp 41) (.seq (.ops [oS 42 (.move (.tmp 8)), oS 43 (.move (.tmp 11)), oS 44 (.bin .eql .none (.tmp 42) (.tmp 43)), oS 45 (.move (.tmp 44)), oG 46 45 true (.move (.tmp 10)), oG 47 45 true (.move (.tmp 11)), oG 48 45 true (.bin .eql .none (.tmp 46) (.tmp 47)), oS 49 (.pick (.tmp 45) (.tmp 48) (.lit (.bool false))), oS 50 (.move (.tmp 49)), oG 51 50 true (.load (some 3) (.tmp 7)), oG 52 50 true (.call (.lit (.func 13 [])) [.tmp 51]), oS 53 (.pick (.tmp 50) (.tmp 52) (.lit (.bool false))), oS 54 (.move (.tmp 53)), oG 55 54 true (.load (some 3) (.tmp 9)), oG 56 54 true (.call (.lit (.func 13 [])) [.tmp 55]), oS 57 (.pick (.tmp 54) (.tmp 56) (.lit (.bool false))), oS 58 (.move (.tmp 57)), oG 59 58 true (.call (.lit (.func 9 [])) []), oS 60 (.pick (.tmp 58) (.tmp 59) (.lit (.bool false))), oS 6 (.move (.tmp 60))]) .ret) .skip))) (.seq (.ops [oS 62 (.load (some 4) (.tmp 3)), oS 63 (.move (.tmp 1)), oS 64 (.call (.lit (.func 14 [])) [.tmp 62, .tmp 63, .lit (.int .i64 600)]), oS 61 (.move (.tmp 64)), oS 65 (.extract (.tmp 61) 0), oS 66 (.extract (.tmp 61) 1), oS 12 (.move (.tmp 65)), oS 13 (.move (.tmp 66))]) (.seq (.seq (.draw d_law_0) (.cond (.tmp 80) (.seq (.ops [oS 6 (.move (.lit (.bool false)))]) .ret) .skip)) (.seq (.ops [oS 82 (.load (some 4) (.tmp 3)), oS 83 (.move (.tmp 12)), oS 84 (.move (.tmp 1)), oS 85 (.call (.lit (.func 17 [])) [.tmp 82, .tmp 83, .tmp 84]), oS 81 (.move (.tmp 85)), oS 86 (.extract (.tmp 81) 0), oS 87 (.extract (.tmp 81) 1), oS 88 (.extract (.tmp 81) 2), oS 14 (.move (.tmp 86)), oS 15 (.move (.tmp 87)), oS 16 (.move (.tmp 88))]) (.seq (.seq (.ops [oS 89 (.move (.tmp 16)), oS 90 (.un .not (.tmp 89))]) (.cond (.tmp 90) (.ops [oS 15 (.move (.lit (.int .i64 (-1))))]) .skip)) (.seq (.ops [oS 91 (.load (some 4) (.tmp 3)), oS 92 (.move (.tmp 1)), oS 93 (.load (some 3) (.tmp 9)), oS 94 (.move (.tmp 10)), oS 95 (.move (.tmp 15)), oS 96 (.move (.tmp 12)), oS 97 (.blen 1 (.tmp 96)), oS 98 (.move (.tmp 2)), oS 99 (.bin .gtr .none (.tmp 97) (.tmp 98)), oS 100 (.call (.lit (.func 15 [])) [.tmp 91, .tmp 92, .tmp 93, .tmp 94, .tmp 95, .tmp 99]), oS 101 (.move (.tmp 100)), oG 102 101 true (.faddr 0 (.tmp 9)), oG 103 101 true (.load none (.tmp 102)), oG 104 101 true (.un .not (.tmp 103)), oG 105 101 true (.move (.tmp 104)), oG 106 105 false (.faddr 2 (.tmp 9)), oG 107 105 false (.load none (.tmp 106)), oG 108 105 false (.blen 1 (.tmp 107)), oG 109 105 false (.move (.tmp 14)), oG 110 105 false (.bin .eql .none (.tmp 108) (.tmp 109)), oG 111 101 true (.pick (.tmp 105) (.lit (.bool true)) (.tmp 110)), oS 112 (.pick (.tmp 101) (.tmp 111) (.lit (.bool false))), oS 113 (.move (.tmp 112)), oG 114 113 true (.call (.lit (.func 9 [])) []), oS 115 (.pick (.tmp 113) (.tmp 114) (.lit (.bool false))), oS 6 (.move (.tmp 115))]) .ret)))))))))
set_option maxHeartbeats 4000000 in
theorem law_spec (t : FTask) (s : List Int) (n : Int) (tok : Ahl.Tok) (σ : Store) (hT : σ[0]? = some tabO) (ht : TB t) (hl : s.length ≤ 140737488355328) :
  ACalls Tryz.prog 3 [.agg (encTask t), .slice tok (s.map Ahl.encI), .int .i64 n] σ (isR (.bool true) σ) := by
 refine ACalls.intro (rs := [(.tmp 6)]) (by kernel_rfl) { own := [], ghosts := [] } Tryz.func3 (c := Tryz.f3.body.getD .skip) (by kernel_rfl) (by decide) (by rw [show Tryz.f3.ntmps = 116 by kernel_rfl]; exact Nat.le_of_ble_eq_true rfl) (by kernel_rfl) ?_
 intro hσ hids
 rw [show comp Tryz.prog { own := [], ghosts := [] } (Tryz.f3.body.getD .skip) = c_law by kernel_rfl, show Tryz.f3.ntmps = 116 by kernel_rfl]
 unfold c_law
 have hil : Ids σ.length (.slice tok (s.map Ahl.encI)) := hids _ (by simp)
 have hT2 : ∀ r, (σ ++ r)[0]? = some tabO := fun r => by rw [List.getElem?_append_left (lt_of_get hT)]; exact hT
 have hfew := fun σ => few06_spec t s tok σ ht hl
 simp only [encTask] at hfew
 simp only [go_sem, simprocAttr, encTask]
 refine (hfew _).mono ?_
 rintro _ _ ⟨rfl, b, rfl, hb⟩
 cases b
 ·simp only [go_sem, simprocAttr]
  refine (awake06_spec _ (hT2 _)).is ?_
  simp only [go_sem, simprocAttr]
  exact rt (.bool true) ⟨rfl, rfl⟩
 obtain ⟨_, hs400, hall⟩ := hb rfl
 have hopt := fun τ hτ => optimal_spec t s n tok τ hτ ht hl
 have hsho := fun τ hτ => shortest_spec t s n tok τ hτ ht hl
 have hfau := fun σ => fault06_spec t s n tok σ ht hl
 simp only [encTask] at hopt hsho hfau
 simp only [go_sem, simprocAttr, encTask]
 refine (hopt _ (hT2 _)).mono ?_
 rintro r1 _ ⟨rfl, hr1⟩
 obtain ⟨b1, c1, tk1, es1, e1, rfl, hi1⟩ := ids_SearchR hr1
 have hsA : ∀ b c tk es, setAll [AV.bool false, .int .i64 0, .slice .nil []] 0 [.bool b, .int .i64 c, .slice tk es] = [.bool b, .int .i64 c, .slice tk es] := fun _ _ _ _ => rfl
 simp only [go_sem, simprocAttr, hsA, encTask]
 refine (hsho _ (hT2 _)).mono ?_
 rintro r2 _ ⟨rfl, hr2⟩
 obtain ⟨b2, c2, tk2, es2, e2, rfl, hi2⟩ := ids_SearchR hr2
 simp only [go_sem, simprocAttr, hsA, encTask]
 refine (hfau _).is ?_
 by_cases h0 : fineS t s n = 0
 rotate_left
 ·have h0' : (fineS t s n != 0) = true := by simpa using h0
  have hee : (fineS t s n == fineS t s n) = true := beq_self_eq_true _
  rcases hr1 with ⟨_, hr1⟩ | ⟨h, _⟩
  rotate_left
  ·exact absurd h h0
  rcases hr2 with ⟨_, hr2⟩ | ⟨h, _⟩
  rotate_left
  ·exact absurd h h0
  simp only [zeroC, AV.tuple.injEq, List.cons.injEq, AV.agg.injEq, AV.bool.injEq, AV.int.injEq, AV.slice.injEq, true_and, and_true] at hr1 hr2
  obtain ⟨⟨rfl, rfl, rfl, rfl⟩, rfl⟩ := hr1
  obtain ⟨⟨rfl, rfl, rfl, rfl⟩, rfl⟩ := hr2
  simp only [go_sem, simprocAttr, h0', hee]
  refine (zero06_spec false 0 .nil [] _).is ?_
  simp only [go_sem, simprocAttr, zeroB]
  refine (zero06_spec false 0 .nil [] _).is ?_
  simp only [go_sem, simprocAttr, zeroB]
  refine (awake06_spec _ (hT2 _)).is ?_
  simp only [go_sem, simprocAttr]
  exact rt (.bool true) ⟨rfl, rfl⟩
 obtain ⟨hv, hst, hn1, hn2⟩ := fineS_ok h0
 have hVT := valid_VT ht hv
 have hwh := valid_WhB hv
 obtain ⟨all, hand, hal, hamem⟩ := hall hv hst
 have hre := fun σ => reach06_spec t s 600 tok σ hVT hwh hst (by omega) (by omega)
 simp only [encTask] at hre
 have h0' : (fineS t s n != 0) = false := by simpa using h0
 simp only [go_sem, simprocAttr, h0', encTask]
 refine (hre _).mono ?_
 rintro _ _ ⟨rfl, ⟨rfl, hmany⟩ | ⟨L, rfl, hL, hLl⟩⟩
 ·obtain ⟨m, q1, q2, q3⟩ := hmany
  have := nodup_len6 q1 (m := all) fun x hx => (hamem x).2 (q2 x hx)
  omega
 have hLO : LOk t s L := ⟨hL, by omega⟩
 have ho6 := fun σ => optimal06_spec t s L .fresh tok σ hVT hwh hLO hst
 have hs6 := fun σ => shortest06_spec t s L .fresh tok σ hVT hwh hLO hst
 simp only [encTask] at ho6 hs6
 have hmn : ManyS t s n → decide ((L.length : Int) > n) = true := fun h => by have := h.not hL; exact decide_eq_true (by omega)
 have hm10 : ¬ ManyS t s 10000 := fun h => by have := h.not hL; omega
 have hA1 : ∀ (σ : Store), ACalls Tryz.prog 15 [.agg (encTask t), .slice tok (s.map Ahl.encI), .agg [.bool b1, .int .i64 c1, .slice tk1 es1], .int .i64 e1, .int .i64 (optF t s), .bool (decide ((L.length : Int) > n))] σ (isR (.bool true) σ) := by
  intro σ
  rcases hr1 with ⟨h, _⟩ | ⟨_, hr1⟩
  ·exact absurd h0 h
  rcases hr1 with ⟨hr1, hm⟩ | ⟨hr1, hno⟩ | ⟨c, l, hr1, hb, hll, _⟩
  ·simp only [zeroC, AV.tuple.injEq, List.cons.injEq, AV.agg.injEq, AV.bool.injEq, AV.int.injEq, AV.slice.injEq, true_and, and_true] at hr1
   obtain ⟨⟨rfl, rfl, rfl, rfl⟩, rfl⟩ := hr1
   rcases hm with hm | hm
   ·rw [hmn hm]; exact answer06_space t s _ tok σ
   ·exact absurd hm hm10
  ·simp only [zeroC, AV.tuple.injEq, List.cons.injEq, AV.agg.injEq, AV.bool.injEq, AV.int.injEq, AV.slice.injEq, true_and, and_true] at hr1
   obtain ⟨⟨rfl, rfl, rfl, rfl⟩, rfl⟩ := hr1
   rw [optF_none hno]
   exact answer06_none t s tok _ σ
  ·simp only [ansC, AV.tuple.injEq, List.cons.injEq, AV.agg.injEq, AV.bool.injEq, AV.int.injEq, AV.slice.injEq, true_and, and_true] at hr1
   obtain ⟨⟨rfl, rfl, rfl, rfl⟩, rfl⟩ := hr1
   rw [best_opt hVT hb]
   obtain ⟨⟨v, h1, h2⟩, _⟩ := hb
   exact answer06_plan t s v l _ tok _ σ hVT hwh hst h1 h2 hll
 simp only [encTask] at hA1
 have ht0 : (([.bool b1, .int .i64 c1, .slice tk1 es1] : List AV).drop 0).take 3 = [.bool b1, .int .i64 c1, .slice tk1 es1] := rfl
 simp only [go_sem, simprocAttr, encTask]
 refine ⟨_, ho6 _, ?_⟩
 simp only [go_sem, simprocAttr, encTask]
 refine ⟨_, hA1 _, ?_⟩
 simp only [go_sem, simprocAttr, encTask]
 refine (hs6 _).mono ?_
 rintro r6 _ ⟨rfl, hr6⟩
 have hA2 : ∃ (k : Int) (cost : Int) (fd : Bool), r6 = .tuple [.int .i64 k, .int .i64 cost, .bool fd] ∧ (∀ (σ : Store), ACalls Tryz.prog 15 [.agg (encTask t), .slice tok (s.map Ahl.encI), .agg [.bool b2, .int .i64 c2, .slice tk2 es2], .int .i64 e2, .int .i64 (if fd then cost else -1), .bool (decide ((L.length : Int) > n))] σ (isR (.bool true) σ)) ∧ (b2 = true → (((es2.length : Nat) : Int) == k) = true) := by
  rcases hr2 with ⟨h, _⟩ | ⟨_, hr2⟩
  ·exact absurd h0 h
  rcases hr2 with ⟨hr2, hm⟩ | ⟨hr2, hno⟩ | ⟨c, l, hr2, hb, hll, _, Ks, hK1, hK2, hK3⟩
  ·simp only [zeroC, AV.tuple.injEq, List.cons.injEq, AV.agg.injEq, AV.bool.injEq, AV.int.injEq, AV.slice.injEq, true_and, and_true] at hr2
   obtain ⟨⟨rfl, rfl, rfl, rfl⟩, rfl⟩ := hr2
   rcases hm with hm | hm
   rotate_left
   ·exact absurd hm hm10
   rcases hr6 with ⟨rfl, _⟩ | ⟨k, b, rfl, _⟩
   ·exact ⟨_, _, _, rfl, fun σ => by rw [hmn hm]; exact answer06_space t s _ tok σ, by simp⟩
   ·exact ⟨_, _, _, rfl, fun σ => by rw [hmn hm]; exact answer06_space t s _ tok σ, by simp⟩
  ·simp only [zeroC, AV.tuple.injEq, List.cons.injEq, AV.agg.injEq, AV.bool.injEq, AV.int.injEq, AV.slice.injEq, true_and, and_true] at hr2
   obtain ⟨⟨rfl, rfl, rfl, rfl⟩, rfl⟩ := hr2
   rcases hr6 with ⟨rfl, _⟩ | ⟨k, b, rfl, ⟨u, ⟨l, _, e⟩, hg⟩, _⟩
   ·exact ⟨_, _, _, rfl, fun σ => answer06_none t s tok _ σ, by simp⟩
   ·have := hno l u b e
    rw [show condHolds u t.goal = true from hg] at this; simp at this
  ·simp only [ansC, AV.tuple.injEq, List.cons.injEq, AV.agg.injEq, AV.bool.injEq, AV.int.injEq, AV.slice.injEq, true_and, and_true] at hr2
   obtain ⟨⟨rfl, rfl, rfl, rfl⟩, rfl⟩ := hr2
   rcases hr6 with ⟨rfl, hno⟩ | ⟨k, b, rfl, q1, q2, q3⟩
   ·obtain ⟨⟨v, h1, h2⟩, _⟩ := hb
    have hKL := nodup_len6 hK1 (m := L) fun x hx => (hL.2 x).2 (hK2 x hx)
    have := hno l.length (by omega) v _ ⟨l, rfl, h1⟩
    rw [show goalT t v = true from h2] at this; simp at this
   ·obtain ⟨hlk, hcb⟩ := best_short hVT hb q1 q2 q3
    obtain ⟨⟨v, h1, h2⟩, _⟩ := hb
    refine ⟨_, _, _, rfl, fun σ => ?_, fun _ => ?_⟩
    ·rw [if_pos rfl, ← hcb]
     exact answer06_plan t s v l _ tok _ σ hVT hwh hst h1 h2 hll
    ·rw [List.length_map]
     simp only [actI, List.length_map, beq_iff_eq]; omega
 obtain ⟨k, cost, fd, rfl, hA2, hlen⟩ := hA2
 simp only [encTask] at hA2
 cases fd
 ·rw [if_neg (by simp)] at hA2
  simp only [go_sem, simprocAttr, encTask]
  refine (hA2 _).is ?_
  cases b2
  ·simp only [go_sem, simprocAttr]
   refine (awake06_spec _ (hT2 _)).is ?_
   simp only [go_sem, simprocAttr]
   exact rt (.bool true) ⟨rfl, rfl⟩
  ·have hlen := hlen rfl
   simp only [go_sem, simprocAttr, hlen]
   refine (awake06_spec _ (hT2 _)).is ?_
   simp only [go_sem, simprocAttr]
   exact rt (.bool true) ⟨rfl, rfl⟩
 ·rw [if_pos rfl] at hA2
  simp only [go_sem, simprocAttr, encTask]
  refine (hA2 _).is ?_
  cases b2
  ·simp only [go_sem, simprocAttr]
   refine (awake06_spec _ (hT2 _)).is ?_
   simp only [go_sem, simprocAttr]
   exact rt (.bool true) ⟨rfl, rfl⟩
  ·have hlen := hlen rfl
   simp only [go_sem, simprocAttr, hlen]
   refine (awake06_spec _ (hT2 _)).is ?_
   simp only [go_sem, simprocAttr]
   exact rt (.bool true) ⟨rfl, rfl⟩
end Go.Proofs.YtpabiedjneognaaGreatDoor
namespace Go.Ahl
section
variable {P : Program}
theorem srel_tab {w : World} {b : Nat} (hg : P.globalNamed "internal/strconv.uint64pow10" = some b) (h : Lib.TabIs P w "internal/strconv.uint64pow10" .u64 Go.Lib.pow10Tab) : SRel (memOf w) [.nowhere] [powObj b] w := by
 have h0 := srel_memOf w
 obtain ⟨arr, t, fz, hb, ha⟩ : ∃ arr t fz, w.heap[b]? = some (.cells arr t fz) ∧ arr = (Go.Lib.pow10Tab.map fun z => Value.int .u64 z).toArray := by
  unfold Lib.TabIs World.var? at h
  rw [hg] at h
  simp only [Option.bind_some] at h
  split at h
  ·rename_i arr t fz hq
   injection h with h
   exact ⟨arr, t, fz, hq, h⟩
  ·simp at h
 refine { len := rfl, im := h0.im, bs := h0.bs, obj := ?_, inj := ?_, lt := ?_, mp := fun b e h => by simp [memOf] at h, mpo := ?_, ok := ⟨Nat.le_refl _, ?_, fun b o K h => by simp [memOf] at h, h0.ok.fz⟩ }
 ·intro i l o h1 h2
  cases i with
  | succ i => simp at h1
  | zero =>
   simp at h1 h2; subst h1; subst h2
   refine ⟨?_, fun i v hv => ?_⟩
   ·simp only [memOf, hb, ha]; simp
   ·simp only [memOf, World.cell?, hb, ha]
    simpa using hv
 ·intro i j l l' o o' k h1 h2 h3 h4 h5
  cases i with
  | succ i => simp at h1
  | zero => simp at h1 h3; subst h1; subst h3; simp [own, powObj] at h5
 ·rintro k ⟨i, e | ⟨_, _, _, e, _⟩⟩ <;> (cases i <;> simp at e)
 ·intro i l o k h1 h2 h3
  cases i with
  | succ i => simp at h1
  | zero => simp at h1 h2; subst h1; subst h2; simp [own, powObj] at h3
 ·rintro k ⟨i, e | ⟨_, _, _, e, _⟩⟩ <;> (cases i <;> simp at e)
end
open Go.ChangeShapes Go.WideShapes Go.ChangeAt Go.RowKit
section
variable {P : Program}
theorem below_of_extT {m m' : Mem} {loc' : List Loc} {w w' : World} {n0 : Nat} (h : Ext n0 m [.nowhere] w m' loc' w') (hz : ∀ b o, m.wk b o = none) : Below w.heap.size w w' :=
 ⟨h.os, h.tape, h.output, h.size, fun b hb => h.frame b hb (by rintro ⟨i, e | ⟨_, _, _, e, _⟩⟩ <;> (cases i <;> simp at e)) (hz b)⟩
theorem tabIs_third {P : Program} {W : World} {name : String} {k : IntKind} {zs : List Int} {x y : String × DataW Unit} {g : Nat} {t e : TypeId} {n : Nat}
  (hg : P.globalNamed name = some g) (hty : (P.globals[g]?).map (·.type) = some t) (ht : P.underlying t = some (.array n e)) (he : P.underlying e = some (.int k)) (hce : P.cellsOf e = 1) (hct : P.cellsOf t = n)
  (h : laidMet P [x, y, (name, Lib.tabData k zs)] W) : Lib.TabIs P W name k zs := by
 obtain ⟨x1, x2⟩ := x
 obtain ⟨y1, y2⟩ := y
 obtain ⟨ps, ⟨_, _, _, _, _, _, _, _, _, _, ⟨_, _, _, _, _, _, _, _, _, _, ⟨g', t', cs, fuel, p, q, hg', ht', hvar, hd, _, _⟩, _⟩, _⟩, _⟩ := h
 obtain rfl := Option.some.inj (hg.symm.trans hg')
 obtain rfl := Option.some.inj (hty.symm.trans ht')
 unfold Lib.TabIs
 rw [hvar, ← Lib.cells_of_tab ht he hce hct hd]
theorem law_postT {H : Type} {enc : TypeId × Value → H} {f : FuncId} {fn : Func} {s : ChangeSpec} {tb : TypeId} (hf : P.funcs[f]? = some fn) (hb : fn.body.isSome = true) (hn : fn.name ≠ "runtime.NumGoroutine")
  (hs0 : s.vars = []) (hs : ∀ ds : List (DataW H), ds.length = fn.params.size → s.fn H ds = { results := [.lit (.bool true)], args := ds })
  (hl : laidOutB P = true) (hr : ∀ t ∈ fn.params.toList, P.readableRec t = true ∧ t < P.types.size) (hres : fn.resultTypes = #[tb]) (hbool : P.underlying tb = some .bool)
  {g : Nat} (hg : P.globalNamed "internal/strconv.uint64pow10" = some g) (hA : ReadsAll P fn.params.toList fun avs => ACalls P f avs [powObj g] (isR (.bool true) [powObj g]))
  {W : World} {base : Nat} {args : Array Value} {ds gs : List (DataW H)} {before : List MemPlace} (hval : ∀ (j : Nat) t v, fn.params[j]? = some t → args[j]? = some v → Value.okWide P W .any base t v)
  (hW : DataW.Whole enc P fn.params.toList s.vars false W args.toList ds gs before)
  (hT0 : Lib.TabIs P W "internal/strconv.uint64pow10" .u64 Go.Lib.pow10Tab) (hsz : (DataW.weightsEach P (fn.params.toList ++ s.plain.varTypes P) (ds ++ gs)).all (· ≤ reachBytes) = true) :
  Calls P f args W fun e W' => ∃ v, e = .returned v ∧ s.post enc P fn false true false false W args v W' := by
 have hW' := hW
 obtain ⟨p, q, hT, hV, rfl, hfz, hnd⟩ := hW
 rw [hs0] at hV
 obtain ⟨rfl, rfl⟩ := trodVars_none hV
 have hpl : s.plain.varTypes P = [] := by simp [DataSpec.varTypes, ChangeSpec.plain, hs0]
 rw [hpl, List.append_nil, List.append_nil] at hsz
 obtain ⟨avs, h1, h2, h3⟩ := hA H enc W base args.toList ds p (fun j t v a b => hval j t v (by simpa using a) (by simpa using b)) hT (fun x hx => by simpa using List.all_eq_true.1 hsz x hx)
 refine (h1.calls hf hb hn (srel_tab hg hT0) ⟨by simpa using h2, fun j x v a b => Rel.mono (loc := []) (loc' := [.nowhere]) (.refl _) (fun i l hi e => by simp at e) (h3 j x v a (by simpa using b))⟩).mono ?_
 rintro e W' ⟨v, rfl, r, σ', m', loc', ⟨rfl, rfl⟩, hrel, hsr, hext⟩
 have hv : v = .bool true := by cases hrel; rfl
 subst hv
 have hbl := below_of_extT hext (fun _ _ => rfl)
 have hlt : ∀ x ∈ p, x.block < W.heap.size := fun x hx => hW'.lt x (by simpa using hx)
 have hlen : ds.length = fn.params.size := by
  have : ∀ (ts : List TypeId) (vs : List Value) (ds : List (DataW H)) (ps : List MemPlace), DataW.TrodAll enc P W 0 (fun _ => true) true ts vs ds ps → ds.length = ts.length := by
   intro ts
   induction ts with
   | nil => intro vs ds ps h; obtain ⟨_, rfl, _⟩ := trodAll_nil h; rfl
   | cons t ts ih => intro vs ds ps h; obtain ⟨v, vs', d, ds', p, q, rfl, rfl, rfl, h1, h2⟩ := trodAll_cons h; simp [ih _ _ _ h2]
  simpa using this _ _ _ _ hT
 have hsp := hs (ds ++ []) (by simpa using hlen)
 refine ⟨_, rfl, post_same (pa := p) (pv := []) hW' ?_ ?_ ?_ rfl (hbl.frame _) (fun a ha => hbl.frozen ha) ?_⟩
 ·intro b sp hd
  rw [hsp, hres]
  exact trodAll_mk1 (shut_bool hbool _)
 ·intro sp hsp'
  rw [hsp, List.append_nil]
  exact trodAll_stays hl hr hT (fun x hx => hbl.same (hlt x hx)) (fun x hx => hsp' x (by simpa using hx))
 ·intro sp hsp'
  rw [hsp, hs0]; exact rfl
 ·exact ok_one hres rfl (okWide_bool_mk hbool _)
end
end Go.Ahl
namespace Go.Proofs.YtpabiedjneognaaGreatDoor
open Go.Ahl Go.ChangeShapes Go.WideShapes Go.ChangeAt Go.RowKit
abbrev rowLaid : List (String × DataW Unit) := [("math/bits.deBruijn32tab", Rows.laid_math_bits_deBruijn32tab), ("math/bits.deBruijn64tab", Rows.laid_math_bits_deBruijn64tab), ("internal/strconv.uint64pow10", Rows.laid_internal_strconv_uint64pow10)]
theorem pow_data : (Rows.laid_internal_strconv_uint64pow10 : DataW Unit) = Lib.tabData .u64 Go.Lib.pow10Tab := rfl
theorem tab_of_laid {W : World} (h : laidMetH Tryz.prog rowLaid W) : Lib.TabIs Tryz.prog W "internal/strconv.uint64pow10" .u64 Go.Lib.pow10Tab := by
 rw [MakeChecks.laidMetH_plain _ _ _ (by kernel_rfl)] at h
 unfold rowLaid at h
 rw [pow_data] at h
 exact tabIs_third (t := 218) (e := 182) (n := 20) tab_named (by kernel_rfl) (by kernel_rfl) (by kernel_rfl) (by kernel_rfl) (by kernel_rfl) h
theorem laid_met (os : Os) (args : Array Value) : laidMetH Tryz.prog rowLaid ((World.laidAll Tryz.prog os rowLaid).forCall (fun _ _ => 0) ⟨#[], args, []⟩).memory := by
 rw [MakeChecks.laidMetH_plain _ _ _ (by kernel_rfl)]; exact laidMet_laidAll _ (by kernel_rfl) (by kernel_rfl)
end Go.Proofs.YtpabiedjneognaaGreatDoor
namespace Go.Proofs.YtpabiedjneognaaGreatDoor
open Go.Ahl Go.ChangeShapes Go.WideShapes Go.ChangeAt Go.RowKit
theorem law_reads : ReadsAll Tryz.prog Tryz.f3.params.toList (fun avs => ACalls Tryz.prog 3 avs [tabO] (isR (.bool true) [tabO])) := by
 rw [show Tryz.f3.params.toList = [27, 23, 3] by kernel_rfl]
 exact .cons ra_task fun t ht => .cons ra_ints fun s hs => .cons ra_int fun n hn => .nil (law_spec t s n Ahl.Tok.unk [tabO] rfl ht hs.1)
set_option maxRecDepth 100000 in
theorem lifted (os : Os) (started : os.Started) (H : Type) (enc : TypeId × Value → H) :
  ReturnsInHanded {} Tryz.checked os 3 .any (fun w args => (Rows.searchOptimalSpec.pre enc Tryz.prog Tryz.f3 Rows.searchOptimalRow.domain false w args ∧ laidMetH Tryz.prog rowLaid w) ∧ sizedMet enc Tryz.prog Tryz.f3 (OpenSpec.ofChange Rows.searchOptimalSpec) false w args)
   (Rows.searchOptimalSpec.post enc Tryz.prog Tryz.f3 false true false false) := by
 refine returnsInHanded_of_change_and (C := Tryz.checked) (X := fun w _ => laidMetH Tryz.prog rowLaid w) (fun _ _ _ hh h => h.of_heap hh) own started (by kernel_rfl) Tryz.func3
  (ChangeSpec.witness_shaped (enc := enc) (C := Tryz.checked) (os := os) (X := fun w _ => laidMetH Tryz.prog rowLaid w) false (World.laidAll Tryz.prog os rowLaid) #[.agg #[.slice none 0 0, .slice none 0 0, .slice none 0 0, .slice none 0 0], .slice none 0 0, .int .i64 0] 8 (World.laidAll_os _ _ _)
   (World.shaped_of_ZipB (by kernel_rfl) (by kernel_rfl)) (by kernel_rfl) (by kernel_rfl) (by kernel_rfl) (laid_met os _)) ?_
 intro W base args ds gs before hval hW _ hsz hL _
 refine law_postT (P := Tryz.prog) Tryz.func3 (by kernel_rfl) (by decide) rfl ?_ laidOut (rdble (by kernel_rfl)) (by kernel_rfl) Tryz.underlying4 tab_named law_reads hval hW (tab_of_laid hL) hsz
 intro ds h
 rw [show Tryz.f3.params.size = 3 by kernel_rfl] at h
 match ds, h with
 | [a, b, c], _ => rfl
theorem row_holds : Rows.SearchOptimalSaid :=
 OpenClaim.holds_of_wide 3 Tryz.f3 rfl rfl rfl rfl rfl rfl rfl ⟨rfl, rfl, rfl, rfl, rfl⟩ rfl rfl rfl rfl rfl (by kernel_rfl) Tryz.func3 (by kernel_rfl)
  (of_decide_eq_true (by kernel_rfl)) (by unfold Func.isWrapper; first | (rw [if_pos (by decide +kernel)]; kernel_rfl) | (rw [if_neg (by decide +kernel)]; exact ⟨rfl, rfl⟩))
  (fun os started H enc _ => lifted os started H enc)
theorem holds : Rows.SearchOptimalCardSaid :=
 Claim7.holds_tied_plain_at .later [] [.data, .data, .data] true (true, "4b5b9ffcc6f8df805ecff25f1710d253db95cba1634782edf60db549af1a9c7c") true
  row_holds (fun _ h => by cases h) (by kernel_rfl) (fun _ h => by cases h) searchOptimal_row_tie rfl ⟨rfl, rfl⟩ (by kernel_rfl) rfl
  (fun f fn hf hfn => by
   obtain rfl : f = 3 := Option.some.inj ((show Tryz.prog.funcNamed "forethought/forethoughtlaw06.SearchOptimal" = some 3 by kernel_rfl).symm.trans hf) |>.symm
   obtain rfl : fn = Tryz.f3 := (Option.some.inj (Eq.trans (Eq.symm Tryz.func3) hfn)).symm
   exact ⟨by kernel_rfl, fun j t ht => by
    have hall : (Tryz.f3.params.toList.all fun u => !Tryz.prog.wantsStandIn u) = true := by kernel_rfl
    have hm : t ∈ Tryz.f3.params.toList := by simpa using Array.mem_of_getElem? ht
    show Tryz.prog.wantsStandIn t = false
    simpa using List.all_eq_true.1 hall t hm⟩)
  (by kernel_rfl)
end Go.Proofs.YtpabiedjneognaaGreatDoor
