/- 'forethoughtlaw06.SearchLaws' returns true for every task, state and list (tied card). -/
import Derived.Lib.LaidTab
import GoSem.ClaimJoined
import Derived.Lay
import Derived.ProofKit
import Derived.OpenShut
import Derived.LaidMore
import Derived.SevenTiedAt
import Derived.Stop.Joined
import Derived.Test.YtpabiedjneognaaGreatDoorTie
import Derived.Test.YtpabiedjneognaaGreatDoorCards
import Derived.Test.YtpabiedjneognaaGreatDoorBase6
set_option maxRecDepth 20000
set_option linter.unusedVariables false
set_option linter.unusedSimpArgs false
namespace Go.Proofs.YtpabiedjneognaaGreatDoor
open Go.Ahl
theorem minOf_ex {P : Int → Prop} (h0 : ∀ c, P c → 0 ≤ c) : ∃ v, MinOf P v := by
 by_cases h : ∃ c, P c
 ·obtain ⟨c, hc⟩ := h
  have key : ∀ (n : Nat) (c : Int), P c → c ≤ n → ∃ v, MinOf P v := by
   intro n
   induction n with
   | zero => intro c hc hle; exact ⟨c, .inr ⟨h0 c hc, hc, fun d hd => by have := h0 d hd; omega⟩⟩
   | succ n ih =>
    intro c hc hle
    by_cases q : ∃ d, P d ∧ d ≤ n
    ·obtain ⟨d, hd, hdn⟩ := q; exact ih d hd hdn
    ·refine ⟨c, .inr ⟨h0 c hc, hc, fun d hd => ?_⟩⟩
     by_cases e : d ≤ (n : Int)
     ·exact absurd ⟨d, hd, e⟩ q
     ·omega
  exact key c.toNat c hc (by have := h0 c hc; omega)
 ·exact ⟨-1, .inl ⟨rfl, fun c hc => h ⟨c, hc⟩⟩⟩
theorem run_app {t : FTask} {l' : List Nat} {u v : List Int} {c' : Int} (h' : RunT t l' u v c') : ∀ {l : List Nat} {s : List Int} {c : Int}, RunT t l s u c → RunT t (l ++ l') s v (c + c')
 | [], s, c, h => by
  simp only [RunT, runD, Option.some.injEq, Prod.mk.injEq] at h
  obtain ⟨rfl, rfl⟩ := h
  simpa using h'
 | a :: l, s, c, h => by
  obtain ⟨w, k, ha, hs, hr, rfl⟩ := run_cons h
  have := run_mk ha hs (run_app h' hr)
  rw [List.cons_append, Int.add_assoc]
  exact this
theorem goalC_min {t : FTask} (hVT : VT t) (u : List Int) : MinOf (GoalC t u) (optF t u) := by
 obtain ⟨v, hv⟩ := minOf_ex (P := GoalC t u) fun c h => goalC_nn hVT h
 rcases id hv with ⟨rfl, h⟩ | ⟨h0, ⟨l, w, e, g⟩, h⟩
 ·rw [optF_none fun l w k e => by
   cases hg : goalT t w
   ·rfl
   ·exact absurd ⟨l, w, e, hg⟩ (h k)]
  exact hv
 ·rw [optF_some ⟨l, w, e, g⟩ fun l w k e g => h k ⟨l, w, e, g⟩]
  exact hv
theorem frF_min {t : FTask} (hVT : VT t) (s u : List Int) : MinOf (fun c => ∃ l, RunT t l s u c) (frF t s u) := by
 obtain ⟨v, hv⟩ := minOf_ex (P := fun c => ∃ l, RunT t l s u c) fun c ⟨l, h⟩ => (runD_nn (coO_ok hVT) h).1
 rw [frF_eq hv]; exact hv
theorem frF_pos {t : FTask} (hVT : VT t) {s u : List Int} (hu : RchO t s u) : 0 ≤ frF t s u ∧ ∃ l, RunT t l s u (frF t s u) := by
 obtain ⟨_, l, k, h⟩ := hu
 rcases frF_min hVT s u with ⟨_, q⟩ | ⟨q1, q2, _⟩
 ·exact absurd ⟨l, h⟩ (q k)
 ·exact ⟨q1, q2⟩
theorem goal_zero {t : FTask} (hVT : VT t) {u : List Int} (hg : goalT t u = true) : optF t u = 0 :=
 optF_some ⟨[], u, rfl, hg⟩ fun l w k e g => (runD_nn (coO_ok hVT) e).1
theorem best_cost {t : FTask} {s : List Int} {c : Int} {l : List Nat} (h : BestRun false t s c l) {l' : List Nat} {v : List Int} {k : Int} (hr : RunT t l' s v k) (hg : goalT t v = true) : c ≤ k := by
 have a := h.2 l' v k hr hg (MB + (l.length : Int) + l'.length) (by omega)
 have a : (MB + (l.length : Int) + l'.length) * c + l.length ≤ (MB + (l.length : Int) + l'.length) * k + l'.length := a
 rcases (lexle (M := MB + (l.length : Int) + l'.length) (by omega) (by unfold MB; omega) (by omega) (by unfold MB; omega)).1 a with q | q <;> omega
theorem best_len {t : FTask} (hVT : VT t) {s : List Int} {c : Int} {l : List Nat} (h : BestRun true t s c l) {l' : List Nat} {v : List Int} {k : Int} (hr : RunT t l' s v k) (hg : goalT t v = true) : l.length ≤ l'.length := by
 obtain ⟨⟨w, e1, e2⟩, h3⟩ := h
 have hc := (runD_nn (coO_ok hVT) e1).1
 have hk := (runD_nn (coO_ok hVT) hr).1
 have a := h3 l' v k hr hg (MB + c + k) (by omega)
 have a : (MB + c + k) * (l.length : Int) + c ≤ (MB + c + k) * (l'.length : Int) + k := a
 rcases (lexle (M := MB + c + k) hc (by unfold MB; omega) hk (by unfold MB; omega)).1 a with q | q <;> omega
theorem best_sum {t : FTask} (hVT : VT t) {s u : List Int} {c : Int} {l : List Nat} (h : BestRun false t s c l) (hu : RchO t s u) (ho : 0 ≤ optF t u) : c ≤ frF t s u + optF t u := by
 obtain ⟨_, l1, h1⟩ := frF_pos hVT hu
 obtain ⟨⟨l2, w, h2, hg⟩, _⟩ := (goalC_min hVT u).pos ho
 exact best_cost h (run_app h2 h1) hg
def NearI (t : FTask) (s : List Int) (L : List (List Int)) (i : Nat) (n : Int) : Prop := MinOf (fun c => ∃ u ∈ L.take i, goalT t u = true ∧ frF t s u = c) n
theorem NearI.start (t : FTask) (s : List Int) (L : List (List Int)) : NearI t s L 0 (-1) := .none fun c => by rintro ⟨u, hu, _⟩; simp at hu
theorem NearI.take {t : FTask} {s : List Int} {L : List (List Int)} {i : Nat} {n : Int} {u : List Int} (h : NearI t s L i n) (hx : L[i]? = some u) (h0 : 0 ≤ frF t s u) (hg : goalT t u = true) (hn : n < 0 ∨ frF t s u < n) : NearI t s L (i + 1) (frF t s u) := by
 refine .inr ⟨h0, ⟨u, by rw [take_succ' hx]; simp, hg, rfl⟩, ?_⟩
 rintro c ⟨w, hw, hgw, rfl⟩
 rw [take_succ' hx] at hw
 rcases List.mem_append.1 hw with hw | hw
 ·rcases hn with hn | hn
  ·exact absurd ⟨w, hw, hgw, rfl⟩ (h.neg hn _)
  ·have := (h.pos (by omega)).2 _ ⟨w, hw, hgw, rfl⟩
   omega
 ·simp at hw; subst hw; exact Int.le_refl _
theorem NearI.skip {t : FTask} {s : List Int} {L : List (List Int)} {i : Nat} {n : Int} {u : List Int} (h : NearI t s L i n) (hx : L[i]? = some u) (hn : goalT t u = true → 0 ≤ n ∧ n ≤ frF t s u) : NearI t s L (i + 1) n := by
 have hs : ∀ w, w ∈ L.take (i + 1) ↔ w ∈ L.take i ∨ w = u := fun w => by rw [take_succ' hx]; simp
 rcases id h with ⟨rfl, q⟩ | ⟨q0, ⟨w, hw, hgw, hf⟩, q⟩
 ·refine .inl ⟨rfl, ?_⟩
  rintro c ⟨w, hw, hgw, hf⟩
  rcases (hs w).1 hw with hw | rfl
  ·exact q c ⟨w, hw, hgw, hf⟩
  ·have := hn hgw; omega
 ·refine .inr ⟨q0, ⟨w, (hs w).2 (.inl hw), hgw, hf⟩, ?_⟩
  rintro c ⟨w, hw, hgw, rfl⟩
  rcases (hs w).1 hw with hw | rfl
  ·exact q _ ⟨w, hw, hgw, rfl⟩
  ·exact (hn hgw).2
theorem NearI.some {t : FTask} (hVT : VT t) {s : List Int} (hst : StOk t s) {L : List (List Int)} (hL : RchL t s L) {n c : Int} {l : List Nat} (h : NearI t s L L.length n) (hb : BestRun false t s c l) : n = c := by
 obtain ⟨⟨v, e, g⟩, _⟩ := id hb
 have hv : RchO t s v := by
  have := run_ok hVT l s c hst e
  exact ⟨this, l, c, e⟩
 have hvm : v ∈ L.take L.length := by rw [List.take_length]; exact (hL.2 v).2 hv
 rcases h with ⟨_, q⟩ | ⟨q0, ⟨w, hw, hgw, rfl⟩, q⟩
 ·exact absurd ⟨v, hvm, g, rfl⟩ (q _)
 ·have h1 := q _ ⟨v, hvm, g, rfl⟩
  rw [List.take_length] at hw
  have hwr := (hL.2 w).1 hw
  have h2 : frF t s v ≤ c := by
   rcases frF_min hVT s v with ⟨_, r⟩ | ⟨_, _, r⟩
   ·exact absurd ⟨l, e⟩ (r c)
   ·exact r c ⟨l, e⟩
  have h3 := best_sum hVT hb hwr (by rw [goal_zero hVT hgw]; exact Int.le_refl _)
  rw [goal_zero hVT hgw] at h3
  omega
theorem NearI.none {t : FTask} {s : List Int} {L : List (List Int)} (hL : RchL t s L) {n : Int} (h : NearI t s L L.length n) (hno : ∀ l v c, RunT t l s v c → goalT t v = false) : n = -1 := by
 rcases h with ⟨rfl, _⟩ | ⟨q0, ⟨w, hw, hgw, rfl⟩, q⟩
 ·rfl
 ·rw [List.take_length] at hw
  obtain ⟨_, l, k, e⟩ := (hL.2 w).1 hw
  rw [hno l w k e] at hgw; simp at hgw
def cntD (D : List Int → Int) (L : List (List Int)) (v : Int) : Nat := L.countP fun x => decide (D x < v)
theorem cntD_le (D : List Int → Int) (L : List (List Int)) (v : Int) : cntD D L v ≤ L.length := List.countP_le_length
theorem cntD_mono (D : List Int → Int) {v w : Int} (h : v ≤ w) : ∀ L : List (List Int), cntD D L v ≤ cntD D L w
 | [] => Nat.le_refl _
 | x :: L => by
  have ih := cntD_mono D h L
  unfold cntD at ih ⊢
  rw [List.countP_cons, List.countP_cons]
  by_cases q : D x < v
  ·rw [if_pos (by simpa using q), if_pos (by simp; omega)]; omega
  ·rw [if_neg (by simpa using q)]; omega
theorem cntD_lt (D : List Int → Int) {w : List Int} {v : Int} (h : D w < v) : ∀ {L : List (List Int)}, w ∈ L → cntD D L (D w) + 1 ≤ cntD D L v
 | [], hw => by simp at hw
 | x :: L, hw => by
  have hm := cntD_mono D (Int.le_of_lt h) L
  rcases List.mem_cons.1 hw with rfl | hw
  ·unfold cntD at hm ⊢
   rw [List.countP_cons, List.countP_cons, if_neg (by simp), if_pos (by simpa using h)]; omega
  ·have ih := cntD_lt D h hw
   unfold cntD at ih ⊢
   rw [List.countP_cons, List.countP_cons]
   by_cases q : D x < D w
   ·rw [if_pos (by simpa using q), if_pos (by simp; omega)]; omega
   ·rw [if_neg (by simpa using q)]; omega
theorem fr_bound {t : FTask} (hVT : VT t) {s : List Int} (hst : StOk t s) {L : List (List Int)} (hL : RchL t s L) : ∀ (n : Nat) (l : List Nat) (u : List Int), l.length = n → RunT t l s u (frF t s u) → frF t s u ≤ 100000 * (cntD (frF t s) L (frF t s u) : Int)
 | 0, l, u, hn, h => by
  obtain rfl := List.length_eq_zero_iff.1 hn
  simp only [RunT, runD, Option.some.injEq, Prod.mk.injEq] at h
  omega
 | n + 1, l, u, hn, h => by
  obtain ⟨l0, a, rfl⟩ : ∃ l0 a, l = l0 ++ [a] := by
   rcases List.eq_nil_or_concat l with rfl | ⟨l0, a, rfl⟩
   ·simp at hn
   ·exact ⟨l0, a, by simp⟩
  obtain ⟨w, k, e, ha, hs, hk⟩ := runD_last h
  have hwr : RchO t s w := ⟨run_ok hVT l0 s k hst e, l0, k, e⟩
  obtain ⟨hw0, l1, hl1⟩ := frF_pos hVT hwr
  have hco := coO_ok hVT a ha
  have h1 : frF t s w ≤ k := by
   rcases frF_min hVT s w with ⟨_, q⟩ | ⟨_, _, q⟩
   ·exact absurd ⟨l0, e⟩ (q k)
   ·exact q k ⟨l0, e⟩
  have h2 : frF t s u ≤ frF t s w + coO t a := by
   have hr := runD_snoc hl1 ha hs
   rcases frF_min hVT s u with ⟨_, q⟩ | ⟨_, _, q⟩
   ·exact absurd ⟨_, hr⟩ (q _)
   ·exact q _ ⟨_, hr⟩
  obtain rfl : k = frF t s w := by omega
  have ih := fr_bound hVT hst hL n l0 w (by simpa using hn) e
  rcases Int.lt_or_le (frF t s w) (frF t s u) with q | q
  ·have := cntD_lt (frF t s) q ((hL.2 w).2 hwr)
   omega
  ·have : frF t s w = frF t s u := by omega
   rw [this] at ih; exact ih
theorem fr_small {t : FTask} (hVT : VT t) {s : List Int} (hst : StOk t s) {L : List (List Int)} (hL : RchL t s L) {u : List Int} (hu : u ∈ L) : 0 ≤ frF t s u ∧ frF t s u ≤ 100000 * (L.length : Int) := by
 obtain ⟨h0, l, h⟩ := frF_pos hVT ((hL.2 u).1 hu)
 have := fr_bound hVT hst hL _ l u rfl h
 have := cntD_le (frF t s) L (frF t s u)
 exact ⟨h0, by omega⟩
theorem opt_bound {t : FTask} (hVT : VT t) {s : List Int} {L : List (List Int)} (hL : RchL t s L) : ∀ (l : List Nat) (u w : List Int), u ∈ L → RunT t l u w (optF t u) → goalT t w = true → optF t u ≤ 100000 * (cntD (optF t) L (optF t u) : Int)
 | [], u, w, _, h, _ => by
  simp only [RunT, runD, Option.some.injEq, Prod.mk.injEq] at h
  omega
 | a :: l, u, w, hu, h, hg => by
  obtain ⟨x, k, ha, hs, e, hk⟩ := run_cons h
  have hx : x ∈ L := (hL.2 x).2 (rchO_step hVT ((hL.2 u).1 hu) ha hs)
  have hco := coO_ok hVT a ha
  have hk0 := (runD_nn (coO_ok hVT) e).1
  have h1 : 0 ≤ optF t x ∧ optF t x ≤ k ∧ GoalC t x (optF t x) := by
   rcases goalC_min hVT x with ⟨_, q⟩ | ⟨q0, q1, q⟩
   ·exact absurd ⟨l, w, e, hg⟩ (q k)
   ·exact ⟨q0, q k ⟨l, w, e, hg⟩, q1⟩
  obtain ⟨h10, h11, l2, y, h12, h13⟩ := h1
  have h2 : optF t u ≤ coO t a + optF t x := by
   have hr := run_mk ha hs h12
   rcases goalC_min hVT u with ⟨_, q⟩ | ⟨_, _, q⟩
   ·exact absurd ⟨_, _, hr, h13⟩ (q _)
   ·exact q _ ⟨_, _, hr, h13⟩
  obtain rfl : k = optF t x := by omega
  have ih := opt_bound hVT hL l x w hx e hg
  rcases Int.lt_or_le (optF t x) (optF t u) with q | q
  ·have := cntD_lt (optF t) q hx
   omega
  ·have : optF t x = optF t u := by omega
   rw [this] at ih; exact ih
theorem opt_small {t : FTask} (hVT : VT t) {s : List Int} {L : List (List Int)} (hL : RchL t s L) {u : List Int} (hu : u ∈ L) : -1 ≤ optF t u ∧ optF t u ≤ 100000 * (L.length : Int) := by
 rcases goalC_min hVT u with ⟨q, _⟩ | ⟨q0, ⟨l, w, e, g⟩, _⟩
 ·omega
 ·have := opt_bound hVT hL l u w hu e g
  have := cntD_le (optF t) L (optF t u)
  exact ⟨by omega, by omega⟩
theorem run_exec {t : FTask} (hVT : VT t) {s p : List Int} (hst : StOk t s) (hpl : p.length ≤ 1000000) (hp : ∀ n ∈ p, 0 ≤ n ∧ n < t.actions.length) : ∀ k, k ≤ stopN t s p → RunT t ((p.take k).map Int.toNat) s (stk t s p k) (costK t p k)
 | 0, _ => rfl
 | k + 1, hk => by
  have ih := run_exec hVT hst hpl hp k (by omega)
  obtain ⟨h1, h2⟩ := stopN_lt.1 (by omega : k < stopN t s p)
  obtain ⟨n, hn⟩ := get_ex h1
  have hnr := hp n (List.mem_of_getElem? hn)
  have hn2 : n.toNat < t.actions.length := by omega
  obtain ⟨a, ha⟩ := get_ex hn2
  have hcan := h2 k (Nat.le_refl _)
  have hpre : condHolds (stk t s p k) a.pre = true := by
   unfold canB at hcan; rw [hn, Option.bind_some, ha] at hcan; exact hcan
  have hnx : stO t (stk t s p k) n.toNat = some (stk t s p (k + 1)) := by
   unfold stO; rw [ha]; simp only; rw [if_pos hpre, stk, hn, Option.bind_some, ha]
  have hco : coO t n.toNat = a.cost := by unfold coO; rw [ha]
  have hrn := runD_nn (coO_ok hVT) ih
  have hz := hVT.cost a (List.mem_of_getElem? ha)
  have hlen : ((p.take k).map Int.toNat).length ≤ 1000000 := by rw [List.length_map, List.length_take]; omega
  have hck : costK t p (k + 1) = costK t p k + coO t n.toNat := by
   rw [costK, hn, Option.bind_some, ha, hco]
   exact wrap_ok (by omega)
  rw [take_succ' hn, List.map_append, hck]
  exact runD_snoc ih hn2 hnx
def c_sholds : CCode := .seq (.ops [oS 3 (.box (.tmp 0)), oS 6 (.move (.lit (.bool false))), oS 7 (.move (.lit (.int .i64 0)))]) (.seq (.seq (.ops [oS 9 (.load (some 4) (.tmp 3)), oS 10 (.move (.tmp 1)), oS 11 (.call (.lit (.func 69 [])) [.tmp 9, .tmp 10]), oS 8 (.move (.tmp 11))]) (.seq (.ops [oS 12 (.move (.tmp 8)), oS 13 (.bin .neq .none (.tmp 12) (.lit (.int .i64 0)))]) (.cond (.tmp 13) (.seq (.ops [oS 14 (.move (.tmp 8)), oS 6 (.move (.lit (.bool false))), oS 7 (.move (.tmp 14))]) .ret) .skip))) (.seq (.seq (.ops [oS 15 (.faddr 0 (.tmp 3)), oS 16 (.load none (.tmp 15)), oS 17 (.blen 1 (.tmp 16)), oS 18 (.move (.tmp 2)), oS 19 (.call (.lit (.func 70 [])) [.tmp 17, .tmp 18]), oS 20 (.un .not (.tmp 19))]) (.cond (.tmp 20) (.seq (.ops [oS 6 (.move (.lit (.bool false))), oS 7 (.move (.lit (.int .i64 1)))]) .ret) .skip)) (.seq (.ops [oS 21 (.move (.tmp 1)), oS 22 (.move (.tmp 2)), oS 23 (.call (.lit (.func 54 [])) [.tmp 21, .tmp 22]), oS 6 (.move (.tmp 23)), oS 7 (.move (.lit (.int .i64 0)))]) .ret)))
theorem sholds_spec (t : FTask) (u : List Int) (tok : Ahl.Tok) (σ : Store) (hVT : VT t) (hv : validB t = true) (hst : StOk t u) :
  ACalls Tryz.prog 32 [.agg (encTask t), .slice tok (u.map Ahl.encI), .slice .unk (t.goal.map encLit)] σ (isR (.tuple [.bool (goalT t u), .int .i64 0]) σ) := by
 refine ACalls.intro (rs := [(.tmp 6), (.tmp 7)]) (by kernel_rfl) { own := [], ghosts := [] } Tryz.func32 (c := Tryz.f32.body.getD .skip) (by kernel_rfl) (by decide) (by rw [show Tryz.f32.ntmps = 24 by kernel_rfl]; exact Nat.le_of_ble_eq_true rfl) (by kernel_rfl) ?_
 intro hσ hids
 rw [show comp Tryz.prog { own := [], ghosts := [] } (Tryz.f32.body.getD .skip) = c_sholds by kernel_rfl, show Tryz.f32.ntmps = 24 by kernel_rfl]
 unfold c_sholds
 have hl := (st_rng hVT hst).1
 have hfn := fun σ => sFine_spec t u tok σ hVT.tb (by omega)
 have hse : stE t u = 0 := by unfold stE; rw [if_pos hv, if_pos hst]
 rw [hse] at hfn
 have hcd : condB t.facts.length (-1) t.goal = true := by
  simp only [validB, Bool.and_eq_true] at hv
  exact hv.2.2.2.1
 have hgl := hVT.tb.goal
 simp only [encTask] at hfn
 have n00 : ((0 : Int) != 0) = false := rfl
 simp only [go_sem, simprocAttr, encTask]
 refine (hfn _).is ?_
 simp only [go_sem, simprocAttr, n00, encTask]
 refine (cond_spec t.goal t.facts.length .unk _ hgl).is ?_
 rw [hcd]
 simp only [go_sem, simprocAttr]
 refine (sTrue_spec u t.goal tok .unk _ (by omega) (rising_pw hst).1 hgl).is ?_
 simp only [go_sem, simprocAttr]
 first | exact rtx (v := .bool _) (x := .int .i64 0) wkS wkS ⟨rfl, rfl⟩ | exact rtx0 (v := .bool _) (x := .int .i64 0) wkS wkS ⟨rfl, rfl⟩
theorem fine_any {t : FTask} {s : List Int} {m : Int} (h : fineS t s 1 = 0) (h1 : 1 ≤ m) (h2 : m ≤ 20000) : fineS t s m = 0 := by
 obtain ⟨hv, hst, _⟩ := fineS_ok h
 have hse : stE t s = 0 := by unfold stE; rw [if_pos hv, if_pos hst]
 unfold fineS
 rw [if_pos hse, if_neg (by omega)]
def Told (sh : Bool) (t : FTask) (s : List Int) (b : Bool) (c : Int) (n : Nat) : Prop := (b = true ∧ ∃ l, BestRun sh t s c l ∧ n = l.length) ∨ (b = false ∧ ∀ l v c, RunT t l s v c → goalT t v = false)
theorem told_of {sh : Bool} {t : FTask} {s : List Int} {r : AV} (h0 : fineS t s 600 = 0) (hall : ∃ all : List (List Int), all.Nodup ∧ all.length ≤ 600 ∧ ∀ u, u ∈ all ↔ RchO t s u) (h : SearchR sh t s 600 r) :
  ∃ b c tk es, r = .tuple [.agg [.bool b, .int .i64 c, .slice tk es], .int .i64 0] ∧ (∀ n, Ids n (.slice tk es)) ∧ Told sh t s b c es.length := by
 obtain ⟨all, hand, hal, hamem⟩ := hall
 have hmany : ∀ m : Int, 600 ≤ m → ¬ ManyS t s m := fun m hm h => by
  obtain ⟨k, q1, q2, q3⟩ := h
  have := nodup_len6 q1 (m := all) fun x hx => (hamem x).2 (q2 x hx)
  omega
 rcases h with ⟨q, _⟩ | ⟨_, h⟩
 ·exact absurd h0 q
 rcases h with ⟨_, h | h⟩ | ⟨rfl, hno⟩ | ⟨c, l, rfl, hb, hl, _⟩
 ·exact absurd h (hmany _ (by omega))
 ·exact absurd h (hmany _ (by omega))
 ·exact ⟨_, _, _, _, rfl, fun n => ids_nil _ (by simp), .inr ⟨rfl, hno⟩⟩
 ·exact ⟨_, _, _, _, rfl, fun n => ids_mapf ids_encI _, .inl ⟨rfl, l, hb, by simp [actI]⟩⟩
theorem told_both {t : FTask} {s : List Int} {b b' : Bool} {c c' : Int} {n n' : Nat} (hVT : VT t) (h : Told false t s b c n) (h' : Told true t s b' c' n') : b = b' ∧ (b = true → c ≤ c' ∧ n' ≤ n) := by
 rcases h with ⟨rfl, l, hb, rfl⟩ | ⟨rfl, hno⟩ <;> rcases h' with ⟨rfl, l', hb', rfl⟩ | ⟨rfl, hno'⟩
 ·refine ⟨rfl, fun _ => ?_⟩
  obtain ⟨⟨v, e, g⟩, _⟩ := id hb
  obtain ⟨⟨v', e', g'⟩, _⟩ := id hb'
  exact ⟨best_cost hb e' g', best_len hVT hb' e g⟩
 ·obtain ⟨⟨v, e, g⟩, _⟩ := hb
  have := hno' _ _ _ e
  rw [show goalT t v = true from g] at this; simp at this
 ·obtain ⟨⟨v, e, g⟩, _⟩ := hb'
  have := hno _ _ _ e
  rw [show goalT t v = true from g] at this; simp at this
 ·exact ⟨rfl, fun h => by simp at h⟩
def r_law_1 : CCode := .seq (.ghost (.ops [oS 165 (.load (some 4) (.tmp 3)), oS 166 (.move (.tmp 1)), oS 167 (.move (.tmp 2)), oS 168 (.call (.lit (.func 33 [])) [.tmp 165, .tmp 166, .tmp 167]), oS 164 (.move (.tmp 168)), oS 169 (.extract (.tmp 164) 0), oS 170 (.extract (.tmp 164) 1), oS 171 (.extract (.tmp 164) 2), oS 18 (.alloc (.agg [.slice .nil [], .int .i64 0, .bool false])), oN (.store 3 (.tmp 18) (.tmp 169)), oS 19 (.move (.tmp 170)), oS 8 (.move (.tmp 171))])) (.seq (.seq (.ops [oS 172 (.move (.tmp 8)), oS 173 (.bin .eql .none (.tmp 172) (.lit (.int .i64 0))), oS 174 (.move (.tmp 173)), oG 175 174 true (.move (.tmp 19)), oG 176 174 true (.bin .lss .none (.tmp 175) (.lit (.int .i64 0))), oS 177 (.pick (.tmp 174) (.tmp 176) (.lit (.bool false))), oS 178 (.move (.tmp 177)), oG 179 178 true (.faddr 2 (.tmp 18)), oG 180 178 true (.load none (.tmp 179)), oS 181 (.pick (.tmp 178) (.tmp 180) (.lit (.bool false))), oS 182 (.move (.tmp 181)), oG 183 182 true (.faddr 0 (.tmp 7)), oG 184 182 true (.load none (.tmp 183)), oG 185 182 true (.un .not (.tmp 184)), oG 186 182 true (.move (.tmp 185)), oG 187 186 false (.faddr 1 (.tmp 18)), oG 188 186 false (.load none (.tmp 187)), oG 189 186 false (.faddr 1 (.tmp 7)), oG 190 186 false (.load none (.tmp 189)), oG 191 186 false (.bin .lss .none (.tmp 188) (.tmp 190)), oG 192 182 true (.pick (.tmp 186) (.lit (.bool true)) (.tmp 191)), oG 193 182 true (.move (.tmp 192)), oG 194 193 false (.move (.tmp 2)), oG 195 193 false (.blen 1 (.tmp 194)), oG 196 193 false (.faddr 2 (.tmp 9)), oG 197 193 false (.load none (.tmp 196)), oG 198 193 false (.blen 1 (.tmp 197)), oG 199 193 false (.bin .lss .none (.tmp 195) (.tmp 198)), oG 200 182 true (.pick (.tmp 193) (.lit (.bool true)) (.tmp 199)), oS 201 (.pick (.tmp 182) (.tmp 200) (.lit (.bool false)))]) (.cond (.tmp 201) (.seq (.ops [oS 6 (.move (.lit (.bool false)))]) .ret) .skip)) (.seq (.ops [oS 202 (.call (.lit (.func 9 [])) []), oS 6 (.move (.tmp 202))]) .ret))
def r_law_0 : CCode := .seq (.ghost (.ops [oS 13 (.move (.lit (.int .i64 (-1))))])) (.seq (.seq (.ops [oS 91 (.move (.tmp 11)), oS 92 (.blen 1 (.tmp 91)), oS 93 (.move (.lit (.int .i64 0)))]) (.block 0 (.loop (.seq (.ops [oS 94 (.bin .lss .none (.tmp 93) (.tmp 92))]) (.seq (.cond (.tmp 94) .skip (.exit 0)) (.seq (.block 1 (.seq (.ops [oS 95 (.iaddr 3 (.tmp 91) (.tmp 93)), oS 96 (.load (some 3) (.tmp 95)), oS 15 (.alloc (.agg [.slice .nil [], .int .i64 0, .int .i64 0])), oN (.store 3 (.tmp 15) (.tmp 96))]) (.seq (.ops [oS 98 (.load (some 4) (.tmp 3)), oS 99 (.faddr 0 (.tmp 15)), oS 100 (.load none (.tmp 99)), oS 101 (.faddr 2 (.tmp 3)), oS 102 (.load none (.tmp 101)), oS 103 (.call (.lit (.func 32 [])) [.tmp 98, .tmp 100, .tmp 102]), oS 97 (.move (.tmp 103)), oS 104 (.extract (.tmp 97) 0), oS 105 (.extract (.tmp 97) 1), oS 16 (.move (.tmp 104)), oS 17 (.move (.tmp 105))]) (.seq (.seq (.ops [oS 106 (.move (.tmp 17)), oS 107 (.bin .neq .none (.tmp 106) (.lit (.int .i64 0))), oS 108 (.move (.tmp 107)), oG 109 108 false (.move (.tmp 16)), oG 110 108 false (.move (.tmp 109)), oG 111 110 true (.faddr 2 (.tmp 15)), oG 112 110 true (.load none (.tmp 111)), oG 113 110 true (.bin .neq .none (.tmp 112) (.lit (.int .i64 0))), oG 114 108 false (.pick (.tmp 110) (.tmp 113) (.lit (.bool false))), oS 115 (.pick (.tmp 108) (.lit (.bool true)) (.tmp 114)), oS 116 (.move (.tmp 115)), oG 117 116 false (.faddr 0 (.tmp 7)), oG 118 116 false (.load none (.tmp 117)), oG 119 116 false (.move (.tmp 118)), oG 120 119 true (.faddr 2 (.tmp 15)), oG 121 119 true (.load none (.tmp 120)), oG 122 119 true (.bin .geq .none (.tmp 121) (.lit (.int .i64 0))), oG 123 116 false (.pick (.tmp 119) (.tmp 122) (.lit (.bool false))), oG 124 116 false (.move (.tmp 123)), oG 125 124 true (.faddr 1 (.tmp 15)), oG 126 124 true (.load none (.tmp 125)), oG 127 124 true (.faddr 2 (.tmp 15)), oG 128 124 true (.load none (.tmp 127)), oG 129 124 true (.bin .add .none (.tmp 126) (.tmp 128)), oG 130 124 true (.faddr 1 (.tmp 7)), oG 131 124 true (.load none (.tmp 130)), oG 132 124 true (.bin .lss .none (.tmp 129) (.tmp 131)), oG 133 116 false (.pick (.tmp 124) (.tmp 132) (.lit (.bool false))), oS 134 (.pick (.tmp 116) (.lit (.bool true)) (.tmp 133))]) (.cond (.tmp 134) (.seq (.ops [oS 6 (.move (.lit (.bool false)))]) .ret) .skip)) (.seq (.ops [oS 135 (.move (.tmp 16)), oS 136 (.move (.tmp 135)), oG 137 136 true (.move (.tmp 13)), oG 138 136 true (.bin .lss .none (.tmp 137) (.lit (.int .i64 0))), oG 139 136 true (.move (.tmp 138)), oG 140 139 false (.faddr 1 (.tmp 15)), oG 141 139 false (.load none (.tmp 140)), oG 142 139 false (.move (.tmp 13)), oG 143 139 false (.bin .lss .none (.tmp 141) (.tmp 142)), oG 144 136 true (.pick (.tmp 139) (.lit (.bool true)) (.tmp 143)), oS 145 (.pick (.tmp 136) (.tmp 144) (.lit (.bool false)))]) (.cond (.tmp 145) (.ops [oS 146 (.faddr 1 (.tmp 15)), oS 147 (.load none (.tmp 146)), oS 13 (.move (.tmp 147))]) .skip)))))) (.ops [oS 148 (.bin .add .none (.tmp 93) (.lit (.int .i64 1))), oS 93 (.move (.tmp 148))]))))))) (.seq (.seq (.ops [oS 149 (.faddr 0 (.tmp 7)), oS 150 (.load none (.tmp 149)), oS 151 (.move (.tmp 13)), oS 152 (.bin .geq .none (.tmp 151) (.lit (.int .i64 0))), oS 153 (.bin .neq .bool (.tmp 150) (.tmp 152)), oS 154 (.move (.tmp 153)), oG 155 154 false (.faddr 0 (.tmp 7)), oG 156 154 false (.load none (.tmp 155)), oG 157 154 false (.move (.tmp 156)), oG 158 157 true (.faddr 1 (.tmp 7)), oG 159 157 true (.load none (.tmp 158)), oG 160 157 true (.move (.tmp 13)), oG 161 157 true (.bin .neq .none (.tmp 159) (.tmp 160)), oG 162 154 false (.pick (.tmp 157) (.tmp 161) (.lit (.bool false))), oS 163 (.pick (.tmp 154) (.lit (.bool true)) (.tmp 162))]) (.cond (.tmp 163) (.seq (.ops [oS 6 (.move (.lit (.bool false)))]) .ret) .skip)) r_law_1))
def c_law : CCode := .seq (.ops [oS 3 (.box (.tmp 0)), oS 6 (.move (.lit (.bool false)))]) (.seq (.seq (.ops [oS 20 (.load (some 4) (.tmp 3)), oS 21 (.move (.tmp 1)), oS 22 (.call (.lit (.func 8 [])) [.tmp 20, .tmp 21]), oS 23 (.un .not (.tmp 22)), oS 24 (.move (.tmp 23)), oG 25 24 false (.move (.tmp 2)), oG 26 24 false (.blen 1 (.tmp 25)), oG 27 24 false (.bin .gtr .none (.tmp 26) (.lit (.int .i64 400))), oS 28 (.pick (.tmp 24) (.lit (.bool true)) (.tmp 27)), oS 29 (.move (.tmp 28)), oG 30 29 false (.load (some 4) (.tmp 3)), oG 31 29 false (.move (.tmp 1)), oG 32 29 false (.call (.lit (.func 12 [])) [.tmp 30, .tmp 31, .lit (.int .i64 1)]), oG 33 29 false (.bin .neq .none (.tmp 32) (.lit (.int .i64 0))), oS 34 (.pick (.tmp 29) (.lit (.bool true)) (.tmp 33))]) (.cond (.tmp 34) (.seq (.ops [oS 35 (.call (.lit (.func 9 [])) []), oS 6 (.move (.tmp 35))]) .ret) .skip)) (.seq (.ops [oS 37 (.load (some 4) (.tmp 3)), oS 38 (.move (.tmp 1)), oS 39 (.call (.lit (.func 10 [])) [.tmp 37, .tmp 38, .lit (.int .i64 600)]), oS 36 (.move (.tmp 39)), oS 40 (.extract (.tmp 36) 0), oS 41 (.extract (.tmp 36) 1), oS 7 (.alloc (.agg [.bool false, .int .i64 0, .slice .nil []])), oN (.store 3 (.tmp 7) (.tmp 40)), oS 8 (.move (.tmp 41))]) (.seq (.ops [oS 43 (.load (some 4) (.tmp 3)), oS 44 (.move (.tmp 1)), oS 45 (.call (.lit (.func 11 [])) [.tmp 43, .tmp 44, .lit (.int .i64 600)]), oS 42 (.move (.tmp 45)), oS 46 (.extract (.tmp 42) 0), oS 47 (.extract (.tmp 42) 1), oS 9 (.alloc (.agg [.bool false, .int .i64 0, .slice .nil []])), oN (.store 3 (.tmp 9) (.tmp 46)), oS 10 (.move (.tmp 47))]) (.seq (.ops [oS 49 (.load (some 4) (.tmp 3)), oS 50 (.move (.tmp 1)), oS 51 (.call (.lit (.func 26 [])) [.tmp 49, .tmp 50, .lit (.int .i64 600)]), oS 48 (.move (.tmp 51)), oS 52 (.extract (.tmp 48) 0), oS 53 (.extract (.tmp 48) 1), oS 11 (.move (.tmp 52)), oS 12 (.move (.tmp 53))]) (.seq (.seq (.ops [oS 54 (.move (.tmp 8)), oS 55 (.bin .neq .none (.tmp 54) (.lit (.int .i64 0))), oS 56 (.move (.tmp 55)), oG 57 56 false (.move (.tmp 10)), oG 58 56 false (.bin .neq .none (.tmp 57) (.lit (.int .i64 0))), oS 59 (.pick (.tmp 56) (.lit (.bool true)) (.tmp 58)), oS 60 (.move (.tmp 59)), oG 61 60 false (.move (.tmp 12)), oG 62 60 false (.bin .neq .none (.tmp 61) (.lit (.int .i64 0))), oS 63 (.pick (.tmp 60) (.lit (.bool true)) (.tmp 62)), oS 64 (.move (.tmp 63)), oG 65 64 false (.faddr 0 (.tmp 7)), oG 66 64 false (.load none (.tmp 65)), oG 67 64 false (.faddr 0 (.tmp 9)), oG 68 64 false (.load none (.tmp 67)), oG 69 64 false (.bin .neq .bool (.tmp 66) (.tmp 68)), oS 70 (.pick (.tmp 64) (.lit (.bool true)) (.tmp 69)), oS 71 (.move (.tmp 70)), oG 72 71 false (.faddr 0 (.tmp 7)), oG 73 71 false (.load none (.tmp 72)), oG 74 71 false (.move (.tmp 73)), oG 75 74 true (.faddr 1 (.tmp 7)), oG 76 74 true (.load none (.tmp 75)), oG 77 74 true (.faddr 1 (.tmp 9)), oG 78 74 true (.load none (.tmp 77)), oG 79 74 true (.bin .gtr .none (.tmp 76) (.tmp 78)), oG 80 74 true (.move (.tmp 79)), oG 81 80 false (.faddr 2 (.tmp 9)), oG 82 80 false (.load none (.tmp 81)), oG 83 80 false (.blen 1 (.tmp 82)), oG 84 80 false (.faddr 2 (.tmp 7)), oG 85 80 false (.load none (.tmp 84)), oG 86 80 false (.blen 1 (.tmp 85)), oG 87 80 false (.bin .gtr .none (.tmp 83) (.tmp 86)), oG 88 74 true (.pick (.tmp 80) (.lit (.bool true)) (.tmp 87)), oG 89 71 false (.pick (.tmp 74) (.tmp 88) (.lit (.bool false))), oS 90 (.pick (.tmp 71) (.lit (.bool true)) (.tmp 89))]) (.cond (.tmp 90) (.seq (.ops [oS 6 (.move (.lit (.bool false)))]) .ret) .skip)) r_law_0)))))
set_option maxHeartbeats 4000000 in
theorem laws06_law (t : FTask) (s p : List Int) (σ : Store) (hT : σ[0]? = some tabO) (ht : TB t) (hl : s.length ≤ 140737488355328) (hp : p.length ≤ 140737488355328) :
  ACalls Tryz.prog 7 [.agg (encTask t), .slice .unk (s.map Ahl.encI), .slice .unk (p.map Ahl.encI)] σ (isR (.bool true) σ) := by
 refine ACalls.intro (rs := [(.tmp 6)]) (by kernel_rfl) { own := [], ghosts := [8, 20] } Tryz.func7 (c := Tryz.f7.body.getD .skip) (by kernel_rfl) (by decide) (by rw [show Tryz.f7.ntmps = 203 by kernel_rfl]; exact Nat.le_of_ble_eq_true rfl) (by kernel_rfl) ?_
 intro hσ hids
 rw [show comp Tryz.prog { own := [], ghosts := [8, 20] } (Tryz.f7.body.getD .skip) = c_law by kernel_rfl, show Tryz.f7.ntmps = 203 by kernel_rfl]
 unfold c_law
 have hil : Ids σ.length (.slice .unk (s.map Ahl.encI)) := hids _ (by simp)
 have hip : Ids σ.length (.slice .unk (p.map Ahl.encI)) := hids _ (by simp)
 have hT2 : ∀ r, (σ ++ r)[0]? = some tabO := fun r => by rw [List.getElem?_append_left (lt_of_get hT)]; exact hT
 have hfew := fun σ => few06_spec t s .unk σ ht hl
 have hfau := fun σ => fault06_spec t s 1 .unk σ ht hl
 simp only [encTask] at hfew hfau
 simp only [go_sem, simprocAttr, encTask]
 refine (hfew _).mono ?_
 rintro _ _ ⟨rfl, b, rfl, hb⟩
 cases b
 ·simp only [go_sem, simprocAttr]
  refine (awake06_spec _ (hT2 _)).is ?_
  simp only [go_sem, simprocAttr]
  exact rt (.bool true) ⟨rfl, rfl⟩
 obtain ⟨hfw, hs400, hall⟩ := hb rfl
 by_cases hp4 : (p.length : Int) > 400
 ·simp only [go_sem, simprocAttr, hp4]
  refine (awake06_spec _ (hT2 _)).is ?_
  simp only [go_sem, simprocAttr]
  exact rt (.bool true) ⟨rfl, rfl⟩
 simp only [go_sem, simprocAttr, hp4, encTask]
 refine (hfau _).is ?_
 by_cases h1 : fineS t s 1 = 0
 rotate_left
 ·have h1' : (fineS t s 1 != 0) = true := by simpa using h1
  simp only [go_sem, simprocAttr, h1']
  refine (awake06_spec _ (hT2 _)).is ?_
  simp only [go_sem, simprocAttr]
  exact rt (.bool true) ⟨rfl, rfl⟩
 obtain ⟨hv, hst, _⟩ := fineS_ok h1
 have h0 := fine_any h1 (m := 600) (by omega) (by omega)
 have hVT := valid_VT ht hv
 have hall := hall hv hst
 have n00 : ((0 : Int) != 0) = false := rfl
 have e00 : ((0 : Int) == 0) = true := rfl
 have e10 : ((1 : Int) == 0) = false := rfl
 rw [h1]
 have hopt := fun τ hτ => optimal_spec t s 600 .unk τ hτ ht hl
 have hsho := fun τ hτ => shortest_spec t s 600 .unk τ hτ ht hl
 have hdst := fun τ hτ => sdist_spec t s 600 .unk τ hτ ht hl
 simp only [encTask] at hopt hsho hdst
 simp only [go_sem, simprocAttr, n00, encTask]
 refine (hopt _ (hT2 _)).mono ?_
 rintro r1 _ ⟨rfl, hr1⟩
 obtain ⟨b1, c1, tk1, es1, rfl, hi1, hr1⟩ := told_of h0 hall hr1
 have hsA : ∀ b c tk es, setAll [AV.bool false, .int .i64 0, .slice .nil []] 0 [.bool b, .int .i64 c, .slice tk es] = [.bool b, .int .i64 c, .slice tk es] := fun _ _ _ _ => rfl
 simp only [go_sem, simprocAttr, hsA, encTask]
 refine (hsho _ (hT2 _)).mono ?_
 rintro r2 _ ⟨rfl, hr2⟩
 obtain ⟨b2, c2, tk2, es2, rfl, hi2, hr2⟩ := told_of h0 hall hr2
 obtain ⟨all, hand, hal, hamem⟩ := hall
 simp only [go_sem, simprocAttr, hsA, encTask]
 refine (hdst _ (hT2 _)).mono ?_
 rintro r3 _ ⟨rfl, ⟨h, _⟩ | ⟨_, ⟨_, hm⟩ | ⟨L, rfl, hL, hLl⟩⟩⟩
 ·exact absurd h0 h
 ·obtain ⟨k, q1, q2, q3⟩ := hm
  have := nodup_len6 q1 (m := all) fun x hx => (hamem x).2 (q2 x hx)
  omega
 obtain ⟨rfl, hbo⟩ := told_both hVT hr1 hr2
 have hbb : (b1 != b1) = false := by simp
 have hsum : ∀ {u : List Int}, b1 = true → RchO t s u → optF t u ≥ 0 → ¬ (frF t s u + optF t u < c1) := fun hb1 hu ho => by
  rcases hr1 with ⟨_, l, hb, _⟩ | ⟨hf, _⟩
  ·have := best_sum hVT hb hu ho; omega
  ·rw [hb1] at hf; simp at hf
 have main : ∀ (sl : Slots), lk sl 1 = .slice .unk (s.map Ahl.encI) → lk sl 2 = .slice .unk (p.map Ahl.encI) → lk sl 3 = .ptr σ.length 0 → lk sl 7 = .ptr (σ.length + 1) 0 → lk sl 9 = .ptr (σ.length + 2) 0 → lk sl 11 = .slice .fresh ((dL6 t s L).map encD6) →
   wpc Tryz.prog 203 σ.length r_law_0 (bodyK [.tmp 6] σ.length 203 (isR (.bool true) σ)) sl (σ ++ [AObj.row (encTask t), .row [.bool b1, .int .i64 c1, .slice tk1 es1], .row [.bool b1, .int .i64 c2, .slice tk2 es2]]) := by
  intro sl l1 l2 l3 l7 l9 l11
  have hdl : (dL6 t s L).length = L.length := by unfold dL6; rw [List.length_map]
  have hst1 : ∀ x ∈ L, x.length ≤ 200 := fun x hx => (st_rng hVT ((hL.2 x).1 hx).1).1
  have hrows : ∀ n : Nat, IdsS (σ ++ [AObj.row (encTask t), .row [.bool b1, .int .i64 c1, .slice tk1 es1], .row [.bool b1, .int .i64 c2, .slice tk2 es2]]).length (σ ++ [AObj.row (encTask t), .row [.bool b1, .int .i64 c1, .slice tk1 es1], .row [.bool b1, .int .i64 c2, .slice tk2 es2]]) := fun _ => idsS_app _ hσ (all_cons' (idsO_row (ids_encTask t)) (all_cons' (idsO_row (idsL_cons (.bool _) (idsL_cons (.int _ _) (idsL_cons (hi1 _) idsL_nil)))) (all_cons' (idsO_row (idsL_cons (.bool _) (idsL_cons (.int _ _) (idsL_cons (hi2 _) idsL_nil)))) all_nil')))
  have hgh : Ghost σ.length 203 sl (σ ++ [AObj.row (encTask t), .row [.bool b1, .int .i64 c1, .slice tk1 es1], .row [.bool b1, .int .i64 c2, .slice tk2 es2]]) [(1, .slice .unk (s.map Ahl.encI)), (2, .slice .unk (p.map Ahl.encI)), (3, .ptr σ.length 0), (7, .ptr (σ.length + 1) 0), (9, .ptr (σ.length + 2) 0), (11, .slice .fresh ((dL6 t s L).map encD6))] (σ ++ [AObj.row (encTask t), .row [.bool b1, .int .i64 c1, .slice tk1 es1], .row [.bool b1, .int .i64 c2, .slice tk2 es2]]) :=
   Ghost.keepL0 [.row (encTask t), .row [.bool b1, .int .i64 c1, .slice tk1 es1], .row [.bool b1, .int .i64 c2, .slice tk2 es2]] rfl (Nat.le_refl _) ⟨⟨by rw [l1]; exact .refl _, ids_map ids_encI _⟩, ⟨by rw [l2]; exact .refl _, ids_map ids_encI _⟩, ⟨by rw [l3]; exact .refl _, .ptr _ _ (by simp)⟩, ⟨by rw [l7]; exact .refl _, .ptr _ _ (by simp)⟩, ⟨by rw [l9]; exact .refl _, .ptr _ _ (by simp)⟩, ⟨by rw [l11]; exact .refl _, ids_mapf (fun x => ids_encD6 _ x) _⟩, trivial⟩ (hrows 0)
  have hho := fun u σ hu => sholds_spec t u .fresh σ hVT hv hu
  have hrows := hrows 0
  simp only [encTask] at hho hrows
  rw [r_law_0]
  simp only [go_sem, simprocAttr]
  rw [wpc_ghost]
  refine ⟨_, _, hgh, ?_⟩
  clear l1 l2 l3 l7 l9 l11 hgh
  simp only [go_sem, simprocAttr, encTask]
  refine wpc_while (α := Nat × Int) (fun y => [(1, .slice .unk (s.map Ahl.encI)), (2, .slice .unk (p.map Ahl.encI)), (3, .ptr σ.length 0), (7, .ptr (σ.length + 1) 0), (9, .ptr (σ.length + 2) 0), (13, .int .i64 y.2), (91, .slice .fresh ((dL6 t s L).map encD6)), (92, .int .i64 L.length), (93, .int .i64 (y.1 : Nat))])
   (fun _ => σ ++ [.row (encTask t), .row [.bool b1, .int .i64 c1, .slice tk1 es1], .row [.bool b1, .int .i64 c2, .slice tk2 es2]]) (fun y => y.1 ≤ L.length ∧ NearI t s L y.1 y.2) (fun y => L.length - y.1) (0, -1) ⟨Nat.zero_le _, NearI.start t s L⟩ ?_ ?_
  ·(try dsimp only)
   rw [hdl]
   simp only [encTask]
   exact Ghost.keepL0 [.row _, .row _, .row _] rfl (Nat.le_refl _) ⟨⟨.refl _, ids_map ids_encI _⟩, ⟨.refl _, ids_map ids_encI _⟩, ⟨.refl _, .ptr _ _ (by simp)⟩, ⟨.refl _, .ptr _ _ (by simp)⟩, ⟨.refl _, .ptr _ _ (by simp)⟩, ⟨.refl _, .int _ _⟩, ⟨.refl _, ids_mapf (fun x => ids_encD6 _ x) _⟩, ⟨.refl _, .int _ _⟩, ⟨.refl _, .int _ _⟩, trivial⟩ hrows
  rintro ⟨i, n⟩ ⟨hi, hN⟩ K hK hE hR
  dsimp only at hi hN ⊢
  by_cases h : i < L.length
  ·obtain ⟨u, hx⟩ := get_ex h; have hlt : ((i : Int) < (L.length : Int)) := (by omega); have hw := wrapS (i := i) (by omega)
   have hul := hst1 u (List.mem_of_getElem? hx)
   have hur := (hL.2 u).1 (List.mem_of_getElem? hx)
   have hd : (dL6 t s L)[i]? = some (u, frF t s u, optF t u) := by unfold dL6; rw [List.getElem?_map, hx]; rfl
   have hi0 : (0 : Int) ≤ (i : Int) := by omega
   have hsA3 : ∀ x a b, setAll [AV.slice .nil [], .int .i64 0, .int .i64 0] 0 [x, .int .i64 a, .int .i64 b] = [x, .int .i64 a, .int .i64 b] := fun _ _ _ => rfl
   have hfs := fr_small hVT hst hL (List.mem_of_getElem? hx)
   have hos := opt_small hVT hL (List.mem_of_getElem? hx)
   have hwr : IntKind.i64.wrap (frF t s u + optF t u) = frF t s u + optF t u := wrap_ok (by omega)
   have hstep : ∀ (sl : Slots) (m : Int) (g : Store), NearI t s L (i + 1) m → lk sl 1 = .slice .unk (s.map Ahl.encI) → lk sl 2 = .slice .unk (p.map Ahl.encI) → lk sl 3 = .ptr σ.length 0 → lk sl 7 = .ptr (σ.length + 1) 0 → lk sl 9 = .ptr (σ.length + 2) 0 → lk sl 13 = .int .i64 m → lk sl 91 = .slice .fresh ((dL6 t s L).map encD6) → lk sl 92 = .int .i64 L.length → lk sl 93 = .int .i64 ((i + 1 : Nat) : Int) →
     K .normal sl (σ ++ ([.row (encTask t), .row [.bool b1, .int .i64 c1, .slice tk1 es1], .row [.bool b1, .int .i64 c2, .slice tk2 es2]] ++ g)) := by
    intro sl m g hNm l1 l2 l3 l7 l9 l13 l91 l92 l93
    refine hK _ _ (i + 1, m) ⟨by simp only []; omega, hNm⟩ (by simp only []; omega) ?_
    (try dsimp only)
    simp only [encTask]
    exact Ghost.keepL [.row _, .row _, .row _] rfl (Nat.le_refl _) ⟨⟨by rw [l1]; exact .refl _, ids_map ids_encI _⟩, ⟨by rw [l2]; exact .refl _, ids_map ids_encI _⟩, ⟨by rw [l3]; exact .refl _, .ptr _ _ (by simp)⟩, ⟨by rw [l7]; exact .refl _, .ptr _ _ (by simp)⟩, ⟨by rw [l9]; exact .refl _, .ptr _ _ (by simp)⟩, ⟨by rw [l13]; exact .refl _, .int _ _⟩, ⟨by rw [l91]; exact .refl _, ids_mapf (fun x => ids_encD6 _ x) _⟩, ⟨by rw [l92]; exact .refl _, .int _ _⟩, ⟨by rw [l93]; exact .refl _, .int _ _⟩, trivial⟩ hrows
   simp only [encTask, List.cons_append, List.nil_append] at hstep
   simp only [go_sem, simprocAttr, hlt, hd, hdl, encD6, hi0, hsA3, encTask]
   refine (hho u _ hur.1).is ?_
   cases hg : goalT t u
   ·have hN1 : NearI t s L (i + 1) n := hN.skip hx (fun h => by rw [hg] at h; simp at h)
    cases b1
    ·simp only [go_sem, simprocAttr, n00, encTask]
     rw [hw]
     exact hstep _ _ _ hN1 rfl rfl rfl rfl rfl rfl rfl rfl rfl
    ·by_cases ho : optF t u ≥ 0
     ·have hs1 := hsum rfl hur ho
      simp only [go_sem, simprocAttr, n00, ho, hwr, hs1, encTask]
      rw [hw]
      exact hstep _ _ _ hN1 rfl rfl rfl rfl rfl rfl rfl rfl rfl
     ·simp only [go_sem, simprocAttr, n00, ho, encTask]
      rw [hw]
      exact hstep _ _ _ hN1 rfl rfl rfl rfl rfl rfl rfl rfl rfl
   ·have hoz := goal_zero hVT hg
    have ho : optF t u ≥ 0 := by omega
    have hone : (optF t u != 0) = false := by simp [hoz]
    by_cases hn : n < 0
    ·have hN1 := hN.take hx hfs.1 hg (.inl hn)
     cases b1
     ·simp only [go_sem, simprocAttr, n00, hone, hn, encTask]
      rw [hw]
      exact hstep _ _ _ hN1 rfl rfl rfl rfl rfl rfl rfl rfl rfl
     ·have hs1 := hsum rfl hur ho
      simp only [go_sem, simprocAttr, n00, hone, ho, hwr, hs1, hn, encTask]
      rw [hw]
      exact hstep _ _ _ hN1 rfl rfl rfl rfl rfl rfl rfl rfl rfl
    ·by_cases hf : frF t s u < n
     ·have hN1 := hN.take hx hfs.1 hg (.inr hf)
      cases b1
      ·simp only [go_sem, simprocAttr, n00, hone, hn, hf, encTask]
       rw [hw]
       exact hstep _ _ _ hN1 rfl rfl rfl rfl rfl rfl rfl rfl rfl
      ·have hs1 := hsum rfl hur ho
       simp only [go_sem, simprocAttr, n00, hone, ho, hwr, hs1, hn, hf, encTask]
       rw [hw]
       exact hstep _ _ _ hN1 rfl rfl rfl rfl rfl rfl rfl rfl rfl
     ·have hN1 : NearI t s L (i + 1) n := hN.skip hx (fun _ => by omega)
      cases b1
      ·simp only [go_sem, simprocAttr, n00, hone, hn, hf, encTask]
       rw [hw]
       exact hstep _ _ _ hN1 rfl rfl rfl rfl rfl rfl rfl rfl rfl
      ·have hs1 := hsum rfl hur ho
       simp only [go_sem, simprocAttr, n00, hone, ho, hwr, hs1, hn, hf, encTask]
       rw [hw]
       exact hstep _ _ _ hN1 rfl rfl rfl rfl rfl rfl rfl rfl rfl
  have hlt : ¬ ((i : Int) < (L.length : Int)) := by omega
  clear hK hR
  have hlt' : ¬ ((i : Int) < (L.length : Int)) := by omega
  obtain rfl : i = L.length := by omega
  have hse : stE t s = 0 := by unfold stE; rw [if_pos hv, if_pos hst]
  have hex := fun σ => exec_spec t s p σ ht hVT.sb hl (by omega) (fun _ _ k => stk_ok hVT.eok (by have := hVT.nf; omega) hst k)
  have hsA4 : ∀ x a b, setAll [AV.slice .nil [], .int .i64 0, .bool false] 0 [x, .int .i64 a, .bool b] = [x, .int .i64 a, .bool b] := fun _ _ _ => rfl
  have hcc : ∀ z : Int, (z != z) = false := fun z => by simp
  simp only [encTask] at hex
  have tail : ∀ (sl : Slots), lk sl 1 = .slice .unk (s.map Ahl.encI) → lk sl 2 = .slice .unk (p.map Ahl.encI) → lk sl 3 = .ptr σ.length 0 → lk sl 7 = .ptr (σ.length + 1) 0 → lk sl 9 = .ptr (σ.length + 2) 0 →
    wpc Tryz.prog 203 σ.length r_law_1 (bodyK [.tmp 6] σ.length 203 (isR (.bool true) σ)) sl (σ ++ [AObj.row (encTask t), .row [.bool b1, .int .i64 c1, .slice tk1 es1], .row [.bool b1, .int .i64 c2, .slice tk2 es2]]) := by
   intro sl l1 l2 l3 l7 l9
   have hgh : Ghost σ.length 203 sl (σ ++ [AObj.row (encTask t), .row [.bool b1, .int .i64 c1, .slice tk1 es1], .row [.bool b1, .int .i64 c2, .slice tk2 es2]]) [(1, .slice .unk (s.map Ahl.encI)), (2, .slice .unk (p.map Ahl.encI)), (3, .ptr σ.length 0), (7, .ptr (σ.length + 1) 0), (9, .ptr (σ.length + 2) 0)] (σ ++ [AObj.row (encTask t), .row [.bool b1, .int .i64 c1, .slice tk1 es1], .row [.bool b1, .int .i64 c2, .slice tk2 es2]]) := by
    simp only [encTask]
    exact Ghost.keepL0 [.row _, .row _, .row _] rfl (Nat.le_refl _) ⟨⟨by rw [l1]; exact .refl _, ids_map ids_encI _⟩, ⟨by rw [l2]; exact .refl _, ids_map ids_encI _⟩, ⟨by rw [l3]; exact .refl _, .ptr _ _ (by simp)⟩, ⟨by rw [l7]; exact .refl _, .ptr _ _ (by simp)⟩, ⟨by rw [l9]; exact .refl _, .ptr _ _ (by simp)⟩, trivial⟩ hrows
   rw [r_law_1]
   simp only [go_sem, simprocAttr]
   rw [wpc_ghost]
   refine ⟨_, _, hgh, ?_⟩
   clear l1 l2 l3 l7 l9 hgh
   simp only [go_sem, simprocAttr, encTask]
   refine (hex _).is ?_
   unfold execR
   rw [if_neg (by omega)]
   have e00' : ((0 : Int) == 0) = true := rfl
   cases hli : slistedB t p
   ·rw [if_pos rfl]
    simp only [go_sem, simprocAttr, hsA4, e10, encTask]
    refine (awake06_spec _ (hT2 _)).is ?_
    simp only [go_sem, simprocAttr]
    exact rt (.bool true) ⟨rfl, rfl⟩
   rw [if_neg (by simp)]
   have hpr : ∀ n ∈ p, 0 ≤ n ∧ n < t.actions.length := by
    intro n hn
    simp only [slistedB, Bool.and_eq_true, decide_eq_true_eq, Bool.not_eq_true', List.any_eq_false] at hli
    have := hli.2 n hn
    simp only [offB, Bool.or_eq_true, decide_eq_true_eq] at this
    omega
   by_cases hsp : stopN t s p = p.length
   rotate_left
   ·rw [if_neg hsp]
    have hlt0 : ¬ (((stopN t s p : Nat) : Int) < 0) := by omega
    simp only [go_sem, simprocAttr, hsA4, e00, hlt0, encTask]
    refine (awake06_spec _ (hT2 _)).is ?_
    simp only [go_sem, simprocAttr]
    exact rt (.bool true) ⟨rfl, rfl⟩
   rw [if_pos hsp]
   have hm1 : ((-1 : Int) < 0) := by omega
   cases hgo : condHolds (stk t s p (stopN t s p)) t.goal
   ·simp only [go_sem, simprocAttr, hsA4, e00, hm1, encTask]
    refine (awake06_spec _ (hT2 _)).is ?_
    simp only [go_sem, simprocAttr]
    exact rt (.bool true) ⟨rfl, rfl⟩
   have hrun := run_exec hVT hst (by omega) hpr (stopN t s p) (Nat.le_refl _)
   rcases hr1 with ⟨rfl, l, hb, _⟩ | ⟨_, hno⟩
   rotate_left
   ·have := hno _ _ _ hrun
    rw [show goalT t _ = true from hgo] at this; simp at this
   rcases hr2 with ⟨_, l2, hb2, hn2⟩ | ⟨q, _⟩
   rotate_left
   ·simp at q
   have q1 : ¬ (costK t p (stopN t s p) < c1) := by have := best_cost hb hrun hgo; omega
   have q2 : ¬ ((p.length : Int) < (es2.length : Int)) := by
    have := best_len hVT hb2 hrun hgo
    rw [List.length_map, hsp, List.take_length] at this
    omega
   simp only [go_sem, simprocAttr, hsA4, e00, hm1, q1, q2, encTask]
   refine (awake06_spec _ (hT2 _)).is ?_
   simp only [go_sem, simprocAttr]
   exact rt (.bool true) ⟨rfl, rfl⟩
  simp only [encTask] at tail
  rcases id hr1 with ⟨rfl, l, hb, _⟩ | ⟨rfl, hno⟩
  ·have hnc := NearI.some hVT hst hL hN hb
   subst hnc
   have hc0 : n ≥ 0 := by
    obtain ⟨⟨v, e, _⟩, _⟩ := hb
    exact (runD_nn (coO_ok hVT) e).1
   simp only [go_sem, simprocAttr, hlt', hE, hc0, hcc, encTask]
   exact tail _ rfl rfl rfl rfl rfl
  ·have hnc := NearI.none hL hN hno
   subst hnc
   have hc0 : ¬ ((-1 : Int) ≥ 0) := by omega
   simp only [go_sem, simprocAttr, hlt', hE, hc0, encTask]
   exact tail _ rfl rfl rfl rfl rfl
 cases b1
 ·simp only [go_sem, simprocAttr, n00, hbb]
  exact main _ rfl rfl rfl rfl rfl rfl
 ·obtain ⟨hc12, hl12⟩ := hbo rfl
  have hc : ¬ (c1 > c2) := by omega
  have hl2 : ¬ ((es2.length : Int) > (es1.length : Int)) := by omega
  simp only [go_sem, simprocAttr, n00, hbb, hc, hl2]
  exact main _ rfl rfl rfl rfl rfl rfl
end Go.Proofs.YtpabiedjneognaaGreatDoor
namespace Go.Ahl
section
variable {P : Program}
theorem srel_tab {w : World} {b : Nat} (hg : P.globalNamed "internal/strconv.uint64pow10" = some b) (h : Lib.TabIs P w "internal/strconv.uint64pow10" .u64 Go.Lib.pow10Tab) : SRel (memOf w) [.nowhere] [powObj b] w := by
 have h0 := srel_memOf w
 obtain ⟨arr, t, fz, hb, ha⟩ : ∃ arr t fz, w.heap[b]? = some (.cells arr t fz) ∧ arr = (Go.Lib.pow10Tab.map fun z => Value.int .u64 z).toArray := by
  unfold Lib.TabIs World.var? at h
  rw [hg] at h
  simp only [Option.bind_some] at h
  split at h
  ·rename_i arr t fz hq
   injection h with h
   exact ⟨arr, t, fz, hq, h⟩
  ·simp at h
 refine { len := rfl, im := h0.im, bs := h0.bs, obj := ?_, inj := ?_, lt := ?_, mp := fun b e h => by simp [memOf] at h, mpo := ?_, ok := ⟨Nat.le_refl _, ?_, fun b o K h => by simp [memOf] at h, h0.ok.fz⟩ }
 ·intro i l o h1 h2
  cases i with
  | succ i => simp at h1
  | zero =>
   simp at h1 h2; subst h1; subst h2
   refine ⟨?_, fun i v hv => ?_⟩
   ·simp only [memOf, hb, ha]; simp
   ·simp only [memOf, World.cell?, hb, ha]
    simpa using hv
 ·intro i j l l' o o' k h1 h2 h3 h4 h5
  cases i with
  | succ i => simp at h1
  | zero => simp at h1 h3; subst h1; subst h3; simp [own, powObj] at h5
 ·rintro k ⟨i, e | ⟨_, _, _, e, _⟩⟩ <;> (cases i <;> simp at e)
 ·intro i l o k h1 h2 h3
  cases i with
  | succ i => simp at h1
  | zero => simp at h1 h2; subst h1; subst h2; simp [own, powObj] at h3
 ·rintro k ⟨i, e | ⟨_, _, _, e, _⟩⟩ <;> (cases i <;> simp at e)
end
open Go.ChangeShapes Go.WideShapes Go.ChangeAt Go.RowKit
section
variable {P : Program}
theorem below_of_extT {m m' : Mem} {loc' : List Loc} {w w' : World} {n0 : Nat} (h : Ext n0 m [.nowhere] w m' loc' w') (hz : ∀ b o, m.wk b o = none) : Below w.heap.size w w' :=
 ⟨h.os, h.tape, h.output, h.size, fun b hb => h.frame b hb (by rintro ⟨i, e | ⟨_, _, _, e, _⟩⟩ <;> (cases i <;> simp at e)) (hz b)⟩
theorem tabIs_third {P : Program} {W : World} {name : String} {k : IntKind} {zs : List Int} {x y : String × DataW Unit} {g : Nat} {t e : TypeId} {n : Nat}
  (hg : P.globalNamed name = some g) (hty : (P.globals[g]?).map (·.type) = some t) (ht : P.underlying t = some (.array n e)) (he : P.underlying e = some (.int k)) (hce : P.cellsOf e = 1) (hct : P.cellsOf t = n)
  (h : laidMet P [x, y, (name, Lib.tabData k zs)] W) : Lib.TabIs P W name k zs := by
 obtain ⟨x1, x2⟩ := x
 obtain ⟨y1, y2⟩ := y
 obtain ⟨ps, ⟨_, _, _, _, _, _, _, _, _, _, ⟨_, _, _, _, _, _, _, _, _, _, ⟨g', t', cs, fuel, p, q, hg', ht', hvar, hd, _, _⟩, _⟩, _⟩, _⟩ := h
 obtain rfl := Option.some.inj (hg.symm.trans hg')
 obtain rfl := Option.some.inj (hty.symm.trans ht')
 unfold Lib.TabIs
 rw [hvar, ← Lib.cells_of_tab ht he hce hct hd]
theorem law_postT {H : Type} {enc : TypeId × Value → H} {f : FuncId} {fn : Func} {s : ChangeSpec} {tb : TypeId} (hf : P.funcs[f]? = some fn) (hb : fn.body.isSome = true) (hn : fn.name ≠ "runtime.NumGoroutine")
  (hs0 : s.vars = []) (hs : ∀ ds : List (DataW H), ds.length = fn.params.size → s.fn H ds = { results := [.lit (.bool true)], args := ds })
  (hl : laidOutB P = true) (hr : ∀ t ∈ fn.params.toList, P.readableRec t = true ∧ t < P.types.size) (hres : fn.resultTypes = #[tb]) (hbool : P.underlying tb = some .bool)
  {g : Nat} (hg : P.globalNamed "internal/strconv.uint64pow10" = some g) (hA : ReadsAll P fn.params.toList fun avs => ACalls P f avs [powObj g] (isR (.bool true) [powObj g]))
  {W : World} {base : Nat} {args : Array Value} {ds gs : List (DataW H)} {before : List MemPlace} (hval : ∀ (j : Nat) t v, fn.params[j]? = some t → args[j]? = some v → Value.okWide P W .any base t v)
  (hW : DataW.Whole enc P fn.params.toList s.vars false W args.toList ds gs before)
  (hT0 : Lib.TabIs P W "internal/strconv.uint64pow10" .u64 Go.Lib.pow10Tab) (hsz : (DataW.weightsEach P (fn.params.toList ++ s.plain.varTypes P) (ds ++ gs)).all (· ≤ reachBytes) = true) :
  Calls P f args W fun e W' => ∃ v, e = .returned v ∧ s.post enc P fn false true false false W args v W' := by
 have hW' := hW
 obtain ⟨p, q, hT, hV, rfl, hfz, hnd⟩ := hW
 rw [hs0] at hV
 obtain ⟨rfl, rfl⟩ := trodVars_none hV
 have hpl : s.plain.varTypes P = [] := by simp [DataSpec.varTypes, ChangeSpec.plain, hs0]
 rw [hpl, List.append_nil, List.append_nil] at hsz
 obtain ⟨avs, h1, h2, h3⟩ := hA H enc W base args.toList ds p (fun j t v a b => hval j t v (by simpa using a) (by simpa using b)) hT (fun x hx => by simpa using List.all_eq_true.1 hsz x hx)
 refine (h1.calls hf hb hn (srel_tab hg hT0) ⟨by simpa using h2, fun j x v a b => Rel.mono (loc := []) (loc' := [.nowhere]) (.refl _) (fun i l hi e => by simp at e) (h3 j x v a (by simpa using b))⟩).mono ?_
 rintro e W' ⟨v, rfl, r, σ', m', loc', ⟨rfl, rfl⟩, hrel, hsr, hext⟩
 have hv : v = .bool true := by cases hrel; rfl
 subst hv
 have hbl := below_of_extT hext (fun _ _ => rfl)
 have hlt : ∀ x ∈ p, x.block < W.heap.size := fun x hx => hW'.lt x (by simpa using hx)
 have hlen : ds.length = fn.params.size := by
  have : ∀ (ts : List TypeId) (vs : List Value) (ds : List (DataW H)) (ps : List MemPlace), DataW.TrodAll enc P W 0 (fun _ => true) true ts vs ds ps → ds.length = ts.length := by
   intro ts
   induction ts with
   | nil => intro vs ds ps h; obtain ⟨_, rfl, _⟩ := trodAll_nil h; rfl
   | cons t ts ih => intro vs ds ps h; obtain ⟨v, vs', d, ds', p, q, rfl, rfl, rfl, h1, h2⟩ := trodAll_cons h; simp [ih _ _ _ h2]
  simpa using this _ _ _ _ hT
 have hsp := hs (ds ++ []) (by simpa using hlen)
 refine ⟨_, rfl, post_same (pa := p) (pv := []) hW' ?_ ?_ ?_ rfl (hbl.frame _) (fun a ha => hbl.frozen ha) ?_⟩
 ·intro b sp hd
  rw [hsp, hres]
  exact trodAll_mk1 (shut_bool hbool _)
 ·intro sp hsp'
  rw [hsp, List.append_nil]
  exact trodAll_stays hl hr hT (fun x hx => hbl.same (hlt x hx)) (fun x hx => hsp' x (by simpa using hx))
 ·intro sp hsp'
  rw [hsp, hs0]; exact rfl
 ·exact ok_one hres rfl (okWide_bool_mk hbool _)
end
end Go.Ahl
namespace Go.Proofs.YtpabiedjneognaaGreatDoor
open Go.Ahl Go.ChangeShapes Go.WideShapes Go.ChangeAt Go.RowKit
abbrev rowLaid : List (String × DataW Unit) := [("math/bits.deBruijn32tab", Rows.laid_math_bits_deBruijn32tab), ("math/bits.deBruijn64tab", Rows.laid_math_bits_deBruijn64tab), ("internal/strconv.uint64pow10", Rows.laid_internal_strconv_uint64pow10)]
theorem pow_data : (Rows.laid_internal_strconv_uint64pow10 : DataW Unit) = Lib.tabData .u64 Go.Lib.pow10Tab := rfl
theorem tab_of_laid {W : World} (h : laidMetH Tryz.prog rowLaid W) : Lib.TabIs Tryz.prog W "internal/strconv.uint64pow10" .u64 Go.Lib.pow10Tab := by
 rw [MakeChecks.laidMetH_plain _ _ _ (by kernel_rfl)] at h
 unfold rowLaid at h
 rw [pow_data] at h
 exact tabIs_third (t := 218) (e := 182) (n := 20) tab_named (by kernel_rfl) (by kernel_rfl) (by kernel_rfl) (by kernel_rfl) (by kernel_rfl) h
theorem laid_met (os : Os) (args : Array Value) : laidMetH Tryz.prog rowLaid ((World.laidAll Tryz.prog os rowLaid).forCall (fun _ _ => 0) ⟨#[], args, []⟩).memory := by
 rw [MakeChecks.laidMetH_plain _ _ _ (by kernel_rfl)]; exact laidMet_laidAll _ (by kernel_rfl) (by kernel_rfl)
end Go.Proofs.YtpabiedjneognaaGreatDoor
namespace Go.Proofs.YtpabiedjneognaaGreatDoor
open Go.Ahl Go.ChangeShapes Go.WideShapes Go.ChangeAt Go.RowKit
theorem law_reads : ReadsAll Tryz.prog Tryz.f7.params.toList (fun avs => ACalls Tryz.prog 7 avs [tabO] (isR (.bool true) [tabO])) := by
 rw [show Tryz.f7.params.toList = [27, 23, 23] by kernel_rfl]
 exact .cons ra_task fun t ht => .cons ra_ints fun s hs => .cons ra_ints fun p hp => .nil (laws06_law t s p [tabO] rfl ht hs.1 hp.1)
set_option maxRecDepth 100000 in
theorem lifted (os : Os) (started : os.Started) (H : Type) (enc : TypeId × Value → H) :
  ReturnsInHanded {} Tryz.checked os 7 .any (fun w args => (Rows.searchLawsSpec.pre enc Tryz.prog Tryz.f7 Rows.searchLawsRow.domain false w args ∧ laidMetH Tryz.prog rowLaid w) ∧ sizedMet enc Tryz.prog Tryz.f7 (OpenSpec.ofChange Rows.searchLawsSpec) false w args)
   (Rows.searchLawsSpec.post enc Tryz.prog Tryz.f7 false true false false) := by
 refine returnsInHanded_of_change_and (C := Tryz.checked) (X := fun w _ => laidMetH Tryz.prog rowLaid w) (fun _ _ _ hh h => h.of_heap hh) own started (by kernel_rfl) Tryz.func7
  (ChangeSpec.witness_shaped (enc := enc) (C := Tryz.checked) (os := os) (X := fun w _ => laidMetH Tryz.prog rowLaid w) false (World.laidAll Tryz.prog os rowLaid) #[.agg #[.slice none 0 0, .slice none 0 0, .slice none 0 0, .slice none 0 0], .slice none 0 0, .slice none 0 0] 8 (World.laidAll_os _ _ _)
   (World.shaped_of_ZipB (by kernel_rfl) (by kernel_rfl)) (by kernel_rfl) (by kernel_rfl) (by kernel_rfl) (laid_met os _)) ?_
 intro W base args ds gs before hval hW _ hsz hL _
 refine law_postT (P := Tryz.prog) Tryz.func7 (by kernel_rfl) (by decide) rfl ?_ laidOut (rdble (by kernel_rfl)) (by kernel_rfl) Tryz.underlying4 tab_named law_reads hval hW (tab_of_laid hL) hsz
 intro ds h
 rw [show Tryz.f7.params.size = 3 by kernel_rfl] at h
 match ds, h with
 | [a, b, c], _ => rfl
theorem row_holds : Rows.SearchLawsSaid :=
 OpenClaim.holds_of_wide 7 Tryz.f7 rfl rfl rfl rfl rfl rfl rfl ⟨rfl, rfl, rfl, rfl, rfl⟩ rfl rfl rfl rfl rfl (by kernel_rfl) Tryz.func7 (by kernel_rfl)
  (of_decide_eq_true (by kernel_rfl)) (by unfold Func.isWrapper; first | (rw [if_pos (by decide +kernel)]; kernel_rfl) | (rw [if_neg (by decide +kernel)]; exact ⟨rfl, rfl⟩))
  (fun os started H enc _ => lifted os started H enc)
theorem holds : Rows.SearchLawsCardSaid :=
 Claim7.holds_tied_plain_at .later [] [.data, .data, .data] true (true, "4b5b9ffcc6f8df805ecff25f1710d253db95cba1634782edf60db549af1a9c7c") true
  row_holds (fun _ h => by cases h) (by kernel_rfl) (fun _ h => by cases h) searchLaws_row_tie rfl ⟨rfl, rfl⟩ (by kernel_rfl) rfl
  (fun f fn hf hfn => by
   obtain rfl : f = 7 := Option.some.inj ((show Tryz.prog.funcNamed "forethought/forethoughtlaw06.SearchLaws" = some 7 by kernel_rfl).symm.trans hf) |>.symm
   obtain rfl : fn = Tryz.f7 := (Option.some.inj (Eq.trans (Eq.symm Tryz.func7) hfn)).symm
   exact ⟨by kernel_rfl, fun j t ht => by
    have hall : (Tryz.f7.params.toList.all fun u => !Tryz.prog.wantsStandIn u) = true := by kernel_rfl
    have hm : t ∈ Tryz.f7.params.toList := by simpa using Array.mem_of_getElem? ht
    show Tryz.prog.wantsStandIn t = false
    simpa using List.all_eq_true.1 hall t hm⟩)
  (by kernel_rfl)
end Go.Proofs.YtpabiedjneognaaGreatDoor
