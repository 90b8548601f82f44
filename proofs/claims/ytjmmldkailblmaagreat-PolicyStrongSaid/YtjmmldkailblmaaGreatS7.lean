/- For any task, groups and state, the law PolicyStrong answers true. -/
import Derived.Test.YtjmmldkailblmaaGreatBase6
set_option linter.unusedVariables false
set_option linter.unusedSimpArgs false
namespace Go.Proofs.YtjmmldkailblmaaGreat
open Go.Ahl
def nxO (t : FTask) (g ss : List (List Int)) (s : List Int) (i : Nat) : List (Option (List Nat)) :=
 (List.range i).map fun j => if appB t (grp g j) s then some ((outsL t (grp g j) s).map ss.idxOf) else none
def chFrom : Nat → List (Option (List Nat)) → List (Nat × List Nat)
 | _, [] => []
 | k, some l :: r => (k, l) :: chFrom (k + 1) r
 | k, none :: r => chFrom (k + 1) r
theorem chFrom_app : ∀ (k : Nat) (a b : List (Option (List Nat))), chFrom k (a ++ b) = chFrom k a ++ chFrom (k + a.length) b
 | k, [], b => by simp [chFrom]
 | k, some l :: a, b => by
  rw [List.cons_append, chFrom, chFrom, chFrom_app (k + 1) a b, List.cons_append, List.length_cons, show k + 1 + a.length = k + (a.length + 1) by omega]
 | k, none :: a, b => by
  rw [List.cons_append, chFrom, chFrom, chFrom_app (k + 1) a b, List.length_cons, show k + 1 + a.length = k + (a.length + 1) by omega]
theorem nxO_len (t : FTask) (g ss : List (List Int)) (s : List Int) (i : Nat) : (nxO t g ss s i).length = i := by simp [nxO]
theorem nxO_succ (t : FTask) (g ss : List (List Int)) (s : List Int) (i : Nat) : nxO t g ss s (i + 1) = nxO t g ss s i ++ [if appB t (grp g i) s then some ((outsL t (grp g i) s).map ss.idxOf) else none] := by
 unfold nxO; rw [List.range_succ, List.map_append]; rfl
theorem chFrom_nxO (t : FTask) (g ss : List (List Int)) (s : List Int) : ∀ i, chFrom 0 (nxO t g ss s i) = chG t g s ss i
 | 0 => rfl
 | i + 1 => by
  rw [chG_succ, nxO_succ, chFrom_app, chFrom_nxO t g ss s i, nxO_len, Nat.zero_add]
  congr 1
  split <;> rfl
def pO (p : List Nat → Bool) : Option (List Nat) → Bool
 | some l => p l
 | none => false
theorem any_ch (p : List Nat → Bool) : ∀ (k : Nat) (r : List (Option (List Nat))), (chFrom k r).any (fun c => p c.2) = r.any (pO p)
 | _, [] => rfl
 | k, some l :: r => by rw [chFrom, List.any_cons, List.any_cons, any_ch p (k + 1) r]; rfl
 | k, none :: r => by rw [chFrom, List.any_cons, any_ch p (k + 1) r]; simp [pO]
theorem idx_ch (p : List Nat → Bool) : ∀ (r : List (Option (List Nat))) (k : Nat) (a b : Int),
  (idxFrom (pO p) a r = -1 ∧ idxFrom (fun c : Nat × List Nat => p c.2) b (chFrom k r) = -1) ∨
  ∃ (j i : Nat) (l : List Nat), idxFrom (pO p) a r = a + j ∧ idxFrom (fun c : Nat × List Nat => p c.2) b (chFrom k r) = b + i ∧ (chFrom k r)[i]? = some (k + j, l) ∧ r[j]? = some (some l) ∧ p l = true
 | [], k, a, b => .inl ⟨rfl, rfl⟩
 | some l :: r, k, a, b => by
  rw [chFrom, idxFrom, idxFrom]
  cases h : p l
  ·have h1 : pO p (some l) = false := h
   rw [h1, if_neg (by simp), if_neg (by simp [h])]
   rcases idx_ch p r (k + 1) (a + 1) (b + 1) with h2 | ⟨j, i, m, q1, q2, q3, q4, q5⟩
   ·exact .inl h2
   ·refine .inr ⟨j + 1, i + 1, m, by rw [q1]; omega, by rw [q2]; omega, ?_, by simpa using q4, q5⟩
    rw [List.getElem?_cons_succ, q3]; congr 2; omega
  ·have h1 : pO p (some l) = true := h
   rw [h1, if_pos rfl, if_pos (by simp [h])]
   exact .inr ⟨0, 0, l, by simp, by simp, rfl, rfl, h⟩
 | none :: r, k, a, b => by
  rw [chFrom, idxFrom]
  have h1 : pO p none = false := rfl
  rw [h1, if_neg (by simp)]
  rcases idx_ch p r (k + 1) (a + 1) b with h2 | ⟨j, i, m, q1, q2, q3, q4, q5⟩
  ·exact .inl h2
  ·refine .inr ⟨j + 1, i, m, by rw [q1]; omega, q2, ?_, by simpa using q4, q5⟩
   rw [q3]; congr 2; omega
structure RW where
 ss : List (List Int)
 nx : List (List (Option (List Nat)))
 gl : List Bool
def RW.w (r : RW) : Wld := ⟨r.ss, r.nx.map (chFrom 0), r.gl⟩
def rwF (t : FTask) (g : List (List Int)) (s0 : List Int) : RW :=
 ⟨ssF t g s0, (ssF t g s0).map fun s => nxO t g (ssF t g s0) s g.length, (ssF t g s0).map fun s => condHolds s t.goal⟩
theorem rwF_w (t : FTask) (g : List (List Int)) (s0 : List Int) : (rwF t g s0).w = wldF t g s0 := by
 unfold RW.w rwF wldF
 simp only [List.map_map]
 congr 1
 refine List.map_congr_left fun s _ => ?_
 exact chFrom_nxO _ _ _ _ _
theorem rw_ch (r : RW) (i : Nat) : (r.w.ch.getD i []) = chFrom 0 (r.nx.getD i []) := by
 show ((r.nx.map (chFrom 0)).getD i []) = _
 rw [List.getD_eq_getElem?_getD, List.getD_eq_getElem?_getD, List.getElem?_map]
 cases r.nx[i]? <;> rfl
def dF (w : Wld) (k i : Nat) : Int := (dIter w k).getD i 0
theorem dF_succ {w : Wld} (hw : WOk w) (k : Nat) {i : Nat} (hi : i < w.ss.length) : dF w (k + 1) i = if nowB w (dIter w k) i then ((k + 1 : Nat) : Int) else dF w k i := by
 show (setL (dIter w k) (nowL w (dIter w k)) ((k + 1 : Nat) : Int)).getD i 0 = _
 rw [get_setL, dIter_len w hw]
 by_cases h : nowB w (dIter w k) i = true
 ·rw [if_pos ⟨nowL_mem.2 ⟨hi, h⟩, hi⟩, if_pos h]
 ·rw [if_neg (fun q => h (nowL_mem.1 q.1).2), if_neg h]; rfl
theorem dF_zero {w : Wld} (hw : WOk w) {i : Nat} (hi : i < w.ss.length) : dF w 0 i = if goalB w i then 0 else -1 := by
 unfold dF goalB
 show (far0 w).getD i 0 = _
 unfold far0
 obtain ⟨b, hb⟩ := get_ex (show i < w.gl.length by rw [hw.gl]; exact hi)
 rw [List.getD_eq_getElem?_getD, List.getD_eq_getElem?_getD, List.getElem?_map, hb]
 rfl
theorem dF_range {w : Wld} (hw : WOk w) {i : Nat} (hi : i < w.ss.length) : ∀ k, dF w k i = -1 ∨ (0 ≤ dF w k i ∧ dF w k i ≤ (k : Nat))
 | 0 => by rw [dF_zero hw hi]; split <;> simp
 | k + 1 => by
  rw [dF_succ hw k hi]
  split
  ·right; omega
  ·rcases dF_range hw hi k with h | h
   ·exact .inl h
   ·right; omega
theorem dF_goal {w : Wld} (hw : WOk w) {i : Nat} (hi : i < w.ss.length) : ∀ k, dF w k i = 0 ↔ goalB w i = true
 | 0 => by rw [dF_zero hw hi]; cases goalB w i <;> simp
 | k + 1 => by
  rw [dF_succ hw k hi]
  split
  ·rename_i h
   have h1 : ¬ dF w k i = 0 := by
    unfold nowB negB at h
    rw [Bool.and_eq_true, decide_eq_true_eq] at h
    have := h.1
    unfold dF; omega
   rw [dF_goal hw hi k] at h1
   constructor
   ·intro q; omega
   ·intro q; exact absurd q h1
  ·exact dF_goal hw hi k
def belowB (f : Nat → Int) (k : Int) (l : List Nat) : Bool := l.all fun j => decide (0 ≤ f j) && decide (f j < k)
theorem below_round {w : Wld} (hw : WOk w) {k : Nat} {f : Nat → Int} (hf : ∀ j, j < w.ss.length → f j = dF w k j ∨ (dF w k j < 0 ∧ f j = ((k + 1 : Nat) : Int))) {l : List Nat} (hl : ∀ j ∈ l, j < w.ss.length) (n : Nat) :
  belowB f ((k + 1 : Nat) : Int) l = okCo (dIter w k) (n, l) := by
 unfold belowB okCo
 rw [Bool.eq_iff_iff, List.all_eq_true, Bool.not_eq_true', List.any_eq_false]
 refine forall_congr' fun j => forall_congr' fun hj => ?_
 have hr := dF_range hw (hl j hj) k
 have hg : (dIter w k).getD j 0 = dF w k j := rfl
 unfold negB
 rw [hg, Bool.and_eq_true, decide_eq_true_eq, decide_eq_true_eq, decide_eq_true_eq]
 rcases hf j (hl j hj) with h | ⟨h, h2⟩
 ·rw [h]; omega
 ·rw [h2]; omega
def strongR (r : RW) (d : Nat → Int) (i : Nat) : Int := if 0 < d i then idxFrom (pO (belowB d (d i))) 0 (r.nx.getD i []) else -1
theorem nearest_below (far : List Int) (i : Nat) (c : Nat × List Nat) : nearest far i c = belowB (fun j => far.getD j 0) (far.getD i 0) c.2 := by
 unfold nearest belowB
 rw [Bool.eq_iff_iff, List.all_eq_true, Bool.not_eq_true', List.any_eq_false]
 refine forall_congr' fun j => forall_congr' fun hj => ?_
 unfold farB
 simp only []
 rw [Bool.and_eq_true, decide_eq_true_eq, decide_eq_true_eq, Bool.or_eq_true, decide_eq_true_eq, decide_eq_true_eq]
 omega
theorem strong_same {r : RW} (hw : WOk r.w) {i : Nat} (hi : i < r.ss.length) :
  (0 ≤ strongR r (dF r.w r.ss.length) i ↔ stopB r.w (strongC r.w) i = false) ∧
  (0 ≤ strongR r (dF r.w r.ss.length) i → ∃ l, (r.nx.getD i [])[(strongR r (dF r.w r.ss.length) i).toNat]? = some (some l) ∧ takenC r.w (strongC r.w) i = ((strongR r (dF r.w r.ss.length) i).toNat, l)) := by
 have hi' : i < r.w.ss.length := hi
 have hN : r.w.ss.length = r.ss.length := rfl
 have hgd : (strongC r.w).getD i 0 = strongF r.w (dIter r.w r.ss.length) i := by unfold strongC; rw [lst_getD _ hi']; rfl
 have hd : (dIter r.w r.ss.length).getD i 0 = dF r.w r.ss.length i := rfl
 have hp : nearest (dIter r.w r.ss.length) i = fun c => belowB (dF r.w r.ss.length) (dF r.w r.ss.length i) c.2 := funext fun c => nearest_below _ i c
 have hsF : strongF r.w (dIter r.w r.ss.length) i = idxFrom (fun c : Nat × List Nat => belowB (dF r.w r.ss.length) (dF r.w r.ss.length i) c.2) 0 (chFrom 0 (r.nx.getD i [])) := by
  unfold strongF; rw [hp, rw_ch]
 have hgoal := dF_goal hw hi' r.ss.length
 have hst : stopB r.w (strongC r.w) i = (goalB r.w i || decide (strongF r.w (dIter r.w r.ss.length) i < 0)) := by unfold stopB; rw [hgd]; rfl
 have htk : takenC r.w (strongC r.w) i = (chFrom 0 (r.nx.getD i [])).getD (strongF r.w (dIter r.w r.ss.length) i).toNat (0, []) := by unfold takenC; rw [hgd, rw_ch]
 rcases idx_ch (belowB (dF r.w r.ss.length) (dF r.w r.ss.length i)) (r.nx.getD i []) 0 0 0 with ⟨h1, h2⟩ | ⟨j, q, l, h1, h2, h3, h4, h5⟩
 ·rw [← hsF] at h2
  have : strongR r (dF r.w r.ss.length) i = -1 := by
   unfold strongR; split
   ·exact h1
   ·rfl
  rw [this, hst, h2]
  exact ⟨by simp, fun h => absurd h (by omega)⟩
 ·rw [← hsF] at h2
  by_cases hpos : 0 < dF r.w r.ss.length i
  ·have hR : strongR r (dF r.w r.ss.length) i = (j : Int) := by unfold strongR; rw [if_pos hpos, h1]; omega
   have hg0 : goalB r.w i = false := by
    cases hb : goalB r.w i
    ·rfl
    ·have := hgoal.2 hb; omega
   rw [hR, hst, htk, h2, hg0]
   refine ⟨?_, fun _ => ⟨l, by simpa using h4, ?_⟩⟩
   ·simp
   ·have : ((0 : Int) + (q : Int)).toNat = q := by omega
    rw [this, List.getD_eq_getElem?_getD, h3]; simp
  ·have hR : strongR r (dF r.w r.ss.length) i = -1 := by unfold strongR; rw [if_neg hpos]
   rw [hR, hst]
   refine ⟨⟨fun h => absurd h (by omega), fun h => ?_⟩, fun h => absurd h (by omega)⟩
   exfalso
   rw [Bool.or_eq_false_iff] at h
   have hne : dF r.w r.ss.length i ≠ 0 := fun e => by rw [hgoal.1 e] at h; simp at h
   have hl : l ≠ [] := by
    have hm : r.w.ch.getD i [] ∈ r.w.ch := by
     rw [List.getD_eq_getElem?_getD, List.getElem?_eq_getElem (by rw [hw.ch]; exact hi')]; exact List.getElem_mem _
    have := (hw.some _ hm _ (List.mem_of_getElem? (by rw [rw_ch]; exact h3))).2.1
    exact this
   cases l with
   | nil => exact hl rfl
   | cons y l =>
    have h6 := List.all_eq_true.1 h5 y List.mem_cons_self
    rw [Bool.and_eq_true, decide_eq_true_eq, decide_eq_true_eq] at h6
    omega
def folR (r : RW) (c : Nat → Int) (i : Nat) : List Nat := if 0 ≤ c i then ((r.nx.getD i []).getD (c i).toNat none).getD [] else []
structure Met (N : Nat) (fol : Nat → List Nat) (M : Nat → Bool) : Prop where
 zero : M 0 = true
 closed : ∀ i, i < N → M i = true → ∀ j ∈ fol i, M j = true
 least : ∀ S : Nat → Prop, S 0 → (∀ i, i < N → S i → ∀ j ∈ fol i, S j) → ∀ i, i < N → M i = true → S i
theorem bfs_closed {w : Wld} {chosen : List Int} : ∀ (k p i : Nat), p < k → (bfs w chosen k)[p]? = some i → stopB w chosen i = false → ∀ j ∈ (takenC w chosen i).2, j ∈ bfs w chosen k
 | k + 1, p, i, hp, hi, hs, j, hj => by
  obtain ⟨r, hr⟩ := bfs_pre w chosen k
  rcases Nat.lt_or_ge p (bfs w chosen k).length with hl | hl
  ·have hi' : (bfs w chosen k)[p]? = some i := by rw [hr, List.getElem?_append_left hl] at hi; exact hi
   rcases Nat.lt_or_ge p k with q | q
   ·rw [hr]; exact List.mem_append.2 (.inl (bfs_closed k p i q hi' hs j hj))
   ·have : p = k := by omega
    subst this
    rw [bfs_step hi', if_neg (by simp [hs])]
    exact addNs_mem.2 (.inr hj)
  ·have hlt := lt_of_get hi
   rw [bfs] at hlt
   split at hlt
   ·rename_i h; have := lt_of_get h; omega
   ·omega
theorem bfs_least {w : Wld} {chosen : List Int} {S : Nat → Prop} (h0 : S 0) (hs : ∀ i, S i → stopB w chosen i = false → ∀ j ∈ (takenC w chosen i).2, S j) : ∀ k, ∀ i ∈ bfs w chosen k, S i
 | 0, i, hi => by rw [bfs, List.mem_singleton] at hi; subst hi; exact h0
 | k + 1, i, hi => by
  have ih := bfs_least h0 hs k
  rw [bfs] at hi
  split at hi
  ·rename_i x hx
   split at hi
   ·exact ih i hi
   ·rename_i hst
    rcases addNs_mem.1 hi with q | q
    ·exact ih i q
    ·exact hs x (ih x (List.mem_of_getElem? hx)) (by simpa using hst) i q
  ·exact ih i hi
theorem bfs_zero (w : Wld) (chosen : List Int) : ∀ k, 0 ∈ bfs w chosen k
 | 0 => by simp [bfs]
 | k + 1 => by
  obtain ⟨r, hr⟩ := bfs_pre w chosen k
  rw [hr]; exact List.mem_append.2 (.inl (bfs_zero w chosen k))
theorem met_bfs {w : Wld} {chosen : List Int} {fol : Nat → List Nat} {M : Nat → Bool} (hw : WOk w) (hc : ChOk w chosen) (h0 : 0 < w.ss.length) (hM : Met w.ss.length fol M)
  (hf : ∀ i, i < w.ss.length → fol i = if stopB w chosen i then [] else (takenC w chosen i).2) : ∀ i, i < w.ss.length → (M i = true ↔ i ∈ bfs w chosen w.ss.length) := by
 have hb := (bfs_ok hw hc h0 w.ss.length).2
 refine fun i hi => ⟨fun h => ?_, fun h => ?_⟩
 ·refine hM.least (fun x => x ∈ bfs w chosen w.ss.length) (bfs_zero _ _ _) (fun x hx hxm j hj => ?_) i hi h
  rw [hf x hx] at hj
  split at hj
  ·simp at hj
  ·rename_i hst
   obtain ⟨p, hp⟩ := List.getElem?_of_mem hxm
   have h1 := lt_of_get hp
   have h2 := bfs_len hw hc h0 w.ss.length
   exact bfs_closed _ p x (by omega) hp (by simpa using hst) j hj
 ·refine (bfs_least (S := fun x => x < w.ss.length ∧ M x = true) ⟨h0, hM.zero⟩ (fun x hx hst j hj => ?_) _ i h).2
  refine ⟨(taken_ok hw hc hx.1 hst).2.2 j hj, hM.closed x hx.1 hx.2 j ?_⟩
  rw [hf x hx.1, hst]; simpa using hj
def listS (ss : List (List Int)) (M : Nat → Bool) (c : Nat → Int) : List (List Int) := (((List.range ss.length).filter fun i => M i && decide (0 ≤ c i)).map fun i => ss.getD i []).foldl insN []
def listG (ss : List (List Int)) (M : Nat → Bool) (c : Nat → Int) : List Int := (listS ss M c).map fun s => c (ss.idxOf s)
theorem idxOf_getD {ss : List (List Int)} (h : ss.Nodup) {i : Nat} (hi : i < ss.length) : ss.idxOf (ss.getD i []) = i := by
 obtain ⟨s, hs⟩ := get_ex hi
 rw [getD_get hs]
 have h1 : ss.idxOf s < ss.length := List.idxOf_lt_length_of_mem (List.mem_of_getElem? hs)
 refine (List.getElem?_inj h1 h).1 ?_
 rw [hs, List.getElem?_eq_getElem h1, List.getElem_idxOf]
theorem strict_of19 {l : List (List Int)} (h : l.Pairwise fun x y => ¬ cmpInts y x < 0) (hn : l.Nodup) : l.Pairwise ltL := by
 refine List.Pairwise.imp (R := fun x y => (¬ cmpInts y x < 0) ∧ x ≠ y) ?_ (List.Pairwise.and h hn)
 rintro a b ⟨h1, h2⟩
 rcases cmpInts_total h1 with q | q
 ·exact q
 ·exact absurd q.symm h2
theorem ents_same {w : Wld} {chosen : List Int} {c : Nat → Int} {M : Nat → Bool} (hw : WOk w) (hc : ChOk w chosen) (h0 : 0 < w.ss.length) (hnd : w.ss.Nodup)
  (hM : ∀ i, i < w.ss.length → (M i = true ↔ i ∈ bfs w chosen w.ss.length)) (hs : ∀ i, i < w.ss.length → (0 ≤ c i ↔ stopB w chosen i = false)) (ht : ∀ i, i < w.ss.length → 0 ≤ c i → ((takenC w chosen i).1 : Int) = c i)
  {E : List FEnt} (hp : E.Perm (outE w chosen (bfs w chosen w.ss.length))) (hE : E.Pairwise (fun x y => ¬ cmpInts y.1 x.1 < 0)) :
  E.map (·.1) = listS w.ss M c ∧ E.map (·.2) = listG w.ss M c := by
 obtain ⟨b1, b2⟩ := bfs_ok hw hc h0 w.ss.length
 have hmem : ∀ e : FEnt, e ∈ outE w chosen (bfs w chosen w.ss.length) ↔ ∃ i, i < w.ss.length ∧ M i = true ∧ 0 ≤ c i ∧ e = (w.ss.getD i [], c i) := by
  intro e
  unfold outE
  rw [List.mem_map]
  constructor
  ·rintro ⟨i, hi, rfl⟩
   obtain ⟨h1, h2⟩ := List.mem_filter.1 hi
   have hlt := b2 i h1
   have hci := (hs i hlt).2 (by simpa using h2)
   exact ⟨i, hlt, (hM i hlt).2 h1, hci, by unfold entOf; rw [ht i hlt hci]⟩
  ·rintro ⟨i, hi, h1, h2, rfl⟩
   refine ⟨i, List.mem_filter.2 ⟨(hM i hi).1 h1, by rw [(hs i hi).1 h2]; rfl⟩, ?_⟩
   unfold entOf; rw [ht i hi h2]
 have hg : ∀ i, i < w.ss.length → w.ss[i]? = some (w.ss.getD i []) := fun i hi => by
  obtain ⟨s, hs⟩ := get_ex hi
  rw [getD_get hs]; exact hs
 have hnd2 : ((outE w chosen (bfs w chosen w.ss.length)).map (·.1)).Nodup := by
  unfold outE List.Nodup
  rw [List.map_map, List.pairwise_map]
  refine List.Pairwise.imp_of_mem ?_ (b1.filter _)
  intro i j hi hj hne he
  have hi' := b2 i (List.mem_filter.1 hi).1
  have hj' := b2 j (List.mem_filter.1 hj).1
  have he' : w.ss.getD i [] = w.ss.getD j [] := he
  exact hne ((List.getElem?_inj hi' hnd).1 (by rw [hg i hi', hg j hj', he']))
 have hstr : (E.map (·.1)).Pairwise ltL := strict_of19 (by rw [List.pairwise_map]; exact hE) (((hp.map (·.1)).nodup_iff).2 hnd2)
 have e1 : E.map (·.1) = listS w.ss M c := by
  refine ltL_unique hstr (foldN _ [] .nil).1 fun x => ?_
  rw [listS, (foldN _ [] .nil).2, (hp.map (·.1)).mem_iff, List.mem_map]
  simp only [List.not_mem_nil, false_or, List.mem_map, List.mem_filter, List.mem_range, Bool.and_eq_true, decide_eq_true_eq]
  constructor
  ·rintro ⟨e, he, rfl⟩
   obtain ⟨i, h1, h2, h3, rfl⟩ := (hmem e).1 he
   exact ⟨i, ⟨h1, h2, h3⟩, rfl⟩
  ·rintro ⟨i, ⟨h1, h2, h3⟩, rfl⟩
   exact ⟨_, (hmem _).2 ⟨i, h1, h2, h3, rfl⟩, rfl⟩
 refine ⟨e1, ?_⟩
 unfold listG
 rw [← e1, List.map_map]
 refine List.map_congr_left fun e he => ?_
 obtain ⟨i, h1, h2, h3, rfl⟩ := (hmem e).1 (hp.mem_iff.1 he)
 show c i = c (w.ss.idxOf (w.ss.getD i []))
 rw [idxOf_getD hnd h1]
end Go.Proofs.YtjmmldkailblmaaGreat
namespace Go.Proofs.YtjmmldkailblmaaGreat
open Go.Ahl
def dgK (x : Int) : ByteArray := (bys [byteOf (48 + x)] ++ bys []) ++ bys [32]
def keyR (s : List Int) : ByteArray := s.foldl (fun b x => b ++ dgK x) (bys [])
def kl : List Int → List UInt8
 | [] => []
 | x :: s => byteOf (48 + x) :: 32 :: kl s
theorem keyR_list : ∀ (s : List Int) (b : ByteArray), (s.foldl (fun b x => b ++ dgK x) b).data.toList = b.data.toList ++ kl s
 | [], b => by simp [kl]
 | x :: s, b => by rw [List.foldl_cons, keyR_list s]; simp [kl, dgK, bys]
theorem kl_inj : ∀ {s s' : List Int}, (∀ x ∈ s, 0 ≤ x ∧ x < 10) → (∀ x ∈ s', 0 ≤ x ∧ x < 10) → kl s = kl s' → s = s'
 | [], [], _, _, _ => rfl
 | x :: s, [], _, _, h => by simp [kl] at h
 | [], y :: s', _, _, h => by simp [kl] at h
 | x :: s, y :: s', h1, h2, h => by
  rw [kl, kl] at h
  injection h with h3 h4
  injection h4 with _ h4
  have hx := h1 x List.mem_cons_self
  have hy := h2 y List.mem_cons_self
  have := byteOf_inj (a := 48 + x) (b := 48 + y) (by omega) (by omega) h3
  rw [kl_inj (fun z hz => h1 z (List.mem_cons_of_mem _ hz)) (fun z hz => h2 z (List.mem_cons_of_mem _ hz)) h4, show x = y by omega]
theorem keyR_inj {s s' : List Int} (h1 : ∀ x ∈ s, 0 ≤ x ∧ x < 10) (h2 : ∀ x ∈ s', 0 ≤ x ∧ x < 10) (h : keyR s = keyR s') : s = s' := by
 refine kl_inj h1 h2 ?_
 have := congrArg (fun b : ByteArray => b.data.toList) h
 unfold keyR at this
 simp only [keyR_list] at this
 simpa [bys] using this
theorem keyR_size : ∀ (s : List Int) (b : ByteArray), (s.foldl (fun b x => b ++ dgK x) b).size = b.size + 2 * s.length
 | [], b => by simp
 | x :: s, b => by
  rw [List.foldl_cons, keyR_size s, List.length_cons]
  have : (dgK x).size = 2 := rfl
  rw [ByteArray.size_append, this]; omega
def c_digits : CCode := .seq (.ops [oS 2 (.move (.lit (.str (bys []))))]) (.seq (.ops [oS 3 (.move (.lit (.str (bys []))))]) (.block 0 (.loop (.block 1 (.seq (.ops [oS 4 (.move (.tmp 0)), oS 5 (.bin .rem .none (.tmp 4) (.lit (.int .i64 10))), oS 6 (.bin .add .none (.lit (.int .i64 48)) (.tmp 5)), oS 7 (.conv .u8 (.tmp 6)), oS 8 (.bslice 1 [.tmp 7] false), oS 9 (.bstr (.tmp 8)), oS 10 (.move (.tmp 3)), oS 11 (.bin .add .none (.tmp 9) (.tmp 10)), oS 3 (.move (.tmp 11))]) (.seq (.ops [oS 12 (.move (.tmp 0)), oS 13 (.bin .quo .none (.tmp 12) (.lit (.int .i64 10))), oS 0 (.move (.tmp 13))]) (.seq (.ops [oS 14 (.move (.tmp 0)), oS 15 (.bin .eql .none (.tmp 14) (.lit (.int .i64 0)))]) (.cond (.tmp 15) (.seq (.ops [oS 16 (.move (.tmp 3)), oS 2 (.move (.tmp 16))]) .ret) .skip))))))))
set_option maxRecDepth 20000 in
theorem digits_spec (x : Int) (σ : Store) (h0 : 0 ≤ x) (h9 : x ≤ 9) : ACalls Tryz.prog 90 [.int .i64 x] σ (isR (.str (bys [byteOf (48 + x)] ++ bys [])) σ) := by
 refine ACalls.intro (rs := [(.tmp 2)]) (by kernel_rfl) { own := [], ghosts := [] } Tryz.func90 (c := Tryz.f90.body.getD .skip) (by kernel_rfl) (by decide) (by rw [show Tryz.f90.ntmps = 17 by kernel_rfl]; exact Nat.le_of_ble_eq_true rfl) (by kernel_rfl) ?_
 intro hσ hids
 rw [show comp Tryz.prog { own := [], ghosts := [] } (Tryz.f90.body.getD .skip) = c_digits by kernel_rfl, show Tryz.f90.ntmps = 17 by kernel_rfl]
 unfold c_digits
 simp only [go_sem, simprocAttr]
 refine wpc_while (fun (_ : Nat) => [(0, .int .i64 x), (3, .str (bys []))]) (fun _ => σ) (fun _ => True) (fun i => i) 0 trivial (by (try dsimp only); first | exact ghk | exact ghk0) ?_
 intro i _ K hK hE hR
 have hm : x.tmod 10 = x := Int.tmod_eq_of_lt h0 (by omega)
 have hq : x.tdiv 10 = 0 := Int.tdiv_eq_zero_of_lt h0 (by omega)
 have h48 : IntKind.i64.wrap (48 + x) = 48 + x := wrap_ok (by omega)
 have hz : IntKind.i64.wrap 0 = 0 := rfl
 have hu : ∀ tok K, aBstr (.slice tok [[AV.int .u8 (IntKind.u8.wrap (48 + x))]]) K = K (.str (bys [byteOf (48 + x)])) := fun tok K => by
  rw [← byteOf_nat]; exact e_bstr tok [byteOf (48 + x)] K
 simp only [go_sem, simprocAttr, hR, hm, hq, h48, hu, hz]
 have e2 : (bys [byteOf (48 + x)]).size = 1 := rfl
 have e0 : (bys []).size = 0 := rfl
 refine ⟨by rw [e2, e0]; decide, ?_⟩
 exact rt (.str (bys [byteOf (48 + x)] ++ bys [])) ⟨rfl, rfl⟩
def c_key02 : CCode := .seq (.ops [oS 2 (.move (.lit (.str (bys []))))]) (.seq (.ops [oS 3 (.move (.lit (.str (bys []))))]) (.seq (.seq (.ops [oS 6 (.move (.tmp 0)), oS 7 (.blen 1 (.tmp 6)), oS 8 (.move (.lit (.int .i64 0)))]) (.block 0 (.loop (.seq (.ops [oS 9 (.bin .lss .none (.tmp 8) (.tmp 7))]) (.seq (.cond (.tmp 9) .skip (.exit 0)) (.seq (.block 1 (.seq (.ops [oS 10 (.iaddr 1 (.tmp 6) (.tmp 8)), oS 11 (.load none (.tmp 10)), oS 5 (.move (.tmp 11))]) (.ops [oS 12 (.move (.tmp 3)), oS 13 (.move (.tmp 5)), oS 14 (.call (.lit (.func 90 [])) [.tmp 13]), oS 15 (.bin .add .none (.tmp 14) (.lit (.str (bys [32])))), oS 16 (.bin .add .none (.tmp 12) (.tmp 15)), oS 3 (.move (.tmp 16))]))) (.ops [oS 17 (.bin .add .none (.tmp 8) (.lit (.int .i64 1))), oS 8 (.move (.tmp 17))]))))))) (.seq (.ops [oS 18 (.move (.tmp 3)), oS 2 (.move (.tmp 18))]) .ret)))
set_option maxRecDepth 20000 in
theorem key02_spec (s : List Int) (tok : Tok) (σ : Store) (hs : s.length ≤ 1000000) (hd : ∀ x ∈ s, 0 ≤ x ∧ x < 10) : ACalls Tryz.prog 52 [.slice tok (s.map Ahl.encI)] σ (isR (.str (keyR s)) σ) := by
 refine ACalls.intro (rs := [(.tmp 2)]) (by kernel_rfl) { own := [], ghosts := [] } Tryz.func52 (c := Tryz.f52.body.getD .skip) (by kernel_rfl) (by decide) (by rw [show Tryz.f52.ntmps = 19 by kernel_rfl]; exact Nat.le_of_ble_eq_true rfl) (by kernel_rfl) ?_
 intro hσ hids
 rw [show comp Tryz.prog { own := [], ghosts := [] } (Tryz.f52.body.getD .skip) = c_key02 by kernel_rfl, show Tryz.f52.ntmps = 19 by kernel_rfl]
 unfold c_key02
 have hil : Ids σ.length (.slice tok (s.map Ahl.encI)) := hids _ (by simp)
 simp only [go_sem, simprocAttr]
 refine wpc_while (fun (i : Nat) => [(3, .str (keyR (s.take i))), (6, .slice tok (s.map Ahl.encI)), (7, .int .i64 s.length), (8, .int .i64 (i : Nat))]) (fun i => σ) (fun i => i ≤ s.length) (fun i => s.length - i) 0 (Nat.zero_le _) (by (try dsimp only); first | exact ghk | exact ghk0) ?_
 intro i hi K hK hE hR
 by_cases h : i < s.length
 ·obtain ⟨f, hx⟩ := get_ex h; have hlt : ((i : Int) < (s.length : Int)) := (by omega); have hw : IntKind.i64.wrap ((i : Int) + 1) = ((i + 1 : Nat) : Int) := (by rw [wrap_ok (by omega)]; omega)
  have hf := hd f (List.mem_of_getElem? hx)
  simp only [go_sem, simprocAttr, hlt, hx, Ahl.encI]
  refine (digits_spec f _ hf.1 (by omega)).is ?_
  simp only [go_sem, simprocAttr]
  have hsz : (keyR (s.take i)).size = 2 * i := by
   unfold keyR; rw [keyR_size, List.length_take_of_le hi]; show 0 + 2 * i = _; omega
  have e2 : (bys [byteOf (48 + f)]).size = 1 := rfl
  have e0 : (bys []).size = 0 := rfl
  have e1 : (bys [32]).size = 1 := rfl
  have hmx : IntKind.i64.max = 9223372036854775807 := rfl
  refine ⟨by rw [e2, e0, e1, hmx]; omega, by rw [hsz, e2, e0, e1, hmx]; omega, ?_⟩
  have hk : keyR (s.take i) ++ (bys [byteOf (48 + f)] ++ bys [] ++ bys [32]) = keyR (s.take (i + 1)) := by
   rw [take_succ' hx]; unfold keyR; rw [List.foldl_append]; rfl
  rw [hk]
  refine hK _ _ (i + 1) (by omega) (by first | omega | (simp only []; omega) | (simp; omega)) ?_; (try dsimp only); (try simp only [ hw]); first | exact ghk | exact ghk0
 ·have hlt : ¬ ((i : Int) < (s.length : Int)) := by omega
  rw [List.take_of_length_le (by omega)]
  simp only [go_sem, simprocAttr, hlt, hE]
  exact rt (.str (keyR s)) ⟨rfl, rfl⟩
end Go.Proofs.YtjmmldkailblmaaGreat
namespace Go.Proofs.YtjmmldkailblmaaGreat
open Go.Ahl
def encFromR : Nat → List (List Int) → List (AV × AV)
 | _, [] => []
 | k, s :: r => (.str (keyR s), .int .i64 (k : Nat)) :: encFromR (k + 1) r
def encWR (ss : List (List Int)) : List (AV × AV) := encFromR 0 ss
theorem encFromR_app : ∀ (k : Nat) (l m : List (List Int)), encFromR k (l ++ m) = encFromR k l ++ encFromR (k + l.length) m
 | k, [], m => by simp [encFromR]
 | k, s :: l, m => by rw [List.cons_append, encFromR, encFromR, encFromR_app (k + 1) l m, List.length_cons, List.cons_append, Nat.add_assoc, Nat.add_comm 1]
theorem encWR_snoc (ss : List (List Int)) (x : List Int) : encWR (ss ++ [x]) = encWR ss ++ [(.str (keyR x), .int .i64 (ss.length : Nat))] := by
 unfold encWR; rw [encFromR_app, Nat.zero_add]; rfl
def ApartR (ss : List (List Int)) (x : List Int) : Prop := ∀ y ∈ ss, keyR y = keyR x → y = x
theorem find_keyR (x : List Int) : ∀ (ss : List (List Int)) (k j : Nat), ApartR ss x →
  aFind (.str (keyR x)) (encFromR k ss) j = some (if x ∈ ss then some (j + ss.idxOf x, .int .i64 ((k + ss.idxOf x : Nat) : Int)) else none)
 | [], k, j, _ => by simp [encFromR, aFind]
 | s :: r, k, j, h => by
  rw [encFromR, aFind]
  by_cases e : s = x
  ·subst e
   have : keyEq (.str (keyR s)) (.str (keyR s)) = some true := by simp [keyEq]
   rw [this]
   simp
  ·have hk : ¬ keyR s = keyR x := fun q => e (h s List.mem_cons_self q)
   have : keyEq (.str (keyR x)) (.str (keyR s)) = some false := by
    simp only [keyEq, Option.some.injEq, beq_eq_false_iff_ne, ne_eq]
    exact fun q => hk q.symm
   rw [this]
   simp only
   rw [find_keyR x r (k + 1) (j + 1) (fun y hy => h y (List.mem_cons_of_mem _ hy))]
   have hxs : x ≠ s := fun q => e q.symm
   by_cases hm : x ∈ r
   ·rw [if_pos hm, if_pos (List.mem_cons_of_mem _ hm), List.idxOf_cons, show (s == x) = false by simpa using e]
    simp only [cond_false, Nat.add_comm, Nat.add_left_comm, Nat.add_assoc]
   ·rw [if_neg hm, if_neg (by simp [hxs, hm])]
theorem ids_encFromR (n : Nat) : ∀ (k : Nat) (ss : List (List Int)), ∀ (j : Nat) a b, (encFromR k ss)[j]? = some (a, b) → Ids n a ∧ Ids n b
 | _, [], j, a, b, h => by simp [encFromR] at h
 | k, s :: r, j, a, b, h => by
  rw [encFromR] at h
  cases j with
  | zero => simp at h; obtain ⟨rfl, rfl⟩ := h; exact ⟨.str _, .int _ _⟩
  | succ j => exact ids_encFromR n (k + 1) r j a b (by simpa using h)
theorem idsO_encWR (n : Nat) (ss : List (List Int)) : IdsO n (.map (encWR ss)) := ids_encFromR n 0 ss
theorem digits_of {n : Nat} (hn : n ≤ 10) {s : List Int} (h : risingB n (-1) s = true) : ∀ x ∈ s, 0 ≤ x ∧ x < 10 := fun x hx => by
 have := (rising_pw h).2 x hx; omega
theorem keyR_apart {n : Nat} (hn : n ≤ 10) {ss : List (List Int)} {x : List Int} (hs : ∀ y ∈ ss, risingB n (-1) y = true) (hx : risingB n (-1) x = true) : ApartR ss x := fun y hy h =>
 keyR_inj (digits_of hn (hs y hy)) (digits_of hn hx) h
def nxC : Option (List Nat) → AV
 | some l => .slice .unk (l.map encNt)
 | none => .slice .nil []
def encNx (o : Option (List Nat)) : List AV := [nxC o]
def encNl (r : List (Option (List Nat))) : List AV := [.slice .unk (r.map encNx)]
theorem ids_nxC {n : Nat} (o : Option (List Nat)) : Ids n (nxC o) := by
 cases o with
 | none => exact ids_nil _ (by simp)
 | some l => exact ids_map ids_encNt l
theorem ids_encNx {n : Nat} (o : Option (List Nat)) : IdsL n (encNx o) := idsL_cons (ids_nxC o) idsL_nil
theorem ids_encNl {n : Nat} (r : List (Option (List Nat))) : IdsL n (encNl r) := idsL_cons (ids_map ids_encNx r) idsL_nil
instance : IdE encNx := ⟨fun _ => ids_encNx⟩
instance : IdE encNl := ⟨fun _ => ids_encNl⟩
def encRW (r : RW) : List AV := [.slice .unk (r.ss.map encL), .slice .unk (r.nx.map encNl), .slice .unk (r.gl.map encB)]
def NX (t : FTask) (g ss : List (List Int)) (k : Nat) : List (List (Option (List Nat))) := (List.range k).map fun j => nxO t g ss (ss.getD j []) g.length
theorem nxO_pre {t : FTask} {g : List (List Int)} {s : List Int} {ss ss' : List (List Int)} (h : Pre ss ss') {i : Nat} (hm : ∀ j, j < i → ∀ y ∈ outsAt t g s j, y ∈ ss) : nxO t g ss' s i = nxO t g ss s i := by
 unfold nxO
 refine List.map_congr_left fun j hj => ?_
 cases ha : appB t (grp g j) s
 ·rfl
 ·rw [if_pos rfl, if_pos rfl]
  congr 1
  refine List.map_congr_left fun y hy => h.idx (hm j (List.mem_range.1 hj) y ?_)
  unfold outsAt; rw [if_pos ha]; exact hy
theorem NX_step {t : FTask} {g : List (List Int)} {s0 s : List Int} {k : Nat} (h : (ssK t g s0 k)[k]? = some s) : NX t g (ssK t g s0 (k + 1)) (k + 1) = NX t g (ssK t g s0 k) k ++ [nxO t g (ssK t g s0 (k + 1)) s g.length] := by
 have hp : Pre (ssK t g s0 k) (ssK t g s0 (k + 1)) := pre_growS _ _
 unfold NX
 rw [List.range_succ, List.map_append]
 congr 1
 ·refine List.map_congr_left fun j hj => ?_
  have hj := List.mem_range.1 hj
  obtain ⟨x, hx⟩ := get_ex (show j < (ssK t g s0 k).length by have := lt_of_get h; omega)
  rw [getD_get hx, getD_get (hp.get hx)]
  exact nxO_pre hp fun i hi y hy => closed_ssK k j x hj hx i hi y hy
 ·rw [List.map_singleton, getD_get (hp.get h)]
theorem NX_end {t : FTask} {g ss : List (List Int)} : NX t g ss ss.length = ss.map fun s => nxO t g ss s g.length := by
 unfold NX
 apply List.ext_getElem?
 intro i
 rw [List.getElem?_map, List.getElem?_map]
 rcases Nat.lt_or_ge i ss.length with h | h
 ·rw [List.getElem?_range h, List.getElem?_eq_getElem h]
  simp [List.getD_eq_getElem?_getD, List.getElem?_eq_getElem h]
 ·rw [List.getElem?_eq_none (by simpa using h), List.getElem?_eq_none h]; rfl
theorem wkL_set {a b : AV} : ∀ (l : List AV) (i : Nat), Wk a b → WkL (l.set i a) (l.set i b)
 | [], _, _ => .nil
 | x :: l, 0, h => .cons h (WkL.refl l)
 | x :: l, i + 1, h => .cons (.refl x) (wkL_set l i h)
theorem tokR {n0 nt : Nat} {s : Slots} (t : FTask) (s0 : List Int) (σ : Store) : Ghost n0 nt s (σ ++ [.row (encTask t), .row [.slice .nil [], .slice .nil [], .slice .nil []], .grow 1 1, .row [.slice (.grow (σ.length + 2)) [[.slice .unk (s0.map Ahl.encI)]], .slice .nil [], .slice .nil []], .map (encWR [s0])]) s (σ ++ [AObj.row (encTask t), AObj.row [AV.slice .nil [], AV.slice .nil [], AV.slice .nil []], AObj.grow 1 (@List.length (List Int) [s0]), AObj.row [AV.slice (.grow (σ.length + 2)) (List.map encL [s0]), AV.slice (.grow (σ.length + 5)) (List.map encNl []), AV.slice (.grow (σ.length + 6)) (List.map encB [])], AObj.map (encWR [s0]), AObj.grow 1 (@List.length (List (Option (List Nat))) []), AObj.grow 1 (@List.length Bool [])]) := by
 have g1 := Ghost.tokRow (n0 := n0) (nt := nt) (s := s) (σ := σ ++ [.row (encTask t), .row [.slice .nil [], .slice .nil [], .slice .nil []], .grow 1 1, .row [.slice (.grow (σ.length + 2)) [[.slice .unk (s0.map Ahl.encI)]], .slice .nil [], .slice .nil []], .map (encWR [s0])]) (σ.length + 3) 1 1 (by simp; rfl) rfl
 have g2 := Ghost.tokRow (n0 := n0) (nt := nt) (s := s) (σ := σ ++ [.row (encTask t), .row [.slice .nil [], .slice .nil [], .slice .nil []], .grow 1 1, .row [.slice (.grow (σ.length + 2)) [[.slice .unk (s0.map Ahl.encI)]], .slice (.grow (σ.length + 5)) [], .slice .nil []], .map (encWR [s0]), .grow 1 0]) (σ.length + 3) 2 1 (by simp; rfl) rfl
 simp only [List.length_append, List.length_cons, List.length_nil, Nat.zero_add, Nat.reduceAdd, List.append_assoc, List.cons_append, List.nil_append, g_set, List.set_cons_succ, List.set_cons_zero] at g1 g2
 exact g1.trans g2
def d_reachR_0 : List COp := [oS 34 (.faddr 2 (.tmp 10)), oA 35 (.load none (.tmp 34)) [0], oS 36 (.faddr 0 (.tmp 10)), oA 37 (.load none (.tmp 36)) [2], oS 38 (.move (.tmp 12)), oA 39 (.iaddr 1 (.tmp 37) (.tmp 38)) [3, 4], oA 40 (.load none (.tmp 39)) [5], oS 41 (.faddr 2 (.tmp 4)), oA 42 (.load none (.tmp 41)) [7], oA 43 (.call (.lit (.func 51 [])) [.tmp 40, .tmp 42]) [6, 8], oA 44 (.bsliceC 1 [.tmp 43]) [9], oA 45 (.bappend 1 1 (.tmp 35) (.tmp 44) false) [1, 10, 9], oA 46 (.faddr 2 (.tmp 10)) [0, 1, 2, 3, 4, 5, 6, 7, 8, 9, 10, 11], ⟨none, .store 1 (.tmp 46) (.tmp 45), none, [12, 11, 11, 0, 1, 2, 3, 4, 5, 6, 7, 8, 9, 10, 11]⟩]
theorem dr_reachR_0 (P : Program) (nt n0 : Nat) (Q : Post) (s : Slots) (σ : Store) : wpc P nt n0 (.draw d_reachR_0) Q s σ = aOpsD P nt [oS 34 (.faddr 2 (.tmp 10)), oA 35 (.load none (.tmp 34)) [0], oS 36 (.faddr 0 (.tmp 10)), oA 37 (.load none (.tmp 36)) [2], oS 38 (.move (.tmp 12)), oA 39 (.iaddr 1 (.tmp 37) (.tmp 38)) [3, 4], oA 40 (.load none (.tmp 39)) [5], oS 41 (.faddr 2 (.tmp 4)), oA 42 (.load none (.tmp 41)) [7], oA 43 (.call (.lit (.func 51 [])) [.tmp 40, .tmp 42]) [6, 8], oA 44 (.bsliceC 1 [.tmp 43]) [9], oA 45 (.bappend 1 1 (.tmp 35) (.tmp 44) false) [1, 10, 9], oA 46 (.faddr 2 (.tmp 10)) [0, 1, 2, 3, 4, 5, 6, 7, 8, 9, 10, 11], ⟨none, .store 1 (.tmp 46) (.tmp 45), none, [12, 11, 11, 0, 1, 2, 3, 4, 5, 6, 7, 8, 9, 10, 11]⟩] (Q .normal) s σ := wpc_draw _ (by decide)
def d_reachR_1 : List COp := [oS 57 (.load (some 4) (.tmp 4)), oS 58 (.move (.tmp 15)), oS 59 (.faddr 0 (.tmp 10)), oA 60 (.load none (.tmp 59)) [2], oS 61 (.move (.tmp 12)), oA 62 (.iaddr 1 (.tmp 60) (.tmp 61)) [3, 4], oA 63 (.load none (.tmp 62)) [5], oA 64 (.call (.lit (.func 28 [])) [.tmp 57, .tmp 58, .tmp 63]) [0, 1, 6], oA 65 (.un .not (.tmp 64)) [7]]
theorem dr_reachR_1 (P : Program) (nt n0 : Nat) (Q : Post) (s : Slots) (σ : Store) : wpc P nt n0 (.draw d_reachR_1) Q s σ = aOpsD P nt [oS 57 (.load (some 4) (.tmp 4)), oS 58 (.move (.tmp 15)), oS 59 (.faddr 0 (.tmp 10)), oA 60 (.load none (.tmp 59)) [2], oS 61 (.move (.tmp 12)), oA 62 (.iaddr 1 (.tmp 60) (.tmp 61)) [3, 4], oA 63 (.load none (.tmp 62)) [5], oA 64 (.call (.lit (.func 28 [])) [.tmp 57, .tmp 58, .tmp 63]) [0, 1, 6], oA 65 (.un .not (.tmp 64)) [7]] (Q .normal) s σ := wpc_draw _ (by decide)
def d_reachR_2 : List COp := [oS 66 (.load (some 4) (.tmp 4)), oS 67 (.move (.tmp 15)), oS 68 (.faddr 0 (.tmp 10)), oA 69 (.load none (.tmp 68)) [2], oS 70 (.move (.tmp 12)), oA 71 (.iaddr 1 (.tmp 69) (.tmp 70)) [3, 4], oA 72 (.load none (.tmp 71)) [5], oA 73 (.call (.lit (.func 29 [])) [.tmp 66, .tmp 67, .tmp 72]) [0, 1, 6], oA 74 (.blen 1 (.tmp 73)) [7], oS 75 (.move (.lit (.int .i64 0)))]
theorem dr_reachR_2 (P : Program) (nt n0 : Nat) (Q : Post) (s : Slots) (σ : Store) : wpc P nt n0 (.draw d_reachR_2) Q s σ = aOpsD P nt [oS 66 (.load (some 4) (.tmp 4)), oS 67 (.move (.tmp 15)), oS 68 (.faddr 0 (.tmp 10)), oA 69 (.load none (.tmp 68)) [2], oS 70 (.move (.tmp 12)), oA 71 (.iaddr 1 (.tmp 69) (.tmp 70)) [3, 4], oA 72 (.load none (.tmp 71)) [5], oA 73 (.call (.lit (.func 29 [])) [.tmp 66, .tmp 67, .tmp 72]) [0, 1, 6], oA 74 (.blen 1 (.tmp 73)) [7], oS 75 (.move (.lit (.int .i64 0)))] (Q .normal) s σ := wpc_draw _ (by decide)
attribute [local go_sem] dr_reachR_0 dr_reachR_1 dr_reachR_2
def c_reachR : CCode := .seq (.ops [oS 4 (.box (.tmp 0)), oS 8 (.alloc (.agg [.slice .nil [], .slice .nil [], .slice .nil []])), oS 9 (.move (.lit (.bool false)))]) (.seq (.ops [oS 20 (.move (.tmp 2)), oS 21 (.bslice 1 [.tmp 20] false), oS 22 (.build [.slice .nil [], .slice .nil [], .slice .nil []] [(0, 1, .tmp 21)]), oS 10 (.alloc (.agg [.slice .nil [], .slice .nil [], .slice .nil []])), oN (.store 3 (.tmp 10) (.tmp 22))]) (.seq (.ops [oS 23 .mkmap, oS 24 (.move (.tmp 2)), oS 25 (.call (.lit (.func 52 [])) [.tmp 24]), oN (.mapup true (.tmp 23) (.tmp 25) (.lit (.int .i64 0))), oS 26 (.move (.tmp 23)), oS 11 (.move (.tmp 26))]) (.seq (.seq (.ghost (.ops [oS 12 (.move (.lit (.int .i64 0)))])) (.block 0 (.loop (.seq (.seq (.ops [oS 27 (.move (.tmp 12)), oS 28 (.faddr 0 (.tmp 10)), oS 29 (.load none (.tmp 28)), oS 30 (.blen 1 (.tmp 29)), oS 31 (.bin .lss .none (.tmp 27) (.tmp 30))]) (.cond (.tmp 31) .skip (.exit 0))) (.seq (.block 1 (.seq (.draw d_reachR_0) (.seq (.ops [oS 47 (.move (.tmp 1)), oS 48 (.blen 1 (.tmp 47)), oS 49 (.mkslice 1 24 [.slice .nil []] (.tmp 48) (.tmp 48) true), oS 13 (.move (.tmp 49))]) (.seq (.seq (.ops [oS 50 (.move (.tmp 1)), oS 51 (.blen 1 (.tmp 50)), oS 52 (.move (.lit (.int .i64 0)))]) (.block 2 (.loop (.seq (.ops [oS 53 (.bin .lss .none (.tmp 52) (.tmp 51))]) (.seq (.cond (.tmp 53) .skip (.exit 2)) (.seq (.block 3 (.seq (.ops [oS 54 (.move (.tmp 52)), oS 55 (.iaddr 1 (.tmp 50) (.tmp 52)), oS 56 (.load none (.tmp 55)), oS 14 (.move (.tmp 54)), oS 15 (.move (.tmp 56))]) (.seq (.seq (.draw d_reachR_1) (.cond (.tmp 65) (.exit 3) .skip)) (.seq (.draw d_reachR_2) (.block 4 (.loop (.seq (.ops [oS 76 (.bin .lss .none (.tmp 75) (.tmp 74))]) (.seq (.cond (.tmp 76) .skip (.exit 4)) (.seq (.block 5 (.seq (.ops [oS 77 (.iaddr 1 (.tmp 73) (.tmp 75)), oS 78 (.load none (.tmp 77)), oS 17 (.move (.tmp 78))]) (.seq (.ops [oS 80 (.move (.tmp 11)), oS 81 (.move (.tmp 17)), oS 82 (.call (.lit (.func 52 [])) [.tmp 81]), oS 83 (.lookup true (.int .i64 0) (.tmp 80) (.tmp 82) true), oS 79 (.move (.tmp 83)), oS 84 (.extract (.tmp 79) 0), oS 85 (.extract (.tmp 79) 1), oS 18 (.move (.tmp 84)), oS 19 (.move (.tmp 85))]) (.seq (.seq (.ops [oS 86 (.move (.tmp 19)), oS 87 (.un .not (.tmp 86))]) (.cond (.tmp 87) (.seq (.seq (.ops [oS 88 (.faddr 0 (.tmp 10)), oS 89 (.load none (.tmp 88)), oS 90 (.blen 1 (.tmp 89)), oS 91 (.move (.tmp 3)), oS 92 (.bin .eql .none (.tmp 90) (.tmp 91))]) (.cond (.tmp 92) (.seq (.ops [oS 93 (.build [.slice .nil [], .slice .nil [], .slice .nil []] []), oN (.store 3 (.tmp 8) (.tmp 93)), oS 9 (.move (.lit (.bool false)))]) .ret) .skip)) (.seq (.ops [oS 94 (.faddr 0 (.tmp 10)), oS 95 (.load none (.tmp 94)), oS 96 (.blen 1 (.tmp 95)), oS 18 (.move (.tmp 96))]) (.seq (.ops [oS 97 (.move (.tmp 11)), oS 98 (.move (.tmp 17)), oS 99 (.call (.lit (.func 52 [])) [.tmp 98]), oS 100 (.move (.tmp 18)), oN (.mapup true (.tmp 97) (.tmp 99) (.tmp 100))]) (.ops [oS 101 (.faddr 0 (.tmp 10)), oS 102 (.load none (.tmp 101)), oS 103 (.move (.tmp 17)), oS 104 (.bsliceC 1 [.tmp 103]), oS 105 (.bappend 1 24 (.tmp 102) (.tmp 104) false), oS 106 (.faddr 0 (.tmp 10)), oN (.store 1 (.tmp 106) (.tmp 105))])))) .skip)) (.ops [oS 107 (.move (.tmp 13)), oS 108 (.move (.tmp 14)), oS 109 (.move (.tmp 13)), oS 110 (.move (.tmp 14)), oS 111 (.iaddr 1 (.tmp 109) (.tmp 110)), oS 112 (.load none (.tmp 111)), oS 113 (.move (.tmp 18)), oS 114 (.bsliceC 1 [.tmp 113]), oS 115 (.bappend 1 8 (.tmp 112) (.tmp 114) false), oS 116 (.iaddr 1 (.tmp 107) (.tmp 108)), oN (.store 1 (.tmp 116) (.tmp 115))]))))) (.ops [oS 117 (.bin .add .none (.tmp 75) (.lit (.int .i64 1))), oS 75 (.move (.tmp 117))])))))))))) (.ops [oS 118 (.bin .add .none (.tmp 52) (.lit (.int .i64 1))), oS 52 (.move (.tmp 118))]))))))) (.ghost (.ops [oS 119 (.faddr 1 (.tmp 10)), oS 120 (.load none (.tmp 119)), oS 121 (.move (.tmp 13)), oS 122 (.bsliceC 1 [.tmp 121]), oS 123 (.bappend 1 24 (.tmp 120) (.tmp 122) false), oS 124 (.faddr 1 (.tmp 10)), oN (.store 1 (.tmp 124) (.tmp 123))])))))) (.ops [oS 32 (.move (.tmp 12)), oS 33 (.bin .add .none (.tmp 32) (.lit (.int .i64 1))), oS 12 (.move (.tmp 33))])))))) (.seq (.ops [oS 125 (.load (some 3) (.tmp 10)), oN (.store 3 (.tmp 8) (.tmp 125)), oS 9 (.move (.lit (.bool true)))]) .ret))))
set_option maxRecDepth 20000 in
set_option maxHeartbeats 4000000 in
theorem reachR_spec (t : FTask) (g : List (List Int)) (s0 : List Int) (tok : Tok) (σ : Store) (hsz : taskSize t ≤ 300) (hb : PB t) (hg : LB g) (hg3 : ∀ l ∈ g, l.length ≤ 300) (hv : validB t = true) (h7 : t.facts.length ≤ 7) (hc : choicesB t g = true) (hs : risingB t.facts.length (-1) s0 = true) :
  ACalls Tryz.prog 19 [.agg (encTask t), .slice tok (g.map encL), .slice .unk (s0.map Ahl.encI), .int .i64 128] σ (isR (.tuple [.agg (encRW (rwF t g s0)), .bool true]) σ) := by
 refine ACalls.intro (rs := [(.cell (some 3) 8), (.tmp 9)]) (by kernel_rfl) { own := [(7, 2)], ghosts := [3, 25], cold := [(6, 10), (21, 3), (22, 7), (25, 3)] } Tryz.func19 (c := Tryz.f19.body.getD .skip) (by kernel_rfl) (by decide) (by rw [show Tryz.f19.ntmps = 126 by kernel_rfl]; exact Nat.le_of_ble_eq_true rfl) (by kernel_rfl) ?_
 intro hσ hids
 rw [show comp Tryz.prog { own := [(7, 2)], ghosts := [3, 25], cold := [(6, 10), (21, 3), (22, 7), (25, 3)] } (Tryz.f19.body.getD .skip) = c_reachR by kernel_rfl, show Tryz.f19.ntmps = 126 by kernel_rfl]
 unfold c_reachR
 have hig : Ids σ.length (.slice tok (g.map encL)) := hids _ (by simp)
 obtain ⟨hSB, he, hfl⟩ := valid_SB hb hv
 have h2n : 2 ^ t.facts.length ≤ 128 := Nat.pow_le_pow_right (n := 2) (by omega) h7
 have hn8 : ∀ y, risingB t.facts.length (-1) y = true → y.length ≤ 8 := fun y hy => by
  rcases rising_len hy (by omega) with q | q
  ·omega
  ·rw [q]; simp
 have hdg : ∀ y, risingB t.facts.length (-1) y = true → ∀ x ∈ y, 0 ≤ x ∧ x < 10 := fun y hy => digits_of (n := t.facts.length) (by omega) hy
 simp only [go_sem, simprocAttr, encTask]
 refine (key02_spec s0 .unk _ (by have := hn8 s0 hs; omega) (hdg _ hs)).is ?_
 have hfn : aFind (AV.str (keyR s0)) [] 0 = some none := rfl
 simp only [go_sem, simprocAttr, hfn]
 refine Gh.of (tokR t s0 σ) ?_
 simp only [go_sem, simprocAttr]
 have hwI : ∀ (n : Nat) ss ch gl, σ.length + 7 ≤ n → ∀ o ∈ ([AObj.row (encTask t), AObj.row [AV.slice .nil [], AV.slice .nil [], AV.slice .nil []], AObj.grow 1 (@List.length (List Int) ss), AObj.row [AV.slice (.grow (σ.length + 2)) (List.map encL ss), AV.slice (.grow (σ.length + 5)) (List.map encNl ch), AV.slice (.grow (σ.length + 6)) (List.map encB gl)], AObj.map (encWR ss), AObj.grow 1 (@List.length (List (Option (List Nat))) ch), AObj.grow 1 (@List.length Bool gl)]), IdsO n o := by
  intro n ss ch gl hn o ho
  simp only [List.mem_cons, List.not_mem_nil, or_false] at ho
  rcases ho with rfl | rfl | rfl | rfl | rfl | rfl | rfl
  ·exact idsO_row (ids_encTask t)
  ·exact idsO_row (idsL_cons (ids_nil _ (by simp)) (idsL_cons (ids_nil _ (by simp)) (idsL_cons (ids_nil _ (by simp)) idsL_nil)))
  ·trivial
  ·exact idsO_row (idsL_cons (ids_grow_map ids_encL (by omega)) (idsL_cons (ids_grow_map ids_encNl (by omega)) (idsL_cons (ids_grow_map ids_encB (by omega)) idsL_nil)))
  ·exact idsO_encWR _ _
  all_goals trivial
 have hW : ∀ ss ch gl, IdsS (σ ++ [AObj.row (encTask t), AObj.row [AV.slice .nil [], AV.slice .nil [], AV.slice .nil []], AObj.grow 1 (@List.length (List Int) ss), AObj.row [AV.slice (.grow (σ.length + 2)) (List.map encL ss), AV.slice (.grow (σ.length + 5)) (List.map encNl ch), AV.slice (.grow (σ.length + 6)) (List.map encB gl)], AObj.map (encWR ss), AObj.grow 1 (@List.length (List (Option (List Nat))) ch), AObj.grow 1 (@List.length Bool gl)]).length (σ ++ [AObj.row (encTask t), AObj.row [AV.slice .nil [], AV.slice .nil [], AV.slice .nil []], AObj.grow 1 (@List.length (List Int) ss), AObj.row [AV.slice (.grow (σ.length + 2)) (List.map encL ss), AV.slice (.grow (σ.length + 5)) (List.map encNl ch), AV.slice (.grow (σ.length + 6)) (List.map encB gl)], AObj.map (encWR ss), AObj.grow 1 (@List.length (List (Option (List Nat))) ch), AObj.grow 1 (@List.length Bool gl)]) := fun ss ch gl => idsS_app _ hσ (hwI _ ss ch gl (by simp))
 refine wpc_while (fun (k : Nat) => [(1, .slice tok (g.map encL)), (3, .int .i64 128), (4, .ptr σ.length 0), (8, .ptr (σ.length + 1) 0), (10, .ptr (σ.length + 3) 0), (11, .map (σ.length + 4)), (12, .int .i64 (k : Nat))])
  (fun k => σ ++ [AObj.row (encTask t), AObj.row [AV.slice .nil [], AV.slice .nil [], AV.slice .nil []], AObj.grow 1 (@List.length (List Int) (ssK t g s0 k)), AObj.row [AV.slice (.grow (σ.length + 2)) (List.map encL (ssK t g s0 k)), AV.slice (.grow (σ.length + 5)) (List.map encNl (NX t g (ssK t g s0 k) k)), AV.slice (.grow (σ.length + 6)) (List.map encB (GL t (ssK t g s0 k) k))], AObj.map (encWR (ssK t g s0 k)), AObj.grow 1 (@List.length (List (Option (List Nat))) (NX t g (ssK t g s0 k) k)), AObj.grow 1 (@List.length Bool (GL t (ssK t g s0 k) k))])
  (fun k => k ≤ (ssK t g s0 k).length) (fun k => 256 - k) 0 (Nat.zero_le _) ?_ ?_
 ·exact ghL0 (hW (ssK t g s0 0) [] [])
 intro k hk K hK hE hR
 have hrs := rising_ssK he hc hs k
 have hll := ssK_len he hc hs k
 have hNXl : ∀ ss k, (NX t g ss k).length = k := fun ss k => by simp [NX]
 have hGLl : ∀ ss k, (GL t ss k).length = k := fun ss k => by simp [GL]
 by_cases h : k < (ssK t g s0 k).length
 ·obtain ⟨s, hx⟩ := get_ex h
  have hsr := hrs s (List.mem_of_getElem? hx)
  have hs8 := hn8 s hsr
  have hlt : ((k : Int) < ((ssK t g s0 k).length : Int)) := by omega
  have hw0 : IntKind.i64.wrap ((k : Int) + 1) = ((k + 1 : Nat) : Int) := by rw [wrap_ok (by omega)]; omega
  have hbig : bigLen (k + 1) 1 := big_ok (by omega) (by omega)
  have hssu := ssK_succ hx
  have hNXs := NX_step hx
  have hGLs := GL_step hx
  generalize hss : ssK t g s0 k = ss at hk hrs hll h hx hlt hssu hNXs hGLs
  have hnd : ss.Nodup := by rw [← hss]; exact nodup_ssK s0 k
  have hC := hNXl ss k
  have hG := hGLl ss k
  generalize NX t g ss k = C at hC hNXs
  have hG1l : (GL t ss k ++ [condHolds s t.goal]).length = k + 1 := by simp [hG]
  generalize hG1 : GL t ss k ++ [condHolds s t.goal] = G1 at hG1l hGLs
  have hGf : List.map encB (GL t ss k) ++ [[AV.bool (condHolds s t.goal)]] = List.map encB G1 := by rw [← hG1, List.map_append]; rfl
  generalize hN : ssK t g s0 (k + 1) = N at hssu hNXs hGLs
  have hNr := rising_ssK he hc hs (k + 1)
  rw [hN] at hNr
  have hNl := ssK_len he hc hs (k + 1)
  rw [hN] at hNl
  simp only [go_sem, simprocAttr, hlt, hx, encL, encTask]
  refine ⟨_, holds02_spec s t.goal .unk .unk _ (by omega) (by have := hb.tb.goal; omega), ?_⟩
  simp only [go_sem, simprocAttr, hGLl, hbig, hGf, aMkslice]
  rw [← hG1l]
  have hgl8 : g.length ≤ 1000000 := by unfold choicesB at hc; rw [Bool.and_eq_true, decide_eq_true_eq] at hc; omega
  refine ⟨Int.le_refl _, by omega, by omega, ?_⟩
  have hWr : ∀ ss' (l : Store), (∀ o ∈ l, IdsO (σ.length + 7 + l.length) o) → IdsS (σ ++ (([AObj.row (encTask t), AObj.row [AV.slice .nil [], AV.slice .nil [], AV.slice .nil []], AObj.grow 1 (@List.length (List Int) ss'), AObj.row [AV.slice (.grow (σ.length + 2)) (List.map encL ss'), AV.slice (.grow (σ.length + 5)) (List.map encNl C), AV.slice (.grow (σ.length + 6)) (List.map encB G1)], AObj.map (encWR ss'), AObj.grow 1 (@List.length (List (Option (List Nat))) C), AObj.grow 1 (@List.length Bool G1)]) ++ l)).length (σ ++ (([AObj.row (encTask t), AObj.row [AV.slice .nil [], AV.slice .nil [], AV.slice .nil []], AObj.grow 1 (@List.length (List Int) ss'), AObj.row [AV.slice (.grow (σ.length + 2)) (List.map encL ss'), AV.slice (.grow (σ.length + 5)) (List.map encNl C), AV.slice (.grow (σ.length + 6)) (List.map encB G1)], AObj.map (encWR ss'), AObj.grow 1 (@List.length (List (Option (List Nat))) C), AObj.grow 1 (@List.length Bool G1)]) ++ l)) := fun ss' l hl => idsS_app _ hσ fun o ho => by
   rcases List.mem_append.1 ho with ho | ho
   ·exact hwI _ ss' C G1 (by simp) o ho
   ·have := hl o ho
    simpa [Nat.add_assoc, Nat.add_comm, Nat.add_left_comm] using this
  obtain ⟨f, hf⟩ : ∃ f : Nat → AV, f = fun j => nxC (if appB t (grp g j) s then some ((outsL t (grp g j) s).map N.idxOf) else none) := ⟨_, rfl⟩
  have hfi : ∀ n j, Ids n (f j) := fun n j => by rw [hf]; exact ids_nxC _
  have hz : ∀ n, Ids n (AV.slice .nil []) := fun n => ids_nil _ (by simp)
  have hR : ∀ n i, IdsO n (.row (lst g.length (split f (fun _ => AV.slice .nil []) i))) := fun n i => idsO_row fun x hx => by
   obtain ⟨j, _, rfl⟩ := List.mem_map.1 hx
   unfold split; split
   ·exact hfi _ _
   ·exact hz _
  have hW1 : ∀ ss' i, IdsS (σ ++ (([AObj.row (encTask t), AObj.row [AV.slice .nil [], AV.slice .nil [], AV.slice .nil []], AObj.grow 1 (@List.length (List Int) ss'), AObj.row [AV.slice (.grow (σ.length + 2)) (List.map encL ss'), AV.slice (.grow (σ.length + 5)) (List.map encNl C), AV.slice (.grow (σ.length + 6)) (List.map encB G1)], AObj.map (encWR ss'), AObj.grow 1 (@List.length (List (Option (List Nat))) C), AObj.grow 1 (@List.length Bool G1)]) ++ [AObj.row (lst g.length (split f (fun _ => AV.slice .nil []) i))])).length (σ ++ (([AObj.row (encTask t), AObj.row [AV.slice .nil [], AV.slice .nil [], AV.slice .nil []], AObj.grow 1 (@List.length (List Int) ss'), AObj.row [AV.slice (.grow (σ.length + 2)) (List.map encL ss'), AV.slice (.grow (σ.length + 5)) (List.map encNl C), AV.slice (.grow (σ.length + 6)) (List.map encB G1)], AObj.map (encWR ss'), AObj.grow 1 (@List.length (List (Option (List Nat))) C), AObj.grow 1 (@List.length Bool G1)]) ++ [AObj.row (lst g.length (split f (fun _ => AV.slice .nil []) i))])) := fun ss' i => hWr ss' _ (by
   intro o ho
   rw [List.mem_singleton] at ho; subst ho; exact hR _ i)
  have hrep : (List.replicate g.length [AV.slice .nil []]).flatten = lst g.length (split f (fun _ => AV.slice .nil []) 0) := by
   rw [lst_zero, ← lst_const]
   generalize g.length = n
   induction n with
   | zero => rfl
   | succ n ih => rw [List.replicate_succ, List.flatten_cons, ih, List.replicate_succ]; rfl
  rw [hrep]
  refine wpc_while (fun (i : Nat) => [(1, .slice tok (g.map encL)), (3, .int .i64 128), (4, .ptr σ.length 0), (8, .ptr (σ.length + 1) 0), (10, .ptr (σ.length + 3) 0), (11, .map (σ.length + 4)), (12, .int .i64 (k : Nat)), (13, .ref (σ.length + 7) 1 0 g.length), (50, .slice tok (g.map encL)), (51, .int .i64 g.length), (52, .int .i64 (i : Nat))])
   (fun i => σ ++ (([AObj.row (encTask t), AObj.row [AV.slice .nil [], AV.slice .nil [], AV.slice .nil []], AObj.grow 1 (@List.length (List Int) (growG t g s ss i)), AObj.row [AV.slice (.grow (σ.length + 2)) (List.map encL (growG t g s ss i)), AV.slice (.grow (σ.length + 5)) (List.map encNl C), AV.slice (.grow (σ.length + 6)) (List.map encB G1)], AObj.map (encWR (growG t g s ss i)), AObj.grow 1 (@List.length (List (Option (List Nat))) C), AObj.grow 1 (@List.length Bool G1)]) ++ [.row (lst g.length (split f (fun _ => .slice .nil []) i))]))
   (fun i => i ≤ g.length) (fun i => g.length - i) 0 (Nat.zero_le _) ?_ ?_
  ·exact ghL0 (hW1 ss 0)
  intro i hi K2 hK2 hE2 hR2
  by_cases h : i < g.length
  ·obtain ⟨l, hx⟩ := get_ex h
   have hlm := List.mem_of_getElem? hx
   have hlt : ((i : Int) < (g.length : Int)) := by omega
   have hw : IntKind.i64.wrap ((i : Int) + 1) = ((i + 1 : Nat) : Int) := by rw [wrap_ok (by omega)]; omega
   have hgi : grp g i = l := by unfold grp; rw [List.getD_eq_getElem?_getD, hx]; rfl
   obtain ⟨-, c1, c2, c3⟩ := grp_ok hc h
   rw [hgi] at c1 c2 c3
   have hgs : growG t g s ss (i + 1) = addAll (growG t g s ss i) (outsAt t g s i) := growG_succ s ss i
   unfold outsAt at hgs
   rw [hgi] at hgs
   have hfe : f i = nxC (if appB t l s then some ((outsL t l s).map N.idxOf) else none) := by rw [hf]; simp only [hgi]
   have hpre : Pre (growG t g s ss i) N := by
    rw [hssu]
    have := pre_growGG (t := t) (g := g) s ss i (g.length - i)
    rwa [show i + (g.length - i) = g.length by omega] at this
   have hgx : (growG t g s ss i)[k]? = some s := by
    have := (pre_growG (t := t) (g := g) s ss i).get ‹ss[k]? = some s›
    exact this
   simp only [go_sem, simprocAttr, hlt, hx, hgx, encL, encTask]
   refine ⟨_, app16_spec t l s .unk .unk _ hb.tb c1 c2 (by omega), ?_⟩
   cases hap : appB t l s
   ·rw [hap] at hgs hfe
    have hgs : growG t g s ss (i + 1) = growG t g s ss i := hgs
    simp only [go_sem, simprocAttr, encTask, hw]
    refine hK2 _ _ (i + 1) (by omega) (by omega) ?_
    rw [hgs, ← lst_same (i := i) (f := f) (g := fun _ => .slice .nil []) hfe]
    exact ghL0 (hW1 _ i)
   ·rw [hap] at hgs hfe
    simp only [if_true] at hgs hfe
    simp only [go_sem, simprocAttr, hgx, encL, encTask]
    refine ⟨_, outs16_spec t l s .unk .unk _ hb.tb hSB he (by omega) (by have := hg3 l hlm; omega) c2 (whens16 hsz) hsr, ?_⟩
    have hpE : Pre (addAll (growG t g s ss i) (outsL t l s)) N := by
     rw [← hgs, hssu]
     have := pre_growGG (t := t) (g := g) s ss (i + 1) (g.length - (i + 1))
     rwa [show i + 1 + (g.length - (i + 1)) = g.length by omega] at this
    have hol : (outsL t l s).length ≤ 256 := by
     have h1 : (outsL t l s).Nodup := (outs_strict t l s).imp fun {a b} q e => by subst e; exact absurd q (by unfold ltL; rw [cmpInts_refl]; omega)
     have := nodup_sub_len h1 (m := N) fun y hy => hpE.mem (mem_addAll.2 (.inr hy))
     omega
    have hor : ∀ y ∈ outsL t l s, risingB t.facts.length (-1) y = true := outs_rising he hsr c2
    generalize outsL t l s = O at hpE hol hor hgs hfe
    generalize growG t g s ss i = G0 at hpE hgs hgx hpre
    simp only [go_sem, simprocAttr]
    have hWj : ∀ ss' (ys : List Nat) j, IdsS (σ ++ (([AObj.row (encTask t), AObj.row [AV.slice .nil [], AV.slice .nil [], AV.slice .nil []], AObj.grow 1 (@List.length (List Int) ss'), AObj.row [AV.slice (.grow (σ.length + 2)) (List.map encL ss'), AV.slice (.grow (σ.length + 5)) (List.map encNl C), AV.slice (.grow (σ.length + 6)) (List.map encB G1)], AObj.map (encWR ss'), AObj.grow 1 (@List.length (List (Option (List Nat))) C), AObj.grow 1 (@List.length Bool G1)]) ++ [AObj.row ((lst g.length (split f (fun _ => AV.slice .nil []) i)).set i (.slice (.grow (σ.length + 8)) (ys.map encNt))), AObj.grow 1 j])).length (σ ++ (([AObj.row (encTask t), AObj.row [AV.slice .nil [], AV.slice .nil [], AV.slice .nil []], AObj.grow 1 (@List.length (List Int) ss'), AObj.row [AV.slice (.grow (σ.length + 2)) (List.map encL ss'), AV.slice (.grow (σ.length + 5)) (List.map encNl C), AV.slice (.grow (σ.length + 6)) (List.map encB G1)], AObj.map (encWR ss'), AObj.grow 1 (@List.length (List (Option (List Nat))) C), AObj.grow 1 (@List.length Bool G1)]) ++ [AObj.row ((lst g.length (split f (fun _ => AV.slice .nil []) i)).set i (.slice (.grow (σ.length + 8)) (ys.map encNt))), AObj.grow 1 j])) := fun ss' ys j => hWr _ _ (by
     intro o ho
     simp only [List.mem_cons, List.not_mem_nil, or_false] at ho
     rcases ho with rfl | rfl
     ·intro q x hx
      rcases get_set hx with ⟨_, rfl⟩ | ⟨_, hx⟩
      ·exact ids_grow_map ids_encNt (by simp)
      ·exact hR _ i q x hx
     ·trivial)
    refine wpc_while (fun (j : Nat) => [(1, .slice tok (g.map encL)), (3, .int .i64 128), (4, .ptr σ.length 0), (8, .ptr (σ.length + 1) 0), (10, .ptr (σ.length + 3) 0), (11, .map (σ.length + 4)), (12, .int .i64 (k : Nat)), (13, .ref (σ.length + 7) 1 0 g.length), (14, .int .i64 (i : Nat)), (50, .slice tok (g.map encL)), (51, .int .i64 g.length), (52, .int .i64 (i : Nat)), (73, .slice .unk (O.map encL)), (74, .int .i64 O.length), (75, .int .i64 (j : Nat))])
     (fun j => σ ++ (([AObj.row (encTask t), AObj.row [AV.slice .nil [], AV.slice .nil [], AV.slice .nil []], AObj.grow 1 (@List.length (List Int) (addAll G0 (O.take j))), AObj.row [AV.slice (.grow (σ.length + 2)) (List.map encL (addAll G0 (O.take j))), AV.slice (.grow (σ.length + 5)) (List.map encNl C), AV.slice (.grow (σ.length + 6)) (List.map encB G1)], AObj.map (encWR (addAll G0 (O.take j))), AObj.grow 1 (@List.length (List (Option (List Nat))) C), AObj.grow 1 (@List.length Bool G1)]) ++ [.row ((lst g.length (split f (fun _ => .slice .nil []) i)).set i (.slice (.grow (σ.length + 8)) (((O.take j).map N.idxOf).map encNt))), .grow 1 j]))
     (fun j => j ≤ O.length) (fun j => O.length - j) 0 (Nat.zero_le _) ?_ ?_
    ·refine Ghost.trans (Ghost.tokRow (σ.length + 7) i 1 (cells := lst g.length (split f (fun _ => .slice .nil []) i)) (by simp) ?_) ?_
     ·rw [lst_get _ h]; unfold split; rw [if_neg (by omega)]
     simp only [List.length_append, List.length_cons, List.length_nil, Nat.zero_add, Nat.reduceAdd, List.append_assoc, List.cons_append, List.nil_append, g_set, List.set_cons_succ, List.set_cons_zero]
     exact ghL0 (hWj G0 [] 0)
    have hRl : (lst g.length (split f (fun _ => AV.slice .nil []) i)).length = g.length := lst_len _ _
    have hRs : (lst g.length (split f (fun _ => AV.slice .nil []) i)).set i (f i) = lst g.length (split f (fun _ => AV.slice .nil []) (i + 1)) := lst_set f _ h
    generalize lst g.length (split f (fun _ => AV.slice .nil []) i) = R0 at hWj hRl hRs
    have hgR : ∀ v, (R0.set i v)[i]? = some v := fun v => List.getElem?_set_self (by omega)
    intro j hj K3 hK3 hE3 hR3
    by_cases h3 : j < O.length
    ·obtain ⟨x, hx⟩ := get_ex h3
     have hlt : ((j : Int) < (O.length : Int)) := by omega
     have hlti : ((i : Int) < (g.length : Int)) := by omega
     have hw2 : IntKind.i64.wrap ((j : Int) + 1) = ((j + 1 : Nat) : Int) := by rw [wrap_ok (by omega)]; omega
     have hbig2 : bigLen (j + 1) 8 := big_ok (by omega) (by omega)
     have hxr := hor x (List.mem_of_getElem? hx)
     have hxl := hn8 x hxr
     have hpj : Pre (addAll G0 (O.take j)) N := (pre_take G0 O j).trans hpE
     have hpj1 : Pre (addAll G0 (O.take (j + 1))) N := (pre_take G0 O (j + 1)).trans hpE
     have hat := addAll_take hx G0
     generalize addAll G0 (O.take j) = cur at hpj hat
     rw [hat] at hpj1
     have hjl := hpj.len
     have hidx : (addS cur x).idxOf x = N.idxOf x := (hpj1.idx (mem_addS.2 (.inr rfl))).symm
     have hlj : (((O.take j).map N.idxOf).map encNt).length = j := by simp; omega
     have hfj : ((O.take j).map N.idxOf).map encNt ++ [[AV.int .i64 ((N.idxOf x : Nat) : Int)]] = ((O.take (j + 1)).map N.idxOf).map encNt := by
      rw [take_succ' hx, List.map_append, List.map_append]; rfl
     have hfind := find_keyR x cur 0 0 (keyR_apart (n := t.facts.length) (by omega) (fun y hy => hNr y (hpj.mem hy)) hxr)
     simp only [Nat.zero_add] at hfind
     have hfind : aFind (.str (keyR x)) (encWR cur) 0 = _ := hfind
     simp only [go_sem, simprocAttr, hlt, hx, encL]
     refine (key02_spec x .unk _ (by omega) (hdg x hxr)).is ?_
     by_cases hm : x ∈ cur
     ·rw [if_pos hm] at hfind
      rw [addS_in hm] at hidx hat hpj1
      rw [hidx] at hfind
      simp only [go_sem, simprocAttr, hfind, hgR, hlti, hlj, hbig2, hfj, hw2, List.set_set, hRl]
      refine ⟨h, h, by rw [List.length_set]; omega, ?_⟩
      refine hK3 _ _ (j + 1) (by omega) (by omega) ?_
      rw [hat]
      exact ghL0 (hWj _ _ _)
     ·rw [if_neg hm] at hfind
      rw [addS_out hm] at hidx hat hpj1
      rw [pos_new hm] at hidx
      have hcl : cur.length + 1 ≤ N.length := by simpa using hpj1.len
      have hne : ((cur.length : Int) == 128) = false := by simp; omega
      have hbc : bigLen (cur.length + 1) 24 := big_ok (by omega) (by omega)
      have hmf : encWR cur ++ [(AV.str (keyR x), AV.int .i64 (cur.length : Nat))] = encWR (cur ++ [x]) := (encWR_snoc cur x).symm
      have hcf : cur.map encL ++ [[AV.slice .unk (x.map Ahl.encI)]] = (cur ++ [x]).map encL := by rw [List.map_append]; rfl
      have hcl2 : (cur ++ [x]).length = cur.length + 1 := by simp
      rw [← hidx] at hfj
      simp only [go_sem, simprocAttr, hfind, hne]
      refine (key02_spec x .unk _ (by omega) (hdg x hxr)).is ?_
      simp only [go_sem, simprocAttr, hfind, hmf, hcf, hbc, hgR, hlti, hlj, hbig2, hfj, hw2, List.set_set, hRl]
      refine ⟨h, h, by rw [List.length_set]; omega, ?_⟩
      refine hK3 _ _ (j + 1) (by omega) (by omega) ?_
      rw [hat]
      have := hWj (cur ++ [x]) ((O.take (j + 1)).map N.idxOf) (j + 1)
      rw [hcl2] at this ⊢
      exact ghL0 this
    ·have hlt : ¬ ((j : Int) < (O.length : Int)) := by omega
     rw [List.take_of_length_le (by omega), ← hgs]
     simp only [go_sem, simprocAttr, hlt, hE3, hw]
     have hfe : f i = .slice .unk ((O.map N.idxOf).map encNt) := hfe
     refine hK2 _ _ (i + 1) (by omega) (by omega) ?_
     refine Ghost.trans (Ghost.rewk (σ.length + 7) (xs := R0.set i (.slice (.grow (σ.length + 8)) ((O.map N.idxOf).map encNt))) (ys := R0.set i (.slice .unk ((O.map N.idxOf).map encNt))) (by simp) (wkL_set R0 i (Wk.unk _ _))) ?_
     simp only [g_set, List.cons_append, List.nil_append, List.set_cons_succ, List.set_cons_zero]
     rw [← hfe, hRs]
     have := hW1 (growG t g s ss (i + 1)) (i + 1)
     simp only [List.cons_append, List.nil_append] at this ⊢
     refine Ghost.keepL (g := [AObj.grow 1 j]) (k := 8) (([AObj.row (encTask t), AObj.row [AV.slice .nil [], AV.slice .nil [], AV.slice .nil []], AObj.grow 1 (@List.length (List Int) (growG t g s ss (i + 1))), AObj.row [AV.slice (.grow (σ.length + 2)) (List.map encL (growG t g s ss (i + 1))), AV.slice (.grow (σ.length + 5)) (List.map encNl C), AV.slice (.grow (σ.length + 6)) (List.map encB G1)], AObj.map (encWR (growG t g s ss (i + 1))), AObj.grow 1 (@List.length (List (Option (List Nat))) C), AObj.grow 1 (@List.length Bool G1)]) ++ [AObj.row (lst g.length (split f (fun _ => AV.slice .nil []) (i + 1)))]) rfl (Nat.le_refl _) ?_ (hW1 _ _)
     exact tellT
  ·have hig' : i = g.length := by omega
   have hlt : ¬ ((i : Int) < (g.length : Int)) := by omega
   subst hig'
   rw [← hssu]
   simp only [go_sem, simprocAttr, hlt, hE2]
   have hcells : lst g.length (split f (fun _ => AV.slice .nil []) g.length) = (nxO t g N s g.length).map nxC := by
    rw [lst_full _ _ (Nat.le_refl _), hf]; unfold lst nxO; rw [List.map_map]; rfl
   rw [hcells]
   refine Gh.of (Ghost.freeze 13 ((nxO t g N s g.length).map encNx) (id := σ.length + 7) (sz := 1) (off := 0) (len := g.length) rfl (by simp; rfl) (by simp [nxO]) ?_) ?_
   ·intro i e he
    rw [List.getElem?_map] at he
    obtain ⟨o, ho, rfl⟩ := Option.map_eq_some_iff.1 he
    refine ⟨rfl, fun j hj => ?_⟩
    have : j = 0 := by omega
    subst this
    rw [List.getElem?_map, show 0 + (i * 1 + 0) = i by omega, ho]; rfl
   have hCf : C.map encNl ++ [[AV.slice .unk ((nxO t g N s g.length).map encNx)]] = (NX t g N (k + 1)).map encNl := by rw [hNXs, List.map_append]; rfl
   have hCl : (NX t g N (k + 1)).length = k + 1 := hNXl _ _
   have hbig4 : bigLen (k + 1) 24 := big_ok (by omega) (by omega)
   simp only [go_sem, simprocAttr, hC, hbig4, hCf, hw0]
   refine hK _ _ (k + 1) ?_ (by omega) ?_
   ·rw [hN]
    have := (pre_growS (t := t) (g := g) ss k).len
    have e : growS t g ss k = N := by rw [← hN, ← hss]; rfl
    rw [e] at this; omega
   ·rw [hN]
    rw [← hGLs, show AObj.grow 1 (k + 1) = AObj.grow 1 (NX t g N (k + 1)).length by rw [hCl]]
    have hGk : (GL t N (k + 1)).length = k + 1 := hGLl _ _
    refine Ghost.keepL (g := [AObj.dead]) (k := 7) ([AObj.row (encTask t), AObj.row [AV.slice .nil [], AV.slice .nil [], AV.slice .nil []], AObj.grow 1 (@List.length (List Int) N), AObj.row [AV.slice (.grow (σ.length + 2)) (List.map encL N), AV.slice (.grow (σ.length + 5)) (List.map encNl (NX t g N (k + 1))), AV.slice (.grow (σ.length + 6)) (List.map encB (GL t N (k + 1)))], AObj.map (encWR N), AObj.grow 1 (@List.length (List (Option (List Nat))) (NX t g N (k + 1))), AObj.grow 1 (@List.length Bool (GL t N (k + 1)))]) rfl (Nat.le_refl _) ?_ (hW _ _ _)
    exact tellT
 ·have hke : k = (ssK t g s0 k).length := by omega
  have hlt : ¬ ((k : Int) < ((ssK t g s0 k).length : Int)) := by omega
  simp only [go_sem, simprocAttr, hlt, hE]
  have hkl : k ≤ 2 ^ t.facts.length := by have := ssK_len he hc hs k; omega
  have hF : ssF t g s0 = ssK t g s0 k := ssF_of he hc hs (by omega) hkl
  have e1 : encRW (rwF t g s0) = [.slice .unk ((ssK t g s0 k).map encL), .slice .unk ((NX t g (ssK t g s0 k) k).map encNl), .slice .unk ((GL t (ssK t g s0 k) k).map encB)] := by
   have c := NX_end (t := t) (g := g) (ss := ssK t g s0 k)
   have d := GL_end (t := t) (ss := ssK t g s0 k)
   rw [← hke] at c d
   rw [c, d]; unfold encRW rwF; rw [hF]
  refine ret_cN2 (σ := σ) (id := σ.length + 1) (x := .bool true) (cells := encRW (rwF t g s0)) rfl (by simp; rfl) (by omega) ?_ (by rw [e1]; rfl) rfl (by simp) hσ ?_ (.bool _) ⟨rfl, rfl⟩
  ·rw [e1]; exact .cons (Wk.unk _ _) (.cons (Wk.unk _ _) (.cons (Wk.unk _ _) .nil))
  ·rw [e1]; exact ids_agg (idsL_cons (ids_map ids_encL _) (idsL_cons (ids_map ids_encNl _) (idsL_cons (ids_map ids_encB _) idsL_nil)))
end Go.Proofs.YtjmmldkailblmaaGreat
namespace Go.Proofs.YtjmmldkailblmaaGreat
open Go.Ahl
structure ROk (r : RW) : Prop where
 w : WOk r.w
 wid : ∀ l ∈ r.nx, l.length ≤ 1000000
theorem ROk.nx {r : RW} (h : ROk r) : r.nx.length = r.ss.length := by
 have := h.w.ch
 simpa [RW.w] using this
theorem ROk.gl {r : RW} (h : ROk r) : r.gl.length = r.ss.length := h.w.gl
theorem ROk.len {r : RW} (h : ROk r) : r.ss.length ≤ 1000000 := h.w.len
theorem mem_chFrom {l : List Nat} : ∀ {row : List (Option (List Nat))} (k : Nat), some l ∈ row → ∃ j, (j, l) ∈ chFrom k row
 | some m :: row, k, h => by
  rcases List.mem_cons.1 h with e | h
  ·injection e with e; subst e; exact ⟨k, List.mem_cons_self⟩
  ·obtain ⟨j, hj⟩ := mem_chFrom (k + 1) h; exact ⟨j, List.mem_cons_of_mem _ hj⟩
 | none :: row, k, h => by
  rcases List.mem_cons.1 h with e | h
  ·exact absurd e (by simp)
  ·exact mem_chFrom (k + 1) h
theorem ROk.ent {r : RW} (h : ROk r) {row : List (Option (List Nat))} (hr : row ∈ r.nx) {l : List Nat} (hl : some l ∈ row) : l.length ≤ 1000000 ∧ l ≠ [] ∧ ∀ k ∈ l, k < r.ss.length := by
 obtain ⟨j, hj⟩ := mem_chFrom 0 hl
 exact h.w.some (chFrom 0 row) (List.mem_map_of_mem hr) (j, l) hj
def c_below : CCode := .seq (.ops [oS 6 (.move (.lit (.bool false)))]) (.seq (.seq (.ops [oS 9 (.move (.tmp 1)), oS 10 (.blen 1 (.tmp 9)), oS 11 (.move (.lit (.int .i64 0)))]) (.block 0 (.loop (.seq (.ops [oS 12 (.bin .lss .none (.tmp 11) (.tmp 10))]) (.seq (.cond (.tmp 12) .skip (.exit 0)) (.seq (.block 1 (.seq (.ops [oS 13 (.iaddr 1 (.tmp 9) (.tmp 11)), oS 14 (.load none (.tmp 13)), oS 8 (.move (.tmp 14))]) (.seq (.ops [oS 15 (.move (.tmp 0)), oS 16 (.move (.tmp 8)), oS 17 (.iaddr 1 (.tmp 15) (.tmp 16)), oS 18 (.load none (.tmp 17)), oS 19 (.bin .lss .none (.tmp 18) (.lit (.int .i64 0))), oS 20 (.move (.tmp 19)), oG 21 20 false (.move (.tmp 0)), oG 22 20 false (.move (.tmp 8)), oG 23 20 false (.iaddr 1 (.tmp 21) (.tmp 22)), oG 24 20 false (.load none (.tmp 23)), oG 25 20 false (.move (.tmp 2)), oG 26 20 false (.bin .geq .none (.tmp 24) (.tmp 25)), oS 27 (.pick (.tmp 20) (.lit (.bool true)) (.tmp 26))]) (.cond (.tmp 27) (.seq (.ops [oS 6 (.move (.lit (.bool false)))]) .ret) .skip)))) (.ops [oS 28 (.bin .add .none (.tmp 11) (.lit (.int .i64 1))), oS 11 (.move (.tmp 28))]))))))) (.seq (.ops [oS 6 (.move (.lit (.bool true)))]) .ret))
set_option maxRecDepth 20000 in
theorem below_spec (f : Nat → Int) (N id : Nat) (l : List Nat) (k : Int) (tok' : Tok) (σ : Store) (hid : σ[id]? = some (.row ((lst N f).map ai))) (hl : l.length ≤ 1000000 ∧ ∀ j ∈ l, j < N) :
  ACalls Tryz.prog 62 [.ref id 1 0 N, .slice tok' (l.map encNt), .int .i64 k] σ (isR (.bool (belowB f k l)) σ) := by
 refine ACalls.intro (rs := [(.tmp 6)]) (by kernel_rfl) { own := [], ghosts := [] } Tryz.func62 (c := Tryz.f62.body.getD .skip) (by kernel_rfl) (by decide) (by rw [show Tryz.f62.ntmps = 29 by kernel_rfl]; exact Nat.le_of_ble_eq_true rfl) (by kernel_rfl) ?_
 intro hσ hids
 rw [show comp Tryz.prog { own := [], ghosts := [] } (Tryz.f62.body.getD .skip) = c_below by kernel_rfl, show Tryz.f62.ntmps = 29 by kernel_rfl]
 unfold c_below
 have hil : Ids σ.length (.slice tok' (l.map encNt)) := hids _ (by simp)
 have hidl := lt_of_get hid
 have hll := hl.1
 simp only [go_sem, simprocAttr]
 refine wpc_while (fun (i : Nat) => [(0, .ref id 1 0 N), (2, .int .i64 k), (9, .slice tok' (l.map encNt)), (10, .int .i64 l.length), (11, .int .i64 (i : Nat))]) (fun _ => σ) (fun i => i ≤ l.length ∧ belowB f k l = belowB f k (l.drop i)) (fun i => l.length - i) 0 ⟨Nat.zero_le _, rfl⟩ (by (try dsimp only); first | exact ghk | exact ghk0) ?_
 rintro i ⟨hi, hv⟩ K hK hE hR
 by_cases h : i < l.length
 ·obtain ⟨x, hx⟩ := get_ex h; have hlt : ((i : Int) < (l.length : Int)) := (by omega); have hw : IntKind.i64.wrap ((i : Int) + 1) = ((i + 1 : Nat) : Int) := (by rw [wrap_ok (by omega)]; omega)
  have hxN := hl.2 x (List.mem_of_getElem? hx)
  have hxi : ((x : Int) < (N : Int)) := by omega
  have hfx := lst_get f hxN
  have hv2 : belowB f k l = ((decide (0 ≤ f x) && decide (f x < k)) && belowB f k (l.drop (i + 1))) := by rw [hv, drop_cons hx]; rfl
  by_cases h0 : f x < 0
  ·simp only [go_sem, simprocAttr, hlt, hx, hxi, hxN, hfx, hid, encNt, Ahl.encI, ai, h0, hR]
   exact rt (.bool false) ⟨by rw [hv2, decide_eq_false (by omega : ¬ 0 ≤ f x)]; rfl, rfl⟩
  by_cases h1 : f x ≥ k
  ·simp only [go_sem, simprocAttr, hlt, hx, hxi, hxN, hfx, hid, encNt, Ahl.encI, ai, h0, h1, hR]
   exact rt (.bool false) ⟨by rw [hv2, decide_eq_false (by omega : ¬ f x < k)]; simp, rfl⟩
  ·simp only [go_sem, simprocAttr, hlt, hx, hxi, hxN, hfx, hid, encNt, Ahl.encI, ai, h0, h1]
   refine hK _ _ (i + 1) (⟨by omega, by rw [hv2, decide_eq_true (by omega : 0 ≤ f x), decide_eq_true (by omega : f x < k)]; rfl⟩) (by first | omega | (simp only []; omega) | (simp; omega)) ?_; (try dsimp only); (try simp only [ hw]); first | exact ghk | exact ghk0
 ·have hlt : ¬ ((i : Int) < (l.length : Int)) := by omega
  rw [drop_len h] at hv
  simp only [go_sem, simprocAttr, hlt, hE]
  exact rt (.bool true) ⟨by rw [hv]; rfl, rfl⟩
set_option maxRecDepth 20000 in
theorem below_specS (f : Nat → Int) (N : Nat) (tok : Tok) (l : List Nat) (k : Int) (tok' : Tok) (σ : Store) (hl : l.length ≤ 1000000 ∧ ∀ j ∈ l, j < N) :
  ACalls Tryz.prog 62 [.slice tok ((lst N f).map Ahl.encI), .slice tok' (l.map encNt), .int .i64 k] σ (isR (.bool (belowB f k l)) σ) := by
 refine ACalls.intro (rs := [(.tmp 6)]) (by kernel_rfl) { own := [], ghosts := [] } Tryz.func62 (c := Tryz.f62.body.getD .skip) (by kernel_rfl) (by decide) (by rw [show Tryz.f62.ntmps = 29 by kernel_rfl]; exact Nat.le_of_ble_eq_true rfl) (by kernel_rfl) ?_
 intro hσ hids
 rw [show comp Tryz.prog { own := [], ghosts := [] } (Tryz.f62.body.getD .skip) = c_below by kernel_rfl, show Tryz.f62.ntmps = 29 by kernel_rfl]
 unfold c_below
 have hil : Ids σ.length (.slice tok' (l.map encNt)) := hids _ (by simp)
 have hil2 : Ids σ.length (.slice tok ((lst N f).map Ahl.encI)) := hids _ (by simp)
 have hll := hl.1
 simp only [go_sem, simprocAttr]
 refine wpc_while (fun (i : Nat) => [(0, .slice tok ((lst N f).map Ahl.encI)), (2, .int .i64 k), (9, .slice tok' (l.map encNt)), (10, .int .i64 l.length), (11, .int .i64 (i : Nat))]) (fun _ => σ) (fun i => i ≤ l.length ∧ belowB f k l = belowB f k (l.drop i)) (fun i => l.length - i) 0 ⟨Nat.zero_le _, rfl⟩ (by (try dsimp only); first | exact ghk | exact ghk0) ?_
 rintro i ⟨hi, hv⟩ K hK hE hR
 by_cases h : i < l.length
 ·obtain ⟨x, hx⟩ := get_ex h; have hlt : ((i : Int) < (l.length : Int)) := (by omega); have hw : IntKind.i64.wrap ((i : Int) + 1) = ((i + 1 : Nat) : Int) := (by rw [wrap_ok (by omega)]; omega)
  have hxN := hl.2 x (List.mem_of_getElem? hx)
  have hxi : ((x : Int) < (N : Int)) := by omega
  have hfx := lst_get f hxN
  have hv2 : belowB f k l = ((decide (0 ≤ f x) && decide (f x < k)) && belowB f k (l.drop (i + 1))) := by rw [hv, drop_cons hx]; rfl
  by_cases h0 : f x < 0
  ·simp only [go_sem, simprocAttr, hlt, hx, hxi, hxN, hfx, lst_len, encNt, Ahl.encI, ai, h0, hR]
   exact rt (.bool false) ⟨by rw [hv2, decide_eq_false (by omega : ¬ 0 ≤ f x)]; rfl, rfl⟩
  by_cases h1 : f x ≥ k
  ·simp only [go_sem, simprocAttr, hlt, hx, hxi, hxN, hfx, lst_len, encNt, Ahl.encI, ai, h0, h1, hR]
   exact rt (.bool false) ⟨by rw [hv2, decide_eq_false (by omega : ¬ f x < k)]; simp, rfl⟩
  ·simp only [go_sem, simprocAttr, hlt, hx, hxi, hxN, hfx, lst_len, encNt, Ahl.encI, ai, h0, h1]
   refine hK _ _ (i + 1) (⟨by omega, by rw [hv2, decide_eq_true (by omega : 0 ≤ f x), decide_eq_true (by omega : f x < k)]; rfl⟩) (by first | omega | (simp only []; omega) | (simp; omega)) ?_; (try dsimp only); (try simp only [ hw]); first | exact ghk | exact ghk0
 ·have hlt : ¬ ((i : Int) < (l.length : Int)) := by omega
  rw [drop_len h] at hv
  simp only [go_sem, simprocAttr, hlt, hE]
  exact rt (.bool true) ⟨by rw [hv]; rfl, rfl⟩
theorem row_frz16 (l : List Int) : ∀ (i : Nat) e, (l.map Ahl.encI)[i]? = some e → e.length = 1 ∧ ∀ j, j < 1 → (l.map ai)[0 + (i * 1 + j)]? = e[j]? := by
 intro i e he
 rw [List.getElem?_map] at he
 obtain ⟨o, ho, rfl⟩ := Option.map_eq_some_iff.1 he
 refine ⟨rfl, fun j hj => ?_⟩
 have : j = 0 := by omega
 subst this
 rw [List.getElem?_map, show 0 + (i * 1 + 0) = i by omega, ho]; rfl
theorem rep_ai0 (n : Nat) : (List.replicate n [AV.int .i64 0]).flatten = (lst n fun _ => 0).map ai := by rw [rep_ai16, lst_const]
def curD (w : Wld) (k i : Nat) (row : List (Option (List Nat))) (j : Nat) : Int := if dF w k i < 0 ∧ (row.take j).any (pO fun l => okCo (dIter w k) (0, l)) = true then ((k + 1 : Nat) : Int) else dF w k i
theorem curD_zero (w : Wld) (k i : Nat) (row : List (Option (List Nat))) : curD w k i row 0 = dF w k i := by unfold curD; simp
theorem curD_succ {w : Wld} {k i : Nat} {row : List (Option (List Nat))} {j : Nat} {o : Option (List Nat)} (h : row[j]? = some o) :
  curD w k i row (j + 1) = if curD w k i row j < 0 ∧ pO (fun l => okCo (dIter w k) (0, l)) o = true then ((k + 1 : Nat) : Int) else curD w k i row j := by
 unfold curD
 rw [take_succ' h, List.any_append, List.any_cons, List.any_nil, Bool.or_false]
 cases h1 : (row.take j).any (pO fun l => okCo (dIter w k) (0, l)) <;> by_cases h2 : dF w k i < 0 <;> cases h3 : pO (fun l => okCo (dIter w k) (0, l)) o <;> simp [h2] <;> omega
theorem curD_end {r : RW} (h : ROk r) {k i : Nat} (hi : i < r.ss.length) {row : List (Option (List Nat))} (hr : r.nx[i]? = some row) : curD r.w k i row row.length = dF r.w (k + 1) i := by
 rw [dF_succ h.w k hi]
 unfold curD nowB
 have hgd : r.w.ch.getD i [] = chFrom 0 row := by rw [rw_ch, List.getD_eq_getElem?_getD, hr]; rfl
 have e2 : (chFrom 0 row).any (okCo (dIter r.w k)) = row.any (pO fun l => okCo (dIter r.w k) (0, l)) := any_ch (fun l => okCo (dIter r.w k) (0, l)) 0 row
 rw [hgd, List.take_length, e2]
 have e : negB (dIter r.w k) i = decide (dF r.w k i < 0) := rfl
 rw [e]
 by_cases h1 : dF r.w k i < 0 <;> simp [h1]
def updF {α : Type} (g : Nat → α) (i : Nat) (c : α) (x : Nat) : α := if x = i then c else g x
theorem upd_set {α : Type} {N : Nat} (g : Nat → α) (i : Nat) (c : α) : (lst N g).set i c = lst N (updF g i c) := by
 refine List.ext_getElem? fun j => ?_
 rcases Nat.lt_or_ge j N with hj | hj
 ·rw [lst_get _ hj]
  by_cases e : j = i
  ·subst e; rw [List.getElem?_set_self (by rw [lst_len]; exact hj)]; simp [updF]
  ·rw [List.getElem?_set_ne (fun q => e q.symm), lst_get _ hj]; simp [updF, e]
 ·rw [List.getElem?_eq_none (by rw [List.length_set, lst_len]; exact hj), List.getElem?_eq_none (by rw [lst_len]; exact hj)]
theorem upd_upd {α : Type} (g : Nat → α) (i : Nat) (c c' : α) : updF (updF g i c) i c' = updF g i c' := funext fun x => by
 unfold updF; split <;> rfl
theorem upd_self {α : Type} (g : Nat → α) (i : Nat) : updF g i (g i) = g := funext fun x => by
 unfold updF; split
 ·subst_vars; rfl
 ·rfl
theorem dF_step {w : Wld} (hw : WOk w) {k i : Nat} (hi : i < w.ss.length) : dF w (k + 1) i = dF w k i ∨ (dF w k i < 0 ∧ dF w (k + 1) i = ((k + 1 : Nat) : Int)) := by
 rw [dF_succ hw k hi]
 split
 ·rename_i h
  unfold nowB negB at h
  rw [Bool.and_eq_true, decide_eq_true_eq] at h
  exact .inr ⟨h.1, rfl⟩
 ·exact .inl rfl
theorem curD_cases (w : Wld) (k i : Nat) (row : List (Option (List Nat))) (j : Nat) : curD w k i row j = dF w k i ∨ (dF w k i < 0 ∧ curD w k i row j = ((k + 1 : Nat) : Int)) := by
 unfold curD; split
 ·rename_i h; exact .inr ⟨h.1, rfl⟩
 ·exact .inl rfl
def c_distR : CCode := .seq (.ops [oS 1 (.box (.tmp 0)), oS 2 (.move (.lit (.slice .nil [])))]) (.seq (.ops [oS 9 (.faddr 0 (.tmp 1)), oS 10 (.load none (.tmp 9)), oS 11 (.blen 1 (.tmp 10)), oS 12 (.mkslice 1 8 [.int .i64 0] (.tmp 11) (.tmp 11) true), oS 3 (.move (.tmp 12))]) (.seq (.seq (.ops [oS 13 (.move (.tmp 3)), oS 14 (.blen 1 (.tmp 13)), oS 15 (.move (.lit (.int .i64 0)))]) (.block 0 (.loop (.seq (.ops [oS 16 (.bin .lss .none (.tmp 15) (.tmp 14))]) (.seq (.cond (.tmp 16) .skip (.exit 0)) (.seq (.block 1 (.seq (.ops [oS 17 (.move (.tmp 15)), oS 4 (.move (.tmp 17))]) (.seq (.ops [oS 18 (.move (.tmp 3)), oS 19 (.move (.tmp 4)), oS 20 (.iaddr 1 (.tmp 18) (.tmp 19)), oN (.store 1 (.tmp 20) (.lit (.int .i64 (-1))))]) (.seq (.ops [oS 21 (.faddr 2 (.tmp 1)), oS 22 (.load none (.tmp 21)), oS 23 (.move (.tmp 4)), oS 24 (.iaddr 1 (.tmp 22) (.tmp 23)), oS 25 (.load none (.tmp 24))]) (.cond (.tmp 25) (.ops [oS 26 (.move (.tmp 3)), oS 27 (.move (.tmp 4)), oS 28 (.iaddr 1 (.tmp 26) (.tmp 27)), oN (.store 1 (.tmp 28) (.lit (.int .i64 0)))]) .skip))))) (.ops [oS 29 (.bin .add .none (.tmp 15) (.lit (.int .i64 1))), oS 15 (.move (.tmp 29))]))))))) (.seq (.seq (.ghost (.ops [oS 5 (.move (.lit (.int .i64 1)))])) (.block 2 (.loop (.seq (.seq (.ops [oS 30 (.move (.tmp 5)), oS 31 (.move (.tmp 3)), oS 32 (.blen 1 (.tmp 31)), oS 33 (.bin .leq .none (.tmp 30) (.tmp 32))]) (.cond (.tmp 33) .skip (.exit 2))) (.seq (.block 3 (.seq (.ops [oS 36 (.move (.tmp 3)), oS 37 (.blen 1 (.tmp 36)), oS 38 (.move (.lit (.int .i64 0)))]) (.block 4 (.loop (.seq (.ops [oS 39 (.bin .lss .none (.tmp 38) (.tmp 37))]) (.seq (.cond (.tmp 39) .skip (.exit 4)) (.seq (.block 5 (.seq (.ops [oS 40 (.move (.tmp 38)), oS 6 (.move (.tmp 40))]) (.seq (.ops [oS 41 (.faddr 1 (.tmp 1)), oS 42 (.load none (.tmp 41)), oS 43 (.move (.tmp 6)), oS 44 (.iaddr 1 (.tmp 42) (.tmp 43)), oS 45 (.load none (.tmp 44)), oS 46 (.blen 1 (.tmp 45)), oS 47 (.move (.lit (.int .i64 0)))]) (.block 6 (.loop (.seq (.ops [oS 48 (.bin .lss .none (.tmp 47) (.tmp 46))]) (.seq (.cond (.tmp 48) .skip (.exit 6)) (.seq (.block 7 (.seq (.ops [oS 49 (.iaddr 1 (.tmp 45) (.tmp 47)), oS 50 (.load none (.tmp 49)), oS 8 (.move (.tmp 50))]) (.seq (.ops [oS 51 (.move (.tmp 3)), oS 52 (.move (.tmp 6)), oS 53 (.iaddr 1 (.tmp 51) (.tmp 52)), oS 54 (.load none (.tmp 53)), oS 55 (.bin .lss .none (.tmp 54) (.lit (.int .i64 0))), oS 56 (.move (.tmp 55)), oG 57 56 true (.move (.tmp 8)), oG 58 56 true (.bin .neq .slice (.tmp 57) (.lit (.slice .nil []))), oS 59 (.pick (.tmp 56) (.tmp 58) (.lit (.bool false))), oS 60 (.move (.tmp 59)), oG 61 60 true (.move (.tmp 3)), oG 62 60 true (.move (.tmp 8)), oG 63 60 true (.move (.tmp 5)), oG 64 60 true (.call (.lit (.func 62 [])) [.tmp 61, .tmp 62, .tmp 63]), oS 65 (.pick (.tmp 60) (.tmp 64) (.lit (.bool false)))]) (.cond (.tmp 65) (.ops [oS 66 (.move (.tmp 3)), oS 67 (.move (.tmp 6)), oS 68 (.move (.tmp 5)), oS 69 (.iaddr 1 (.tmp 66) (.tmp 67)), oN (.store 1 (.tmp 69) (.tmp 68))]) .skip)))) (.ops [oS 70 (.bin .add .none (.tmp 47) (.lit (.int .i64 1))), oS 47 (.move (.tmp 70))]))))))))) (.ops [oS 71 (.bin .add .none (.tmp 38) (.lit (.int .i64 1))), oS 38 (.move (.tmp 71))])))))))) (.ops [oS 34 (.move (.tmp 5)), oS 35 (.bin .add .none (.tmp 34) (.lit (.int .i64 1))), oS 5 (.move (.tmp 35))])))))) (.seq (.ghost (.ops [oS 72 (.move (.tmp 3)), oS 2 (.move (.tmp 72))])) .ret))))
set_option maxRecDepth 20000 in
set_option maxHeartbeats 4000000 in
theorem distR_spec (r : RW) (σ : Store) (h : ROk r) :
  ACalls Tryz.prog 20 [.agg (encRW r)] σ (isR (.slice .unk ((lst r.ss.length (dF r.w r.ss.length)).map Ahl.encI)) σ) := by
 refine ACalls.intro (rs := [(.tmp 2)]) (by kernel_rfl) { own := [(1, 3)], ghosts := [9, 22] } Tryz.func20 (c := Tryz.f20.body.getD .skip) (by kernel_rfl) (by decide) (by rw [show Tryz.f20.ntmps = 73 by kernel_rfl]; exact Nat.le_of_ble_eq_true rfl) (by kernel_rfl) ?_
 intro hσ hids
 rw [show comp Tryz.prog { own := [(1, 3)], ghosts := [9, 22] } (Tryz.f20.body.getD .skip) = c_distR by kernel_rfl, show Tryz.f20.ntmps = 73 by kernel_rfl]
 unfold c_distR
 have hnx := h.nx
 have hgl := h.gl
 have hlen := h.len
 have hrow : IdsL 0 (encRW r) := idsL_cons (ids_map ids_encL _) (idsL_cons (ids_map ids_encNl _) (idsL_cons (ids_map ids_encB _) idsL_nil))
 have hrow : ∀ n, IdsL n (encRW r) := fun n => idsL_cons (ids_map ids_encL _) (idsL_cons (ids_map ids_encNl _) (idsL_cons (ids_map ids_encB _) idsL_nil))
 have hS : ∀ F : List Int, IdsS (σ ++ [AObj.row (encRW r), AObj.row (List.map ai F)]).length (σ ++ [AObj.row (encRW r), AObj.row (List.map ai F)]) := fun F => idsS_app _ hσ (all_cons' (idsO_row (hrow _)) (all_cons' (ids_ai _) all_nil'))
 simp only [go_sem, simprocAttr, encRW, aMkslice]
 refine ⟨Int.le_refl _, by omega, by omega, ?_⟩
 rw [rep_ai0]
 obtain ⟨N, hN⟩ : ∃ N, N = r.ss.length := ⟨_, rfl⟩
 rw [← hN] at hnx hgl hlen ⊢
 rw [← lst_zero (dF r.w 0) (fun _ => 0)]
 refine wpc_while (fun (i : Nat) => [(1, .ptr σ.length 0), (3, .ref (σ.length + 1) 1 0 N), (14, .int .i64 N), (15, .int .i64 (i : Nat))])
  (fun i => σ ++ [AObj.row (encRW r), AObj.row (List.map ai (lst N (split (dF r.w 0) (fun _ => 0) i)))]) (fun i => i ≤ N) (fun i => N - i) 0 (Nat.zero_le _) (ghL0 (hS _)) ?_
 intro i hi K hK hE hR
 by_cases hlt0 : i < N
 ·have hlt : ((i : Int) < (N : Int)) := by omega
  have hw1 : IntKind.i64.wrap ((i : Int) + 1) = ((i + 1 : Nat) : Int) := by rw [wrap_ok (by omega)]; omega
  obtain ⟨b, hb⟩ := get_ex (show i < r.gl.length by omega)
  have hgb : goalB r.w i = b := by unfold goalB; rw [List.getD_eq_getElem?_getD]; show r.gl[i]?.getD false = b; rw [hb]; rfl
  have hd0 : dF r.w 0 i = if b then 0 else -1 := by rw [dF_zero h.w (by show i < r.ss.length; omega), hgb]
  have hset := lst_set (dF r.w 0) (fun _ => (0 : Int)) hlt0
  have hFl : (lst N (split (dF r.w 0) (fun _ => (0 : Int)) i)).length = N := lst_len _ _
  generalize lst N (split (dF r.w 0) (fun _ => (0 : Int)) i) = F at hset hFl
  have hF1 : i + 1 ≤ F.length := by omega
  have hF2 : i + 1 ≤ (F.set i (-1)).length := by rw [List.length_set]; omega
  rw [hd0] at hset
  cases b
  ·simp only [go_sem, simprocAttr, hlt, hlt0, hb, hF1, set_ai, encRW, encB]
   refine hK _ _ (i + 1) (by omega) (by omega) ?_
   have hset : F.set i (-1) = _ := hset
   rw [hw1, hset]
   exact ghL0 (hS _)
  ·simp only [go_sem, simprocAttr, hlt, hlt0, hb, hF1, hF2, set_ai, encRW, encB, List.set_set]
   refine hK _ _ (i + 1) (by omega) (by omega) ?_
   have hset : F.set i 0 = _ := hset
   rw [hw1, hset]
   exact ghL0 (hS _)
 have hlt : ¬ ((i : Int) < (N : Int)) := by omega
 rw [lst_full _ _ (by omega)]
 simp only [go_sem, simprocAttr, hlt, hE]
 clear hK hE hR hlt hlt0 hi
 refine Gh.of (s' := [(1, .ptr σ.length 0), (3, .ref (σ.length + 1) 1 0 N)]) (σ' := σ ++ [AObj.row (encRW r), AObj.row (List.map ai (lst N (dF r.w 0)))]) (ghL0 (hS _)) ?_
 simp only [go_sem, simprocAttr]
 refine wpc_while (fun (k : Nat) => [(1, .ptr σ.length 0), (3, .ref (σ.length + 1) 1 0 N), (5, .int .i64 ((k + 1 : Nat) : Int))])
  (fun k => σ ++ [AObj.row (encRW r), AObj.row (List.map ai (lst N (dF r.w k)))]) (fun k => k ≤ N) (fun k => N + 1 - k) 0 (Nat.zero_le _) (ghL0 (hS _)) ?_
 intro k hk K hK hE hR
 by_cases hkN : k < N
 ·have hle : (((k + 1 : Nat) : Int) ≤ (N : Int)) := by omega
  have hwk : IntKind.i64.wrap (((k + 1 : Nat) : Int) + 1) = ((k + 1 + 1 : Nat) : Int) := by rw [wrap_ok (by omega)]; omega
  simp only [go_sem, simprocAttr, hle]
  refine wpc_while (fun (i : Nat) => [(1, .ptr σ.length 0), (3, .ref (σ.length + 1) 1 0 N), (5, .int .i64 ((k + 1 : Nat) : Int)), (37, .int .i64 N), (38, .int .i64 (i : Nat))])
   (fun i => σ ++ [AObj.row (encRW r), AObj.row (List.map ai (lst N (split (dF r.w (k + 1)) (dF r.w k) i)))]) (fun i => i ≤ N) (fun i => N - i) 0 (Nat.zero_le _) ?_ ?_
  ·rw [lst_zero]; exact ghL0 (hS _)
  intro i hi K2 hK2 hE2 hR2
  by_cases hlt0 : i < N
  ·have hlt : ((i : Int) < (N : Int)) := by omega
   have hiN : i < r.w.ss.length := by show i < r.ss.length; omega
   have hw1 : IntKind.i64.wrap ((i : Int) + 1) = ((i + 1 : Nat) : Int) := by rw [wrap_ok (by omega)]; omega
   obtain ⟨row, hr⟩ := get_ex (show i < r.nx.length by omega)
   have hrm := List.mem_of_getElem? hr
   have hrl := h.wid row hrm
   have hspl : split (dF r.w (k + 1)) (dF r.w k) i i = dF r.w k i := by unfold split; rw [if_neg (by omega)]
   have hfin := lst_set (dF r.w (k + 1)) (dF r.w k) hlt0
   rw [upd_set, ← curD_end h (by omega) hr] at hfin
   have hf : ∀ j x, x < r.w.ss.length → updF (split (dF r.w (k + 1)) (dF r.w k) i) i (curD r.w k i row j) x = dF r.w k x ∨ (dF r.w k x < 0 ∧ updF (split (dF r.w (k + 1)) (dF r.w k) i) i (curD r.w k i row j) x = ((k + 1 : Nat) : Int)) := fun j x hx => by
    unfold updF; split
    ·subst_vars; exact curD_cases _ _ _ _ _
    ·unfold split; split
     ·exact dF_step h.w hx
     ·exact .inl rfl
   have hup0 : updF (split (dF r.w (k + 1)) (dF r.w k) i) i (curD r.w k i row 0) = split (dF r.w (k + 1)) (dF r.w k) i := by
    rw [curD_zero, ← hspl, upd_self]
   generalize split (dF r.w (k + 1)) (dF r.w k) i = sp at hfin hf hup0
   simp only [go_sem, simprocAttr, hlt, hlt0, hr, encRW, encNl]
   refine wpc_while (fun (j : Nat) => [(1, .ptr σ.length 0), (3, .ref (σ.length + 1) 1 0 N), (5, .int .i64 ((k + 1 : Nat) : Int)), (6, .int .i64 (i : Nat)), (37, .int .i64 N), (38, .int .i64 (i : Nat)), (45, .slice .unk (row.map encNx)), (46, .int .i64 row.length), (47, .int .i64 (j : Nat))])
    (fun j => σ ++ [AObj.row (encRW r), AObj.row (List.map ai (lst N (updF sp i (curD r.w k i row j))))]) (fun j => j ≤ row.length) (fun j => row.length - j) 0 (Nat.zero_le _) ?_ ?_
   ·rw [hup0]; exact ghL0 (hS _)
   intro j hj K3 hK3 hE3 hR3
   by_cases hj0 : j < row.length
   ·obtain ⟨o, ho⟩ := get_ex hj0
    have hltj : ((j : Int) < (row.length : Int)) := by omega
    have hwj : IntKind.i64.wrap ((j : Int) + 1) = ((j + 1 : Nat) : Int) := by rw [wrap_ok (by omega)]; omega
    have hsu := curD_succ (w := r.w) (k := k) (i := i) ho
    have hF1 : i + 1 ≤ (lst N (updF sp i (curD r.w k i row j))).length := by rw [lst_len]; omega
    have hgF := lst_get (updF sp i (curD r.w k i row j)) hlt0
    rw [show updF sp i (curD r.w k i row j) i = curD r.w k i row j by simp [updF]] at hgF
    by_cases hneg : curD r.w k i row j < 0
    ·cases o with
     | none =>
      rw [if_neg (by simp [pO])] at hsu
      simp only [go_sem, simprocAttr, hltj, hlt, hlt0, ho, encNx, nxC, hgF, ai, hneg]
      intro b _ hb
      have := hb trivial
      subst this
      simp only [go_sem, simprocAttr]
      refine hK3 _ _ (j + 1) (by omega) (by omega) ?_
      rw [hwj, hsu]
      exact ghL0 (hS _)
     | some l =>
      obtain ⟨l1, l2, l3⟩ := h.ent hrm (List.mem_of_getElem? ho)
      have hbl := below_round h.w (hf j) l3 0
      simp only [go_sem, simprocAttr, hltj, hlt, hlt0, ho, encNx, nxC, hgF, ai, hneg]
      intro b hb _
      have := hb (by simpa using l2)
      subst this
      have l3' : ∀ x ∈ l, x < N := fun x hx => by have := l3 x hx; omega
      simp only [go_sem, simprocAttr]
      refine (below_spec _ N (σ.length + 1) l _ .unk _ (by simp; rfl) ⟨l1, l3'⟩).is ?_
      rw [hbl]
      cases hok : okCo (dIter r.w k) (0, l)
      ·rw [if_neg (by simp [pO, hok])] at hsu
       simp only [go_sem, simprocAttr]
       refine hK3 _ _ (j + 1) (by omega) (by omega) ?_
       rw [hwj, hsu]
       exact ghL0 (hS _)
      ·rw [if_pos ⟨hneg, hok⟩] at hsu
       simp only [go_sem, simprocAttr, hlt, hlt0, hF1, set_ai]
       refine hK3 _ _ (j + 1) (by omega) (by omega) ?_
       rw [hwj, upd_set, upd_upd, ← hsu]
       exact ghL0 (hS _)
    ·rw [if_neg (fun q => hneg q.1)] at hsu
     simp only [go_sem, simprocAttr, hltj, hlt, hlt0, ho, encNx, hgF, ai, hneg]
     refine hK3 _ _ (j + 1) (by omega) (by omega) ?_
     rw [hwj, hsu]
     exact ghL0 (hS _)
   ·have hltj : ¬ ((j : Int) < (row.length : Int)) := by omega
    have hje : j = row.length := by omega
    subst hje
    simp only [go_sem, simprocAttr, hltj, hE3]
    refine hK2 _ _ (i + 1) (by omega) (by omega) ?_
    rw [hw1, hfin]
    exact ghL0 (hS _)
  ·have hlt : ¬ ((i : Int) < (N : Int)) := by omega
   rw [lst_full _ _ (by omega)]
   simp only [go_sem, simprocAttr, hlt, hE2]
   refine hK _ _ (k + 1) (by omega) (by omega) ?_
   rw [hwk]
   exact ghL0 (hS _)
 ·have hle : ¬ (((k + 1 : Nat) : Int) ≤ (N : Int)) := by omega
  have hke : k = N := by omega
  subst hke
  simp only [go_sem, simprocAttr, hle, hE]
  refine Gh.of (Ghost.freeze 3 ((lst k (dF r.w k)).map Ahl.encI) (id := σ.length + 1) (sz := 1) (off := 0) (len := k) rfl (by simp) (by simp [lst]) (row_frz16 _)) ?_
  simp only [go_sem, simprocAttr]
  exact rt (.slice .unk ((lst k (dF r.w k)).map Ahl.encI)) ⟨rfl, rfl⟩
end Go.Proofs.YtjmmldkailblmaaGreat
namespace Go.Proofs.YtjmmldkailblmaaGreat
open Go.Ahl
theorem row_frzB (l : List Bool) : ∀ (i : Nat) e, (l.map encB)[i]? = some e → e.length = 1 ∧ ∀ j, j < 1 → (l.map ab)[0 + (i * 1 + j)]? = e[j]? := by
 intro i e he
 rw [List.getElem?_map] at he
 obtain ⟨o, ho, rfl⟩ := Option.map_eq_some_iff.1 he
 refine ⟨rfl, fun j hj => ?_⟩
 have : j = 0 := by omega
 subst this
 rw [List.getElem?_map, show 0 + (i * 1 + 0) = i by omega, ho]; rfl
theorem rep_ab0 (n : Nat) : (List.replicate n [AV.bool false]).flatten = (lst n fun _ => false).map ab := by
 rw [← lst_const]
 induction n with
 | zero => rfl
 | succ n ih => rw [List.replicate_succ, List.flatten_cons, ih, List.replicate_succ]; rfl
theorem updB_le {M : Nat → Bool} {j x : Nat} (h : M x = true) : updF M j true x = true := by unfold updF; split; rfl; exact h
theorem cnt_upd {N : Nat} {M : Nat → Bool} {j : Nat} (hj : j < N) (h : M j = false) : cnt N M < cnt N (updF M j true) :=
 cnt_strict (fun i _ hi => updB_le hi) ⟨j, hj, h, by simp [updF]⟩
structure Sofar (N : Nat) (fol : Nat → List Nat) (M : Nat → Bool) : Prop where
 zero : M 0 = true
 least : ∀ S : Nat → Prop, S 0 → (∀ i, i < N → S i → ∀ j ∈ fol i, S j) → ∀ i, i < N → M i = true → S i
structure Pass (N : Nat) (fol : Nat → List Nat) (M0 : Nat → Bool) (P : Prop) (M : Nat → Bool) (more : Bool) : Prop where
 sofar : Sofar N fol M
 le : ∀ x, M0 x = true → M x = true
 still : more = false → M = M0 ∧ P
 grew : more = true → cnt N M0 < cnt N M
theorem Pass.add {N : Nat} {fol : Nat → List Nat} {M0 : Nat → Bool} {P Q : Prop} {M : Nat → Bool} {more : Bool} (h : Pass N fol M0 P M more) {i j : Nat} (hi : i < N) (hM : M i = true) (hj : j ∈ fol i) (hjN : j < N) (hn : M j = false) : Pass N fol M0 Q (updF M j true) true where
 sofar := ⟨updB_le h.sofar.zero, fun S h0 hS x hx hx2 => by
  unfold updF at hx2
  split at hx2
  ·subst_vars; exact hS i hi (h.sofar.least S h0 hS i hi hM) _ hj
  ·exact h.sofar.least S h0 hS x hx hx2⟩
 le x hx := updB_le (h.le x hx)
 still q := absurd q (by simp)
 grew _ := by
  have h1 : cnt N M0 ≤ cnt N M := cnt_mono fun i _ hi => h.le i hi
  have h2 := cnt_upd hjN hn
  omega
theorem Pass.to {N : Nat} {fol : Nat → List Nat} {M0 : Nat → Bool} {P Q : Prop} {M : Nat → Bool} {more : Bool} (h : Pass N fol M0 P M more) (hq : M = M0 → P → Q) : Pass N fol M0 Q M more :=
 ⟨h.sofar, h.le, fun q => ⟨(h.still q).1, hq (h.still q).1 (h.still q).2⟩, h.grew⟩
def ChoR (r : RW) (c : Nat → Int) : Prop := ∀ i, i < r.ss.length → 0 ≤ c i → ∃ l, (r.nx.getD i [])[(c i).toNat]? = some (some l)
def d_met_0 : List COp := [oS 35 (.faddr 1 (.tmp 2)), oA 36 (.load none (.tmp 35)) [0], oS 37 (.move (.tmp 7)), oA 38 (.iaddr 1 (.tmp 36) (.tmp 37)) [1, 2], oA 39 (.load none (.tmp 38)) [3], oS 40 (.move (.tmp 1)), oS 41 (.move (.tmp 7)), oA 42 (.iaddr 1 (.tmp 40) (.tmp 41)) [5, 6], oA 43 (.load none (.tmp 42)) [7], oA 44 (.iaddr 1 (.tmp 39) (.tmp 43)) [4, 8], oA 45 (.load none (.tmp 44)) [9], oA 46 (.blen 1 (.tmp 45)) [10], oS 47 (.move (.lit (.int .i64 0)))]
theorem dr_met_0 (P : Program) (nt n0 : Nat) (Q : Post) (s : Slots) (σ : Store) : wpc P nt n0 (.draw d_met_0) Q s σ = aOpsD P nt [oS 35 (.faddr 1 (.tmp 2)), oA 36 (.load none (.tmp 35)) [0], oS 37 (.move (.tmp 7)), oA 38 (.iaddr 1 (.tmp 36) (.tmp 37)) [1, 2], oA 39 (.load none (.tmp 38)) [3], oS 40 (.move (.tmp 1)), oS 41 (.move (.tmp 7)), oA 42 (.iaddr 1 (.tmp 40) (.tmp 41)) [5, 6], oA 43 (.load none (.tmp 42)) [7], oA 44 (.iaddr 1 (.tmp 39) (.tmp 43)) [4, 8], oA 45 (.load none (.tmp 44)) [9], oA 46 (.blen 1 (.tmp 45)) [10], oS 47 (.move (.lit (.int .i64 0)))] (Q .normal) s σ := wpc_draw _ (by decide)
attribute [local go_sem] dr_met_0
def c_met : CCode := .seq (.ops [oS 2 (.box (.tmp 0)), oS 4 (.move (.lit (.slice .nil [])))]) (.seq (.ops [oS 10 (.faddr 0 (.tmp 2)), oS 11 (.load none (.tmp 10)), oS 12 (.blen 1 (.tmp 11)), oS 13 (.mkslice 1 1 [.bool false] (.tmp 12) (.tmp 12) true), oS 5 (.move (.tmp 13))]) (.seq (.ops [oS 14 (.move (.tmp 5)), oS 15 (.iaddr 1 (.tmp 14) (.lit (.int .i64 0))), oN (.store 1 (.tmp 15) (.lit (.bool true)))]) (.seq (.seq (.ops [oS 6 (.move (.lit (.bool true)))]) (.block 0 (.loop (.seq (.seq (.ops [oS 16 (.move (.tmp 6))]) (.cond (.tmp 16) .skip (.exit 0))) (.block 1 (.seq (.ops [oS 6 (.move (.lit (.bool false)))]) (.seq (.ops [oS 17 (.faddr 0 (.tmp 2)), oS 18 (.load none (.tmp 17)), oS 19 (.blen 1 (.tmp 18)), oS 20 (.move (.lit (.int .i64 0)))]) (.block 2 (.loop (.seq (.ops [oS 21 (.bin .lss .none (.tmp 20) (.tmp 19))]) (.seq (.cond (.tmp 21) .skip (.exit 2)) (.seq (.block 3 (.seq (.ops [oS 22 (.move (.tmp 20)), oS 7 (.move (.tmp 22))]) (.seq (.seq (.ops [oS 23 (.move (.tmp 5)), oS 24 (.move (.tmp 7)), oS 25 (.iaddr 1 (.tmp 23) (.tmp 24)), oS 26 (.load none (.tmp 25)), oS 27 (.un .not (.tmp 26)), oS 28 (.move (.tmp 27)), oG 29 28 false (.move (.tmp 1)), oG 30 28 false (.move (.tmp 7)), oG 31 28 false (.iaddr 1 (.tmp 29) (.tmp 30)), oG 32 28 false (.load none (.tmp 31)), oG 33 28 false (.bin .lss .none (.tmp 32) (.lit (.int .i64 0))), oS 34 (.pick (.tmp 28) (.lit (.bool true)) (.tmp 33))]) (.cond (.tmp 34) (.exit 3) .skip)) (.seq (.draw d_met_0) (.block 4 (.loop (.seq (.ops [oS 48 (.bin .lss .none (.tmp 47) (.tmp 46))]) (.seq (.cond (.tmp 48) .skip (.exit 4)) (.seq (.block 5 (.seq (.ops [oS 49 (.iaddr 1 (.tmp 45) (.tmp 47)), oS 50 (.load none (.tmp 49)), oS 9 (.move (.tmp 50))]) (.seq (.ops [oS 51 (.move (.tmp 5)), oS 52 (.move (.tmp 9)), oS 53 (.iaddr 1 (.tmp 51) (.tmp 52)), oS 54 (.load none (.tmp 53)), oS 55 (.un .not (.tmp 54))]) (.cond (.tmp 55) (.ops [oS 56 (.move (.tmp 5)), oS 57 (.move (.tmp 9)), oS 58 (.iaddr 1 (.tmp 56) (.tmp 57)), oN (.store 1 (.tmp 58) (.lit (.bool true))), oS 6 (.move (.lit (.bool true)))]) .skip)))) (.ops [oS 59 (.bin .add .none (.tmp 47) (.lit (.int .i64 1))), oS 47 (.move (.tmp 59))])))))))))) (.ops [oS 60 (.bin .add .none (.tmp 20) (.lit (.int .i64 1))), oS 20 (.move (.tmp 60))]))))))))))))) (.seq (.ghost (.ops [oS 61 (.move (.tmp 5)), oS 4 (.move (.tmp 61))])) .ret))))
set_option maxRecDepth 20000 in
set_option maxHeartbeats 4000000 in
theorem met_spec (r : RW) (c : Nat → Int) (id : Nat) (σ : Store) (h : ROk r) (h0 : 0 < r.ss.length) (hid : σ[id]? = some (.row ((lst r.ss.length c).map ai))) (hc : ChoR r c) :
  ACalls Tryz.prog 96 [.agg (encRW r), .ref id 1 0 r.ss.length] σ (fun v σ' => σ' = σ ∧ ∃ M, Met r.ss.length (folR r c) M ∧ v = .slice .unk ((lst r.ss.length M).map encB)) := by
 refine ACalls.intro (rs := [(.tmp 4)]) (by kernel_rfl) { own := [(1, 3)], ghosts := [17] } Tryz.func96 (c := Tryz.f96.body.getD .skip) (by kernel_rfl) (by decide) (by rw [show Tryz.f96.ntmps = 62 by kernel_rfl]; exact Nat.le_of_ble_eq_true rfl) (by kernel_rfl) ?_
 intro hσ hids
 rw [show comp Tryz.prog { own := [(1, 3)], ghosts := [17] } (Tryz.f96.body.getD .skip) = c_met by kernel_rfl, show Tryz.f96.ntmps = 62 by kernel_rfl]
 unfold c_met
 have hnx := h.nx
 have hgl := h.gl
 have hlen := h.len
 have hidl := lt_of_get hid
 have hidg : ∀ l, (σ ++ l)[id]? = some (.row ((lst r.ss.length c).map ai)) := fun l => by rw [List.getElem?_append_left hidl]; exact hid
 have hrow : ∀ n, IdsL n (encRW r) := fun n => idsL_cons (ids_map ids_encL _) (idsL_cons (ids_map ids_encNl _) (idsL_cons (ids_map ids_encB _) idsL_nil))
 have hS : ∀ F : List Bool, IdsS (σ ++ [AObj.row (encRW r), AObj.row (List.map ab F)]).length (σ ++ [AObj.row (encRW r), AObj.row (List.map ab F)]) := fun F => idsS_app _ hσ (all_cons' (idsO_row (hrow _)) (all_cons' (ids_ab _) all_nil'))
 obtain ⟨N, hN⟩ : ∃ N, N = r.ss.length := ⟨_, rfl⟩
 have hNi : ((0 : Int) < (N : Int)) := by omega
 have hFl : ∀ M : Nat → Bool, (lst N M).length = N := fun M => lst_len _ _
 have hF1 : 0 + 1 ≤ (lst N fun _ => false).length := by rw [lst_len]; omega
 rw [← hN] at hnx hgl hlen hidg hid h0 ⊢
 simp only [go_sem, simprocAttr, encRW, aMkslice, ← hN]
 refine ⟨Int.le_refl _, by omega, by omega, ?_⟩
 rw [rep_ab0]
 simp only [go_sem, simprocAttr, hNi, h0, hF1, set_ab16]
 rw [upd_set]
 have hs0 : Sofar N (folR r c) (updF (fun _ => false) 0 true) := ⟨by simp [updF], fun S h00 hS x hx hx2 => by
  unfold updF at hx2; split at hx2
  ·rename_i e; rw [e]; exact h00
  ·simp at hx2⟩
 refine wpc_while (fun (x : (Nat → Bool) × Bool) => [(1, .ref id 1 0 N), (2, .ptr σ.length 0), (5, .ref (σ.length + 1) 1 0 N), (6, .bool x.2)])
  (fun x => σ ++ [AObj.row (encRW r), AObj.row (List.map ab (lst N x.1))]) (fun x => Sofar N (folR r c) x.1 ∧ (x.2 = false → ∀ i, i < N → x.1 i = true → ∀ j ∈ folR r c i, x.1 j = true)) (fun x => 2 * (N - cnt N x.1) + (if x.2 then 1 else 0)) (updF (fun _ => false) 0 true, true) ⟨hs0, fun q => absurd q (by simp)⟩ (ghL0 (hS _)) ?_
 rintro ⟨M0, more0⟩ ⟨hM0, hcl⟩ K hK hE hR
 simp only at hM0 hcl
 cases more0
 ·simp only [go_sem, simprocAttr, hE]
  refine Gh.of (Ghost.freeze 5 ((lst N M0).map encB) (id := σ.length + 1) (sz := 1) (off := 0) (len := N) rfl (by simp) (by simp [lst]) (row_frzB _)) ?_
  simp only [go_sem, simprocAttr]
  exact rt (.slice .unk ((lst N M0).map encB)) ⟨rfl, M0, ⟨hM0.zero, hcl rfl, hM0.least⟩, rfl⟩
 ·simp only [go_sem, simprocAttr, encRW, ← hN]
  have hfo : ∀ i, i < N → ∀ row, r.nx[i]? = some row → 0 ≤ c i → ∃ l, row[(c i).toNat]? = some (some l) ∧ folR r c i = l ∧ l.length ≤ 1000000 ∧ ∀ x ∈ l, x < N := fun i hi row hr h00 => by
   obtain ⟨l, hl⟩ := hc i (by omega) h00
   have hgd : r.nx.getD i [] = row := by rw [List.getD_eq_getElem?_getD, hr]; rfl
   rw [hgd] at hl
   obtain ⟨l1, _, l3⟩ := h.ent (List.mem_of_getElem? hr) (List.mem_of_getElem? hl)
   refine ⟨l, hl, ?_, l1, fun x hx => by have := l3 x hx; omega⟩
   unfold folR
   rw [if_pos h00, hgd, List.getD_eq_getElem?_getD, hl]; rfl
  have hfn : ∀ i, ¬ 0 ≤ c i → folR r c i = [] := fun i q => by unfold folR; rw [if_neg q]
  refine wpc_while (fun (x : Nat × (Nat → Bool) × Bool) => [(1, .ref id 1 0 N), (2, .ptr σ.length 0), (5, .ref (σ.length + 1) 1 0 N), (6, .bool x.2.2), (19, .int .i64 N), (20, .int .i64 (x.1 : Nat))])
   (fun x => σ ++ [AObj.row (encRW r), AObj.row (List.map ab (lst N x.2.1))]) (fun x => x.1 ≤ N ∧ Pass N (folR r c) M0 (∀ i, i < x.1 → M0 i = true → ∀ j ∈ folR r c i, M0 j = true) x.2.1 x.2.2) (fun x => N - x.1) (0, M0, false) ⟨Nat.zero_le _, hM0, fun _ q => q, fun _ => ⟨rfl, fun i hi => absurd hi (by simp)⟩, fun q => absurd q (by simp)⟩ (by simp only [encRW]; exact ghL0 (hS (lst N M0))) ?_
  rintro ⟨i, M, more⟩ ⟨hi, hP⟩ K2 hK2 hE2 hR2
  simp only at hi hP
  by_cases hiN : i < N
  ·have hlt : ((i : Int) < (N : Int)) := by omega
   have hw1 : IntKind.i64.wrap ((i : Int) + 1) = ((i + 1 : Nat) : Int) := by rw [wrap_ok (by omega)]; omega
   have hgM := lst_get M hiN
   have hgc := lst_get c hiN
   obtain ⟨row, hr⟩ := get_ex (show i < r.nx.length by omega)
   have hrl := h.wid row (List.mem_of_getElem? hr)
   cases hMi : M i
   ·rw [hMi] at hgM
    simp only [go_sem, simprocAttr, hlt, hiN, hgM, ab]
    refine hK2 _ _ (i + 1, M, more) ⟨by simp only []; omega, hP.to fun hm hp x hx => ?_⟩ (by simp only []; omega) ?_
    ·rcases Nat.lt_or_ge x i with q | q
     ·exact hp x q
     ·have : x = i := by simp only [] at hx; omega
      subst this
      rw [← hm, hMi]; simp
    simp only [hw1]
    exact ghL0 (hS _)
   rw [hMi] at hgM
   by_cases hci : c i < 0
   ·simp only [go_sem, simprocAttr, hlt, hiN, hgM, ab, hidg, hgc, ai, hci]
    refine hK2 _ _ (i + 1, M, more) ⟨by simp only []; omega, hP.to fun hm hp x hx => ?_⟩ (by simp only []; omega) ?_
    ·rcases Nat.lt_or_ge x i with q | q
     ·exact hp x q
     ·have : x = i := by simp only [] at hx; omega
      subst this
      rw [hfn x (by omega)]; simp
    simp only [hw1]
    exact ghL0 (hS _)
   have hc0 : 0 ≤ c i := by omega
   obtain ⟨l, hl, hfl, hll, hlN⟩ := hfo i hiN row hr hc0
   simp only [go_sem, simprocAttr, hlt, hiN, hgM, ab, hidg, hgc, ai, hci, encRW, hr, encNl, hc0, hl, encNx, nxC]
   refine wpc_while (fun (x : Nat × (Nat → Bool) × Bool) => [(1, .ref id 1 0 N), (2, .ptr σ.length 0), (5, .ref (σ.length + 1) 1 0 N), (6, .bool x.2.2), (19, .int .i64 N), (20, .int .i64 (i : Nat)), (45, .slice .unk (l.map encNt)), (46, .int .i64 l.length), (47, .int .i64 (x.1 : Nat))])
    (fun x => σ ++ [AObj.row (encRW r), AObj.row (List.map ab (lst N x.2.1))]) (fun x => x.1 ≤ l.length ∧ x.2.1 i = true ∧ Pass N (folR r c) M0 ((∀ i', i' < i → M0 i' = true → ∀ j ∈ folR r c i', M0 j = true) ∧ ∀ j ∈ l.take x.1, M0 j = true) x.2.1 x.2.2) (fun x => l.length - x.1) (0, M, more) ⟨Nat.zero_le _, hMi, hP.to fun _ q => ⟨q, by simp⟩⟩ (by simp only [encRW]; exact ghL0 (hS (lst N M))) ?_
   clear hgM
   rintro ⟨j, M1, more1⟩ ⟨hj, hMi1, hP1⟩ K3 hK3 hE3 hR3
   simp only at hj hP1 hMi1
   by_cases hjl : j < l.length
   ·obtain ⟨x, hx⟩ := get_ex hjl
    have hltj : ((j : Int) < (l.length : Int)) := by omega
    have hwj : IntKind.i64.wrap ((j : Int) + 1) = ((j + 1 : Nat) : Int) := by rw [wrap_ok (by omega)]; omega
    have hxN := hlN x (List.mem_of_getElem? hx)
    have hxi : ((x : Int) < (N : Int)) := by omega
    have hgM := lst_get M1 hxN
    have hFx : x + 1 ≤ (lst N M1).length := by rw [lst_len]; omega
    cases hMx : M1 x
    ·rw [hMx] at hgM
     simp only [go_sem, simprocAttr, hltj, hx, encNt, hxi, hxN, hgM, ab, hFx, set_ab16]
     refine hK3 _ _ (j + 1, updF M1 x true, true) ⟨by simp only []; omega, updB_le hMi1, hP1.add hiN hMi1 (by rw [hfl]; exact List.mem_of_getElem? hx) hxN hMx⟩ (by simp only []; omega) ?_
     simp only [hwj, upd_set]
     exact ghL0 (hS _)
    ·rw [hMx] at hgM
     simp only [go_sem, simprocAttr, hltj, hx, encNt, hxi, hxN, hgM, ab]
     refine hK3 _ _ (j + 1, M1, more1) ⟨by simp only []; omega, hMi1, hP1.to fun hm hp => ⟨hp.1, fun y hy => ?_⟩⟩ (by simp only []; omega) ?_
     ·rw [take_succ' hx] at hy
      rcases List.mem_append.1 hy with hy | hy
      ·exact hp.2 y hy
      ·rw [List.mem_singleton] at hy; subst hy; rw [← hm]; exact hMx
     simp only [hwj]
     exact ghL0 (hS _)
   ·have hltj : ¬ ((j : Int) < (l.length : Int)) := by omega
    simp only [go_sem, simprocAttr, hltj, hE3]
    refine hK2 _ _ (i + 1, M1, more1) ⟨by simp only []; omega, hP1.to fun hm hp x hx => ?_⟩ (by simp only []; omega) ?_
    ·rcases Nat.lt_or_ge x i with q | q
     ·exact hp.1 x q
     ·have : x = i := by simp only [] at hx; omega
      subst this
      intro _ y hy
      rw [hfl] at hy
      exact hp.2 y (by rw [List.take_of_length_le (by omega)]; exact hy)
    simp only [hw1]
    exact ghL0 (hS _)
  ·have hlt : ¬ ((i : Int) < (N : Int)) := by omega
   simp only [go_sem, simprocAttr, hlt, hE2]
   refine hK _ _ (M, more) ⟨hP.sofar, fun q => ?_⟩ ?_ ?_
   ·simp only [] at q
    obtain ⟨e, hp⟩ := hP.still q
    subst e
    exact fun x hx => hp x (by omega)
   ·simp only []
    have h1 := cnt_le N M
    have h2 := cnt_le N M0
    cases more
    ·have := (hP.still rfl).1; subst this; simp
    ·have := hP.grew rfl; simp; omega
   exact ghL0 (hS _)
end Go.Proofs.YtjmmldkailblmaaGreat
namespace Go.Proofs.YtjmmldkailblmaaGreat
open Go.Ahl
theorem listS_step {ss : List (List Int)} {M : Nat → Bool} {c : Nat → Int} (i : Nat) :
  (((List.range (i + 1)).filter fun i => M i && decide (0 ≤ c i)).map fun i => ss.getD i []).foldl insN [] =
   if M i && decide (0 ≤ c i) then insN ((((List.range i).filter fun i => M i && decide (0 ≤ c i)).map fun i => ss.getD i []).foldl insN []) (ss.getD i []) else (((List.range i).filter fun i => M i && decide (0 ≤ c i)).map fun i => ss.getD i []).foldl insN [] := by
 rw [List.range_succ, List.filter_append, List.map_append, List.foldl_append]
 cases h : (M i && decide (0 ≤ c i)) <;> simp [h]
theorem foldN_len : ∀ (l out : List (List Int)), (l.foldl insN out).length ≤ out.length + l.length
 | [], out => by simp
 | x :: l, out => by
  have h1 := foldN_len l (insN out x)
  have h2 := insN_len out x
  rw [List.foldl_cons, List.length_cons]; omega
def c_listedR : CCode := .seq (.ops [oS 2 (.box (.tmp 0)), oS 4 (.move (.lit (.slice .nil []))), oS 5 (.move (.lit (.slice .nil [])))]) (.seq (.ops [oS 15 (.load (some 3) (.tmp 2)), oS 16 (.move (.tmp 1)), oS 17 (.call (.lit (.func 96 [])) [.tmp 15, .tmp 16]), oS 6 (.move (.tmp 17))]) (.seq (.ops [oS 7 (.move (.lit (.slice .nil [])))]) (.seq (.seq (.ops [oS 18 (.move (.tmp 6)), oS 19 (.blen 1 (.tmp 18)), oS 20 (.move (.lit (.int .i64 0)))]) (.block 0 (.loop (.seq (.ops [oS 21 (.bin .lss .none (.tmp 20) (.tmp 19))]) (.seq (.cond (.tmp 21) .skip (.exit 0)) (.seq (.block 1 (.seq (.ops [oS 22 (.move (.tmp 20)), oS 23 (.iaddr 1 (.tmp 18) (.tmp 20)), oS 24 (.load none (.tmp 23)), oS 8 (.move (.tmp 22)), oS 9 (.move (.tmp 24))]) (.seq (.ops [oS 25 (.move (.tmp 9)), oS 26 (.move (.tmp 25)), oG 27 26 true (.move (.tmp 1)), oG 28 26 true (.move (.tmp 8)), oG 29 26 true (.iaddr 1 (.tmp 27) (.tmp 28)), oG 30 26 true (.load none (.tmp 29)), oG 31 26 true (.bin .geq .none (.tmp 30) (.lit (.int .i64 0))), oS 32 (.pick (.tmp 26) (.tmp 31) (.lit (.bool false)))]) (.cond (.tmp 32) (.ops [oS 34 (.move (.tmp 7)), oS 35 (.faddr 0 (.tmp 2)), oS 36 (.load none (.tmp 35)), oS 37 (.move (.tmp 8)), oS 38 (.iaddr 1 (.tmp 36) (.tmp 37)), oS 39 (.load none (.tmp 38)), oS 40 (.call (.lit (.func 65 [])) [.tmp 34, .tmp 39]), oS 33 (.move (.tmp 40)), oS 41 (.extract (.tmp 33) 0), oS 42 (.extract (.tmp 33) 1), oS 7 (.move (.tmp 41))]) .skip)))) (.ops [oS 43 (.bin .add .none (.tmp 20) (.lit (.int .i64 1))), oS 20 (.move (.tmp 43))]))))))) (.seq (.ops [oS 10 (.move (.lit (.slice .nil [])))]) (.seq (.seq (.ops [oS 44 (.move (.tmp 7)), oS 45 (.blen 1 (.tmp 44)), oS 46 (.move (.lit (.int .i64 0)))]) (.block 2 (.loop (.seq (.ops [oS 47 (.bin .lss .none (.tmp 46) (.tmp 45))]) (.seq (.cond (.tmp 47) .skip (.exit 2)) (.seq (.block 3 (.seq (.ops [oS 48 (.iaddr 1 (.tmp 44) (.tmp 46)), oS 49 (.load none (.tmp 48)), oS 12 (.move (.tmp 49))]) (.seq (.ops [oS 50 (.faddr 0 (.tmp 2)), oS 51 (.load none (.tmp 50)), oS 52 (.blen 1 (.tmp 51)), oS 53 (.move (.lit (.int .i64 0)))]) (.block 4 (.loop (.seq (.ops [oS 54 (.bin .lss .none (.tmp 53) (.tmp 52))]) (.seq (.cond (.tmp 54) .skip (.exit 4)) (.seq (.block 5 (.seq (.ops [oS 55 (.move (.tmp 53)), oS 56 (.iaddr 1 (.tmp 51) (.tmp 53)), oS 57 (.load none (.tmp 56)), oS 13 (.move (.tmp 55)), oS 14 (.move (.tmp 57))]) (.seq (.ops [oS 58 (.move (.tmp 12)), oS 59 (.move (.tmp 14)), oS 60 (.call (.lit (.func 23 [])) [.tmp 58, .tmp 59])]) (.cond (.tmp 60) (.ops [oS 61 (.move (.tmp 10)), oS 62 (.move (.tmp 1)), oS 63 (.move (.tmp 13)), oS 64 (.iaddr 1 (.tmp 62) (.tmp 63)), oS 65 (.load none (.tmp 64)), oS 66 (.bsliceC 1 [.tmp 65]), oS 67 (.bappend 1 8 (.tmp 61) (.tmp 66) false), oS 10 (.move (.tmp 67))]) .skip)))) (.ops [oS 68 (.bin .add .none (.tmp 53) (.lit (.int .i64 1))), oS 53 (.move (.tmp 68))]))))))))) (.ops [oS 69 (.bin .add .none (.tmp 46) (.lit (.int .i64 1))), oS 46 (.move (.tmp 69))]))))))) (.seq (.ops [oS 70 (.move (.tmp 7)), oS 71 (.move (.tmp 10)), oS 4 (.move (.tmp 70)), oS 5 (.move (.tmp 71))]) .ret))))))
set_option maxRecDepth 20000 in
set_option maxHeartbeats 4000000 in
theorem listedR_spec (r : RW) (c : Nat → Int) (id : Nat) (σ : Store) (h : ROk r) (h0 : 0 < r.ss.length) (hnd : r.ss.Nodup) (hsl : ∀ s ∈ r.ss, s.length ≤ 1000000) (hid : σ[id]? = some (.row ((lst r.ss.length c).map ai))) (hc : ChoR r c) :
  ACalls Tryz.prog 63 [.agg (encRW r), .ref id 1 0 r.ss.length] σ (fun v σ' => σ' = σ ∧ ∃ M, Met r.ss.length (folR r c) M ∧ v = .tuple [.slice .unk ((listS r.ss M c).map encL), .slice .unk ((listG r.ss M c).map Ahl.encI)]) := by
 refine ACalls.intro (rs := [(.tmp 4), (.tmp 5)]) (by kernel_rfl) { own := [], ghosts := [], cold := [(17, 5)] } Tryz.func63 (c := Tryz.f63.body.getD .skip) (by kernel_rfl) (by decide) (by rw [show Tryz.f63.ntmps = 72 by kernel_rfl]; exact Nat.le_of_ble_eq_true rfl) (by kernel_rfl) ?_
 intro hσ hids
 rw [show comp Tryz.prog { own := [], ghosts := [], cold := [(17, 5)] } (Tryz.f63.body.getD .skip) = c_listedR by kernel_rfl, show Tryz.f63.ntmps = 72 by kernel_rfl]
 unfold c_listedR
 have hlen := h.len
 have hidl := lt_of_get hid
 have hidg : ∀ l, (σ ++ l)[id]? = some (.row ((lst r.ss.length c).map ai)) := fun l => by rw [List.getElem?_append_left hidl]; exact hid
 have hrow : ∀ n, IdsL n (encRW r) := fun n => idsL_cons (ids_map ids_encL _) (idsL_cons (ids_map ids_encNl _) (idsL_cons (ids_map ids_encB _) idsL_nil))
 have hS1 : IdsS (σ ++ [AObj.row (encRW r)]).length (σ ++ [AObj.row (encRW r)]) := idsS_push hσ (idsO_row (hrow _))
 have hS2 : ∀ n, IdsS (σ ++ [AObj.row (encRW r), .grow 1 n]).length (σ ++ [AObj.row (encRW r), .grow 1 n]) := fun n => idsS_app _ hσ (all_cons' (idsO_row (hrow _)) (all_cons' trivial all_nil'))
 have hme := fun l => met_spec r c id (σ ++ l) h h0 (hidg l) hc
 simp only [go_sem, simprocAttr, encRW]
 refine (hme _).mono ?_
 rintro _ _ ⟨rfl, M, hM, rfl⟩
 simp only [go_sem, simprocAttr, lst_len]
 refine wpc_while (fun (i : Nat) => [(1, .ref id 1 0 r.ss.length), (2, .ptr σ.length 0), (7, .slice .unk (((((List.range i).filter fun i => M i && decide (0 ≤ c i)).map fun i => r.ss.getD i []).foldl insN []).map encL)), (18, .slice .unk ((lst r.ss.length M).map encB)), (19, .int .i64 r.ss.length), (20, .int .i64 (i : Nat))])
  (fun i => σ ++ [AObj.row (encRW r)]) (fun i => i ≤ r.ss.length) (fun i => r.ss.length - i) 0 (Nat.zero_le _) ?_ ?_
 ·simp only [List.range_zero, List.filter_nil, List.map_nil, List.foldl_nil, encRW] at hS1 ⊢
  exact ghL0 (l := [_]) hS1
 intro i hi K hK hE hR
 by_cases hiN : i < r.ss.length
 ·have hlt : ((i : Int) < (r.ss.length : Int)) := by omega
  have hw1 : IntKind.i64.wrap ((i : Int) + 1) = ((i + 1 : Nat) : Int) := by rw [wrap_ok (by omega)]; omega
  have hgM := lst_get M hiN
  have hgc := lst_get c hiN
  obtain ⟨s, hs⟩ := get_ex hiN
  have hsm := List.mem_of_getElem? hs
  have hst := listS_step (ss := r.ss) (M := M) (c := c) i
  have hstr := (foldN (((List.range i).filter fun i => M i && decide (0 ≤ c i)).map fun i => r.ss.getD i []) [] .nil).1
  have hmm := (foldN (((List.range i).filter fun i => M i && decide (0 ≤ c i)).map fun i => r.ss.getD i []) [] .nil).2
  have hln := foldN_len (((List.range i).filter fun i => M i && decide (0 ≤ c i)).map fun i => r.ss.getD i []) []
  have hln2 : (((List.range i).filter fun i => M i && decide (0 ≤ c i)).map fun i => r.ss.getD i []).length ≤ i := by
   rw [List.length_map]; exact Nat.le_trans (List.length_filter_le _ _) (by simp)
  have hmem : ∀ x ∈ (((List.range i).filter fun i => M i && decide (0 ≤ c i)).map fun i => r.ss.getD i []).foldl insN [], x.length ≤ 1000000 := fun x hx => by
   rcases (hmm x).1 hx with q | q
   ·simp at q
   ·obtain ⟨j, hj, rfl⟩ := List.mem_map.1 q
    have hj := List.mem_range.1 (List.mem_filter.1 hj).1
    obtain ⟨u, hu⟩ := get_ex (show j < r.ss.length by omega)
    rw [getD_get hu]; exact hsl u (List.mem_of_getElem? hu)
  rw [getD_get hs] at hst
  generalize (((List.range i).filter fun i => M i && decide (0 ≤ c i)).map fun i => r.ss.getD i []).foldl insN [] = S at hst hstr hmem hln
  cases hMi : M i
  ·rw [hMi] at hgM hst
   have hst : _ = S := hst
   simp only [go_sem, simprocAttr, hlt, hiN, hgM, encB]
   refine hK _ _ (i + 1) (by omega) (by omega) ?_
   rw [hw1, hst]
   exact ghk1
  rw [hMi] at hgM hst
  by_cases hci : c i ≥ 0
  ·rw [decide_eq_true (by omega : 0 ≤ c i)] at hst
   have hst : _ = insN S s := hst
   simp only [go_sem, simprocAttr, hlt, hiN, hgM, encB, hidg, hgc, ai, hci, encRW, hs, encL]
   refine (insert13_spec S s .unk _ (by simp only [List.length_nil, Nat.zero_add] at hln; omega) (fun x hx => by have := hmem x hx; omega) (by have := hsl s hsm; omega) hstr).is ?_
   simp only [go_sem, simprocAttr]
   refine hK _ _ (i + 1) (by omega) (by omega) ?_
   rw [hw1, hst]
   simp only [encRW] at hS1 ⊢
   exact ghk1
  ·rw [decide_eq_false (by omega : ¬ 0 ≤ c i)] at hst
   have hst : _ = S := hst
   simp only [go_sem, simprocAttr, hlt, hiN, hgM, encB, hidg, hgc, ai, hci]
   refine hK _ _ (i + 1) (by omega) (by omega) ?_
   rw [hw1, hst]
   exact ghk1
 have hlt : ¬ ((i : Int) < (r.ss.length : Int)) := by omega
 have hie : i = r.ss.length := by omega
 subst hie
 simp only [go_sem, simprocAttr, hlt, hE]
 clear hK hE hR hlt hiN
 obtain ⟨G, hG⟩ : ∃ G : List Int → Int, G = fun s => c (r.ss.idxOf s) := ⟨_, rfl⟩
 have hSG : listG r.ss M c = (listS r.ss M c).map G := by rw [hG]; rfl
 have hSm : ∀ s ∈ listS r.ss M c, s ∈ r.ss := fun s hs => by
  unfold listS at hs
  rcases ((foldN _ [] .nil).2 s).1 hs with q | q
  ·simp at q
  ·obtain ⟨j, hj, rfl⟩ := List.mem_map.1 q
   obtain ⟨u, hu⟩ := get_ex (List.mem_range.1 (List.mem_filter.1 hj).1)
   rw [getD_get hu]; exact List.mem_of_getElem? hu
 have hSl : (listS r.ss M c).length ≤ r.ss.length := by
  have h1 := foldN_len (((List.range r.ss.length).filter fun i => M i && decide (0 ≤ c i)).map fun i => r.ss.getD i []) []
  have h2 : (((List.range r.ss.length).filter fun i => M i && decide (0 ≤ c i)).map fun i => r.ss.getD i []).length ≤ r.ss.length := by
   rw [List.length_map]; exact Nat.le_trans (List.length_filter_le _ _) (by simp)
  unfold listS; simp only [List.length_nil, Nat.zero_add] at h1; omega
 rw [show (((List.range r.ss.length).filter fun i => M i && decide (0 ≤ c i)).map fun i => r.ss.getD i []).foldl insN [] = listS r.ss M c from rfl]
 generalize hSS : listS r.ss M c = S at hSG hSm hSl
 refine wpc_while (fun (a : Nat) => [(10, .slice (.grow (σ.length + 1)) (((S.take a).map G).map Ahl.encI)), (1, .ref id 1 0 r.ss.length), (2, .ptr σ.length 0), (7, .slice .unk (S.map encL)), (44, .slice .unk (S.map encL)), (45, .int .i64 S.length), (46, .int .i64 (a : Nat))])
  (fun a => σ ++ [AObj.row (encRW r), .grow 1 a]) (fun a => a ≤ S.length) (fun a => S.length - a) 0 (Nat.zero_le _) (Ghost.beginT [AObj.row (encRW r)] 10 1 _ tellT hS1) ?_
 intro a ha K hK hE hR
 by_cases haS : a < S.length
 ·obtain ⟨s, hs⟩ := get_ex haS
  have hlt : ((a : Int) < (S.length : Int)) := by omega
  have hw1 : IntKind.i64.wrap ((a : Int) + 1) = ((a + 1 : Nat) : Int) := by rw [wrap_ok (by omega)]; omega
  have hsm := hSm s (List.mem_of_getElem? hs)
  have hix : r.ss.idxOf s < r.ss.length := List.idxOf_lt_length_of_mem hsm
  have hixs : r.ss[r.ss.idxOf s]? = some s := by rw [List.getElem?_eq_getElem hix, List.getElem_idxOf]
  have hnext : ((S.take (a + 1)).map G).map Ahl.encI = ((S.take a).map G).map Ahl.encI ++ [Ahl.encI (G s)] := by rw [take_succ' hs, List.map_append, List.map_append]; rfl
  have hLl : (((S.take a).map G).map Ahl.encI).length = a := by simp; omega
  have hLi : ∀ n, σ.length + 1 < n → Ids n (.slice (.grow (σ.length + 1)) (((S.take a).map G).map Ahl.encI)) := fun n hn => ids_grow_map ids_encI hn
  simp only [go_sem, simprocAttr, hlt, hs, encL, encRW]
  refine wpc_while (fun (i : Nat) => [(10, .slice (.grow (σ.length + 1)) (if r.ss.idxOf s < i then ((S.take (a + 1)).map G).map Ahl.encI else ((S.take a).map G).map Ahl.encI)), (1, .ref id 1 0 r.ss.length), (2, .ptr σ.length 0), (7, .slice .unk (S.map encL)), (12, .slice .unk (s.map Ahl.encI)), (44, .slice .unk (S.map encL)), (45, .int .i64 S.length), (46, .int .i64 (a : Nat)), (51, .slice .unk (r.ss.map encL)), (52, .int .i64 r.ss.length), (53, .int .i64 (i : Nat))])
   (fun i => σ ++ [AObj.row (encRW r), .grow 1 (if r.ss.idxOf s < i then a + 1 else a)]) (fun i => i ≤ r.ss.length) (fun i => r.ss.length - i) 0 (Nat.zero_le _) ?_ ?_
  ·rw [if_neg (by omega), if_neg (by omega)]
   simp only [encRW] at hS2 ⊢
   exact ghL0 (hS2 a)
  intro i hi K2 hK2 hE2 hR2
  by_cases hiN : i < r.ss.length
  ·obtain ⟨u, hu⟩ := get_ex hiN
   have hlti : ((i : Int) < (r.ss.length : Int)) := by omega
   have hwi : IntKind.i64.wrap ((i : Int) + 1) = ((i + 1 : Nat) : Int) := by rw [wrap_ok (by omega)]; omega
   have hgc := lst_get c hiN
   have hsl1 := hsl s hsm
   have hul := hsl u (List.mem_of_getElem? hu)
   have hbig : bigLen (a + 1) 8 := big_ok (by omega) (by omega)
   by_cases he : s = u
   ·have hie : r.ss.idxOf s = i := (List.getElem?_inj hix hnd).1 (by rw [hixs, hu, he])
    have hGs : G s = c i := by rw [hG]; simp only [hie]
    have hnext : ((S.take a).map G).map Ahl.encI ++ [[AV.int .i64 (c i)]] = ((S.take (a + 1)).map G).map Ahl.encI := by rw [hnext, hGs]; rfl
    rw [if_neg (by omega), if_neg (by omega)]
    simp only [go_sem, simprocAttr, hlti, hu, encL]
    refine (sameInts_spec s u .unk .unk _ (by omega) (by omega)).is ?_
    rw [decide_eq_true he]
    simp only [go_sem, simprocAttr, hlti, hiN, hidg, hgc, ai, hLl, hbig, hnext]
    refine hK2 _ _ (i + 1) (by omega) (by omega) ?_
    rw [hwi, if_pos (by omega), if_pos (by omega)]
    exact ghL0 (hS2 _)
   ·have hie : r.ss.idxOf s ≠ i := fun q => he (by rw [q, hu] at hixs; injection hixs with q2; exact q2.symm)
    simp only [go_sem, simprocAttr, hlti, hu, encL]
    refine (sameInts_spec s u .unk .unk _ (by omega) (by omega)).is ?_
    rw [decide_eq_false he]
    simp only [go_sem, simprocAttr]
    refine hK2 _ _ (i + 1) (by omega) (by omega) ?_
    rw [hwi]
    have e1 : (r.ss.idxOf s < i + 1) = (r.ss.idxOf s < i) := propext ⟨fun _ => by omega, fun _ => by omega⟩
    simp only [e1]
    by_cases q : r.ss.idxOf s < i
    ·simp only [if_pos q]; exact ghL0 (hS2 _)
    ·simp only [if_neg q]; exact ghL0 (hS2 _)
  ·have hlti : ¬ ((i : Int) < (r.ss.length : Int)) := by omega
   rw [if_pos (by omega), if_pos (by omega)]
   simp only [go_sem, simprocAttr, hlti, hE2]
   refine hK _ _ (a + 1) (by omega) (by omega) ?_
   rw [hw1]
   exact ghL0 (hS2 _)
 ·have hlt : ¬ ((a : Int) < (S.length : Int)) := by omega
  rw [List.take_of_length_le (by omega)]
  simp only [go_sem, simprocAttr, hlt, hE]
  exact rT (.slice .unk (S.map encL)) (.slice .unk ((S.map G).map Ahl.encI)) ⟨rfl, M, hM, by rw [hSG, hSS]⟩
theorem idxFrom_snoc {α : Type} (p : α → Bool) (o : α) : ∀ (l : List α) (k : Int), 0 ≤ k → idxFrom p k (l ++ [o]) = if idxFrom p k l < 0 then (if p o then k + l.length else -1) else idxFrom p k l
 | [], k, hk => by simp [idxFrom]
 | x :: l, k, hk => by
  rw [List.cons_append, idxFrom, idxFrom]
  cases h : p x
  ·simp only [Bool.false_eq_true, if_false]
   rw [idxFrom_snoc p o l (k + 1) (by omega), List.length_cons]
   have : k + 1 + (l.length : Int) = k + ((l.length + 1 : Nat) : Int) := by omega
   rw [this]
  ·simp only [if_true]
   rw [if_neg (by omega)]
def curS (d : Nat → Int) (i : Nat) (row : List (Option (List Nat))) (j : Nat) : Int := if 0 < d i then idxFrom (pO (belowB d (d i))) 0 (row.take j) else -1
theorem curS_zero (d : Nat → Int) (i : Nat) (row : List (Option (List Nat))) : curS d i row 0 = -1 := by unfold curS; split <;> rfl
theorem curS_succ {d : Nat → Int} {i : Nat} {row : List (Option (List Nat))} {j : Nat} {o : Option (List Nat)} (h : row[j]? = some o) :
  curS d i row (j + 1) = if 0 < d i ∧ curS d i row j < 0 ∧ pO (belowB d (d i)) o = true then (j : Int) else curS d i row j := by
 have hj := lt_of_get h
 unfold curS
 rw [take_succ' h, idxFrom_snoc _ _ _ _ (Int.le_refl _), List.length_take_of_le (by omega)]
 by_cases h1 : 0 < d i
 ·rw [if_pos h1, if_pos h1]
  rcases idx_cases (pO (belowB d (d i))) (row.take j) 0 with ⟨q, _⟩ | ⟨n, x, _, _, _, q⟩
  ·rw [q]
   cases h3 : pO (belowB d (d i)) o <;> simp [h1]
  ·rw [q, if_neg (by omega), if_neg (by omega)]
 ·rw [if_neg h1, if_neg (fun q => h1 q.1), if_neg h1]
theorem strongR_cho {r : RW} (hr : ROk r) (d : Nat → Int) : ChoR r (strongR r d) := fun i hi h0 => by
 unfold strongR at h0 ⊢
 split at h0
 ·rename_i hd
  rw [if_pos hd]
  rcases idx_ch (belowB d (d i)) (r.nx.getD i []) 0 0 0 with ⟨h1, _⟩ | ⟨j, q, l, h1, _, _, h4, _⟩
  ·omega
  ·exact ⟨l, by rw [h1]; simpa using h4⟩
 ·omega
def c_strongW : CCode := .seq (.ops [oS 1 (.box (.tmp 0)), oS 2 (.move (.lit (.slice .nil []))), oS 3 (.move (.lit (.slice .nil [])))]) (.seq (.ops [oS 9 (.load (some 3) (.tmp 1)), oS 10 (.call (.lit (.func 20 [])) [.tmp 9]), oS 4 (.move (.tmp 10))]) (.seq (.ops [oS 11 (.faddr 0 (.tmp 1)), oS 12 (.load none (.tmp 11)), oS 13 (.blen 1 (.tmp 12)), oS 14 (.mkslice 1 8 [.int .i64 0] (.tmp 13) (.tmp 13) true), oS 5 (.move (.tmp 14))]) (.seq (.seq (.ops [oS 15 (.move (.tmp 5)), oS 16 (.blen 1 (.tmp 15)), oS 17 (.move (.lit (.int .i64 0)))]) (.block 0 (.loop (.seq (.ops [oS 18 (.bin .lss .none (.tmp 17) (.tmp 16))]) (.seq (.cond (.tmp 18) .skip (.exit 0)) (.seq (.block 1 (.seq (.ops [oS 19 (.move (.tmp 17)), oS 6 (.move (.tmp 19))]) (.seq (.ops [oS 20 (.move (.tmp 5)), oS 21 (.move (.tmp 6)), oS 22 (.iaddr 1 (.tmp 20) (.tmp 21)), oN (.store 1 (.tmp 22) (.lit (.int .i64 (-1))))]) (.seq (.ops [oS 23 (.faddr 1 (.tmp 1)), oS 24 (.load none (.tmp 23)), oS 25 (.move (.tmp 6)), oS 26 (.iaddr 1 (.tmp 24) (.tmp 25)), oS 27 (.load none (.tmp 26)), oS 28 (.blen 1 (.tmp 27)), oS 29 (.move (.lit (.int .i64 0)))]) (.block 2 (.loop (.seq (.ops [oS 30 (.bin .lss .none (.tmp 29) (.tmp 28))]) (.seq (.cond (.tmp 30) .skip (.exit 2)) (.seq (.block 3 (.seq (.ops [oS 31 (.move (.tmp 29)), oS 32 (.iaddr 1 (.tmp 27) (.tmp 29)), oS 33 (.load none (.tmp 32)), oS 7 (.move (.tmp 31)), oS 8 (.move (.tmp 33))]) (.seq (.ops [oS 34 (.move (.tmp 4)), oS 35 (.move (.tmp 6)), oS 36 (.iaddr 1 (.tmp 34) (.tmp 35)), oS 37 (.load none (.tmp 36)), oS 38 (.bin .gtr .none (.tmp 37) (.lit (.int .i64 0))), oS 39 (.move (.tmp 38)), oG 40 39 true (.move (.tmp 5)), oG 41 39 true (.move (.tmp 6)), oG 42 39 true (.iaddr 1 (.tmp 40) (.tmp 41)), oG 43 39 true (.load none (.tmp 42)), oG 44 39 true (.bin .lss .none (.tmp 43) (.lit (.int .i64 0))), oS 45 (.pick (.tmp 39) (.tmp 44) (.lit (.bool false))), oS 46 (.move (.tmp 45)), oG 47 46 true (.move (.tmp 8)), oG 48 46 true (.bin .neq .slice (.tmp 47) (.lit (.slice .nil []))), oS 49 (.pick (.tmp 46) (.tmp 48) (.lit (.bool false))), oS 50 (.move (.tmp 49)), oG 51 50 true (.move (.tmp 4)), oG 52 50 true (.move (.tmp 8)), oG 53 50 true (.move (.tmp 4)), oG 54 50 true (.move (.tmp 6)), oG 55 50 true (.iaddr 1 (.tmp 53) (.tmp 54)), oG 56 50 true (.load none (.tmp 55)), oG 57 50 true (.call (.lit (.func 62 [])) [.tmp 51, .tmp 52, .tmp 56]), oS 58 (.pick (.tmp 50) (.tmp 57) (.lit (.bool false)))]) (.cond (.tmp 58) (.ops [oS 59 (.move (.tmp 5)), oS 60 (.move (.tmp 6)), oS 61 (.move (.tmp 7)), oS 62 (.iaddr 1 (.tmp 59) (.tmp 60)), oN (.store 1 (.tmp 62) (.tmp 61))]) .skip)))) (.ops [oS 63 (.bin .add .none (.tmp 29) (.lit (.int .i64 1))), oS 29 (.move (.tmp 63))])))))))))) (.ops [oS 64 (.bin .add .none (.tmp 17) (.lit (.int .i64 1))), oS 17 (.move (.tmp 64))]))))))) (.seq (.ops [oS 65 (.load (some 3) (.tmp 1)), oS 66 (.move (.tmp 5)), oS 67 (.call (.lit (.func 63 [])) [.tmp 65, .tmp 66]), oS 68 (.extract (.tmp 67) 0), oS 69 (.extract (.tmp 67) 1), oS 2 (.move (.tmp 68)), oS 3 (.move (.tmp 69))]) .ret))))
set_option maxRecDepth 20000 in
set_option maxHeartbeats 4000000 in
theorem strongW_spec (r : RW) (σ : Store) (h : ROk r) (h0 : 0 < r.ss.length) (hnd : r.ss.Nodup) (hsl : ∀ s ∈ r.ss, s.length ≤ 1000000) :
  ACalls Tryz.prog 21 [.agg (encRW r)] σ (fun v σ' => σ' = σ ∧ ∃ M, Met r.ss.length (folR r (strongR r (dF r.w r.ss.length))) M ∧ v = .tuple [.slice .unk ((listS r.ss M (strongR r (dF r.w r.ss.length))).map encL), .slice .unk ((listG r.ss M (strongR r (dF r.w r.ss.length))).map Ahl.encI)]) := by
 refine ACalls.intro (rs := [(.tmp 2), (.tmp 3)]) (by kernel_rfl) { own := [(2, 3)], ghosts := [] } Tryz.func21 (c := Tryz.f21.body.getD .skip) (by kernel_rfl) (by decide) (by rw [show Tryz.f21.ntmps = 70 by kernel_rfl]; exact Nat.le_of_ble_eq_true rfl) (by kernel_rfl) ?_
 intro hσ hids
 rw [show comp Tryz.prog { own := [(2, 3)], ghosts := [] } (Tryz.f21.body.getD .skip) = c_strongW by kernel_rfl, show Tryz.f21.ntmps = 70 by kernel_rfl]
 unfold c_strongW
 have hlen := h.len
 have hnx := h.nx
 have hrow : ∀ n, IdsL n (encRW r) := fun n => idsL_cons (ids_map ids_encL _) (idsL_cons (ids_map ids_encNl _) (idsL_cons (ids_map ids_encB _) idsL_nil))
 have hS : ∀ F : List Int, IdsS (σ ++ [AObj.row (encRW r), AObj.row (List.map ai F)]).length (σ ++ [AObj.row (encRW r), AObj.row (List.map ai F)]) := fun F => idsS_app _ hσ (all_cons' (idsO_row (hrow _)) (all_cons' (ids_ai _) all_nil'))
 obtain ⟨d, hd⟩ : ∃ d, d = dF r.w r.ss.length := ⟨_, rfl⟩
 have hdi := fun σ => distR_spec r σ h
 have hli := fun (id : Nat) (σ : Store) hid => listedR_spec r (strongR r d) id σ h h0 hnd hsl hid (strongR_cho h d)
 rw [← hd] at hdi ⊢
 simp only [encRW] at hdi hli
 simp only [go_sem, simprocAttr, encRW]
 refine (hdi _).is ?_
 simp only [go_sem, simprocAttr, aMkslice]
 refine ⟨Int.le_refl _, by omega, by omega, ?_⟩
 rw [rep_ai0, ← lst_zero (strongR r d) (fun _ => 0)]
 obtain ⟨N, hN⟩ : ∃ N, N = r.ss.length := ⟨_, rfl⟩
 rw [← hN] at hlen hnx hli ⊢
 refine wpc_while (fun (i : Nat) => [(1, .ptr σ.length 0), (4, .slice .unk ((lst N d).map Ahl.encI)), (5, .ref (σ.length + 1) 1 0 N), (16, .int .i64 N), (17, .int .i64 (i : Nat))])
  (fun i => σ ++ [AObj.row (encRW r), AObj.row (List.map ai (lst N (split (strongR r d) (fun _ => 0) i)))]) (fun i => i ≤ N) (fun i => N - i) 0 (Nat.zero_le _) ?_ ?_
 ·have := hS (lst N (split (strongR r d) (fun _ => 0) 0))
  simp only [encRW] at this ⊢
  exact ghL0 this
 intro i hi K hK hE hR
 by_cases hiN : i < N
 ·have hlt : ((i : Int) < (N : Int)) := by omega
  have hw1 : IntKind.i64.wrap ((i : Int) + 1) = ((i + 1 : Nat) : Int) := by rw [wrap_ok (by omega)]; omega
  obtain ⟨row, hr⟩ := get_ex (show i < r.nx.length by omega)
  have hrm := List.mem_of_getElem? hr
  have hrl := h.wid row hrm
  have hfin := lst_set (strongR r d) (fun _ => 0) hiN
  have hend : strongR r d i = curS d i row row.length := by
   unfold strongR curS
   rw [List.take_length, List.getD_eq_getElem?_getD, hr]; rfl
  have hgd := lst_get d hiN
  have hFl : (lst N (split (strongR r d) (fun _ => (0 : Int)) i)).length = N := lst_len _ _
  generalize split (strongR r d) (fun _ => (0 : Int)) i = sp at hfin hFl
  rw [upd_set, hend] at hfin
  have hF1 : i + 1 ≤ (lst N sp).length := by omega
  simp only [go_sem, simprocAttr, hlt, hiN, hF1, set_ai, encRW, hr, encNl]
  rw [upd_set]
  refine wpc_while (fun (j : Nat) => [(1, .ptr σ.length 0), (4, .slice .unk ((lst N d).map Ahl.encI)), (5, .ref (σ.length + 1) 1 0 N), (6, .int .i64 (i : Nat)), (16, .int .i64 N), (17, .int .i64 (i : Nat)), (27, .slice .unk (row.map encNx)), (28, .int .i64 row.length), (29, .int .i64 (j : Nat))])
   (fun j => σ ++ [AObj.row (encRW r), AObj.row (List.map ai (lst N (updF sp i (curS d i row j))))]) (fun j => j ≤ row.length) (fun j => row.length - j) 0 (Nat.zero_le _) ?_ ?_
  ·rw [curS_zero]
   have := hS (lst N (updF sp i (-1)))
   simp only [encRW] at this ⊢
   exact ghL0 this
  intro j hj K2 hK2 hE2 hR2
  by_cases hj0 : j < row.length
  ·obtain ⟨o, ho⟩ := get_ex hj0
   have hltj : ((j : Int) < (row.length : Int)) := by omega
   have hwj : IntKind.i64.wrap ((j : Int) + 1) = ((j + 1 : Nat) : Int) := by rw [wrap_ok (by omega)]; omega
   have hsu := curS_succ (d := d) (i := i) ho
   have hF1 : i + 1 ≤ (lst N (updF sp i (curS d i row j))).length := by rw [lst_len]; omega
   have hgF := lst_get (updF sp i (curS d i row j)) hiN
   rw [show updF sp i (curS d i row j) i = curS d i row j by simp [updF]] at hgF
   by_cases hd0 : d i > 0
   ·by_cases hneg : curS d i row j < 0
    ·cases o with
     | none =>
      rw [if_neg (by simp [pO])] at hsu
      simp only [go_sem, simprocAttr, hltj, hlt, hiN, ho, encNx, nxC, hgd, Ahl.encI, hd0, hgF, ai, hneg]
      intro b _ hb
      have := hb trivial
      subst this
      simp only [go_sem, simprocAttr]
      refine hK2 _ _ (j + 1) (by omega) (by omega) ?_
      rw [hwj, hsu]
      exact ghL0 (hS _)
     | some l =>
      obtain ⟨l1, l2, l3⟩ := h.ent hrm (List.mem_of_getElem? ho)
      simp only [go_sem, simprocAttr, hltj, hlt, hiN, ho, encNx, nxC, hgd, Ahl.encI, hd0, hgF, ai, hneg]
      intro b hb _
      have := hb (by simpa using l2)
      subst this
      have l3' : ∀ x ∈ l, x < N := fun x hx => by have := l3 x hx; omega
      simp only [go_sem, simprocAttr, hlt, hiN, hgd, Ahl.encI]
      refine (below_specS d N .unk l _ .unk _ ⟨l1, l3'⟩).is ?_
      cases hok : belowB d (d i) l
      ·rw [if_neg (by simp [pO, hok])] at hsu
       simp only [go_sem, simprocAttr]
       refine hK2 _ _ (j + 1) (by omega) (by omega) ?_
       rw [hwj, hsu]
       exact ghL0 (hS _)
      ·rw [if_pos ⟨hd0, hneg, hok⟩] at hsu
       simp only [go_sem, simprocAttr, hlt, hiN, hF1, set_ai]
       refine hK2 _ _ (j + 1) (by omega) (by omega) ?_
       rw [hwj, upd_set, upd_upd, ← hsu]
       exact ghL0 (hS _)
    ·rw [if_neg (fun q => hneg q.2.1)] at hsu
     simp only [go_sem, simprocAttr, hltj, hlt, hiN, ho, encNx, hgd, Ahl.encI, hd0, hgF, ai, hneg]
     refine hK2 _ _ (j + 1) (by omega) (by omega) ?_
     rw [hwj, hsu]
     exact ghL0 (hS _)
   ·rw [if_neg (fun q => hd0 q.1)] at hsu
    simp only [go_sem, simprocAttr, hltj, hlt, hiN, ho, encNx, hgd, Ahl.encI, hd0]
    refine hK2 _ _ (j + 1) (by omega) (by omega) ?_
    rw [hwj, hsu]
    exact ghL0 (hS _)
  ·have hltj : ¬ ((j : Int) < (row.length : Int)) := by omega
   have hje : j = row.length := by omega
   subst hje
   simp only [go_sem, simprocAttr, hltj, hE2]
   refine hK _ _ (i + 1) (by omega) (by omega) ?_
   rw [hw1, hfin]
   exact ghL0 (hS _)
 ·have hlt : ¬ ((i : Int) < (N : Int)) := by omega
  rw [lst_full _ _ (by omega)]
  simp only [go_sem, simprocAttr, hlt, hE, encRW]
  refine (hli (σ.length + 1) _ (by simp)).mono ?_
  rintro _ _ ⟨rfl, M, hM, rfl⟩
  simp only [go_sem, simprocAttr]
  exact rT (.slice .unk ((listS r.ss M (strongR r d)).map encL)) (.slice .unk ((listG r.ss M (strongR r d)).map Ahl.encI)) ⟨rfl, M, hM, rfl⟩
end Go.Proofs.YtjmmldkailblmaaGreat
namespace Go.Proofs.YtjmmldkailblmaaGreat
open Go.Ahl Go.ChangeShapes Go.WideShapes Go.ChangeAt Go.RowKit
theorem rwF_ok {t : FTask} {g : List (List Int)} (he : EOk t) (hc : choicesB t g = true) {s0 : List Int} (hs : risingB t.facts.length (-1) s0 = true) (h8 : t.facts.length ≤ 8) (hg : g.length ≤ 1000000) : ROk (rwF t g s0) where
 w := by rw [rwF_w]; exact wldF_ok he hc hs h8
 wid l hl := by
  obtain ⟨s, _, rfl⟩ := List.mem_map.1 hl
  rw [nxO_len]; exact hg
theorem rwF_facts {t : FTask} {g : List (List Int)} {s0 : List Int} (hb : PB t) (hv : validB t = true) (hc : choicesB t g = true) (hs : risingB t.facts.length (-1) s0 = true) (h7 : t.facts.length ≤ 7) (hg : g.length ≤ 1000000) :
  ROk (rwF t g s0) ∧ 0 < (rwF t g s0).ss.length ∧ (rwF t g s0).ss.Nodup ∧ ∀ s ∈ (rwF t g s0).ss, s.length ≤ 1000000 := by
 obtain ⟨hSB, hEO, hfl⟩ := valid_SB hb hv
 refine ⟨rwF_ok hEO hc hs (by omega) hg, lt_of_get (ssF_zero t g s0), nodup_ssF _ _ _, fun s hm => ?_⟩
 rcases rising_len (rising_ssF hEO hc hs s hm) (by omega) with q | q
 ·omega
 ·rw [q]; simp
theorem dOf_dF (t : FTask) (g : List (List Int)) (s0 : List Int) : dOf (wldF t g s0) = dF (rwF t g s0).w (rwF t g s0).ss.length 0 := by rw [rwF_w]; rfl
theorem wk_ents (tok : Tok) (E : List FEnt) : Wk (.slice tok (E.map vE)) (.slice tok (E.map encEn)) := by
 refine Wk.slice tok ?_
 induction E with
 | nil => exact .nil
 | cons e E ih => exact .cons (.cons (Wk.unk _ _) (.cons (.refl _) .nil)) ih
theorem strong_list {t : FTask} {g : List (List Int)} {v : AV} (h : StrongP t g v) : ∃ tok E f, v = .tuple [.slice tok (E.map vE), .int .i64 f] ∧
  ((askE t g ≠ 0 ∧ f = askE t g ∧ tok = .nil ∧ E = []) ∨ (askE t g = 0 ∧ dOf (wldF t g t.init) < 0 ∧ f = 4 ∧ tok = .nil ∧ E = []) ∨
   (askE t g = 0 ∧ ¬ dOf (wldF t g t.init) < 0 ∧ f = 0 ∧ tok = .fresh ∧ E.Perm (outE (wldF t g t.init) (strongC (wldF t g t.init)) (bfs (wldF t g t.init) (strongC (wldF t g t.init)) (wldF t g t.init).ss.length)) ∧ E.Pairwise (fun x y => ¬ cmpInts y.1 x.1 < 0))) := by
 unfold StrongP at h
 by_cases h1 : askE t g = 0
 ·rw [if_pos h1] at h
  by_cases h2 : dOf (wldF t g t.init) < 0
  ·rw [if_pos h2] at h
   exact ⟨.nil, [], 4, h, .inr (.inl ⟨h1, h2, rfl, rfl, rfl⟩)⟩
  ·rw [if_neg h2] at h
   obtain ⟨r0, ⟨E, hp, hs, rfl⟩, rfl⟩ := h
   exact ⟨.fresh, E, 0, rfl, .inr (.inr ⟨h1, h2, rfl, rfl, hp, hs⟩)⟩
 ·rw [if_neg h1] at h
  exact ⟨.nil, [], askE t g, h, .inl ⟨h1, rfl, rfl, rfl⟩⟩
theorem strong_law {r : RW} (hr : ROk r) (h0 : 0 < r.ss.length) (hnd : r.ss.Nodup) {M : Nat → Bool} (hM : Met r.ss.length (folR r (strongR r (dF r.w r.ss.length))) M)
  {E : List FEnt} (hp : E.Perm (outE r.w (strongC r.w) (bfs r.w (strongC r.w) r.ss.length))) (hE : E.Pairwise (fun x y => ¬ cmpInts y.1 x.1 < 0)) :
  E.map (·.1) = listS r.ss M (strongR r (dF r.w r.ss.length)) ∧ E.map (·.2) = listG r.ss M (strongR r (dF r.w r.ss.length)) := by
 have hsa := fun i (hi : i < r.ss.length) => strong_same hr.w hi
 refine ents_same (w := r.w) (chosen := strongC r.w) hr.w (strongC_ok _) h0 hnd ?_ (fun i hi => (hsa i hi).1) (fun i hi h => ?_) hp hE
 ·refine met_bfs hr.w (strongC_ok _) h0 hM fun i hi => ?_
  obtain ⟨s1, s2⟩ := hsa i hi
  unfold folR
  by_cases hc : 0 ≤ strongR r (dF r.w r.ss.length) i
  ·obtain ⟨l, h1, h2⟩ := s2 hc
   rw [if_pos hc, s1.1 hc, if_neg (by simp), h2, List.getD_eq_getElem?_getD, h1]; rfl
  ·have : stopB r.w (strongC r.w) i = true := by
    cases q : stopB r.w (strongC r.w) i
    ·exact absurd (s1.2 q) hc
    ·rfl
   rw [if_neg hc, this, if_pos rfl]
 ·obtain ⟨l, _, h2⟩ := (hsa i hi).2 h
  rw [h2]; simp only []; omega
def r_law_0 : CCode := .seq (.ghost (.ops [oS 11 (.move (.lit (.int .i64 10)))])) (.seq (.seq (.ops [oS 77 (.load (some 4) (.tmp 3)), oS 78 (.call (.lit (.func 12 [])) [.tmp 77])]) (.cond (.tmp 78) (.ops [oS 79 (.load (some 4) (.tmp 3)), oS 80 (.move (.tmp 1)), oS 81 (.faddr 1 (.tmp 3)), oS 82 (.load none (.tmp 81)), oS 83 (.call (.lit (.func 13 [])) [.tmp 79, .tmp 80, .tmp 82]), oS 11 (.move (.tmp 83))]) .skip)) (.seq (.seq (.ops [oS 84 (.move (.tmp 11)), oS 85 (.bin .neq .none (.tmp 84) (.lit (.int .i64 0)))]) (.cond (.tmp 85) (.seq (.ops [oS 86 (.move (.tmp 10)), oS 87 (.move (.tmp 11)), oS 88 (.bin .eql .none (.tmp 86) (.tmp 87)), oS 89 (.move (.tmp 88)), oG 90 89 true (.move (.tmp 9)), oG 91 89 true (.blen 1 (.tmp 90)), oG 92 89 true (.bin .eql .none (.tmp 91) (.lit (.int .i64 0))), oS 93 (.pick (.tmp 89) (.tmp 92) (.lit (.bool false))), oS 94 (.move (.tmp 93)), oG 95 94 true (.call (.lit (.func 10 [])) []), oS 96 (.pick (.tmp 94) (.tmp 95) (.lit (.bool false))), oS 6 (.move (.tmp 96))]) .ret) .skip)) (.seq (.ops [oS 98 (.load (some 4) (.tmp 3)), oS 99 (.move (.tmp 1)), oS 100 (.faddr 1 (.tmp 3)), oS 101 (.load none (.tmp 100)), oS 102 (.call (.lit (.func 19 [])) [.tmp 98, .tmp 99, .tmp 101, .lit (.int .i64 128)]), oS 97 (.move (.tmp 102)), oS 103 (.extract (.tmp 97) 0), oS 104 (.extract (.tmp 97) 1), oS 15 (.alloc (.agg [.slice .nil [], .slice .nil [], .slice .nil []])), oN (.store 3 (.tmp 15) (.tmp 103)), oS 16 (.move (.tmp 104))]) (.seq (.seq (.ops [oS 105 (.load (some 3) (.tmp 15)), oS 106 (.call (.lit (.func 20 [])) [.tmp 105]), oS 107 (.iaddr 1 (.tmp 106) (.lit (.int .i64 0))), oS 108 (.load none (.tmp 107)), oS 109 (.bin .lss .none (.tmp 108) (.lit (.int .i64 0)))]) (.cond (.tmp 109) (.seq (.ops [oS 110 (.move (.tmp 10)), oS 111 (.bin .eql .none (.tmp 110) (.lit (.int .i64 4))), oS 112 (.move (.tmp 111)), oG 113 112 true (.move (.tmp 9)), oG 114 112 true (.blen 1 (.tmp 113)), oG 115 112 true (.bin .eql .none (.tmp 114) (.lit (.int .i64 0))), oS 116 (.pick (.tmp 112) (.tmp 115) (.lit (.bool false))), oS 117 (.move (.tmp 116)), oG 118 117 true (.call (.lit (.func 10 [])) []), oS 119 (.pick (.tmp 117) (.tmp 118) (.lit (.bool false))), oS 6 (.move (.tmp 119))]) .ret) .skip)) (.seq (.ops [oS 121 (.load (some 3) (.tmp 15)), oS 122 (.call (.lit (.func 21 [])) [.tmp 121]), oS 120 (.move (.tmp 122)), oS 123 (.extract (.tmp 120) 0), oS 124 (.extract (.tmp 120) 1), oS 17 (.move (.tmp 123)), oS 18 (.move (.tmp 124))]) (.seq (.ops [oS 126 (.move (.tmp 9)), oS 127 (.call (.lit (.func 14 [])) [.tmp 126]), oS 125 (.move (.tmp 127)), oS 128 (.extract (.tmp 125) 0), oS 129 (.extract (.tmp 125) 1), oS 19 (.move (.tmp 128)), oS 20 (.move (.tmp 129))]) (.seq (.ops [oS 130 (.move (.tmp 10)), oS 131 (.bin .eql .none (.tmp 130) (.lit (.int .i64 0))), oS 132 (.move (.tmp 131)), oG 133 132 true (.move (.tmp 19)), oG 134 132 true (.move (.tmp 17)), oG 135 132 true (.call (.lit (.func 22 [])) [.tmp 133, .tmp 134]), oS 136 (.pick (.tmp 132) (.tmp 135) (.lit (.bool false))), oS 137 (.move (.tmp 136)), oG 138 137 true (.move (.tmp 20)), oG 139 137 true (.move (.tmp 18)), oG 140 137 true (.call (.lit (.func 23 [])) [.tmp 138, .tmp 139]), oS 141 (.pick (.tmp 137) (.tmp 140) (.lit (.bool false))), oS 142 (.move (.tmp 141)), oG 143 142 true (.call (.lit (.func 10 [])) []), oS 144 (.pick (.tmp 142) (.tmp 143) (.lit (.bool false))), oS 6 (.move (.tmp 144))]) .ret)))))))
def c_law : CCode := .seq (.ops [oS 3 (.box (.tmp 0)), oS 6 (.move (.lit (.bool false)))]) (.seq (.seq (.ops [oS 21 (.load (some 4) (.tmp 3)), oS 22 (.move (.tmp 1)), oS 23 (.call (.lit (.func 8 [])) [.tmp 21, .tmp 22]), oS 24 (.un .not (.tmp 23)), oS 25 (.move (.tmp 24)), oG 26 25 false (.move (.tmp 2)), oG 27 25 false (.blen 1 (.tmp 26)), oG 28 25 false (.bin .gtr .none (.tmp 27) (.lit (.int .i64 300))), oS 29 (.pick (.tmp 25) (.lit (.bool true)) (.tmp 28))]) (.cond (.tmp 29) (.seq (.ops [oS 30 (.call (.lit (.func 10 [])) []), oS 6 (.move (.tmp 30))]) .ret) .skip)) (.seq (.ops [oS 32 (.load (some 4) (.tmp 3)), oS 33 (.move (.tmp 1)), oS 34 (.move (.tmp 2)), oS 35 (.call (.lit (.func 17 [])) [.tmp 32, .tmp 33, .tmp 34]), oS 31 (.move (.tmp 35)), oS 36 (.extract (.tmp 31) 0), oS 37 (.extract (.tmp 31) 1), oS 7 (.move (.tmp 36)), oS 8 (.move (.tmp 37))]) (.seq (.ops [oS 39 (.load (some 4) (.tmp 3)), oS 40 (.move (.tmp 1)), oS 41 (.call (.lit (.func 18 [])) [.tmp 39, .tmp 40]), oS 38 (.move (.tmp 41)), oS 42 (.extract (.tmp 38) 0), oS 43 (.extract (.tmp 38) 1), oS 9 (.move (.tmp 42)), oS 10 (.move (.tmp 43))]) (.seq (.ops [oS 44 (.load (some 4) (.tmp 3)), oS 45 (.move (.tmp 1)), oS 46 (.move (.tmp 2)), oS 47 (.call (.lit (.func 13 [])) [.tmp 44, .tmp 45, .tmp 46]), oS 11 (.move (.tmp 47))]) (.seq (.seq (.ops [oS 48 (.move (.tmp 11)), oS 49 (.bin .eql .none (.tmp 48) (.lit (.int .i64 0)))]) (.cond (.tmp 49) (.seq (.ops [oS 51 (.load (some 4) (.tmp 3)), oS 52 (.move (.tmp 1)), oS 53 (.move (.tmp 2)), oS 54 (.call (.lit (.func 19 [])) [.tmp 51, .tmp 52, .tmp 53, .lit (.int .i64 128)]), oS 50 (.move (.tmp 54)), oS 55 (.extract (.tmp 50) 0), oS 56 (.extract (.tmp 50) 1), oS 12 (.alloc (.agg [.slice .nil [], .slice .nil [], .slice .nil []])), oN (.store 3 (.tmp 12) (.tmp 55)), oS 13 (.move (.tmp 56))]) (.seq (.ops [oS 57 (.load (some 3) (.tmp 12)), oS 58 (.call (.lit (.func 20 [])) [.tmp 57]), oS 59 (.iaddr 1 (.tmp 58) (.lit (.int .i64 0))), oS 60 (.load none (.tmp 59)), oS 14 (.move (.tmp 60))]) (.seq (.ops [oS 61 (.move (.tmp 14)), oS 62 (.bin .lss .none (.tmp 61) (.lit (.int .i64 0)))]) (.cond (.tmp 62) (.ops [oS 11 (.move (.lit (.int .i64 4)))]) (.seq (.ops [oS 63 (.move (.tmp 7)), oS 64 (.move (.tmp 14)), oS 65 (.bin .neq .none (.tmp 63) (.tmp 64))]) (.cond (.tmp 65) (.seq (.ops [oS 6 (.move (.lit (.bool false)))]) .ret) .skip)))))) .skip)) (.seq (.seq (.ops [oS 66 (.move (.tmp 8)), oS 67 (.move (.tmp 11)), oS 68 (.bin .neq .none (.tmp 66) (.tmp 67)), oS 69 (.move (.tmp 68)), oG 70 69 false (.move (.tmp 11)), oG 71 69 false (.bin .neq .none (.tmp 70) (.lit (.int .i64 0))), oG 72 69 false (.move (.tmp 71)), oG 73 72 true (.move (.tmp 7)), oG 74 72 true (.bin .neq .none (.tmp 73) (.lit (.int .i64 0))), oG 75 69 false (.pick (.tmp 72) (.tmp 74) (.lit (.bool false))), oS 76 (.pick (.tmp 69) (.lit (.bool true)) (.tmp 75))]) (.cond (.tmp 76) (.seq (.ops [oS 6 (.move (.lit (.bool false)))]) .ret) .skip)) r_law_0))))))
set_option maxRecDepth 20000 in
set_option maxHeartbeats 4000000 in
theorem law_spec (t : FTask) (g : List (List Int)) (s : List Int) (ht : TB t) (hg : okL (okL okI) g) (hs : okL okI s) (σ : Store) :
  ACalls Tryz.prog 4 [.agg (encTask t), .slice .unk (g.map encL), .slice .unk (s.map Ahl.encI)] σ (isR (.bool true) σ) := by
 refine ACalls.intro (rs := [(.tmp 6)]) (by kernel_rfl) { own := [], ghosts := [15] } Tryz.func4 (c := Tryz.f4.body.getD .skip) (by kernel_rfl) (by decide) (by rw [show Tryz.f4.ntmps = 145 by kernel_rfl]; exact Nat.le_of_ble_eq_true rfl) (by kernel_rfl) ?_
 intro hσ hids
 rw [show comp Tryz.prog { own := [], ghosts := [15] } (Tryz.f4.body.getD .skip) = c_law by kernel_rfl, show Tryz.f4.ntmps = 145 by kernel_rfl]
 unfold c_law
 have hs1 := hs.1
 simp only [go_sem, simprocAttr, encTask]
 refine ACalls.is (few16_spec t g _ _ ht ⟨hg.1, fun l hl => (hg.2 l hl).1⟩) ?_
 cases hfew : few16B t g
 ·simp only [go_sem, simprocAttr]
  refine (awake16_spec _).is ?_
  simp only [go_sem, simprocAttr]
  exact rt (.bool true) ⟨rfl, rfl⟩
 obtain ⟨hsz, hgz, h7⟩ := few16_facts hfew
 have hLB := few16_LB hgz
 have hPB := few16_PB ht hsz
 have h8 : validB t = true → t.facts.length ≤ 8 := fun hv => by have := h7 hv; omega
 by_cases hsl : ((s.length : Int) > 300)
 ·simp only [go_sem, simprocAttr, hsl]
  refine (awake16_spec _).is ?_
  simp only [go_sem, simprocAttr]
  exact rt (.bool true) ⟨rfl, rfl⟩
 have hdi := fun σ => pDist_spec t g s .unk σ hPB hLB (by omega) h8
 have hsq := fun σ => pStrong_spec t g .unk σ hPB hLB h8
 have hfa := fun s σ hs => fault16_spec t g s .unk .unk σ ht hLB hs
 simp only [encTask] at hdi hsq hfa
 simp only [go_sem, simprocAttr, hsl, encTask]
 refine (hdi _).is ?_
 have hdr : ∃ a b, DistR t g s = .tuple [.int .i64 a, .int .i64 b] ∧ ((givE t g s ≠ 0 ∧ a = 0 ∧ b = givE t g s) ∨ (givE t g s = 0 ∧ dOf (wldF t g s) < 0 ∧ a = 0 ∧ b = 4) ∨ (givE t g s = 0 ∧ ¬ dOf (wldF t g s) < 0 ∧ a = dOf (wldF t g s) ∧ b = 0)) := by
  unfold DistR
  by_cases h1 : givE t g s = 0
  ·rw [if_pos h1]
   by_cases h2 : dOf (wldF t g s) < 0
   ·rw [if_neg (by omega)]; exact ⟨_, _, rfl, .inr (.inl ⟨h1, h2, rfl, rfl⟩)⟩
   ·rw [if_pos (by omega)]; exact ⟨_, _, rfl, .inr (.inr ⟨h1, h2, rfl, rfl⟩)⟩
  ·rw [if_neg h1]; exact ⟨_, _, rfl, .inl ⟨h1, rfl, rfl⟩⟩
 obtain ⟨da, db, hdr, hdc⟩ := hdr
 rw [hdr]
 simp only [go_sem, simprocAttr, encTask]
 refine (hsq _).mono ?_
 rintro _ _ ⟨rfl, hq⟩
 obtain ⟨tok, E, f, rfl, hst⟩ := strong_list hq
 clear hq
 have hrowT : IdsS (σ ++ [AObj.row (encTask t)]).length (σ ++ [AObj.row (encTask t)]) := idsS_push hσ (idsO_row (ids_encTask t))
 have htk : tok = .nil ∧ E = [] ∨ tok = .fresh := by
  rcases hst with ⟨_, _, h1, h2⟩ | ⟨_, _, _, h1, h2⟩ | ⟨_, _, _, h1, _⟩
  ·exact .inl ⟨h1, h2⟩
  ·exact .inl ⟨h1, h2⟩
  ·exact .inr h1
 have hiE : ∀ n, Ids n (.slice tok (E.map vE)) := fun n => by
  rcases htk with ⟨rfl, rfl⟩ | rfl
  ·exact ids_nil _ (by simp)
  ·exact ids_mapf (fun e => ids_vE e) _
 have hrest : ∀ S S', Ghost σ.length 145 S S' [(1, .slice .unk (g.map encL)), (3, .ptr σ.length 0), (9, .slice tok (E.map vE)), (10, .int .i64 f)] (σ ++ [.row (encTask t)]) → wpc Tryz.prog 145 σ.length r_law_0 (bodyK [.tmp 6] σ.length 145 (isR (.bool true) σ)) S S' := by
  intro S S' hgh
  unfold r_law_0
  simp only [go_sem, simprocAttr]
  refine Gh.of hgh ?_
  simp only [go_sem, simprocAttr, encTask]
  refine (is01_spec t _ ht).is ?_
  have hfi := fun σ => hfa t.init σ (by have := ht.init; omega)
  cases hv : validB t
  ·have hak : askE t g = 10 := by unfold askE; rw [hv]; rfl
   have e10 : ((10 : Int) == 10) = true := rfl
   have n10 : ((10 : Int) != 0) = true := rfl
   rcases hst with ⟨_, rfl, rfl, rfl⟩ | ⟨h1, _⟩ | ⟨h1, _⟩
   ·rw [hak]
    simp only [go_sem, simprocAttr, e10, n10]
    refine (awake16_spec _).is ?_
    simp only [go_sem, simprocAttr]
    exact rt (.bool true) ⟨rfl, rfl⟩
   ·omega
   ·omega
  have hgi := give_init g hv
  simp only [go_sem, simprocAttr, encTask]
  refine (hfi _).is ?_
  rw [hgi]
  rcases hst with ⟨h1, rfl, rfl, rfl⟩ | ⟨h1, h2, rfl, rfl, rfl⟩ | ⟨h1, h2, rfl, rfl, h3, h4⟩
  ·have e1 : (askE t g != 0) = true := by simpa using h1
   simp only [go_sem, simprocAttr, e1, beq_self_eq_true]
   refine (awake16_spec _).is ?_
   simp only [go_sem, simprocAttr]
   exact rt (.bool true) ⟨rfl, rfl⟩
  ·obtain ⟨-, hch⟩ := askE_zero h1
   have hri := valid_init16 hv
   obtain ⟨hr, h0, hnd, hsl⟩ := rwF_facts hPB hv hch hri (h7 hv) hLB.1
   have hre := fun σ => reachR_spec t g t.init .unk σ hsz hPB hLB hgz.2 hv (h7 hv) hch hri
   rw [dOf_dF] at h2
   generalize rwF t g t.init = r at hr h0 hnd hsl hre h2
   have hdw := fun σ => distR_spec r σ hr
   have hlt : ((0 : Int) < (r.ss.length : Int)) := by omega
   have hgd := lst_get (dF r.w r.ss.length) h0
   simp only [encRW, encTask] at hre hdw
   rw [h1]
   simp only [go_sem, simprocAttr, encTask]
   refine (hre _).is ?_
   simp only [go_sem, simprocAttr]
   refine (hdw _).is ?_
   simp only [go_sem, simprocAttr, lst_len, hlt, hgd, Ahl.encI, h2, beq_self_eq_true]
   refine (awake16_spec _).is ?_
   simp only [go_sem, simprocAttr]
   exact rt (.bool true) ⟨rfl, rfl⟩
  ·obtain ⟨-, hch⟩ := askE_zero h1
   have hri := valid_init16 hv
   obtain ⟨hr, h0, hnd, hsl⟩ := rwF_facts hPB hv hch hri (h7 hv) hLB.1
   have hre := fun σ => reachR_spec t g t.init .unk σ hsz hPB hLB hgz.2 hv (h7 hv) hch hri
   have hEl : E.length ≤ 128 ∧ ∀ x ∈ E, x.1.length ≤ 1000000 := by
    obtain ⟨hSB, hEO, hfl⟩ := valid_SB hPB hv
    have hwk := wldF_ok hEO hch hri (h8 hv)
    have hb := bfs_len hwk (strongC_ok _) (wld_pos t g t.init) (wldF t g t.init).ss.length
    have hb2 := (bfs_ok hwk (strongC_ok _) (wld_pos t g t.init) (wldF t g t.init).ss.length).2
    have hl : (wldF t g t.init).ss.length ≤ 2 ^ t.facts.length := ssK_len hEO hch hri _
    have h2n : 2 ^ t.facts.length ≤ 128 := Nat.pow_le_pow_right (n := 2) (by omega) (h7 hv)
    refine ⟨?_, fun x hx => ?_⟩
    ·rw [h3.length_eq]
     unfold outE
     rw [List.length_map]
     have := List.length_filter_le (fun i => !stopB (wldF t g t.init) (strongC (wldF t g t.init)) i) (bfs (wldF t g t.init) (strongC (wldF t g t.init)) (wldF t g t.init).ss.length)
     omega
    ·obtain ⟨i, hi, rfl⟩ := List.mem_map.1 (h3.mem_iff.1 hx)
     obtain ⟨u, hu⟩ := get_ex (hb2 i (List.mem_filter.1 hi).1)
     show ((wldF t g t.init).ss.getD i []).length ≤ _
     rw [getD_get hu]
     exact hsl u (List.mem_of_getElem? hu)
   rw [dOf_dF] at h2
   rw [← rwF_w] at h3
   generalize rwF t g t.init = r at hr h0 hnd hsl hre h2 h3
   have hdw := fun σ => distR_spec r σ hr
   have hsw := fun σ => strongW_spec r σ hr h0 hnd hsl
   have hlt : ((0 : Int) < (r.ss.length : Int)) := by omega
   have hgd := lst_get (dF r.w r.ss.length) h0
   simp only [encRW, encTask] at hre hdw hsw
   rw [h1]
   simp only [go_sem, simprocAttr, encTask]
   refine (hre _).is ?_
   simp only [go_sem, simprocAttr]
   refine (hdw _).is ?_
   simp only [go_sem, simprocAttr, lst_len, hlt, hgd, Ahl.encI, h2]
   refine (hsw _).mono ?_
   rintro _ _ ⟨rfl, M, hM, rfl⟩
   obtain ⟨q1, q2⟩ := strong_law hr h0 hnd hM h3 h4
   rw [← q1, ← q2]
   simp only [go_sem, simprocAttr]
   refine (ACalls.wk (parts16_spec E .fresh _ ⟨by omega, fun x hx => by have := hEl.2 x hx; omega⟩ (by omega)) (.cons (wk_ents .fresh E) .nil)).is ?_
   have hL1 : LB (E.map (·.1)) := ⟨by simp; omega, fun x hx => by obtain ⟨e, he, rfl⟩ := List.mem_map.1 hx; exact hEl.2 e he⟩
   have hl2 : (E.map (·.2)).length ≤ 128 := by simpa using hEl.1
   generalize E.map (·.1) = A at hL1
   generalize E.map (·.2) = B at hl2
   have z0 : ((0 : Int) == 0) = true := rfl
   simp only [go_sem, simprocAttr, z0]
   refine (same16_spec A A _ _ _ hL1 hL1).is ?_
   rw [decide_eq_true rfl]
   simp only [go_sem, simprocAttr]
   refine (sameInts_spec B B _ _ _ (by omega) (by omega)).is ?_
   rw [decide_eq_true rfl]
   simp only [go_sem, simprocAttr]
   refine (awake16_spec _).is ?_
   simp only [go_sem, simprocAttr]
   exact rt (.bool true) ⟨rfl, rfl⟩
 have hiE1 := hiE (σ.length + 1)
 have hk : ∀ (l : Store) S, TellW S (σ.length + 1) [(1, .slice .unk (g.map encL)), (3, .ptr σ.length 0), (9, .slice tok (E.map vE)), (10, .int .i64 f)] → wpc Tryz.prog 145 σ.length r_law_0 (bodyK [.tmp 6] σ.length 145 (isR (.bool true) σ)) S (σ ++ ([.row (encTask t)] ++ l)) := fun l S hS => hrest _ _ (Ghost.keepL _ rfl (Nat.le_refl _) hS hrowT)
 simp only [encTask, List.cons_append, List.nil_append] at hk
 simp only [go_sem, simprocAttr]
 refine (hfa s _ (by omega)).is ?_
 rcases hdc with ⟨h1, rfl, rfl⟩ | ⟨h1, h2, rfl, rfl⟩ | ⟨h1, h2, rfl, rfl⟩
 ·have e1 : (givE t g s == 0) = false := by simpa using h1
  have e2 : (givE t g s != 0) = true := by simpa using h1
  simp only [go_sem, simprocAttr, e1, e2, bne_self_eq_false]
  refine hk [] _ ?_
  exact tellT
 ·obtain ⟨hv, hri, hch⟩ := givE_zero h1
  obtain ⟨hr, h0, hnd, hsl⟩ := rwF_facts hPB hv hch hri (h7 hv) hLB.1
  have hre := fun σ => reachR_spec t g s .unk σ hsz hPB hLB hgz.2 hv (h7 hv) hch hri
  rw [dOf_dF] at h2
  generalize rwF t g s = r at hr h0 hnd hsl hre h2
  have hdw := fun σ => distR_spec r σ hr
  have hlt : ((0 : Int) < (r.ss.length : Int)) := by omega
  have hgd := lst_get (dF r.w r.ss.length) h0
  simp only [encRW, encTask] at hre hdw
  rw [h1]
  simp only [go_sem, simprocAttr, encTask]
  refine (hre _).is ?_
  simp only [go_sem, simprocAttr]
  refine (hdw _).is ?_
  simp only [go_sem, simprocAttr, lst_len, hlt, hgd, Ahl.encI, h2]
  refine hk [_] _ ?_
  exact tellT
 ·obtain ⟨hv, hri, hch⟩ := givE_zero h1
  obtain ⟨hr, h0, hnd, hsl⟩ := rwF_facts hPB hv hch hri (h7 hv) hLB.1
  have hre := fun σ => reachR_spec t g s .unk σ hsz hPB hLB hgz.2 hv (h7 hv) hch hri
  rw [dOf_dF] at h2 ⊢
  generalize rwF t g s = r at hr h0 hnd hsl hre h2
  have hdw := fun σ => distR_spec r σ hr
  have hlt : ((0 : Int) < (r.ss.length : Int)) := by omega
  have hgd := lst_get (dF r.w r.ss.length) h0
  simp only [encRW, encTask] at hre hdw
  rw [h1]
  simp only [go_sem, simprocAttr, encTask]
  refine (hre _).is ?_
  simp only [go_sem, simprocAttr]
  refine (hdw _).is ?_
  simp only [go_sem, simprocAttr, lst_len, hlt, hgd, Ahl.encI, h2]
  refine hk [_] _ ?_
  exact tellT
theorem law_reads : ReadsAll Tryz.prog Tryz.f4.params.toList (fun avs => ACalls Tryz.prog 4 avs [] (isR (.bool true) [])) := by
 rw [show Tryz.f4.params.toList = [27, 28, 23] by kernel_rfl]
 exact .cons ra_task fun t ht => .cons ra_intss fun g hg => .cons ra_ints fun s hs => .nil (law_spec t g s ht hg hs [])
set_option maxRecDepth 100000 in
theorem lifted (os : Os) (started : os.Started) (H : Type) (enc : TypeId × Value → H) :
  ReturnsInHanded {} Tryz.checked os 4 .any (Rows.policyStrongSpec.pre6 enc Tryz.prog Tryz.f4 Rows.policyStrongRow.domain false) (Rows.policyStrongSpec.post enc Tryz.prog Tryz.f4 false true false false) := by
 refine returnsInHanded_of_change_sized (C := Tryz.checked) own started (by kernel_rfl) Tryz.func4
  (ChangeSpec.witness6 (enc := enc) (C := Tryz.checked) false ⟨#[], #[.agg #[.slice none 0 0, .slice none 0 0, .slice none 0 0, .slice none 0 0], .slice none 0 0, .slice none 0 0], []⟩ 8 (by kernel_rfl) (by kernel_rfl) (by kernel_rfl) (by kernel_rfl)) ?_
 intro W base args ds gs before hval hW _ hsz _
 refine law_post (P := Tryz.prog) Tryz.func4 (by kernel_rfl) (by decide) rfl ?_ laidOut (rdble (by kernel_rfl)) (by kernel_rfl) Tryz.underlying4 law_reads hval hW hsz
 intro ds h
 rw [show Tryz.f4.params.size = 3 by kernel_rfl] at h
 match ds, h with
 | [a, b, c], _ => rfl
theorem holds : Rows.PolicyStrongSaid :=
 OpenClaim.holds_of_wide 4 Tryz.f4 rfl rfl rfl rfl rfl rfl rfl ⟨rfl, rfl, rfl, rfl, rfl⟩ rfl rfl rfl rfl rfl (by kernel_rfl) Tryz.func4 (by kernel_rfl)
  (of_decide_eq_true (by kernel_rfl)) (by unfold Func.isWrapper; first | (rw [if_pos (by decide +kernel)]; kernel_rfl) | (rw [if_neg (by decide +kernel)]; exact ⟨rfl, rfl⟩))
  (fun os started H enc _ => lifted os started H enc)
end Go.Proofs.YtjmmldkailblmaaGreat
