/- Contracts of the given program's functions, and an abstract layer over the model; no condition. -/
import Derived.Shelf.SortG.Plain
import Derived.Shelf.SortG.SortNone
import Derived.Ground.SlgnProg
import Derived.Test.YtbnhijapbnfohaaGreatBase4
set_option linter.unusedVariables false
set_option linter.unusedSimpArgs false
namespace Go.Proofs.YtbnhijapbnfohaaGreat
open Go.Ahl
/-- The numbers of the facts that are true. -/
def posFrom : Int → List Int → List Int
  | _, [] => []
  | k, y :: r => if y > 0 then k :: posFrom (k + 1) r else posFrom (k + 1) r
theorem posFrom_mem : ∀ (w : List Int) (k x : Int), x ∈ posFrom k w ↔ k ≤ x ∧ ∃ y, w[(x - k).toNat]? = some y ∧ y > 0
  | [], k, x => by simp [posFrom]
  | y :: r, k, x => by
    have ih := posFrom_mem r (k + 1) x
    have key : x ∈ posFrom (k + 1) r ↔ k + 1 ≤ x ∧ ∃ z, (y :: r)[(x - k).toNat]? = some z ∧ z > 0 := by
      rw [ih]
      constructor
      · rintro ⟨h1, z, h2, h3⟩
        refine ⟨h1, z, ?_, h3⟩
        have : (x - k).toNat = (x - (k + 1)).toNat + 1 := by omega
        rw [this, List.getElem?_cons_succ]; exact h2
      · rintro ⟨h1, z, h2, h3⟩
        refine ⟨h1, z, ?_, h3⟩
        have : (x - k).toNat = (x - (k + 1)).toNat + 1 := by omega
        rw [this, List.getElem?_cons_succ] at h2; exact h2
    rw [posFrom]
    split
    · rename_i hy
      rw [List.mem_cons, key]
      constructor
      · rintro (rfl | ⟨h1, h2⟩)
        · exact ⟨Int.le_refl _, y, by simp, hy⟩
        · exact ⟨by omega, h2⟩
      · rintro ⟨h1, h2⟩
        by_cases e : x = k
        · exact .inl e
        · exact .inr ⟨by omega, h2⟩
    · rename_i hy
      rw [key]
      constructor
      · rintro ⟨h1, h2⟩; exact ⟨by omega, h2⟩
      · rintro ⟨h1, h2⟩
        by_cases e : x = k
        · subst e
          obtain ⟨z, h3, h4⟩ := h2
          simp at h3; subst h3; exact absurd h4 hy
        · exact ⟨by omega, h2⟩
theorem posFrom_rising (n : Int) : ∀ (w : List Int) (k p : Int), p < k → k + w.length ≤ n → risingB n p (posFrom k w) = true
  | [], k, p, h, hn => rfl
  | y :: r, k, p, h, hn => by
    rw [List.length_cons] at hn
    rw [posFrom]
    split
    · rw [risingB, Bool.and_eq_true, Bool.and_eq_true]
      exact ⟨⟨by simpa using h, by simp; omega⟩, posFrom_rising n r (k + 1) k (by omega) (by omega)⟩
    · exact posFrom_rising n r (k + 1) p (by omega) (by omega)
theorem posFrom_len : ∀ (w : List Int) (k : Int), (posFrom k w).length ≤ w.length
  | [], k => by simp [posFrom]
  | y :: r, k => by
    rw [posFrom]; have := posFrom_len r (k + 1)
    split <;> simp <;> omega
theorem posFrom_lit {w : List Int} (hw : Tri w) {x : FLit} (hx : inR w.length x) : (litV w x = 1 → litT (fun i => (posFrom 0 w).contains i) x = true) ∧ (litV w x < 0 → litT (fun i => (posFrom 0 w).contains i) x = false) := by
  have hc : (posFrom 0 w).contains x.fact = decide (valAt w x.fact = 1) := by
    rw [List.contains_eq_mem]
    apply decide_eq_decide.2
    rw [posFrom_mem, Int.sub_zero, valAt_get hx]
    have := hx.1
    have ht := valAt_tri hw x.fact
    constructor
    · rintro ⟨_, y, h1, h2⟩; injection h1 with h1; omega
    · intro h; exact ⟨this, _, rfl, by omega⟩
  have ht := valAt_tri hw x.fact
  unfold litT litV
  dsimp only
  rw [hc]
  cases hn : x.neg
  · simp only [Bool.false_eq_true, if_false, Bool.bne_false, decide_eq_true_eq, decide_eq_false_iff_not]
    exact ⟨fun h => h, fun h => by omega⟩
  · simp only [if_true, Bool.bne_true, Bool.not_eq_true', decide_eq_false_iff_not, Bool.not_eq_false', decide_eq_true_eq]
    exact ⟨fun h => by omega, fun h => by omega⟩
theorem ids_func {n : Nat} {f : FuncId} {c : List AV} (h : IdsL n c) : Ids n (.func f c) := .func f c fun j x e => h x (List.mem_of_getElem? e)
theorem Ghost.castl {n0 nt : Nat} {s s' : Slots} {a b c : Store} (h : a = b) (g : Ghost n0 nt s b s' c) : Ghost n0 nt s a s' c := h ▸ g
theorem ExtW.lit {w w' : List Int} (h : ExtW w w') {x : FLit} (hx : inR w.length x) (hv : litV w x = 1) : litV w' x = 1 := by
  have hne : valAt w x.fact ≠ 0 := by intro e; unfold litV at hv; rw [e] at hv; split at hv <;> simp at hv
  have h1 := h.2 _ _ (valAt_get hx) hne
  have h2 : valAt w' x.fact = valAt w x.fact := by rw [valAt, h1]; rfl
  unfold litV at hv ⊢; rw [h2]; exact hv
/-- What Escape comes back with. -/
def EscPost (n : Nat) (f g : List (List FLit)) (r : AV) : Prop :=
  (r = .tuple [.slice .nil [], .bool false, .bool true] ∧ ∀ l ∈ f, ∀ a, termT a l = true → ∃ t ∈ g, termT a t = true) ∨
  ∃ w, Tri w ∧ w.length = n ∧ r = .tuple [.slice .fresh ((posFrom 0 w).map Ahl.encI), .bool true, .bool true] ∧ (∃ l ∈ f, ∀ x ∈ l, litV w x = 1) ∧ ∀ l ∈ g, ∃ x ∈ l, litV w x < 0
theorem rep_ai (n : Nat) : (List.replicate n [AV.int .i64 0]).flatten = (List.replicate n 0).map ai := by
  induction n with
  | zero => rfl
  | succ n ih => rw [List.replicate_succ, List.flatten_cons, ih, List.replicate_succ]; rfl
theorem setAll_ai : ∀ (z w p : List Int), w.length = z.length → setAll ((p ++ w).map ai) p.length (z.map ai) = (p ++ z).map ai
  | [], w, p, h => by
    have : w = [] := List.length_eq_zero_iff.1 h
    subst this; rfl
  | y :: z, w, p, h => by
    cases w with
    | nil => simp at h
    | cons v w =>
      rw [List.map_cons, setAll]
      have h1 : ((p ++ v :: w).map ai).set p.length (ai y) = ((p ++ [y]) ++ w).map ai := by
        rw [← List.map_set]; congr 1
        rw [List.set_append_right _ _ (Nat.le_refl _), Nat.sub_self]; simp
      have h2 := setAll_ai z w (p ++ [y]) (by simpa using h)
      rw [h1, show p.length + 1 = (p ++ [y]).length by simp, h2]
      simp
theorem clr_ai {w : List Int} {n : Nat} (h : w.length = n) : setAll (w.map ai) 0 (List.replicate n [AV.int .i64 0]).flatten = (List.replicate n 0).map ai := by
  rw [rep_ai]
  have := setAll_ai (List.replicate n 0) w [] (by simpa using h)
  simpa using this
/-- Where the setting of a term's literals stands. -/
structure SetJ (n : Nat) (l : List FLit) (k : Nat) (w : List Int) : Prop where
  kl : k ≤ l.length
  len : w.length = n
  tri : Tri w
  on : ∀ x ∈ l.take k, litV w x = 1
  comp : ∀ a, (∀ x ∈ l.take k, litT a x = true) → Comp w a
theorem SetJ.begin (n : Nat) (l : List FLit) : SetJ n l 0 (List.replicate n 0) where
  kl := Nat.zero_le _
  len := by simp
  tri := by intro y hy; exact .inr (.inl (List.eq_of_mem_replicate hy))
  on := by simp
  comp := by
    intro a _ i y h
    have := List.eq_of_mem_replicate (List.mem_of_getElem? h)
    subst this; simp
theorem SetJ.step {n : Nat} {l : List FLit} {k : Nat} {w : List Int} (h : SetJ n l k w) {x : FLit} (hx : l[k]? = some x) (hc : condB n (-1) l = true) : SetJ n l (k + 1) (w.set x.fact.toNat (sgn x)) := by
  have hr := (cond_apart hc).1 x (List.mem_of_getElem? hx)
  have hxr : inR w.length x := ⟨by omega, by rw [h.len]; exact hr.2⟩
  have hs := sgn_ne x
  refine ⟨lt_of_get hx, by simpa using h.len, tri_set h.tri _ (by omega), ?_, ?_⟩
  · intro y hy
    rw [take_succ' hx] at hy
    rcases List.mem_append.1 hy with hy | hy
    · obtain ⟨j, hj, e⟩ := List.mem_iff_getElem.1 hy
      rw [List.length_take] at hj
      have hyg : l[j]? = some y := by
        rw [List.getElem_take] at e
        rw [List.getElem?_eq_getElem (by omega), e]
      have hne := (cond_apart hc).2 j y hyg x (by
        refine List.mem_of_getElem? (i := k - (j + 1)) ?_
        rw [List.getElem?_drop, show j + 1 + (k - (j + 1)) = k by omega]; exact hx)
      have hyr := (cond_apart hc).1 y (List.mem_of_getElem? hyg)
      have h1 : litV (w.set x.fact.toNat (sgn x)) y = litV w y := by
        have : valAt (w.set x.fact.toNat (sgn x)) y.fact = valAt w y.fact := by
          unfold valAt; rw [List.getElem?_set_ne (by omega)]
        unfold litV; rw [this]
      rw [h1]; exact h.on y hy
    · rw [List.mem_singleton] at hy; subst hy
      rw [litV_set hxr]; unfold sgn; split <;> rfl
  · intro a ha
    rw [take_succ' hx] at ha
    exact comp_set hxr (h.comp a (fun y hy => ha y (List.mem_append_left _ hy))) (ha x (by simp))
def c_Escape : CCode := .seq (.ops [⟨some 3, .box (.tmp 0), none, []⟩, ⟨some 5, .box (.tmp 2), none, []⟩, ⟨some 6, .move (.lit (.slice .nil [])), none, []⟩, ⟨some 7, .move (.lit (.bool false)), none, []⟩, ⟨some 8, .move (.lit (.bool false)), none, []⟩]) (.seq (.ops [⟨some 19, .faddr 0 (.tmp 3), none, []⟩, ⟨some 20, .load none (.tmp 19), none, []⟩, ⟨some 21, .blen 1 (.tmp 20), none, []⟩, ⟨some 22, .mkslice 1 8 [.int .i64 0] (.tmp 21) (.tmp 21) true, none, []⟩, ⟨some 9, .alloc (.slice .nil []), none, []⟩, ⟨none, .store 1 (.tmp 9) (.tmp 22), none, []⟩]) (.seq (.ops [⟨some 10, .alloc (.int .i64 0), none, []⟩, ⟨none, .store 1 (.tmp 10) (.lit (.int .i64 2000000)), none, []⟩]) (.seq (.seq (.ops [⟨some 23, .faddr 0 (.tmp 3), none, []⟩, ⟨some 24, .load none (.tmp 23), none, []⟩, ⟨some 25, .blen 1 (.tmp 24), none, []⟩, ⟨some 26, .bin .leq .none (.tmp 25) (.lit (.int .i64 16)), none, []⟩]) (.cond (.tmp 26) (.ops [⟨none, .store 1 (.tmp 10) (.lit (.int .i64 9223372036854775807)), none, []⟩]) .skip)) (.seq (.ops [⟨some 27, .mkfunc 69 [.tmp 9], none, []⟩, ⟨some 11, .alloc (.conc Value.nilFunc), none, []⟩, ⟨none, .store 1 (.tmp 11) (.tmp 27), none, []⟩]) (.seq (.ops [⟨some 12, .alloc (.conc Value.nilFunc), none, []⟩]) (.seq (.ops [⟨some 28, .mkfunc 70 [.tmp 10, .tmp 5, .tmp 11, .tmp 9, .tmp 12], none, []⟩, ⟨none, .store 1 (.tmp 12) (.tmp 28), none, []⟩]) (.seq (.seq (.ops [⟨some 29, .move (.tmp 1), none, []⟩, ⟨some 30, .blen 1 (.tmp 29), none, []⟩, ⟨some 31, .move (.lit (.int .i64 0)), none, []⟩]) (.block 0 (.loop (.seq (.ops [⟨some 32, .bin .lss .none (.tmp 31) (.tmp 30), none, []⟩]) (.seq (.cond (.tmp 32) .skip (.exit 0)) (.seq (.block 1 (.seq (.ops [⟨some 33, .iaddr 1 (.tmp 29) (.tmp 31), none, []⟩, ⟨some 34, .load none (.tmp 33), none, []⟩, ⟨some 14, .move (.tmp 34), none, []⟩]) (.seq (.ops [⟨some 35, .load none (.tmp 9), none, []⟩, ⟨none, .bclear [.int .i64 0] (.tmp 35), none, []⟩]) (.seq (.seq (.ops [⟨some 36, .move (.tmp 14), none, []⟩, ⟨some 37, .blen 1 (.tmp 36), none, []⟩, ⟨some 38, .move (.lit (.int .i64 0)), none, []⟩]) (.block 2 (.loop (.seq (.ops [⟨some 39, .bin .lss .none (.tmp 38) (.tmp 37), none, []⟩]) (.seq (.cond (.tmp 39) .skip (.exit 2)) (.seq (.block 3 (.seq (.ops [⟨some 40, .iaddr 2 (.tmp 36) (.tmp 38), none, []⟩, ⟨some 41, .load (some 2) (.tmp 40), none, []⟩, ⟨some 16, .alloc (.agg [.int .i64 0, .bool false]), none, []⟩, ⟨none, .store 2 (.tmp 16) (.tmp 41), none, []⟩]) (.seq (.ops [⟨some 42, .load none (.tmp 9), none, []⟩, ⟨some 43, .faddr 0 (.tmp 16), none, []⟩, ⟨some 44, .load none (.tmp 43), none, []⟩, ⟨some 45, .iaddr 1 (.tmp 42) (.tmp 44), none, []⟩, ⟨none, .store 1 (.tmp 45) (.lit (.int .i64 1)), none, []⟩]) (.seq (.ops [⟨some 46, .faddr 1 (.tmp 16), none, []⟩, ⟨some 47, .load none (.tmp 46), none, []⟩]) (.cond (.tmp 47) (.ops [⟨some 48, .load none (.tmp 9), none, []⟩, ⟨some 49, .faddr 0 (.tmp 16), none, []⟩, ⟨some 50, .load none (.tmp 49), none, []⟩, ⟨some 51, .iaddr 1 (.tmp 48) (.tmp 50), none, []⟩, ⟨none, .store 1 (.tmp 51) (.lit (.int .i64 (-1))), none, []⟩]) .skip))))) (.ops [⟨some 52, .bin .add .none (.tmp 38) (.lit (.int .i64 1)), none, []⟩, ⟨some 38, .move (.tmp 52), none, []⟩]))))))) (.seq (.seq (.ops [⟨some 53, .load none (.tmp 12), none, []⟩, ⟨some 54, .call (.tmp 53) [], none, []⟩, ⟨some 55, .un .not (.tmp 54), none, []⟩]) (.cond (.tmp 55) (.exit 1) .skip)) (.seq (.seq (.ops [⟨some 56, .load none (.tmp 10), none, []⟩, ⟨some 57, .bin .lss .none (.tmp 56) (.lit (.int .i64 0)), none, []⟩]) (.cond (.tmp 57) (.seq (.ops [⟨some 6, .move (.lit (.slice .nil [])), none, []⟩, ⟨some 7, .move (.lit (.bool false)), none, []⟩, ⟨some 8, .move (.lit (.bool false)), none, []⟩]) .ret) .skip)) (.seq (.seq (.ops [⟨some 58, .load none (.tmp 9), none, []⟩, ⟨some 59, .blen 1 (.tmp 58), none, []⟩, ⟨some 60, .move (.lit (.int .i64 0)), none, []⟩]) (.block 4 (.loop (.seq (.ops [⟨some 61, .bin .lss .none (.tmp 60) (.tmp 59), none, []⟩]) (.seq (.cond (.tmp 61) .skip (.exit 4)) (.seq (.block 5 (.seq (.ops [⟨some 62, .move (.tmp 60), none, []⟩, ⟨some 63, .iaddr 1 (.tmp 58) (.tmp 60), none, []⟩, ⟨some 64, .load none (.tmp 63), none, []⟩, ⟨some 17, .move (.tmp 62), none, []⟩, ⟨some 18, .move (.tmp 64), none, []⟩]) (.seq (.ops [⟨some 65, .move (.tmp 18), none, []⟩, ⟨some 66, .bin .gtr .none (.tmp 65) (.lit (.int .i64 0)), none, []⟩]) (.cond (.tmp 66) (.ops [⟨some 67, .move (.tmp 6), none, []⟩, ⟨some 68, .move (.tmp 17), none, []⟩, ⟨some 69, .bslice 1 [.tmp 68] false, none, []⟩, ⟨some 70, .bappend 1 8 (.tmp 67) (.tmp 69) false, none, []⟩, ⟨some 6, .move (.tmp 70), none, []⟩]) .skip)))) (.ops [⟨some 71, .bin .add .none (.tmp 60) (.lit (.int .i64 1)), none, []⟩, ⟨some 60, .move (.tmp 71), none, []⟩]))))))) (.seq (.ops [⟨some 72, .move (.tmp 6), none, []⟩, ⟨some 6, .move (.tmp 72), none, []⟩, ⟨some 7, .move (.lit (.bool true)), none, []⟩, ⟨some 8, .move (.lit (.bool true)), none, []⟩]) .ret)))))))) (.ops [⟨some 73, .bin .add .none (.tmp 31) (.lit (.int .i64 1)), none, []⟩, ⟨some 31, .move (.tmp 73), none, []⟩]))))))) (.seq (.ops [⟨some 6, .move (.lit (.slice .nil [])), none, []⟩, ⟨some 7, .move (.lit (.bool false)), none, []⟩, ⟨some 8, .move (.lit (.bool true)), none, []⟩]) .ret))))))))
set_option maxRecDepth 20000 in
set_option maxHeartbeats 1000000 in
theorem Escape_spec (t : FTask) (f g : List (List FLit)) (gt gt' : Tok) (σ : Store) (hn : t.facts.length ≤ 16) (hf : f.length ≤ 400) (vf : vF t.facts.length f) (hg : g.length ≤ 400) (vg : vF t.facts.length g) :
    ACalls Tryz.prog 47 [.agg (encTask t), .slice gt' (f.map encC), .slice gt (g.map encC)] σ (fun r σ' => σ' = σ ∧ EscPost t.facts.length f g r) := by
  refine ACalls.intro (rs := [(.tmp 6), (.tmp 7), (.tmp 8)]) (by kernel_rfl) { own := [(0, 3), (1, 3), (2, 3), (3, 3), (4, 3), (5, 3)], ghosts := [] } Tryz.func47 (c := Tryz.f47.body.getD .skip) (by kernel_rfl) (by decide) (by rw [show Tryz.f47.ntmps = 74 by kernel_rfl]; exact Nat.le_of_ble_eq_true rfl) (by kernel_rfl) ?_
  intro hσ hids
  rw [show comp Tryz.prog { own := [(0, 3), (1, 3), (2, 3), (3, 3), (4, 3), (5, 3)], ghosts := [] } (Tryz.f47.body.getD .skip) = c_Escape by kernel_rfl, show Tryz.f47.ntmps = 74 by kernel_rfl]
  unfold c_Escape
  have hn' : (t.facts.length : Int) ≤ 16 := by omega
  have hnf : Value.nilFunc.oneCell' = true := rfl
  simp only [go_sem, Int.reduceToNat, Int.reduceLE, Int.reduceLT, Nat.reduceBEq, Nat.reduceLT, Nat.reduceAdd, Nat.reduceLeDiff, encTask, aMkslice, hn', rep_ai, hnf]
  refine ⟨Int.le_refl _, by omega, by omega, ?_⟩
  generalize hN : t.facts.length = n at *
  generalize hS : (σ ++ _ : Store) = S
  have hSl : S.length = σ.length + 7 := by rw [← hS]; simp
  have hv : S[σ.length + 3]? = some (.row [.ref (σ.length + 2) 1 0 n]) := by rw [← hS, g_get]; rfl
  have hr : S[σ.length + 2]? = some (.row ((List.replicate n 0).map ai)) := by rw [← hS, g_get]; rfl
  have hl : S[σ.length + 4]? = some (.row [.int .i64 9223372036854775807]) := by rw [← hS, g_get]; rfl
  have e : EscE S (σ.length + 3) (σ.length + 2) (σ.length + 4) (σ.length + 1) (σ.length + 5) (σ.length + 6) n gt g :=
    ⟨hv, by omega, by omega, by rw [← hS, g_get]; rfl, by rw [← hS, g_get]; rfl, by rw [← hS, g_get]; rfl, by omega, by omega, by omega, by omega, by omega, by omega, by omega, by omega, by omega⟩
  have hself : upd S (σ.length + 2) (σ.length + 4) (List.replicate n 0) 9223372036854775807 = S := by
    rw [upd, set_same hr, set_same hl]
  have hI : IdsS S.length (upd S (σ.length + 2) (σ.length + 4) (List.replicate n 0) 9223372036854775807) := by
    rw [hself, ← hS]
    refine idsS_app _ hσ ?_
    intro o ho
    simp only [List.mem_cons, List.not_mem_nil, or_false] at ho
    rcases ho with rfl | rfl | rfl | rfl | rfl | rfl | rfl
    · exact idsO_row (ids_encTask t)
    · exact idsO_row (idsL_cons (ids_up (by simp) (hids _ (by simp))) idsL_nil)
    · exact ids_ai _
    · exact idsO_row (idsL_cons (.ref _ _ _ _ (by simp)) idsL_nil)
    · exact idsO_row (idsL_cons (.int _ _) idsL_nil)
    · exact idsO_row (idsL_cons (ids_func (idsL_cons (.ptr _ _ (by simp)) idsL_nil)) idsL_nil)
    · exact idsO_row (idsL_cons (ids_func (idsL_cons (.ptr _ _ (by simp)) (idsL_cons (.ptr _ _ (by simp)) (idsL_cons (.ptr _ _ (by simp)) (idsL_cons (.ptr _ _ (by simp)) (idsL_cons (.ptr _ _ (by simp)) idsL_nil)))))) idsL_nil)
  have htake : ∀ w m t, (upd S (σ.length + 2) (σ.length + 4) w m ++ t).take σ.length = σ := by
    intro w m t
    rw [upd, List.take_append_of_le_length (by simp; omega), List.take_set_of_le (by omega), List.take_set_of_le (by omega), ← hS, List.take_left']
    rfl
  have htake0 : ∀ w m, (upd S (σ.length + 2) (σ.length + 4) w m).take σ.length = σ := fun w m => by have := htake w m []; rwa [List.append_nil] at this
  have gV := upd_get e.v e.rv e.lv
  have gV' := upd_get' e.v e.rv e.lv
  have gZ := upd_get e.z e.rz e.lz
  have gZ' := upd_get' e.z e.rz e.lz
  have gR := upd_R e.r e.rl
  have gR' := upd_R' e.r e.rl
  have gL := upd_L (R := σ.length + 2) e.l
  have gL' := upd_L' (R := σ.length + 2) e.l
  have sR := @upd_setR S (σ.length + 2) (σ.length + 4) e.rl
  have sR' := @upd_setR' S (σ.length + 2) (σ.length + 4) e.r e.rl
  have hil : Ids S.length (.slice gt' (f.map encC)) := ids_up (by omega) (hids _ (by simp))
  refine wpc_while (α := Nat × List Int × Int) (fun q => [(6, .slice .nil []), (9, .ptr (σ.length + 3) 0), (10, .ptr (σ.length + 4) 0), (12, .ptr (σ.length + 6) 0), (29, .slice gt' (f.map encC)), (30, .int .i64 f.length), (31, .int .i64 q.1)])
    (fun q => upd S (σ.length + 2) (σ.length + 4) q.2.1 q.2.2) (fun q => q.1 ≤ f.length ∧ q.2.1.length = n ∧ (9223372036854775807 - 65536 * (q.1 : Int)) ≤ q.2.2 ∧ q.2.2 ≤ 9223372036854775807 ∧ ∀ l ∈ f.take q.1, ∀ a, termT a l = true → ∃ t ∈ g, termT a t = true) (fun q => f.length - q.1)
    (0, List.replicate n 0, 9223372036854775807) ⟨Nat.zero_le _, by simp, by simp, by simp, by simp⟩ ?_ ?_
  · exact Ghost.castl hself.symm (ghUn0 hI)
  rintro ⟨i, w, left⟩ ⟨hi, hwl, hl1, hl2, hno⟩ K hK hE hR
  dsimp only at hi hwl hl1 hl2 hno ⊢
  by_cases h : i < f.length
  · obtain ⟨l, hx⟩ := get_ex h; have hlt : ((i : Int) < (f.length : Int)) := (by omega); have hw : IntKind.i64.wrap ((i : Int) + 1) = ((i + 1 : Nat) : Int) := (by rw [wrap_ok (by omega)]; omega)
    have hlm := List.mem_of_getElem? hx
    have hcl := vf l hlm
    have hll : l.length ≤ 17 := by rcases condB_len hcl with h | h; simp [h]; omega
    have hclr := clr_ai hwl
    have hwn : n ≤ w.length := by omega
    simp only [go_sem, Int.reduceToNat, Int.reduceLE, Int.reduceLT, Nat.reduceBEq, Nat.reduceLT, Nat.reduceAdd, Nat.reduceLeDiff, hlt, hx, encC, gV, gR, hclr, hwn, sR]
    refine wpc_while (α := Nat × List Int) (fun q => [(6, .slice .nil []), (9, .ptr (σ.length + 3) 0), (10, .ptr (σ.length + 4) 0), (12, .ptr (σ.length + 6) 0), (29, .slice gt' (f.map encC)), (30, .int .i64 f.length), (31, .int .i64 i), (36, .slice .unk (l.map encLit)), (37, .int .i64 l.length), (38, .int .i64 q.1)])
      (fun q => upd S (σ.length + 2) (σ.length + 4) q.2 left) (fun q => SetJ n l q.1 q.2) (fun q => l.length - q.1) (0, List.replicate n 0) (SetJ.begin n l) ?_ ?_
    · first | exact ghUn0 hI | exact ghUn hI
    rintro ⟨k, w1⟩ hJ K' hK' hE' hR'
    dsimp only at hJ ⊢
    by_cases hk : k < l.length
    · obtain ⟨x, hxk⟩ := get_ex hk; have hltk : ((k : Int) < (l.length : Int)) := (by omega); have hwk : IntKind.i64.wrap ((k : Int) + 1) = ((k + 1 : Nat) : Int) := (by rw [wrap_ok (by omega)]; omega)
      have hxr := (cond_apart hcl).1 x (List.mem_of_getElem? hxk)
      have hx0 : 0 ≤ x.fact := by omega
      have hx1 : x.fact.toNat < n := by omega
      have hx2 : x.fact.toNat + 1 ≤ w1.length := by rw [hJ.len]; omega
      have hx3 : x.fact.toNat + 1 ≤ (w1.set x.fact.toNat 1).length := by simpa using hx2
      cases hng : x.neg
      · have hsg : sgn x = 1 := by simp [sgn, hng]
        simp only [go_sem, Int.reduceToNat, Int.reduceLE, Int.reduceLT, Nat.reduceBEq, Nat.reduceLT, Nat.reduceAdd, Nat.reduceLeDiff, hltk, hxk, encLit, gV', gR', gV, gR, hx0, hx1, hx2, hx3, mset, sR', sR, hng, upd_len, upd_endk, upd_setEk, upd_end, upd_setE]
        refine hK' _ _ (k + 1, w1.set x.fact.toNat (sgn x)) (hJ.step hxk hcl) (by simp only []; omega) ?_
        (try dsimp only); simp only [hwk, hsg, List.set_set]; first | exact ghUn hI | exact ghUn0 hI
      · have hsg : sgn x = -1 := by simp [sgn, hng]
        simp only [go_sem, Int.reduceToNat, Int.reduceLE, Int.reduceLT, Nat.reduceBEq, Nat.reduceLT, Nat.reduceAdd, Nat.reduceLeDiff, hltk, hxk, encLit, gV', gR', gV, gR, hx0, hx1, hx2, hx3, mset, sR', sR, hng, upd_len, upd_endk, upd_setEk, upd_end, upd_setE]
        refine hK' _ _ (k + 1, w1.set x.fact.toNat (sgn x)) (hJ.step hxk hcl) (by simp only []; omega) ?_
        (try dsimp only); simp only [hwk, hsg, List.set_set]; first | exact ghUn hI | exact ghUn0 hI
    · have hltk : ¬ ((k : Int) < (l.length : Int)) := by omega
      have hkl : k = l.length := by have := hJ.kl; omega
      subst hkl
      simp only [go_sem, Int.reduceToNat, Int.reduceLE, Int.reduceLT, Nat.reduceBEq, Nat.reduceLT, Nat.reduceAdd, Nat.reduceLeDiff, hltk, hE', gZ]
      have hop : opens w1 ≤ 16 := by have := opens_le w1; have := hJ.len; omega
      have hpw : (2 : Nat) ^ opens w1 ≤ 65536 := Nat.pow_le_pow_right (n := 2) (by omega) hop
      refine ACalls.mono (esc2_spec (σ.length + 3) (σ.length + 2) (σ.length + 4) (σ.length + 1) (σ.length + 5) (σ.length + 6) n gt g vg (by omega) (by omega) (opens w1) S w1 left e hJ.len hJ.tri rfl (by omega) hl2) ?_
      rintro _ _ ⟨b, w2, left2, rfl, rfl, hp⟩
      have hlo := hp.lo
      have hhi := hp.hi
      have hnl : ¬ (left2 < 0) := by omega
      cases b
      · obtain ⟨rfl, hq⟩ := hp.no rfl
        simp only [go_sem, Int.reduceToNat, Int.reduceLE, Int.reduceLT, Nat.reduceBEq, Nat.reduceLT, Nat.reduceAdd, Nat.reduceLeDiff]
        refine hK _ _ (i + 1, w2, left2) ⟨by simp only []; omega, hJ.len, by simp only []; omega, by simp only []; omega, ?_⟩ (by simp only []; omega) ?_
        · intro l' hl' a ha
          rw [take_succ' hx] at hl'
          rcases List.mem_append.1 hl' with hl' | hl'
          · exact hno l' hl' a ha
          · rw [List.mem_singleton] at hl'; subst hl'
            refine hq a (hJ.comp a (fun x hx => ?_))
            rw [List.take_length] at hx
            exact List.all_eq_true.1 ha x hx
        · (try dsimp only); simp only [hw]; first | exact ghUn hI | exact ghUn0 hI
      · simp only [go_sem, Int.reduceToNat, Int.reduceLE, Int.reduceLT, Nat.reduceBEq, Nat.reduceLT, Nat.reduceAdd, Nat.reduceLeDiff, gL, hnl, gV]
        have hw2 : w2.length = n := by rw [hp.ext.1]; exact hJ.len
        have hon : ∀ x ∈ l, litV w2 x = 1 := fun x hx => by
          have hxr := (cond_apart hcl).1 x hx
          exact hp.ext.lit ⟨by omega, by rw [hJ.len]; exact hxr.2⟩ (hJ.on x (by rw [List.take_length]; exact hx))
        refine wpc_while (α := Nat × List Int) (fun q => [(6, .slice (.grow S.length) (q.2.map Ahl.encI)), (58, .ref (σ.length + 2) 1 0 n), (59, .int .i64 n), (60, .int .i64 q.1)])
          (fun q => upd S (σ.length + 2) (σ.length + 4) w2 left2 ++ [.grow 1 q.2.length]) (fun q => q.1 ≤ n ∧ q.2.length ≤ q.1 ∧ q.2 ++ posFrom q.1 (w2.drop q.1) = posFrom 0 w2) (fun q => n - q.1) (0, []) ⟨Nat.zero_le _, Nat.le_refl _, rfl⟩ ?_ ?_
        · first | exact ghU_begin0 6 1 _ hI | exact ghU_begin 6 1 _ hI
        rintro ⟨k, out⟩ ⟨hk1, hk2, hk3⟩ K2 hK2 hE2 hR2
        dsimp only at hk1 hk2 hk3 ⊢
        have hgr : ∀ k : Nat, ∀ o ∈ [AObj.grow 1 k], IdsO (S.length + 1) o := fun k o ho => by simp at ho; subst ho; trivial
        by_cases hk : k < n
        · obtain ⟨y, hy⟩ : ∃ y, w2[k]? = some y := get_ex (by omega)
          have hltk : ((k : Int) < (n : Int)) := by omega
          have hwk : IntKind.i64.wrap ((k : Int) + 1) = ((k + 1 : Nat) : Int) := by rw [wrap_ok (by omega)]; omega
          rw [drop_cons hy, posFrom] at hk3
          have hb1 : bigLen (out.length + 1) 8 := big_ok (by omega) (by omega)
          have hgt : ∀ z : Int, (decide (z > 0)) = decide (z > 0) := fun _ => rfl
          by_cases hy0 : y > 0
          · rw [if_pos hy0] at hk3
            simp only [go_sem, Int.reduceToNat, Int.reduceLE, Int.reduceLT, Nat.reduceBEq, Nat.reduceLT, Nat.reduceAdd, Nat.reduceLeDiff, hltk, hk, hy, ai, gR', hy0, upd_len, upd_endk, upd_setEk, upd_end, upd_setE, hb1]
            have hc : out.map Ahl.encI ++ [[AV.int .i64 k]] = (out ++ [(k : Int)]).map Ahl.encI := by simp [Ahl.encI]
            have hcl' : (out ++ [(k : Int)]).length = out.length + 1 := by simp
            refine hK2 _ _ (k + 1, out ++ [(k : Int)]) ⟨by simp only []; omega, by simp only []; omega, by simp only []; rw [← hk3]; simp⟩ (by simp only []; omega) ?_
            (try dsimp only); simp only [hwk, hc, hcl']; exact ghU [.grow 1 (out.length + 1)] hI (hgr _)
          · rw [if_neg hy0] at hk3
            simp only [go_sem, Int.reduceToNat, Int.reduceLE, Int.reduceLT, Nat.reduceBEq, Nat.reduceLT, Nat.reduceAdd, Nat.reduceLeDiff, hltk, hk, hy, ai, gR', hy0, upd_len, upd_endk, upd_setEk, upd_end, upd_setE, hb1]
            refine hK2 _ _ (k + 1, out) ⟨by simp only []; omega, by simp only []; omega, by simp only []; rw [← hk3]; simp⟩ (by simp only []; omega) ?_
            (try dsimp only); simp only [hwk]; first | exact ghU [.grow 1 out.length] hI (hgr _) | exact ghU0 [.grow 1 out.length] hI (hgr _)
        · have hltk : ¬ ((k : Int) < (n : Int)) := by omega
          rw [List.drop_eq_nil_of_le (by omega), posFrom, List.append_nil] at hk3
          simp only [go_sem, Int.reduceToNat, Int.reduceLE, Int.reduceLT, Nat.reduceBEq, Nat.reduceLT, Nat.reduceAdd, Nat.reduceLeDiff, hltk, hE2, hR]
          subst hk3
          exact ret3 (.slice .fresh ((posFrom 0 w2).map Ahl.encI)) (.bool true) (.bool true) (htake _ _ _) ⟨rfl, .inr ⟨w2, hp.tri, hw2, rfl, ⟨l, hlm, hon⟩, hp.yes rfl⟩⟩
  · have hlt : ¬ ((i : Int) < (f.length : Int)) := by omega
    rw [List.take_of_length_le (by omega)] at hno
    simp only [go_sem, Int.reduceToNat, Int.reduceLE, Int.reduceLT, Nat.reduceBEq, Nat.reduceLT, Nat.reduceAdd, Nat.reduceLeDiff, hlt, hE]
    exact ret3 (.slice .nil []) (.bool false) (.bool true) (htake0 _ _) ⟨rfl, .inl ⟨rfl, hno⟩⟩
end Go.Proofs.YtbnhijapbnfohaaGreat
namespace Go.Proofs.YtbnhijapbnfohaaGreat
open Go.Ahl
/-- Does a condition precede another one? -/
def befL : List FLit → List FLit → Bool
  | x :: l, y :: m => if x.fact = y.fact then (if x.neg = y.neg then befL l m else !x.neg) else decide (x.fact < y.fact)
  | _, _ => false
def befB (l m : List FLit) : Bool := if l.length = m.length then befL l m else decide (l.length < m.length)
end Go.Proofs.YtbnhijapbnfohaaGreat
namespace Go.Proofs.YtbnhijapbnfohaaGreat
open Go.Ahl
def insB (l : List FLit) : List (List FLit) → List (List FLit)
  | [] => [l]
  | y :: r => if befB y l then y :: insB l r else l :: y :: r
/-- Is no term that is stronger in f, from number k on? -/
def keepAt (i : Nat) (l : List FLit) : Nat → List (List FLit) → Bool
  | _, [] => true
  | k, m :: r => !(withinB m l && (decide (m.length < l.length) || (decide (k < i) && decide (m.length = l.length)))) && keepAt i l (k + 1) r
def refFrom (f : List (List FLit)) : Nat → List (List FLit) → List (List FLit) → List (List FLit)
  | _, out, [] => out
  | i, out, l :: r => refFrom f (i + 1) (if keepAt i l 0 f then insB l out else out) r
/-- The reference's reduced form. -/
def refRed (f : List (List FLit)) : List (List FLit) := refFrom f 0 [] f
end Go.Proofs.YtbnhijapbnfohaaGreat
namespace Go.Proofs.YtbnhijapbnfohaaGreat
open Go.Ahl
/-! ### The two reduced forms are one -/
/-- On conditions the reference's order is the program's. -/
theorem befL_eq : ∀ {l m : List FLit}, l.length = m.length → befL l m = decide (cmpLits l m < 0)
  | [], [], _ => by simp [befL, cmpLits]
  | x :: l, y :: m, h => by
    have ih := befL_eq (l := l) (m := m) (by simpa using h)
    rw [befL, cmpLits]
    by_cases h1 : x.fact = y.fact
    · rw [if_pos h1]
      by_cases h2 : x.neg = y.neg
      · rw [if_pos h2, if_pos (by unfold lessI; rw [if_pos h1, if_pos h2]), ih]
      · rw [if_neg h2]
        have : lessI x y = if y.neg then -1 else 1 := by unfold lessI; rw [if_pos h1, if_neg h2]
        rw [this]
        cases hx : x.neg <;> cases hy : y.neg <;> rw [hx, hy] at h2 <;> simp at h2 ⊢
    · rw [if_neg h1]
      have : lessI x y = x.fact - y.fact := by unfold lessI; rw [if_neg h1]
      rw [this, if_neg (by omega)]
      apply decide_eq_decide.2; omega
  | [], _ :: _, h => by simp at h
  | _ :: _, [], h => by simp at h
theorem befB_eq (l m : List FLit) : befB l m = decide (orderI l m < 0) := by
  unfold befB orderI
  by_cases h : l.length = m.length
  · rw [if_pos h, if_pos h]; exact befL_eq h
  · rw [if_neg h, if_neg h]; apply decide_eq_decide.2; omega
theorem withinB_iff {a b : List FLit} : withinB a b = true ↔ ∀ x ∈ a, x ∈ b := by
  unfold withinB
  rw [any_not, List.all_eq_true]
  simp
/-- Of two conditions of one length the one that is within the other is the other. -/
theorem within_eq {n : Int} : ∀ {p q : Int} {a b : List FLit}, condB n p a = true → condB n q b = true → (∀ x ∈ a, x ∈ b) → b.length ≤ a.length → a = b
  | p, q, [], [], _, _, _, _ => rfl
  | p, q, [], _ :: _, _, _, _, h => by simp at h
  | p, q, x :: a, [], _, _, h, _ => by have := h x List.mem_cons_self; simp at this
  | p, q, x :: a, y :: b, ha, hb, h, hl => by
    obtain ⟨a1, a2, a3⟩ := condB_cons ha
    obtain ⟨b1, b2, b3⟩ := condB_cons hb
    rcases List.mem_cons.1 (h x List.mem_cons_self) with hxy | hxb
    · subst hxy
      rw [within_eq a3 b3 (fun z hz => by
        rcases List.mem_cons.1 (h z (List.mem_cons_of_mem _ hz)) with e | e
        · subst e; have := (condB_mem a3 z hz).1; omega
        · exact e) (by simpa using hl)]
    · -- x is behind y: then all of a is behind y
      exfalso
      have hsub : ∀ z ∈ x :: a, z ∈ b := by
        intro z hz
        rcases List.mem_cons.1 (h z hz) with e | e
        · subst e
          have hx := (condB_mem b3 x hxb).1
          rcases List.mem_cons.1 hz with e | e
          · subst e; omega
          · have := (condB_mem a3 z e).1; omega
        · exact e
      have key : ∀ {r : Int} {c d : List FLit}, condB n r c = true → (∀ z ∈ c, z ∈ d) → c.length ≤ d.length := by
        intro r c
        induction c generalizing r with
        | nil => intro d _ _; simp
        | cons z c ih =>
          intro d hc hd
          obtain ⟨c1, c2, c3⟩ := condB_cons hc
          have hz := hd z List.mem_cons_self
          have := ih (d := d.erase z) c3 (fun w hw => by
            have hne : w ≠ z := fun e => by subst e; have := (condB_mem c3 w hw).1; omega
            exact (List.mem_erase_of_ne hne).2 (hd w (List.mem_cons_of_mem _ hw)))
          rw [List.length_erase_of_mem hz] at this
          have := List.length_pos_of_mem hz
          simp; omega
      have := key ha hsub
      simp at this hl; omega
end Go.Proofs.YtbnhijapbnfohaaGreat
namespace Go.Proofs.YtbnhijapbnfohaaGreat
open Go.Ahl
theorem within_refl (a : List FLit) : withinB a a = true := withinB_iff.2 fun _ h => h
theorem within_trans {a b c : List FLit} (h : withinB a b = true) (k : withinB b c = true) : withinB a c = true :=
  withinB_iff.2 fun x hx => withinB_iff.1 k x (withinB_iff.1 h x hx)
theorem within_len {n : Int} : ∀ {r : Int} {c d : List FLit}, condB n r c = true → (∀ z ∈ c, z ∈ d) → c.length ≤ d.length := by
  intro r c
  induction c generalizing r with
  | nil => intro d _ _; simp
  | cons z c ih =>
    intro d hc hd
    obtain ⟨c1, c2, c3⟩ := condB_cons hc
    have hz := hd z List.mem_cons_self
    have := ih (d := d.erase z) c3 (fun w hw => by
      have hne : w ≠ z := fun e => by subst e; have := (condB_mem c3 w hw).1; omega
      exact (List.mem_erase_of_ne hne).2 (hd w (List.mem_cons_of_mem _ hw)))
    rw [List.length_erase_of_mem hz] at this
    have := List.length_pos_of_mem hz
    simp; omega
/-- A term that no shorter one of f is within. -/
def minimal (f : List (List FLit)) (l : List FLit) : Prop := l ∈ f ∧ ∀ m ∈ f, withinB m l = true → ¬ m.length < l.length
theorem order_len {a b : List FLit} (h : orderI a b ≤ 0) : a.length ≤ b.length := by
  unfold orderI at h
  by_cases hl : a.length = b.length
  · omega
  · rw [if_neg hl] at h; omega
def apart (a b : List FLit) : Prop := orderI a b ≤ 0 ∧ ¬ withinB a b = true
theorem redLoop_cover : ∀ (l out : List (List FLit)) x, (x ∈ out ∨ x ∈ l) → ∃ y ∈ redLoop out l, withinB y x = true
  | [], out, x, h => by
    rcases h with h | h
    · exact ⟨x, h, within_refl x⟩
    · simp at h
  | z :: l, out, x, h => by
    rw [redLoop]
    split
    · rename_i hz
      rcases h with h | h
      · exact redLoop_cover l out x (.inl h)
      · rcases List.mem_cons.1 h with rfl | h
        · obtain ⟨y, hy, hw⟩ := List.any_eq_true.1 hz
          obtain ⟨u, hu, hw'⟩ := redLoop_cover l out y (.inl hy)
          exact ⟨u, hu, within_trans hw' hw⟩
        · exact redLoop_cover l out x (.inr h)
    · rcases h with h | h
      · exact redLoop_cover l _ x (.inl (List.mem_append_left _ h))
      · rcases List.mem_cons.1 h with rfl | h
        · exact redLoop_cover l _ x (.inl (List.mem_append_right _ (List.mem_singleton.2 rfl)))
        · exact redLoop_cover l _ x (.inr h)
theorem redLoop_apart : ∀ (l out : List (List FLit)), out.Pairwise apart → (out ++ l).Pairwise leO → (redLoop out l).Pairwise apart
  | [], out, h, _ => h
  | z :: l, out, h, hs => by
    rw [redLoop]
    have hs' : (out ++ [z] ++ l).Pairwise leO := by rw [List.append_assoc]; exact hs
    split
    · refine redLoop_apart l out h ?_
      exact hs.sublist (List.Sublist.append_left (List.sublist_cons_self z l) out)
    · rename_i hz
      refine redLoop_apart l _ ?_ hs'
      rw [List.pairwise_append]
      refine ⟨h, by simp, fun a ha b hb => ?_⟩
      rw [List.mem_singleton.1 hb]
      refine ⟨(List.pairwise_append.1 hs).2.2 a ha z List.mem_cons_self, fun hw => hz (List.any_eq_true.2 ⟨a, ha, hw⟩)⟩
theorem reducedL_apart (f : List (List FLit)) : (reducedL f).Pairwise apart := redLoop_apart _ [] .nil (by simpa using sortO_sorted f)
theorem pair_cases {α : Type} {R : α → α → Prop} : ∀ {l : List α}, l.Pairwise R → ∀ x ∈ l, ∀ y ∈ l, x = y ∨ R x y ∨ R y x
  | [], _, x, hx, _, _ => by simp at hx
  | z :: l, h, x, hx, y, hy => by
    rw [List.pairwise_cons] at h
    rcases List.mem_cons.1 hx with e | hx'
    · rcases List.mem_cons.1 hy with e' | hy'
      · exact .inl (e.trans e'.symm)
      · rw [e]; exact .inr (.inl (h.1 y hy'))
    · rcases List.mem_cons.1 hy with e' | hy'
      · rw [e']; exact .inr (.inr (h.1 x hx'))
      · exact pair_cases h.2 x hx' y hy'
theorem reducedL_minimal {n : Int} {f : List (List FLit)} (hf : vF n f) (x : List FLit) : x ∈ reducedL f ↔ minimal f x := by
  have hcov : ∀ z ∈ f, ∃ y ∈ reducedL f, withinB y z = true := fun z hz => redLoop_cover _ [] z (.inr ((sortO_perm f).mem_iff.2 hz))
  constructor
  · intro hx
    refine ⟨reducedL_mem hx, fun m hm hw hlt => ?_⟩
    obtain ⟨y, hy, hym⟩ := hcov m hm
    have h1 := within_len (hf y (reducedL_mem hy)) (withinB_iff.1 hym)
    have hyx := within_trans hym hw
    rcases pair_cases (reducedL_apart f) x hx y hy with e | e | e
    · subst e; omega
    · have := order_len e.1; omega
    · exact e.2 hyx
  · rintro ⟨hx, hmin⟩
    obtain ⟨y, hy, hyx⟩ := hcov x hx
    have hyf := reducedL_mem hy
    have h1 := hmin y hyf hyx
    rw [← within_eq (hf y hyf) (hf x hx) (withinB_iff.1 hyx) (by omega)]
    exact hy
def ltO (a b : List FLit) : Prop := orderI a b < 0
theorem reducedL_strict (f : List (List FLit)) : (reducedL f).Pairwise ltO := (reducedL_apart f).imp fun {a b} h => by
  rcases Int.lt_or_eq_of_le h.1 with q | q
  · exact q
  · exact absurd (by rw [order_anti q]; exact within_refl b) h.2
theorem ltO_irrefl (a : List FLit) : ¬ ltO a a := by unfold ltO; rw [order_refl]; omega
theorem strict_unique : ∀ {a b : List (List FLit)}, a.Pairwise ltO → b.Pairwise ltO → (∀ x, x ∈ a ↔ x ∈ b) → a = b
  | [], [], _, _, _ => rfl
  | [], y :: b, _, _, h => by have := (h y).2 List.mem_cons_self; simp at this
  | x :: a, [], _, _, h => by have := (h x).1 List.mem_cons_self; simp at this
  | x :: a, y :: b, ha, hb, h => by
    rw [List.pairwise_cons] at ha hb
    have hxy : x = y := by
      rcases List.mem_cons.1 ((h x).1 List.mem_cons_self) with e | e
      · exact e
      · rcases List.mem_cons.1 ((h y).2 List.mem_cons_self) with e' | e'
        · exact e'.symm
        · exact absurd (order_trans (hb.1 x e) (ha.1 y e')) (ltO_irrefl y)
    subst hxy
    rw [strict_unique ha.2 hb.2 fun z => by
      constructor
      · intro hz
        rcases List.mem_cons.1 ((h z).1 (List.mem_cons_of_mem _ hz)) with e | e
        · subst e; exact absurd (ha.1 z hz) (ltO_irrefl z)
        · exact e
      · intro hz
        rcases List.mem_cons.1 ((h z).2 (List.mem_cons_of_mem _ hz)) with e | e
        · subst e; exact absurd (hb.1 z hz) (ltO_irrefl z)
        · exact e]
end Go.Proofs.YtbnhijapbnfohaaGreat
namespace Go.Proofs.YtbnhijapbnfohaaGreat
open Go.Ahl
theorem keepAt_iff (i : Nat) (l : List FLit) : ∀ (r : List (List FLit)) (k : Nat), keepAt i l k r = true ↔ ∀ (j : Nat) m, r[j]? = some m → withinB m l = true → ¬ m.length < l.length ∧ ¬ (k + j < i ∧ m.length = l.length)
  | [], k => by simp [keepAt]
  | m :: r, k => by
    rw [keepAt, Bool.and_eq_true, keepAt_iff i l r (k + 1)]
    constructor
    · rintro ⟨h1, h2⟩ j u hu hw
      cases j with
      | zero =>
        simp at hu; subst hu
        rw [hw, Bool.true_and] at h1
        simp at h1
        exact ⟨by omega, fun q => h1.2.elim (fun e => by omega) (fun e => e q.2)⟩
      | succ j =>
        simp at hu
        have := h2 j u hu hw
        exact ⟨this.1, fun q => this.2 ⟨by omega, q.2⟩⟩
    · intro h
      refine ⟨?_, fun j u hu hw => ?_⟩
      · cases hw : withinB m l
        · rfl
        · have := h 0 m rfl hw
          rw [decide_eq_false this.1]
          by_cases hk : k < i
          · rw [decide_eq_true hk, decide_eq_false (fun q => this.2 ⟨by omega, q⟩)]; rfl
          · rw [decide_eq_false hk]; rfl
      · have := h (j + 1) u (by simpa using hu) hw
        exact ⟨this.1, fun q => this.2 ⟨by omega, q.2⟩⟩
theorem insB_iff (l : List FLit) : ∀ r x, x ∈ insB l r ↔ x = l ∨ x ∈ r
  | [], x => by simp [insB]
  | y :: r, x => by
    rw [insB]
    split
    · rw [List.mem_cons, insB_iff l r x, List.mem_cons]
      constructor
      · rintro (h | h | h)
        · exact .inr (.inl h)
        · exact .inl h
        · exact .inr (.inr h)
      · rintro (h | h | h)
        · exact .inr (.inl h)
        · exact .inl h
        · exact .inr (.inr h)
    · rw [List.mem_cons]
theorem insB_strict (l : List FLit) : ∀ {r}, r.Pairwise ltO → l ∉ r → (insB l r).Pairwise ltO
  | [], _, _ => by simp [insB]
  | y :: r, h, hl => by
    rw [insB, befB_eq]
    rw [List.pairwise_cons] at h
    have hne : y ≠ l := fun e => hl (by rw [e]; exact List.mem_cons_self)
    split
    · rename_i hb
      have hb := of_decide_eq_true hb
      refine List.pairwise_cons.2 ⟨fun z hz => ?_, insB_strict l h.2 (fun q => hl (List.mem_cons_of_mem _ q))⟩
      rcases (insB_iff l r z).1 hz with e | hz
      · rw [e]; exact hb
      · exact h.1 z hz
    · rename_i hb
      have hly : ltO l y := by
        have h0 : ¬ orderI y l < 0 := fun q => hb (decide_eq_true q)
        rcases Int.lt_trichotomy (orderI l y) 0 with q | q | q
        · exact q
        · exact absurd (order_anti q).symm hne
        · exact absurd (order_swap.2 q) h0
      refine List.pairwise_cons.2 ⟨fun z hz => ?_, List.pairwise_cons.2 h⟩
      rcases List.mem_cons.1 hz with e | hz
      · rw [e]; exact hly
      · exact order_trans hly (h.1 z hz)
/-- The first occurrence of a term that no stronger one of f is within, among the first i. -/
theorem refFrom_spec {n : Int} {f : List (List FLit)} (hf : vF n f) : ∀ (r : List (List FLit)) (i : Nat) (out : List (List FLit)), r = f.drop i → i ≤ f.length → out.Pairwise ltO → (∀ x, x ∈ out ↔ minimal f x ∧ x ∈ f.take i) →
    (refFrom f i out r).Pairwise ltO ∧ ∀ x, x ∈ refFrom f i out r ↔ minimal f x
  | [], i, out, hr, hi, hp, hm => by
    have hlen : f.length ≤ i := List.drop_eq_nil_iff.1 hr.symm
    refine ⟨hp, fun x => ?_⟩
    rw [refFrom, hm x, List.take_of_length_le hlen]
    exact ⟨fun h => h.1, fun h => ⟨h, h.1⟩⟩
  | l :: r, i, out, hr, hi, hp, hm => by
    have hlt : i < f.length := by
      rcases Nat.lt_or_ge i f.length with q | q
      · exact q
      · rw [List.drop_eq_nil_iff.2 q] at hr; simp at hr
    have hx : f[i]? = some l := by
      have := congrArg (·[0]?) hr
      simp at this; exact this.symm
    have hr' : r = f.drop (i + 1) := by
      rw [drop_cons hx] at hr; injection hr
    have hlf : l ∈ f := List.mem_of_getElem? hx
    have hts := take_succ' hx
    rw [refFrom]
    by_cases hk : keepAt i l 0 f = true
    · rw [if_pos hk]
      have hk' := (keepAt_iff i l f 0).1 hk
      have hmin : minimal f l := ⟨hlf, fun m hm' hw => by
        obtain ⟨j, hj, rfl⟩ := List.mem_iff_getElem.1 hm'
        exact (hk' j _ (List.getElem?_eq_getElem hj) hw).1⟩
      have hnot : l ∉ out := by
        intro hl
        have := ((hm l).1 hl).2
        obtain ⟨j, hj, he⟩ := List.mem_iff_getElem.1 this
        have hji : j < i := by rw [List.length_take] at hj; omega
        rw [List.getElem_take] at he
        exact (hk' j l (by rw [List.getElem?_eq_getElem (by omega), he]) (within_refl l)).2 ⟨by omega, rfl⟩
      refine refFrom_spec hf r (i + 1) _ hr' (by omega) (insB_strict l hp hnot) fun x => ?_
      rw [insB_iff, hm x, hts, List.mem_append, List.mem_singleton]
      constructor
      · rintro (h | h)
        · subst h; exact ⟨hmin, .inr rfl⟩
        · exact ⟨h.1, .inl h.2⟩
      · rintro ⟨h, h' | h'⟩
        · exact .inr ⟨h, h'⟩
        · exact .inl h'
    · rw [if_neg hk]
      refine refFrom_spec hf r (i + 1) _ hr' (by omega) hp fun x => ?_
      rw [hm x, hts, List.mem_append, List.mem_singleton]
      constructor
      · rintro ⟨h, h'⟩; exact ⟨h, .inl h'⟩
      · rintro ⟨h, h' | h'⟩
        · exact ⟨h, h'⟩
        · subst h'
          refine ⟨h, ?_⟩
          -- it is minimal, yet not kept: an equal one stands ahead
          refine Classical.byContradiction fun hno => hk ((keepAt_iff i x f 0).2 fun j m hj hw => ⟨h.2 m (List.mem_of_getElem? hj) hw, fun q => hno ?_⟩)
          have he := within_eq (hf m (List.mem_of_getElem? hj)) (hf x hlf) (withinB_iff.1 hw) (by omega)
          subst he
          exact List.mem_iff_getElem?.2 ⟨j, by rw [List.getElem?_take, if_pos (by omega)]; exact hj⟩
theorem refRed_eq {n : Int} {f : List (List FLit)} (hf : vF n f) : refRed f = reducedL f := by
  have h := refFrom_spec hf f 0 [] (by simp) (Nat.zero_le _) .nil (by simp)
  exact strict_unique h.1 (reducedL_strict f) fun x => by
    rw [reducedL_minimal hf x]; exact h.2 x
end Go.Proofs.YtbnhijapbnfohaaGreat
namespace Go.Proofs.YtbnhijapbnfohaaGreat
open Go.Ahl
theorem FB.of {f : List (List FLit)} (h : f.length ≤ 1073741824 ∧ ∀ l ∈ f, l.length ≤ 1073741824) : FB f := ⟨by have := h.1; omega, fun l hl => by have := h.2 l hl; omega⟩
def goodB (n : Int) (f : List (List FLit)) : Bool := isForm n f && decide (f = refRed f)
def c_fault : CCode := .seq (.ops [⟨some 2, .box (.tmp 0), none, []⟩, ⟨some 4, .move (.lit (.int .i64 0)), none, []⟩]) (.seq (.seq (.ops [⟨some 7, .load (some 4) (.tmp 2), none, []⟩, ⟨some 8, .call (.lit (.func 30 [])) [.tmp 7], none, []⟩, ⟨some 9, .un .not (.tmp 8), none, []⟩]) (.cond (.tmp 9) (.seq (.ops [⟨some 4, .move (.lit (.int .i64 10)), none, []⟩]) .ret) .skip)) (.seq (.seq (.ops [⟨some 10, .move (.tmp 1), none, []⟩, ⟨some 11, .blen 1 (.tmp 10), none, []⟩, ⟨some 12, .move (.lit (.int .i64 0)), none, []⟩]) (.block 0 (.loop (.seq (.ops [⟨some 13, .bin .lss .none (.tmp 12) (.tmp 11), none, []⟩]) (.seq (.cond (.tmp 13) .skip (.exit 0)) (.seq (.block 1 (.seq (.ops [⟨some 14, .iaddr 1 (.tmp 10) (.tmp 12), none, []⟩, ⟨some 15, .load none (.tmp 14), none, []⟩, ⟨some 6, .move (.tmp 15), none, []⟩]) (.seq (.ops [⟨some 16, .load (some 4) (.tmp 2), none, []⟩, ⟨some 17, .move (.tmp 6), none, []⟩, ⟨some 18, .call (.lit (.func 31 [])) [.tmp 16, .tmp 17], none, []⟩, ⟨some 19, .un .not (.tmp 18), none, []⟩]) (.cond (.tmp 19) (.seq (.ops [⟨some 4, .move (.lit (.int .i64 70)), none, []⟩]) .ret) .skip)))) (.ops [⟨some 20, .bin .add .none (.tmp 12) (.lit (.int .i64 1)), none, []⟩, ⟨some 12, .move (.tmp 20), none, []⟩]))))))) (.seq (.ops [⟨some 4, .move (.lit (.int .i64 0)), none, []⟩]) .ret)))
set_option maxRecDepth 20000 in
theorem fault_spec (t : FTask) (fs : List (List (List FLit))) (tok : Tok) (σ : Store) (ht : TB t) (hs : fs.length ≤ 140737488355328) (hf : ∀ f ∈ fs, FB f) :
    ACalls Tryz.prog 9 [.agg (encTask t), .slice tok (fs.map encF)] σ (isR (.int .i64 (if validB t then (if fs.all (isForm t.facts.length) then 0 else 70) else 10)) σ) := by
  refine ACalls.intro (rs := [(.tmp 4)]) (by kernel_rfl) { own := [], ghosts := [] } Tryz.func9 (c := Tryz.f9.body.getD .skip) (by kernel_rfl) (by decide) (by rw [show Tryz.f9.ntmps = 21 by kernel_rfl]; exact Nat.le_of_ble_eq_true rfl) (by kernel_rfl) ?_
  intro hσ hids
  rw [show comp Tryz.prog { own := [], ghosts := [] } (Tryz.f9.body.getD .skip) = c_fault by kernel_rfl, show Tryz.f9.ntmps = 21 by kernel_rfl]
  unfold c_fault
  have hil : Ids σ.length (.slice tok (fs.map encF)) := hids _ (by simp)
  have hσ1 := ids_grow hσ (ids_encTask t)
  simp only [go_sem, Int.reduceToNat, Int.reduceLE, Int.reduceLT, Nat.reduceBEq, Nat.reduceLT, Nat.reduceAdd, Nat.reduceLeDiff, encTask]
  refine (is01_spec t _ ht).is ?_
  cases hv : validB t
  · simp only [go_sem, Int.reduceToNat, Int.reduceLE, Int.reduceLT, Nat.reduceBEq, Nat.reduceLT, Nat.reduceAdd, Nat.reduceLeDiff]
    first | exact rtk (.int .i64 10) ⟨rfl, rfl⟩ | exact rtk0 (.int .i64 10) ⟨rfl, rfl⟩
  simp only [go_sem, Int.reduceToNat, Int.reduceLE, Int.reduceLT, Nat.reduceBEq, Nat.reduceLT, Nat.reduceAdd, Nat.reduceLeDiff, encTask]
  refine wpc_while (fun i => [(2, .ptr σ.length 0), (10, .slice tok (fs.map encF)), (11, .int .i64 fs.length), (12, .int .i64 (i : Nat))]) (fun _ => σ ++ [.row (encTask t)]) (fun i => i ≤ fs.length ∧ fs.all (isForm t.facts.length) = (fs.drop i).all (isForm t.facts.length)) (fun i => fs.length - i) 0 ⟨Nat.zero_le _, rfl⟩ (by (try dsimp only); exact ghk1) ?_
  rintro i ⟨hi, hv⟩ K hK hE hR
  by_cases h : i < fs.length
  · obtain ⟨f, hx⟩ := get_ex h; have hlt : ((i : Int) < (fs.length : Int)) := (by omega); have hw : IntKind.i64.wrap ((i : Int) + 1) = ((i + 1 : Nat) : Int) := (by rw [wrap_ok (by omega)]; omega)
    have hb := hf f (List.mem_of_getElem? hx)
    rw [drop_cons hx, List.all_cons] at hv
    simp only [go_sem, Int.reduceToNat, Int.reduceLE, Int.reduceLT, Nat.reduceBEq, Nat.reduceLT, Nat.reduceAdd, Nat.reduceLeDiff, hlt, hx, encF, encTask]
    refine (is07_spec t f .unk _ hb.1 hb.2).is ?_
    cases h1 : isForm t.facts.length f
    · rw [h1, Bool.false_and] at hv
      simp only [go_sem, Int.reduceToNat, Int.reduceLE, Int.reduceLT, Nat.reduceBEq, Nat.reduceLT, Nat.reduceAdd, Nat.reduceLeDiff, hR]
      first | exact rtk (.int .i64 70) ⟨by rw [hv]; rfl, rfl⟩ | exact rtk0 (.int .i64 70) ⟨by rw [hv]; rfl, rfl⟩
    · rw [h1, Bool.true_and] at hv
      simp only [go_sem, Int.reduceToNat, Int.reduceLE, Int.reduceLT, Nat.reduceBEq, Nat.reduceLT, Nat.reduceAdd, Nat.reduceLeDiff]
      refine hK _ _ (i + 1) (⟨by omega, hv⟩) (by first | omega | (simp only []; omega) | (simp; omega)) ?_; (try dsimp only); (try simp only [ hw]); exact ghk1
  · have hlt : ¬ ((i : Int) < (fs.length : Int)) := by omega
    rw [drop_len h, List.all_nil] at hv
    simp only [go_sem, Int.reduceToNat, Int.reduceLE, Int.reduceLT, Nat.reduceBEq, Nat.reduceLT, Nat.reduceAdd, Nat.reduceLeDiff, hlt, hE]
    first | exact rtk (.int .i64 0) ⟨by rw [hv]; rfl, rfl⟩ | exact rtk0 (.int .i64 0) ⟨by rw [hv]; rfl, rfl⟩
end Go.Proofs.YtbnhijapbnfohaaGreat
namespace Go.Proofs.YtbnhijapbnfohaaGreat
open Go.Ahl
def whenSize (es : List FEff) : Nat := (es.map fun e => e.when_.length).sum
def actSize (a : FAct) : Nat := a.pre.length + a.effects.length + whenSize a.effects
def taskSize (t : FTask) : Nat := t.facts.length + t.init.length + t.goal.length + t.actions.length + (t.actions.map actSize).sum
/-- At most n parts, and names of at most n bytes. -/
def fewT (n : Nat) (t : FTask) : Bool := decide (taskSize t ≤ n) && (t.facts.all (fun s => decide (s.data.toList.length ≤ n)) && t.actions.all (fun a => decide (a.name.data.toList.length ≤ n)))
theorem actSum_cons (a : FAct) (l : List FAct) : ((a :: l).map actSize).sum = actSize a + (l.map actSize).sum := by simp
theorem whenSize_cons (e : FEff) (l : List FEff) : whenSize (e :: l) = e.when_.length + whenSize l := by simp [whenSize]
theorem fewT_big {n : Nat} {t : FTask} (h : n < taskSize t) : fewT n t = false := by unfold fewT; rw [decide_eq_false (by omega)]; rfl
def c_few01 : CCode := .seq (.ops [⟨some 2, .box (.tmp 0), none, []⟩, ⟨some 4, .move (.lit (.bool false)), none, []⟩]) (.seq (.ops [⟨some 12, .faddr 0 (.tmp 2), none, []⟩, ⟨some 13, .load none (.tmp 12), none, []⟩, ⟨some 14, .blen 1 (.tmp 13), none, []⟩, ⟨some 15, .faddr 1 (.tmp 2), none, []⟩, ⟨some 16, .load none (.tmp 15), none, []⟩, ⟨some 17, .blen 1 (.tmp 16), none, []⟩, ⟨some 18, .bin .add .none (.tmp 14) (.tmp 17), none, []⟩, ⟨some 19, .faddr 2 (.tmp 2), none, []⟩, ⟨some 20, .load none (.tmp 19), none, []⟩, ⟨some 21, .blen 1 (.tmp 20), none, []⟩, ⟨some 22, .bin .add .none (.tmp 18) (.tmp 21), none, []⟩, ⟨some 23, .faddr 3 (.tmp 2), none, []⟩, ⟨some 24, .load none (.tmp 23), none, []⟩, ⟨some 25, .blen 1 (.tmp 24), none, []⟩, ⟨some 26, .bin .add .none (.tmp 22) (.tmp 25), none, []⟩, ⟨some 5, .move (.tmp 26), none, []⟩]) (.seq (.seq (.ops [⟨some 27, .move (.tmp 5), none, []⟩, ⟨some 28, .move (.tmp 1), none, []⟩, ⟨some 29, .bin .gtr .none (.tmp 27) (.tmp 28), none, []⟩]) (.cond (.tmp 29) (.seq (.ops [⟨some 4, .move (.lit (.bool false)), none, []⟩]) .ret) .skip)) (.seq (.seq (.ops [⟨some 30, .faddr 0 (.tmp 2), none, []⟩, ⟨some 31, .load none (.tmp 30), none, []⟩, ⟨some 32, .blen 1 (.tmp 31), none, []⟩, ⟨some 33, .move (.lit (.int .i64 0)), none, []⟩]) (.block 0 (.loop (.seq (.ops [⟨some 34, .bin .lss .none (.tmp 33) (.tmp 32), none, []⟩]) (.seq (.cond (.tmp 34) .skip (.exit 0)) (.seq (.block 1 (.seq (.ops [⟨some 35, .iaddr 1 (.tmp 31) (.tmp 33), none, []⟩, ⟨some 36, .load none (.tmp 35), none, []⟩, ⟨some 7, .move (.tmp 36), none, []⟩]) (.seq (.ops [⟨some 37, .move (.tmp 7), none, []⟩, ⟨some 38, .blen 0 (.tmp 37), none, []⟩, ⟨some 39, .move (.tmp 1), none, []⟩, ⟨some 40, .bin .gtr .none (.tmp 38) (.tmp 39), none, []⟩]) (.cond (.tmp 40) (.seq (.ops [⟨some 4, .move (.lit (.bool false)), none, []⟩]) .ret) .skip)))) (.ops [⟨some 41, .bin .add .none (.tmp 33) (.lit (.int .i64 1)), none, []⟩, ⟨some 33, .move (.tmp 41), none, []⟩]))))))) (.seq (.seq (.ops [⟨some 42, .faddr 3 (.tmp 2), none, []⟩, ⟨some 43, .load none (.tmp 42), none, []⟩, ⟨some 44, .blen 1 (.tmp 43), none, []⟩, ⟨some 45, .move (.lit (.int .i64 0)), none, []⟩]) (.block 2 (.loop (.seq (.ops [⟨some 46, .bin .lss .none (.tmp 45) (.tmp 44), none, []⟩]) (.seq (.cond (.tmp 46) .skip (.exit 2)) (.seq (.block 3 (.seq (.ops [⟨some 47, .iaddr 4 (.tmp 43) (.tmp 45), none, []⟩, ⟨some 48, .load (some 4) (.tmp 47), none, []⟩, ⟨some 9, .alloc (.agg [.str (bys []), .int .i64 0, .slice .nil [], .slice .nil []]), none, []⟩, ⟨none, .store 4 (.tmp 9) (.tmp 48), none, []⟩]) (.seq (.ops [⟨some 49, .move (.tmp 5), none, []⟩, ⟨some 50, .faddr 2 (.tmp 9), none, []⟩, ⟨some 51, .load none (.tmp 50), none, []⟩, ⟨some 52, .blen 1 (.tmp 51), none, []⟩, ⟨some 53, .faddr 3 (.tmp 9), none, []⟩, ⟨some 54, .load none (.tmp 53), none, []⟩, ⟨some 55, .blen 1 (.tmp 54), none, []⟩, ⟨some 56, .bin .add .none (.tmp 52) (.tmp 55), none, []⟩, ⟨some 57, .bin .add .none (.tmp 49) (.tmp 56), none, []⟩, ⟨some 5, .move (.tmp 57), none, []⟩]) (.seq (.seq (.ops [⟨some 58, .move (.tmp 5), none, []⟩, ⟨some 59, .move (.tmp 1), none, []⟩, ⟨some 60, .bin .gtr .none (.tmp 58) (.tmp 59), none, []⟩, ⟨some 61, .move (.tmp 60), none, []⟩, ⟨some 62, .faddr 0 (.tmp 9), some (some 61, false), []⟩, ⟨some 63, .load none (.tmp 62), some (some 61, false), []⟩, ⟨some 64, .blen 0 (.tmp 63), some (some 61, false), []⟩, ⟨some 65, .move (.tmp 1), some (some 61, false), []⟩, ⟨some 66, .bin .gtr .none (.tmp 64) (.tmp 65), some (some 61, false), []⟩, ⟨some 67, .pick (.tmp 61) (.lit (.bool true)) (.tmp 66), none, []⟩]) (.cond (.tmp 67) (.seq (.ops [⟨some 4, .move (.lit (.bool false)), none, []⟩]) .ret) .skip)) (.seq (.ops [⟨some 68, .faddr 3 (.tmp 9), none, []⟩, ⟨some 69, .load none (.tmp 68), none, []⟩, ⟨some 70, .blen 1 (.tmp 69), none, []⟩, ⟨some 71, .move (.lit (.int .i64 0)), none, []⟩]) (.block 4 (.loop (.seq (.ops [⟨some 72, .bin .lss .none (.tmp 71) (.tmp 70), none, []⟩]) (.seq (.cond (.tmp 72) .skip (.exit 4)) (.seq (.block 5 (.seq (.ops [⟨some 73, .iaddr 3 (.tmp 69) (.tmp 71), none, []⟩, ⟨some 74, .load (some 3) (.tmp 73), none, []⟩, ⟨some 11, .alloc (.agg [.slice .nil [], .int .i64 0, .bool false]), none, []⟩, ⟨none, .store 3 (.tmp 11) (.tmp 74), none, []⟩]) (.ops [⟨some 75, .move (.tmp 5), none, []⟩, ⟨some 76, .faddr 0 (.tmp 11), none, []⟩, ⟨some 77, .load none (.tmp 76), none, []⟩, ⟨some 78, .blen 1 (.tmp 77), none, []⟩, ⟨some 79, .bin .add .none (.tmp 75) (.tmp 78), none, []⟩, ⟨some 5, .move (.tmp 79), none, []⟩]))) (.ops [⟨some 80, .bin .add .none (.tmp 71) (.lit (.int .i64 1)), none, []⟩, ⟨some 71, .move (.tmp 80), none, []⟩]))))))))))) (.ops [⟨some 81, .bin .add .none (.tmp 45) (.lit (.int .i64 1)), none, []⟩, ⟨some 45, .move (.tmp 81), none, []⟩]))))))) (.seq (.ops [⟨some 82, .move (.tmp 5), none, []⟩, ⟨some 83, .move (.tmp 1), none, []⟩, ⟨some 84, .bin .leq .none (.tmp 82) (.tmp 83), none, []⟩, ⟨some 4, .move (.tmp 84), none, []⟩]) .ret)))))
set_option maxRecDepth 20000 in
set_option maxHeartbeats 1000000 in
theorem few01_spec (t : FTask) (n : Nat) (σ : Store) (ht : TB t) (hn : n ≤ 4096) :
    ACalls Tryz.prog 21 [.agg (encTask t), .int .i64 n] σ (isR (.bool (fewT n t)) σ) := by
  refine ACalls.intro (rs := [(.tmp 4)]) (by kernel_rfl) { own := [], ghosts := [] } Tryz.func21 (c := Tryz.f21.body.getD .skip) (by kernel_rfl) (by decide) (by rw [show Tryz.f21.ntmps = 85 by kernel_rfl]; exact Nat.le_of_ble_eq_true rfl) (by kernel_rfl) ?_
  intro hσ hids
  rw [show comp Tryz.prog { own := [], ghosts := [] } (Tryz.f21.body.getD .skip) = c_few01 by kernel_rfl, show Tryz.f21.ntmps = 85 by kernel_rfl]
  unfold c_few01
  have hσ1 := ids_grow hσ (ids_encTask t)
  obtain ⟨T, hT⟩ : ∃ T : Nat, T = 140737488355328 := ⟨_, rfl⟩
  have hnT := mulTop (T := T) hn
  have b1 := ht.facts; have b2 := ht.init; have b3 := ht.goal; have b4 := ht.actions
  have hsz : taskSize t = t.facts.length + t.init.length + t.goal.length + t.actions.length + (t.actions.map actSize).sum := rfl
  have w1 : IntKind.i64.wrap ((t.facts.length : Int) + t.init.length) = ((t.facts.length + t.init.length : Nat) : Int) := by rw [wrap_ok (by omega)]; omega
  have w2 : IntKind.i64.wrap (((t.facts.length + t.init.length : Nat) : Int) + t.goal.length) = ((t.facts.length + t.init.length + t.goal.length : Nat) : Int) := by rw [wrap_ok (by omega)]; omega
  have w3 : IntKind.i64.wrap (((t.facts.length + t.init.length + t.goal.length : Nat) : Int) + t.actions.length) = ((t.facts.length + t.init.length + t.goal.length + t.actions.length : Nat) : Int) := by rw [wrap_ok (by omega)]; omega
  by_cases h1 : ((t.facts.length + t.init.length + t.goal.length + t.actions.length : Nat) : Int) > n
  · simp only [go_sem, Int.reduceToNat, Int.reduceLE, Int.reduceLT, Nat.reduceBEq, Nat.reduceLT, Nat.reduceAdd, Nat.reduceLeDiff, encTask, w1, w2, w3, h1]
    first | exact rtk (.bool false) ⟨by rw [fewT_big (by omega)], rfl⟩ | exact rtk0 (.bool false) ⟨by rw [fewT_big (by omega)], rfl⟩
  simp only [go_sem, Int.reduceToNat, Int.reduceLE, Int.reduceLT, Nat.reduceBEq, Nat.reduceLT, Nat.reduceAdd, Nat.reduceLeDiff, encTask, w1, w2, w3, h1]
  generalize hs0 : t.facts.length + t.init.length + t.goal.length + t.actions.length = s0 at *
  refine wpc_while (fun i => [(1, .int .i64 n), (2, .ptr σ.length 0), (5, .int .i64 s0), (31, .slice .unk (t.facts.map encT)), (32, .int .i64 t.facts.length), (33, .int .i64 (i : Nat))]) (fun _ => σ ++ [.row (encTask t)])
    (fun i => i ≤ t.facts.length ∧ t.facts.all (fun s => decide (s.data.toList.length ≤ n)) = (t.facts.drop i).all (fun s => decide (s.data.toList.length ≤ n))) (fun i => t.facts.length - i) 0 ⟨Nat.zero_le _, rfl⟩ (by (try dsimp only); exact ghk1) ?_
  rintro i ⟨hi, hv⟩ K hK hE hR
  by_cases h : i < t.facts.length
  · obtain ⟨y, hx⟩ := get_ex h; have hlt : ((i : Int) < (t.facts.length : Int)) := (by omega); have hw : IntKind.i64.wrap ((i : Int) + 1) = ((i + 1 : Nat) : Int) := (by rw [wrap_ok (by omega)]; omega)
    have hb : y.size = y.data.toList.length := rfl
    have hyb := ht.names y (List.mem_of_getElem? hx)
    rw [drop_cons hx, List.all_cons] at hv
    by_cases h2 : ((y.data.toList.length : Nat) : Int) > n
    · simp only [go_sem, Int.reduceToNat, Int.reduceLE, Int.reduceLT, Nat.reduceBEq, Nat.reduceLT, Nat.reduceAdd, Nat.reduceLeDiff, hlt, hx, encT, hb, h2, hR]
      rw [decide_eq_false (by omega), Bool.false_and] at hv
      first | exact rtk (.bool false) ⟨by rw [fewT, hv, Bool.false_and, Bool.and_false], rfl⟩ | exact rtk0 (.bool false) ⟨by rw [fewT, hv, Bool.false_and, Bool.and_false], rfl⟩
    · simp only [go_sem, Int.reduceToNat, Int.reduceLE, Int.reduceLT, Nat.reduceBEq, Nat.reduceLT, Nat.reduceAdd, Nat.reduceLeDiff, hlt, hx, encT, hb, h2]
      rw [decide_eq_true (by omega), Bool.true_and] at hv
      refine hK _ _ (i + 1) (⟨by omega, hv⟩) (by first | omega | (simp only []; omega) | (simp; omega)) ?_; (try dsimp only); (try simp only [ hw]); exact ghk1
  · have hlt : ¬ ((i : Int) < (t.facts.length : Int)) := by omega
    rw [drop_len h, List.all_nil] at hv
    simp only [go_sem, Int.reduceToNat, Int.reduceLE, Int.reduceLT, Nat.reduceBEq, Nat.reduceLT, Nat.reduceAdd, Nat.reduceLeDiff, hlt, hE, encTask]
    have hfv : fewT n t = (decide (taskSize t ≤ n) && t.actions.all (fun a => decide (a.name.data.toList.length ≤ n))) := by rw [fewT, hv, Bool.true_and]
    clear hK hE hR hv
    refine wpc_while (fun (q : Nat × Nat) => [(1, .int .i64 n), (5, .int .i64 q.2), (43, .slice .unk (t.actions.map encA)), (44, .int .i64 t.actions.length), (45, .int .i64 q.1)]) (fun _ => σ)
      (fun q => q.1 ≤ t.actions.length ∧ q.2 ≤ n + n * T ∧ taskSize t = q.2 + ((t.actions.drop q.1).map actSize).sum ∧ t.actions.all (fun a => decide (a.name.data.toList.length ≤ n)) = (t.actions.drop q.1).all (fun a => decide (a.name.data.toList.length ≤ n))) (fun q => t.actions.length - q.1) (0, s0) ⟨Nat.zero_le _, by simp only []; omega, by rw [hsz]; rfl, rfl⟩ (by (try dsimp only); first | exact ghk | exact ghk0) ?_
    rintro ⟨j, a⟩ ⟨hj', haa, hva, hvn⟩ K hK hE hR
    dsimp only at hj' haa hva hvn ⊢
    by_cases hj : j < t.actions.length
    · obtain ⟨x, hxj⟩ := get_ex hj; have hltj : ((j : Int) < (t.actions.length : Int)) := (by omega); have hwj : IntKind.i64.wrap ((j : Int) + 1) = ((j + 1 : Nat) : Int) := (by rw [wrap_ok (by omega)]; omega)
      have hb : x.name.size = x.name.data.toList.length := rfl
      have hxm := List.mem_of_getElem? hxj
      have c1 := ht.pre x hxm; have c2 := ht.effects x hxm; have c3 := ht.whens x hxm; have c4 := ht.name x hxm
      rw [drop_cons hxj, actSum_cons, actSize] at hva
      rw [drop_cons hxj, List.all_cons] at hvn
      have w4 : IntKind.i64.wrap ((x.pre.length : Int) + x.effects.length) = ((x.pre.length + x.effects.length : Nat) : Int) := by rw [wrap_ok (by omega)]; omega
      have w5 : IntKind.i64.wrap ((a : Int) + ((x.pre.length + x.effects.length : Nat) : Int)) = ((a + (x.pre.length + x.effects.length) : Nat) : Int) := by rw [wrap_ok (by omega)]; omega
      by_cases h3 : ((a + (x.pre.length + x.effects.length) : Nat) : Int) > n
      · simp only [go_sem, Int.reduceToNat, Int.reduceLE, Int.reduceLT, Nat.reduceBEq, Nat.reduceLT, Nat.reduceAdd, Nat.reduceLeDiff, hltj, hxj, encA, w4, w5, h3, hR]
        first | exact rtk (.bool false) ⟨by rw [fewT_big (by omega)], rfl⟩ | exact rtk0 (.bool false) ⟨by rw [fewT_big (by omega)], rfl⟩
      by_cases h4 : ((x.name.data.toList.length : Nat) : Int) > n
      · simp only [go_sem, Int.reduceToNat, Int.reduceLE, Int.reduceLT, Nat.reduceBEq, Nat.reduceLT, Nat.reduceAdd, Nat.reduceLeDiff, hltj, hxj, encA, w4, w5, h3, hb, h4, hR]
        rw [decide_eq_false (by omega), Bool.false_and] at hvn
        first | exact rtk (.bool false) ⟨by rw [hfv, hvn, Bool.and_false], rfl⟩ | exact rtk0 (.bool false) ⟨by rw [hfv, hvn, Bool.and_false], rfl⟩
      rw [decide_eq_true (by omega), Bool.true_and] at hvn
      simp only [go_sem, Int.reduceToNat, Int.reduceLE, Int.reduceLT, Nat.reduceBEq, Nat.reduceLT, Nat.reduceAdd, Nat.reduceLeDiff, hltj, hxj, encA, w4, w5, h3, hb, h4]
      refine wpc_while (fun (q : Nat × Nat) => [(1, .int .i64 n), (5, .int .i64 q.2), (43, .slice .unk (t.actions.map encA)), (44, .int .i64 t.actions.length), (45, .int .i64 j), (69, .slice .unk (x.effects.map encE)), (70, .int .i64 x.effects.length), (71, .int .i64 q.1)]) (fun _ => σ)
        (fun q => q.1 ≤ x.effects.length ∧ q.2 ≤ n + q.1 * T ∧ taskSize t = q.2 + whenSize (x.effects.drop q.1) + ((t.actions.drop (j + 1)).map actSize).sum) (fun q => x.effects.length - q.1) (0, a + (x.pre.length + x.effects.length)) ⟨Nat.zero_le _, by simp only []; omega, by rw [List.drop_zero]; omega⟩ (by (try dsimp only); first | exact ghk | exact ghk0) ?_
      rintro ⟨k, b⟩ ⟨hk', hbb, hvb⟩ K' hK' hE' hR'
      dsimp only at hk' hbb hvb ⊢
      have hfn : x.effects.length ≤ n := by omega
      have hjm := mulTop (T := T) (Nat.le_trans hk' hfn)
      by_cases hk : k < x.effects.length
      · obtain ⟨e, hxk⟩ := get_ex hk; have hltk : ((k : Int) < (x.effects.length : Int)) := (by omega); have hwk : IntKind.i64.wrap ((k : Int) + 1) = ((k + 1 : Nat) : Int) := (by rw [wrap_ok (by omega)]; omega)
        have c5 := c3 e (List.mem_of_getElem? hxk)
        rw [drop_cons hxk, whenSize_cons] at hvb
        have w6 : IntKind.i64.wrap ((b : Int) + e.when_.length) = ((b + e.when_.length : Nat) : Int) := by rw [wrap_ok (by omega)]; omega
        simp only [go_sem, Int.reduceToNat, Int.reduceLE, Int.reduceLT, Nat.reduceBEq, Nat.reduceLT, Nat.reduceAdd, Nat.reduceLeDiff, hltk, hxk, encE, w6]
        refine hK' _ _ (k + 1, b + e.when_.length) ⟨by simp only []; omega, by simp only [Nat.add_mul]; omega, by simp only []; omega⟩ (by simp only []; omega) ?_
        exact (by (try dsimp only); (try simp only [hwk]); first | exact ghk | exact ghk0)
      · have hltk : ¬ ((k : Int) < (x.effects.length : Int)) := by omega
        rw [drop_len hk] at hvb
        simp only [go_sem, Int.reduceToNat, Int.reduceLE, Int.reduceLT, Nat.reduceBEq, Nat.reduceLT, Nat.reduceAdd, Nat.reduceLeDiff, hltk, hE']
        refine hK _ _ ((j + 1, b)) (⟨by simp only []; omega, by simp only []; omega, by simpa [whenSize] using hvb, hvn⟩) (by first | omega | (simp only []; omega) | (simp; omega)) ?_; (try dsimp only); (try simp only [ hwj]); first | exact ghk | exact ghk0
    · have hltj : ¬ ((j : Int) < (t.actions.length : Int)) := by omega
      rw [drop_len hj, List.map_nil, List.sum_nil] at hva
      rw [drop_len hj, List.all_nil] at hvn
      simp only [go_sem, Int.reduceToNat, Int.reduceLE, Int.reduceLT, Nat.reduceBEq, Nat.reduceLT, Nat.reduceAdd, Nat.reduceLeDiff, hltj, hE]
      first | exact rtk (.bool (decide ((a : Int) ≤ n))) ⟨by rw [hfv, hvn, Bool.and_true]; congr 1; apply decide_eq_decide.2; omega, rfl⟩ | exact rtk0 (.bool (decide ((a : Int) ≤ n))) ⟨by rw [hfv, hvn, Bool.and_true]; congr 1; apply decide_eq_decide.2; omega, rfl⟩
def fewB (t : FTask) (fs : List (List (List FLit))) : Bool := fewT 400 t && decide ((fs.map formSize).sum ≤ 2400)
def c_few : CCode := .seq (.ops [⟨some 2, .box (.tmp 0), none, []⟩, ⟨some 4, .move (.lit (.bool false)), none, []⟩]) (.seq (.ops [⟨some 5, .load (some 4) (.tmp 2), none, []⟩, ⟨some 6, .call (.lit (.func 21 [])) [.tmp 5, .lit (.int .i64 400)], none, []⟩, ⟨some 7, .move (.tmp 6), none, []⟩, ⟨some 8, .move (.tmp 1), some (some 7, true), []⟩, ⟨some 9, .call (.lit (.func 22 [])) [.lit (.int .i64 2400), .tmp 8], some (some 7, true), []⟩, ⟨some 10, .pick (.tmp 7) (.tmp 9) (.lit (.bool false)), none, []⟩, ⟨some 4, .move (.tmp 10), none, []⟩]) .ret)
set_option maxRecDepth 20000 in
theorem few_spec (t : FTask) (fs : List (List (List FLit))) (tok : Tok) (σ : Store) (ht : TB t) (hf : fs.length ≤ 140737488355328) (hl : ∀ f ∈ fs, FB f) :
    ACalls Tryz.prog 5 [.agg (encTask t), .slice tok (fs.map encF)] σ (isR (.bool (fewB t fs)) σ) := by
  refine ACalls.intro (rs := [(.tmp 4)]) (by kernel_rfl) { own := [], ghosts := [] } Tryz.func5 (c := Tryz.f5.body.getD .skip) (by kernel_rfl) (by decide) (by rw [show Tryz.f5.ntmps = 11 by kernel_rfl]; exact Nat.le_of_ble_eq_true rfl) (by kernel_rfl) ?_
  intro hσ hids
  rw [show comp Tryz.prog { own := [], ghosts := [] } (Tryz.f5.body.getD .skip) = c_few by kernel_rfl, show Tryz.f5.ntmps = 11 by kernel_rfl]
  unfold c_few
  simp only [go_sem, Int.reduceToNat, Int.reduceLE, Int.reduceLT, Nat.reduceBEq, Nat.reduceLT, Nat.reduceAdd, Nat.reduceLeDiff, encTask]
  refine (few01_spec t 400 _ ht (by omega)).is ?_
  cases h1 : fewT 400 t
  · simp only [go_sem, Int.reduceToNat, Int.reduceLE, Int.reduceLT, Nat.reduceBEq, Nat.reduceLT, Nat.reduceAdd, Nat.reduceLeDiff]
    first | exact rtk (.bool false) ⟨by rw [fewB, h1]; rfl, rfl⟩ | exact rtk0 (.bool false) ⟨by rw [fewB, h1]; rfl, rfl⟩
  · simp only [go_sem, Int.reduceToNat, Int.reduceLE, Int.reduceLT, Nat.reduceBEq, Nat.reduceLT, Nat.reduceAdd, Nat.reduceLeDiff]
    refine (few07_spec 2400 (by omega) fs tok _ hf hl).is ?_
    simp only [go_sem, Int.reduceToNat, Int.reduceLE, Int.reduceLT, Nat.reduceBEq, Nat.reduceLT, Nat.reduceAdd, Nat.reduceLeDiff]
    first | exact rtw (v := .bool _) wkS ⟨by rw [fewB, h1]; rfl, rfl⟩ | exact rtw0 (v := .bool _) wkS ⟨by rw [fewB, h1]; rfl, rfl⟩
end Go.Proofs.YtbnhijapbnfohaaGreat
namespace Go.Proofs.YtbnhijapbnfohaaGreat
open Go.Ahl
/-- What Implies comes back with, if there is no error. -/
def ImpPost (n : Nat) (f g : List (List FLit)) (r : AV) : Prop :=
  (r = .tuple [.bool true, .slice .nil [], .int .i64 0] ∧ ∀ l ∈ f, ∀ a, termT a l = true → ∃ t ∈ g, termT a t = true) ∨
  ∃ s, risingB n (-1) s = true ∧ s.length ≤ n ∧ r = .tuple [.bool false, .slice .unk (s.map Ahl.encI), .int .i64 0] ∧ formHolds s f = true ∧ formHolds s g = false
/-- The same, with the state in new memory. -/
def ImpPostF (n : Nat) (f g : List (List FLit)) (r : AV) : Prop :=
  (r = .tuple [.bool true, .slice .nil [], .int .i64 0] ∧ ∀ l ∈ f, ∀ a, termT a l = true → ∃ t ∈ g, termT a t = true) ∨
  ∃ s, risingB n (-1) s = true ∧ s.length ≤ n ∧ r = .tuple [.bool false, .slice .fresh (s.map Ahl.encI), .int .i64 0] ∧ formHolds s f = true ∧ formHolds s g = false
theorem condHolds_term (s : List Int) (l : List FLit) : condHolds s l = termT (fun i => s.contains i) l := rfl
theorem esc_state {n : Nat} {f g : List (List FLit)} {w : List Int} (vf : vF n f) (vg : vF n g) (hw : Tri w) (hl : w.length = n) (h1 : ∃ l ∈ f, ∀ x ∈ l, litV w x = 1) (h2 : ∀ l ∈ g, ∃ x ∈ l, litV w x < 0) :
    risingB n (-1) (posFrom 0 w) = true ∧ (posFrom 0 w).length ≤ n ∧ formHolds (posFrom 0 w) f = true ∧ formHolds (posFrom 0 w) g = false := by
  have hr : ∀ l, condB n (-1) l = true → ∀ x ∈ l, inR w.length x := fun l hc x hx => by
    have := (cond_apart hc).1 x hx
    exact ⟨by omega, by rw [hl]; exact this.2⟩
  refine ⟨posFrom_rising n w 0 (-1) (by omega) (by omega), by have := posFrom_len w 0; omega, ?_, ?_⟩
  · obtain ⟨l, hm, hx⟩ := h1
    refine List.any_eq_true.2 ⟨l, hm, ?_⟩
    rw [condHolds_term]
    exact List.all_eq_true.2 fun x hxl => (posFrom_lit hw (hr l (vf l hm) x hxl)).1 (hx x hxl)
  · refine List.any_eq_false.2 fun l hm => ?_
    rw [condHolds_term]
    obtain ⟨x, hx, hv⟩ := h2 l hm
    intro hall
    have h3 := List.all_eq_true.1 hall x hx
    rw [(posFrom_lit hw (hr l (vg l hm) x hx)).2 hv] at h3
    exact absurd h3 (by simp)
def c_Implies : CCode := .seq (.ops [⟨some 3, .box (.tmp 0), none, []⟩, ⟨some 6, .move (.lit (.bool false)), none, []⟩, ⟨some 7, .move (.lit (.slice .nil [])), none, []⟩, ⟨some 8, .move (.lit (.int .i64 0)), none, []⟩]) (.seq (.seq (.ops [⟨some 13, .load (some 4) (.tmp 3), none, []⟩, ⟨some 14, .move (.tmp 1), none, []⟩, ⟨some 15, .move (.tmp 2), none, []⟩, ⟨some 16, .bslice 1 [.tmp 14, .tmp 15] false, none, []⟩, ⟨some 17, .call (.lit (.func 28 [])) [.tmp 13, .tmp 16], none, []⟩, ⟨some 9, .move (.tmp 17), none, []⟩]) (.seq (.ops [⟨some 18, .move (.tmp 9), none, []⟩, ⟨some 19, .bin .neq .none (.tmp 18) (.lit (.int .i64 0)), none, []⟩]) (.cond (.tmp 19) (.seq (.ops [⟨some 20, .move (.tmp 9), none, []⟩, ⟨some 6, .move (.lit (.bool false)), none, []⟩, ⟨some 7, .move (.lit (.slice .nil [])), none, []⟩, ⟨some 8, .move (.tmp 20), none, []⟩]) .ret) .skip))) (.seq (.ops [⟨some 22, .load (some 4) (.tmp 3), none, []⟩, ⟨some 23, .move (.tmp 1), none, []⟩, ⟨some 24, .move (.tmp 2), none, []⟩, ⟨some 25, .call (.lit (.func 47 [])) [.tmp 22, .tmp 23, .tmp 24], none, []⟩, ⟨some 21, .move (.tmp 25), none, []⟩, ⟨some 26, .extract (.tmp 21) 0, none, []⟩, ⟨some 27, .extract (.tmp 21) 1, none, []⟩, ⟨some 28, .extract (.tmp 21) 2, none, []⟩, ⟨some 10, .move (.tmp 26), none, []⟩, ⟨some 11, .move (.tmp 27), none, []⟩, ⟨some 12, .move (.tmp 28), none, []⟩]) (.seq (.seq (.ops [⟨some 29, .move (.tmp 12), none, []⟩, ⟨some 30, .un .not (.tmp 29), none, []⟩]) (.cond (.tmp 30) (.seq (.ops [⟨some 6, .move (.lit (.bool false)), none, []⟩, ⟨some 7, .move (.lit (.slice .nil [])), none, []⟩, ⟨some 8, .move (.lit (.int .i64 3)), none, []⟩]) .ret) .skip)) (.seq (.ops [⟨some 31, .move (.tmp 11), none, []⟩, ⟨some 32, .un .not (.tmp 31), none, []⟩, ⟨some 33, .move (.tmp 10), none, []⟩, ⟨some 6, .move (.tmp 32), none, []⟩, ⟨some 7, .move (.tmp 33), none, []⟩, ⟨some 8, .move (.lit (.int .i64 0)), none, []⟩]) .ret))))
set_option maxRecDepth 20000 in
theorem Implies_specF (t : FTask) (f g : List (List FLit)) (tok tok' : Tok) (σ : Store) (ht : TB t) (hf : FB f) (hg : FB g) (h16 : t.facts.length ≤ 16) :
    ACalls Tryz.prog 23 [.agg (encTask t), .slice tok (f.map encC), .slice tok' (g.map encC)] σ (fun r σ' => σ' = σ ∧ ((fineE t [f, g] ≠ 0 ∧ r = .tuple [.bool false, .slice .nil [], .int .i64 (fineE t [f, g])]) ∨ (fineE t [f, g] = 0 ∧ ImpPostF t.facts.length f g r))) := by
  refine ACalls.intro (rs := [(.tmp 6), (.tmp 7), (.tmp 8)]) (by kernel_rfl) { own := [], ghosts := [] } Tryz.func23 (c := Tryz.f23.body.getD .skip) (by kernel_rfl) (by decide) (by rw [show Tryz.f23.ntmps = 34 by kernel_rfl]; exact Nat.le_of_ble_eq_true rfl) (by kernel_rfl) ?_
  intro hσ hids
  rw [show comp Tryz.prog { own := [], ghosts := [] } (Tryz.f23.body.getD .skip) = c_Implies by kernel_rfl, show Tryz.f23.ntmps = 34 by kernel_rfl]
  unfold c_Implies
  simp only [go_sem, Int.reduceToNat, Int.reduceLE, Int.reduceLT, Nat.reduceBEq, Nat.reduceLT, Nat.reduceAdd, Nat.reduceLeDiff, encTask]
  refine ACalls.is (ACalls.wk (fine07_spec t [f, g] .unk _ ht (by simp) (by intro x hx; simp at hx; rcases hx with rfl | rfl; exact hf; exact hg)) (.cons (.refl _) (WkL.one (wk_two _ _ _ _ _)))) ?_
  by_cases h1 : fineE t [f, g] = 0
  · obtain ⟨hn, _, l1, l2, v1, v2⟩ := fine_two h1
    rw [h1]
    simp only [go_sem, Int.reduceToNat, Int.reduceLE, Int.reduceLT, Nat.reduceBEq, Nat.reduceLT, Nat.reduceAdd, Nat.reduceLeDiff]
    refine (Escape_spec t f g _ _ _ h16 l1 v1 l2 v2).mono ?_
    rintro _ _ ⟨rfl, ⟨rfl, hno⟩ | ⟨w, hw, hl, rfl, h3, h4⟩⟩
    · simp only [go_sem, Int.reduceToNat, Int.reduceLE, Int.reduceLT, Nat.reduceBEq, Nat.reduceLT, Nat.reduceAdd, Nat.reduceLeDiff]
      exact ret3 (.bool true) (.slice .nil []) (.int .i64 0) List.take_left ⟨rfl, .inr (.inl ⟨rfl, hno⟩)⟩
    · obtain ⟨a1, a2, a3, a4⟩ := esc_state v1 v2 hw hl h3 h4
      simp only [go_sem, Int.reduceToNat, Int.reduceLE, Int.reduceLT, Nat.reduceBEq, Nat.reduceLT, Nat.reduceAdd, Nat.reduceLeDiff]
      exact ret3 (.bool false) (.slice .fresh ((posFrom 0 w).map Ahl.encI)) (.int .i64 0) List.take_left ⟨rfl, .inr (.inr ⟨_, a1, a2, rfl, a3, a4⟩)⟩
  · have h1' : (fineE t [f, g] != 0) = true := by simpa using h1
    simp only [go_sem, Int.reduceToNat, Int.reduceLE, Int.reduceLT, Nat.reduceBEq, Nat.reduceLT, Nat.reduceAdd, Nat.reduceLeDiff, h1']
    exact ret3 (.bool false) (.slice .nil []) (.int .i64 (fineE t [f, g])) List.take_left ⟨rfl, .inl ⟨h1, rfl⟩⟩
theorem Implies_spec (t : FTask) (f g : List (List FLit)) (tok tok' : Tok) (σ : Store) (ht : TB t) (hf : FB f) (hg : FB g) (h16 : t.facts.length ≤ 16) :
    ACalls Tryz.prog 23 [.agg (encTask t), .slice tok (f.map encC), .slice tok' (g.map encC)] σ (fun r σ' => σ' = σ ∧ ((fineE t [f, g] ≠ 0 ∧ r = .tuple [.bool false, .slice .nil [], .int .i64 (fineE t [f, g])]) ∨ (fineE t [f, g] = 0 ∧ ImpPost t.facts.length f g r))) := by
  refine (Implies_specF t f g tok tok' σ ht hf hg h16).wkC ?_
  rintro r σ' ⟨rfl, h | ⟨h0, h | ⟨s, a1, a2, rfl, a3, a4⟩⟩⟩
  · exact ⟨r, .refl _, rfl, .inl h⟩
  · exact ⟨r, .refl _, rfl, .inr ⟨h0, .inl h⟩⟩
  · exact ⟨_, Wk.tuple (.cons (.refl _) (.cons (Wk.unk _ _) (WkL.one (.refl _)))), rfl, .inr ⟨h0, .inr ⟨s, a1, a2, rfl, a3, a4⟩⟩⟩
end Go.Proofs.YtbnhijapbnfohaaGreat
namespace Go.Proofs.YtbnhijapbnfohaaGreat
open Go.Ahl
def t0 : FTask := ⟨[bys [104, 101, 114, 101], bys [116, 104, 101, 114, 101]], [0], [⟨1, false⟩], [⟨bys [103, 111], 2, [⟨0, false⟩], [⟨[], ⟨0, true⟩⟩, ⟨[], ⟨1, false⟩⟩]⟩]⟩
theorem t0_TB : TB t0 := ⟨by decide, by decide, by decide, by decide, by decide, by decide, by decide, by decide, by decide⟩
theorem t0_reg : retF (actE t0 0 [[⟨1, false⟩]]) (backF (t0.actions.getD (0 : Int).toNat ⟨.empty, 0, [], []⟩) [[⟨1, false⟩]]) = .tuple [.slice .unk ([[⟨0, false⟩]].map encC), .int .i64 0] := by kernel_rfl
theorem t0_weak : retF (actE t0 0 []) (aheadF (t0.actions.getD (0 : Int).toNat ⟨.empty, 0, [], []⟩) []) = .tuple [.slice .unk ([[⟨0, true⟩]].map encC), .int .i64 0] := by kernel_rfl
theorem t0_fine : fineE t0 [[[]], [[⟨0, false⟩]]] = 0 := by kernel_rfl
theorem t0_check : checkE t0 [[⟨2, false⟩]] = 70 := by kernel_rfl
theorem FB_small {f : List (List FLit)} (h : f.length ≤ 1000 ∧ ∀ l ∈ f, l.length ≤ 1000) : FB f := ⟨by have := h.1; omega, fun l hl => by have := h.2 l hl; omega⟩
def c_awake : CCode := .seq (.ops [⟨some 0, .move (.lit (.bool false)), none, []⟩]) (.seq (.ops [⟨some 9, .bslice 1 [.lit (.str (bys [104, 101, 114, 101])), .lit (.str (bys [116, 104, 101, 114, 101]))] false, none, []⟩, ⟨some 10, .bslice 1 [.lit (.int .i64 0)] false, none, []⟩, ⟨some 11, .build [.int .i64 0, .bool false] [(0, 1, .lit (.int .i64 1))], none, []⟩, ⟨some 12, .bslice 2 [.tmp 11] false, none, []⟩, ⟨some 13, .build [.int .i64 0, .bool false] [(0, 1, .lit (.int .i64 0))], none, []⟩, ⟨some 14, .bslice 2 [.tmp 13] false, none, []⟩, ⟨some 15, .build [.int .i64 0, .bool false] [(0, 1, .lit (.int .i64 0)), (1, 1, .lit (.bool true))], none, []⟩, ⟨some 16, .build [.slice .nil [], .int .i64 0, .bool false] [(1, 2, .tmp 15)], none, []⟩, ⟨some 17, .build [.int .i64 0, .bool false] [(0, 1, .lit (.int .i64 1))], none, []⟩, ⟨some 18, .build [.slice .nil [], .int .i64 0, .bool false] [(1, 2, .tmp 17)], none, []⟩, ⟨some 19, .bslice 3 [.tmp 16, .tmp 18] false, none, []⟩, ⟨some 20, .build [.str (bys []), .int .i64 0, .slice .nil [], .slice .nil []] [(0, 1, .lit (.str (bys [103, 111]))), (1, 1, .lit (.int .i64 2)), (2, 1, .tmp 14), (3, 1, .tmp 19)], none, []⟩, ⟨some 21, .bslice 4 [.tmp 20] false, none, []⟩, ⟨some 22, .build [.slice .nil [], .slice .nil [], .slice .nil [], .slice .nil []] [(0, 1, .tmp 9), (1, 1, .tmp 10), (2, 1, .tmp 12), (3, 1, .tmp 21)], none, []⟩, ⟨some 1, .alloc (.agg [.slice .nil [], .slice .nil [], .slice .nil [], .slice .nil []]), none, []⟩, ⟨none, .store 4 (.tmp 1) (.tmp 22), none, []⟩]) (.seq (.ops [⟨some 24, .load (some 4) (.tmp 1), none, []⟩, ⟨some 25, .build [.int .i64 0, .bool false] [(0, 1, .lit (.int .i64 1))], none, []⟩, ⟨some 26, .bslice 2 [.tmp 25] false, none, []⟩, ⟨some 27, .bslice 1 [.tmp 26] false, none, []⟩, ⟨some 28, .call (.lit (.func 15 [])) [.tmp 24, .lit (.int .i64 0), .tmp 27], none, []⟩, ⟨some 23, .move (.tmp 28), none, []⟩, ⟨some 29, .extract (.tmp 23) 0, none, []⟩, ⟨some 30, .extract (.tmp 23) 1, none, []⟩, ⟨some 2, .move (.tmp 29), none, []⟩, ⟨some 3, .move (.tmp 30), none, []⟩]) (.seq (.ops [⟨some 32, .load (some 4) (.tmp 1), none, []⟩, ⟨some 33, .call (.lit (.func 18 [])) [.tmp 32, .lit (.int .i64 0), .lit (.slice .nil [])], none, []⟩, ⟨some 31, .move (.tmp 33), none, []⟩, ⟨some 34, .extract (.tmp 31) 0, none, []⟩, ⟨some 35, .extract (.tmp 31) 1, none, []⟩, ⟨some 4, .move (.tmp 34), none, []⟩, ⟨some 5, .move (.tmp 35), none, []⟩]) (.seq (.ops [⟨some 37, .load (some 4) (.tmp 1), none, []⟩, ⟨some 38, .bslice 1 [.lit (.slice .nil [])] false, none, []⟩, ⟨some 39, .build [.int .i64 0, .bool false] [(0, 1, .lit (.int .i64 0))], none, []⟩, ⟨some 40, .bslice 2 [.tmp 39] false, none, []⟩, ⟨some 41, .bslice 1 [.tmp 40] false, none, []⟩, ⟨some 42, .call (.lit (.func 23 [])) [.tmp 37, .tmp 38, .tmp 41], none, []⟩, ⟨some 36, .move (.tmp 42), none, []⟩, ⟨some 43, .extract (.tmp 36) 0, none, []⟩, ⟨some 44, .extract (.tmp 36) 1, none, []⟩, ⟨some 45, .extract (.tmp 36) 2, none, []⟩, ⟨some 6, .move (.tmp 43), none, []⟩, ⟨some 7, .move (.tmp 44), none, []⟩, ⟨some 8, .move (.tmp 45), none, []⟩]) (.seq (.ops [⟨some 46, .move (.tmp 3), none, []⟩, ⟨some 47, .bin .eql .none (.tmp 46) (.lit (.int .i64 0)), none, []⟩, ⟨some 48, .move (.tmp 47), none, []⟩, ⟨some 49, .move (.tmp 2), some (some 48, true), []⟩, ⟨some 50, .build [.int .i64 0, .bool false] [(0, 1, .lit (.int .i64 0))], some (some 48, true), []⟩, ⟨some 51, .bslice 2 [.tmp 50] false, some (some 48, true), []⟩, ⟨some 52, .bslice 1 [.tmp 51] false, some (some 48, true), []⟩, ⟨some 53, .call (.lit (.func 12 [])) [.tmp 49, .tmp 52], some (some 48, true), []⟩, ⟨some 54, .pick (.tmp 48) (.tmp 53) (.lit (.bool false)), none, []⟩, ⟨some 55, .move (.tmp 54), none, []⟩, ⟨some 56, .move (.tmp 5), some (some 55, true), []⟩, ⟨some 57, .bin .eql .none (.tmp 56) (.lit (.int .i64 0)), some (some 55, true), []⟩, ⟨some 58, .pick (.tmp 55) (.tmp 57) (.lit (.bool false)), none, []⟩, ⟨some 59, .move (.tmp 58), none, []⟩, ⟨some 60, .move (.tmp 4), some (some 59, true), []⟩, ⟨some 61, .build [.int .i64 0, .bool false] [(0, 1, .lit (.int .i64 0)), (1, 1, .lit (.bool true))], some (some 59, true), []⟩, ⟨some 62, .bslice 2 [.tmp 61] false, some (some 59, true), []⟩, ⟨some 63, .bslice 1 [.tmp 62] false, some (some 59, true), []⟩, ⟨some 64, .call (.lit (.func 12 [])) [.tmp 60, .tmp 63], some (some 59, true), []⟩, ⟨some 65, .pick (.tmp 59) (.tmp 64) (.lit (.bool false)), none, []⟩, ⟨some 66, .move (.tmp 65), none, []⟩, ⟨some 67, .move (.tmp 6), some (some 66, true), []⟩, ⟨some 68, .un .not (.tmp 67), some (some 66, true), []⟩, ⟨some 69, .pick (.tmp 66) (.tmp 68) (.lit (.bool false)), none, []⟩, ⟨some 70, .move (.tmp 69), none, []⟩, ⟨some 71, .move (.tmp 8), some (some 70, true), []⟩, ⟨some 72, .bin .eql .none (.tmp 71) (.lit (.int .i64 0)), some (some 70, true), []⟩, ⟨some 73, .pick (.tmp 70) (.tmp 72) (.lit (.bool false)), none, []⟩, ⟨some 74, .move (.tmp 73), none, []⟩, ⟨some 75, .move (.tmp 7), some (some 74, true), []⟩, ⟨some 76, .call (.lit (.func 24 [])) [.tmp 75, .lit (.int .i64 0)], some (some 74, true), []⟩, ⟨some 77, .un .not (.tmp 76), some (some 74, true), []⟩, ⟨some 78, .pick (.tmp 74) (.tmp 77) (.lit (.bool false)), none, []⟩, ⟨some 79, .move (.tmp 78), none, []⟩, ⟨some 80, .load (some 4) (.tmp 1), some (some 79, true), []⟩, ⟨some 81, .build [.int .i64 0, .bool false] [(0, 1, .lit (.int .i64 2))], some (some 79, true), []⟩, ⟨some 82, .bslice 2 [.tmp 81] false, some (some 79, true), []⟩, ⟨some 83, .bslice 1 [.tmp 82] false, some (some 79, true), []⟩, ⟨some 84, .call (.lit (.func 11 [])) [.tmp 80, .tmp 83], some (some 79, true), []⟩, ⟨some 85, .bin .eql .none (.tmp 84) (.lit (.int .i64 70)), some (some 79, true), []⟩, ⟨some 86, .pick (.tmp 79) (.tmp 85) (.lit (.bool false)), none, []⟩, ⟨some 0, .move (.tmp 86), none, []⟩]) .ret)))))
set_option maxRecDepth 20000 in
set_option maxHeartbeats 1000000 in
theorem awake_spec (σ : Store) : ACalls Tryz.prog 6 [] σ (isR (.bool true) σ) := by
  refine ACalls.intro (rs := [(.tmp 0)]) (by kernel_rfl) { own := [], ghosts := [] } Tryz.func6 (c := Tryz.f6.body.getD .skip) (by kernel_rfl) (by decide) (by rw [show Tryz.f6.ntmps = 87 by kernel_rfl]; exact Nat.le_of_ble_eq_true rfl) (by kernel_rfl) ?_
  intro hσ hids
  rw [show comp Tryz.prog { own := [], ghosts := [] } (Tryz.f6.body.getD .skip) = c_awake by kernel_rfl, show Tryz.f6.ntmps = 87 by kernel_rfl]
  unfold c_awake
  simp only [go_sem, Int.reduceToNat, Int.reduceLE, Int.reduceLT, Nat.reduceBEq, Nat.reduceLT, Nat.reduceAdd, Nat.reduceLeDiff]
  have e1 := Regress_spec t0 0 [[⟨1, false⟩]] .unk
  rw [t0_reg] at e1
  refine ACalls.is (ACalls.wk (e1 _ t0_TB (FB_small (by decide))) ?_) ?_
  · repeat (first | exact Wk.refl _ | exact WkL.nil | exact WkLL.nil | exact WkL.refl _ | refine Wk.agg ?_ | refine Wk.sl _ ?_ | refine WkL.cons ?_ ?_ | refine WkLL.cons ?_ ?_)
  simp only [go_sem, Int.reduceToNat, Int.reduceLE, Int.reduceLT, Nat.reduceBEq, Nat.reduceLT, Nat.reduceAdd, Nat.reduceLeDiff]
  have e2 := Weakest_spec t0 0 [] .nil
  rw [t0_weak] at e2
  refine ACalls.is (ACalls.wk (e2 _ t0_TB (FB_small (by decide))) ?_) ?_
  · repeat (first | exact Wk.refl _ | exact WkL.nil | exact WkLL.nil | exact WkL.refl _ | refine Wk.agg ?_ | refine Wk.sl _ ?_ | refine WkL.cons ?_ ?_ | refine WkLL.cons ?_ ?_)
  simp only [go_sem, Int.reduceToNat, Int.reduceLE, Int.reduceLT, Nat.reduceBEq, Nat.reduceLT, Nat.reduceAdd, Nat.reduceLeDiff]
  refine ACalls.mono (ACalls.wk (Implies_spec t0 [[]] [[⟨0, false⟩]] .unk .unk _ t0_TB (FB_small (by decide)) (FB_small (by decide)) (by decide)) ?_) ?_
  · repeat (first | exact Wk.refl _ | exact WkL.nil | exact WkLL.nil | exact WkL.refl _ | refine Wk.agg ?_ | refine Wk.sl _ ?_ | refine WkL.cons ?_ ?_ | refine WkLL.cons ?_ ?_)
  rintro _ _ ⟨rfl, ⟨h1, _⟩ | ⟨_, ⟨_, hno⟩ | ⟨s, hs1, hs2, rfl, hs3, hs4⟩⟩⟩
  · exact absurd t0_fine h1
  · obtain ⟨t, ht, e⟩ := hno [] (by simp) (fun _ => false) rfl
    simp at ht; subst ht
    exact absurd e (by decide)
  · have hc : s.contains 0 = false := by
      have := List.any_eq_false.1 hs4 [⟨0, false⟩] (by simp)
      simpa [condHolds] using this
    have hsl : s.length ≤ 2 := hs2
    simp only [go_sem, Int.reduceToNat, Int.reduceLE, Int.reduceLT, Nat.reduceBEq, Nat.reduceLT, Nat.reduceAdd, Nat.reduceLeDiff]
    refine ACalls.is (ACalls.wk (same07_spec [[⟨0, false⟩]] [[⟨0, false⟩]] .unk .unk _ (FB_small (by decide)) (FB_small (by decide))) ?_) ?_
    · repeat (first | exact Wk.refl _ | exact WkL.nil | exact WkLL.nil | exact WkL.refl _ | refine Wk.agg ?_ | refine Wk.sl _ ?_ | refine WkL.cons ?_ ?_ | refine WkLL.cons ?_ ?_)
    simp only [go_sem, Int.reduceToNat, Int.reduceLE, Int.reduceLT, Nat.reduceBEq, Nat.reduceLT, Nat.reduceAdd, Nat.reduceLeDiff]
    refine ACalls.is (ACalls.wk (same07_spec [[⟨0, true⟩]] [[⟨0, true⟩]] .unk .unk _ (FB_small (by decide)) (FB_small (by decide))) ?_) ?_
    · repeat (first | exact Wk.refl _ | exact WkL.nil | exact WkLL.nil | exact WkL.refl _ | refine Wk.agg ?_ | refine Wk.sl _ ?_ | refine WkL.cons ?_ ?_ | refine WkLL.cons ?_ ?_)
    simp only [go_sem, Int.reduceToNat, Int.reduceLE, Int.reduceLT, Nat.reduceBEq, Nat.reduceLT, Nat.reduceAdd, Nat.reduceLeDiff]
    refine (has_spec s 0 .unk _ (by omega)).is ?_
    rw [hc]
    simp only [go_sem, Int.reduceToNat, Int.reduceLE, Int.reduceLT, Nat.reduceBEq, Nat.reduceLT, Nat.reduceAdd, Nat.reduceLeDiff]
    have e3 := check07_spec t0 [[⟨2, false⟩]] .unk
    rw [t0_check] at e3
    refine ACalls.is (ACalls.wk (e3 _ t0_TB (by decide) (by decide)) ?_) ?_
    · repeat (first | exact Wk.refl _ | exact WkL.nil | exact WkLL.nil | exact WkL.refl _ | refine Wk.agg ?_ | refine Wk.sl _ ?_ | refine WkL.cons ?_ ?_ | refine WkLL.cons ?_ ?_)
    simp only [go_sem, Int.reduceToNat, Int.reduceLE, Int.reduceLT, Nat.reduceBEq, Nat.reduceLT, Nat.reduceAdd, Nat.reduceLeDiff]
    first | exact rtk (.bool true) ⟨rfl, rfl⟩ | exact rtk0 (.bool true) ⟨rfl, rfl⟩
end Go.Proofs.YtbnhijapbnfohaaGreat
namespace Go.Proofs.YtbnhijapbnfohaaGreat
open Go.Ahl
def ab (b : Bool) : AV := .bool b
def genB (n : Nat) (p : Nat → Bool) : List Bool := (List.range n).map p
theorem genB_len (n : Nat) (p : Nat → Bool) : (genB n p).length = n := by simp [genB]
theorem genB_get {n : Nat} {p : Nat → Bool} {k : Nat} (h : k < n) : (genB n p)[k]? = some (p k) := by
  rw [genB, List.getElem?_map, List.getElem?_range h]; rfl
/-- The places that are true, counted from k. -/
def listB : Nat → List Bool → List Int
  | _, [] => []
  | k, b :: r => if b then (k : Int) :: listB (k + 1) r else listB (k + 1) r
/-- Does an effect of this sign on fact i happen? -/
def hits (s : List Int) (neg : Bool) (es : List FEff) (i : Nat) : Bool := es.any fun e => (e.lit.neg == neg) && ((e.lit.fact == (i : Int)) && condHolds s e.when_)
/-- The bits after an action. -/
def afterB (n : Nat) (s : List Int) (a : FAct) : List Bool := genB n fun i => hits s false a.effects i || (s.contains (i : Int) && !hits s true a.effects i)
def afterL (n : Nat) (s : List Int) (a : FAct) : List Int := listB 0 (afterB n s a)
end Go.Proofs.YtbnhijapbnfohaaGreat
namespace Go.Proofs.YtbnhijapbnfohaaGreat
open Go.Ahl
/-! ### What the operations mean -/
def formT (a : Int → Bool) (f : List (List FLit)) : Bool := f.any (termT a)
theorem formHolds_T (s : List Int) (f : List (List FLit)) : formHolds s f = formT (fun i => s.contains i) f := rfl
theorem termT_cons (a : Int → Bool) (x : FLit) (l : List FLit) : termT a (x :: l) = (litT a x && termT a l) := rfl
theorem formT_cons (a : Int → Bool) (x : List FLit) (l : List (List FLit)) : formT a (x :: l) = (termT a x || formT a l) := rfl
theorem formT_app (a : Int → Bool) (f g : List (List FLit)) : formT a (f ++ g) = (formT a f || formT a g) := by simp [formT]
theorem litT_flip (a : Int → Bool) (x : FLit) : litT a ⟨x.fact, !x.neg⟩ = !litT a x := by unfold litT; cases x.neg <;> cases a x.fact <;> rfl
theorem mergeF_T (a : Int → Bool) : ∀ (k : Nat) (l m : List FLit), l.length + m.length ≤ k → ((mergeF k l m).map (termT a)).getD false = (termT a l && termT a m)
  | 0, [], [], _ => rfl
  | 0, _ :: _, _, h => by simp at h
  | 0, [], _ :: _, h => by simp at h
  | k + 1, [], [], _ => rfl
  | k + 1, x :: l, [], h => by
    have ih := mergeF_T a k l [] (by simp at h ⊢; omega)
    rw [mergeF, termT_cons]
    cases hc : mergeF k l [] with
    | none => rw [hc] at ih; rw [Bool.and_assoc, ← ih]; simp
    | some c => rw [hc] at ih; rw [Bool.and_assoc, ← ih]; rfl
  | k + 1, [], y :: m, h => by
    have ih := mergeF_T a k [] m (by simp at h ⊢; omega)
    rw [mergeF, termT_cons]
    cases hc : mergeF k [] m with
    | none => rw [hc] at ih; rw [← Bool.and_assoc, Bool.and_comm (termT a []), Bool.and_assoc, ← ih]; simp
    | some c => rw [hc] at ih; rw [← Bool.and_assoc, Bool.and_comm (termT a []), Bool.and_assoc, ← ih]; rfl
  | k + 1, x :: l, y :: m, h => by
    simp only [List.length_cons] at h
    rw [mergeF]
    split
    · have ih := mergeF_T a k l (y :: m) (by simp only [List.length_cons]; omega)
      rw [termT_cons (l := l), Bool.and_assoc, ← ih]
      cases hc : mergeF k l (y :: m) with
      | none => simp
      | some c => simp [termT_cons]
    split
    · have ih := mergeF_T a k (x :: l) m (by simp only [List.length_cons]; omega)
      rw [termT_cons (l := m), ← Bool.and_assoc, Bool.and_comm (termT a (x :: l)), Bool.and_assoc, ← ih]
      cases hc : mergeF k (x :: l) m with
      | none => simp
      | some c => simp [termT_cons]
    rename_i h1 h2
    have hf : x.fact = y.fact := by omega
    split
    · rename_i h3
      have hxy : x = y := by cases x; cases y; simp_all
      subst hxy
      have ih := mergeF_T a k l m (by omega)
      rw [termT_cons, termT_cons]
      have e : (litT a x && termT a l && (litT a x && termT a m)) = (litT a x && (termT a l && termT a m)) := by cases litT a x <;> simp
      rw [e, ← ih]
      cases hc : mergeF k l m with
      | none => simp
      | some c => simp [termT_cons]
    · rename_i h3
      rw [termT_cons, termT_cons]
      have e : (litT a x && litT a y) = false := by
        unfold litT; rw [hf]
        cases h4 : x.neg <;> cases h5 : y.neg <;> rw [h4, h5] at h3 <;> simp at h3 ⊢
      have e2 : (litT a x && termT a l && (litT a y && termT a m)) = ((litT a x && litT a y) && (termT a l && termT a m)) := by
        cases litT a x <;> cases litT a y <;> simp
      rw [e2, e]; rfl
theorem bothL_T (a : Int → Bool) (l m : List FLit) : ((bothL l m).map (termT a)).getD false = (termT a l && termT a m) := mergeF_T a _ l m (Nat.le_refl _)
theorem within_T {a : Int → Bool} {l m : List FLit} (h : withinB l m = true) (k : termT a m = true) : termT a l = true :=
  List.all_eq_true.2 fun x hx => List.all_eq_true.1 k x (withinB_iff.1 h x hx)
theorem redLoop_T (a : Int → Bool) : ∀ (l out : List (List FLit)), formT a (redLoop out l) = (formT a out || formT a l)
  | [], out => by simp [redLoop, formT]
  | x :: l, out => by
    rw [redLoop, formT_cons]
    split
    · rename_i h
      rw [redLoop_T a l out]
      obtain ⟨y, hy, hw⟩ := List.any_eq_true.1 h
      cases hx : termT a x
      · simp
      · have : formT a out = true := List.any_eq_true.2 ⟨y, hy, within_T hw hx⟩
        rw [this]; simp
    · rw [redLoop_T a l (out ++ [x]), formT_app, formT_cons]; simp [formT, Bool.or_assoc]
theorem reducedL_T (a : Int → Bool) (f : List (List FLit)) : formT a (reducedL f) = formT a f := by
  rw [reducedL, redLoop_T]
  have : formT a (sortO f) = formT a f := (sortO_perm f).any_eq
  rw [this]; simp [formT]
theorem filterMap_T (a : Int → Bool) (l : List FLit) : ∀ g : List (List FLit), formT a (g.filterMap fun b => bothL l b) = (termT a l && formT a g)
  | [] => by simp [formT]
  | m :: g => by
    have h := bothL_T a l m
    rw [List.filterMap_cons]
    cases hc : bothL l m with
    | none => rw [hc] at h; simp at h; simp only []; rw [filterMap_T a l g, formT_cons]; cases h1 : termT a l <;> simp_all
    | some c => rw [hc] at h; simp at h; simp only []; rw [formT_cons, filterMap_T a l g, formT_cons, h, Bool.and_or_distrib_left]
theorem prodL_T (a : Int → Bool) : ∀ f g : List (List FLit), formT a (prodL f g) = (formT a f && formT a g)
  | [], g => by simp [prodL, formT]
  | l :: f, g => by rw [prodL_cons, formT_app, filterMap_T, prodL_T a f g, formT_cons, Bool.and_or_distrib_right]
theorem bothF_red {f g h : List (List FLit)} (e : bothF f g = some h) : h = reducedL (prodL (bigL f g).1 (bigL f g).2) := by
  unfold bothF at e; split at e
  · simp at e
  · injection e with e; exact e.symm
theorem bothF_T (a : Int → Bool) {f g h : List (List FLit)} (e : bothF f g = some h) : formT a h = (formT a f && formT a g) := by
  rw [bothF_red e, reducedL_T, prodL_T]
  unfold bigL; split
  · rw [reducedL_T, reducedL_T]
  · rfl
theorem negL_T (a : Int → Bool) : ∀ l : List FLit, formT a (negL l) = !termT a l
  | [] => rfl
  | x :: l => by
    have : negL (x :: l) = [⟨x.fact, !x.neg⟩] :: negL l := rfl
    rw [this, formT_cons, negL_T a l, termT_cons, termT_cons, litT_flip]
    simp [termT]
theorem negFrom_T (a : Int → Bool) : ∀ (f out h : List (List FLit)), negFrom out f = some h → formT a h = (formT a out && !formT a f)
  | [], out, h, e => by simp [negFrom] at e; subst e; simp [formT]
  | l :: f, out, h, e => by
    rw [negFrom] at e
    cases h1 : bothF out (negL l) with
    | none => rw [h1] at e; simp at e
    | some o =>
      rw [h1] at e; simp only at e
      split at e
      · rw [negFrom_T a f o h e, bothF_T a h1, negL_T, formT_cons, Bool.not_or, Bool.and_assoc]
      · simp at e
theorem negF_T (a : Int → Bool) {f h : List (List FLit)} (e : negF f = some h) : formT a h = !formT a f := by
  rw [negFrom_T a f [[]] h e]; simp [formT, termT]
/-- The assignment after an action. -/
def afterA (a : Int → Bool) (c : FAct) (i : Int) : Bool := formT a (whenL ⟨i, false⟩ false c.effects) || (a i && !formT a (whenL ⟨i, false⟩ true c.effects))
theorem one_T (a : Int → Bool) (x : FLit) : formT a [[x]] = litT a x := by simp [formT, termT]
theorem beforeF_T (a : Int → Bool) {c : FAct} {x : FLit} {h : List (List FLit)} (e : beforeF c x = some h) : formT a h = litT (afterA a c) x := by
  have hl : litT (afterA a c) x = ((formT a (whenL x false c.effects) || (a x.fact && !formT a (whenL x true c.effects))) != x.neg) := rfl
  rw [hl]
  have ho : litT a x = (a x.fact != x.neg) := rfl
  unfold beforeF at e
  split at e
  · rename_i hn
    rw [hn] at ho ⊢
    cases h1 : negF (whenL x false c.effects) with
    | none => rw [h1] at e; simp at e
    | some kept =>
      rw [h1] at e; simp only at e
      cases h2 : bothF kept (reducedL (whenL x true c.effects ++ [[x]])) with
      | none => rw [h2] at e; simp at e
      | some k =>
        rw [h2] at e; simp only at e
        split at e
        · injection e with e; subst e
          rw [bothF_T a h2, negF_T a h1, reducedL_T, formT_app, one_T, ho]
          cases formT a (whenL x false c.effects) <;> cases formT a (whenL x true c.effects) <;> cases a x.fact <;> rfl
        · simp at e
  · rename_i hn
    have hn : x.neg = false := by simpa using hn
    rw [hn] at ho ⊢
    cases h1 : negF (whenL x true c.effects) with
    | none => rw [h1] at e; simp at e
    | some kept =>
      rw [h1] at e; simp only at e
      cases h2 : bothF kept [[x]] with
      | none => rw [h2] at e; simp at e
      | some k =>
        rw [h2] at e; simp only at e
        split at e
        · injection e with e; subst e
          rw [reducedL_T, formT_app, bothF_T a h2, negF_T a h1, one_T, ho]
          cases formT a (whenL x false c.effects) <;> cases formT a (whenL x true c.effects) <;> cases a x.fact <;> rfl
        · simp at e
theorem backTerm_T (a : Int → Bool) {c : FAct} : ∀ (l : List FLit) (g h : List (List FLit)), backTerm c g l = some h → formT a h = (formT a g && termT (afterA a c) l)
  | [], g, h, e => by simp [backTerm] at e; subst e; simp [termT]
  | x :: l, g, h, e => by
    rw [backTerm] at e
    cases h1 : beforeF c x with
    | none => rw [h1] at e; simp at e
    | some b =>
      rw [h1] at e; simp only at e
      cases h2 : bothF g b with
      | none => rw [h2] at e; simp at e
      | some k =>
        rw [h2] at e; simp only at e
        split at e
        · rw [backTerm_T a l k h e, bothF_T a h2, beforeF_T a h1, termT_cons, Bool.and_assoc]
        · simp at e
theorem backFrom_T (a : Int → Bool) {c : FAct} : ∀ (f out h : List (List FLit)), backFrom c out f = some h → formT a h = (formT a out || (termT a c.pre && formT (afterA a c) f))
  | [], out, h, e => by
    rw [backFrom] at e
    split at e
    · injection e with e; subst e; rw [reducedL_T]; simp [formT]
    · simp at e
  | l :: f, out, h, e => by
    rw [backFrom] at e
    cases h1 : backTerm c [c.pre] l with
    | none => rw [h1] at e; simp at e
    | some g =>
      rw [h1] at e; simp only at e
      split at e
      · simp at e
      · have h2 := backTerm_T a l _ _ h1
        have h3 : formT a [c.pre] = termT a c.pre := by simp [formT]
        rw [backFrom_T a f _ h e, formT_app, h2, h3, formT_cons, Bool.and_or_distrib_left, Bool.or_assoc]
theorem backF_T (a : Int → Bool) {c : FAct} {f h : List (List FLit)} (e : backF c f = some h) : formT a h = (termT a c.pre && formT (afterA a c) f) := by
  rw [backFrom_T a f [] h e]; simp [formT]
theorem aheadF_T (a : Int → Bool) {n : Int} (hn : n ≤ 400) {c : FAct} (hc : AV_ n c) {f h : List (List FLit)} (e : aheadF c f = some h) : formT a h = (!termT a c.pre || (termT a c.pre && formT (afterA a c) f)) := by
  unfold aheadF at e
  cases h1 : backF c f with
  | none => rw [h1] at e; simp at e
  | some g =>
    rw [h1] at e; simp only at e
    split at e
    · injection e with e; subst e
      obtain ⟨k, hk⟩ := neg_one hn hc.pre
      rw [hk, Option.getD_some, reducedL_T, formT_app, negF_T a hk, backF_T a h1]
      simp [formT]
    · simp at e
/-! ### Reduced form -/
theorem reducedL_idem {n : Int} {f : List (List FLit)} (hf : vF n f) : reducedL (reducedL f) = reducedL f :=
  strict_unique (reducedL_strict _) (reducedL_strict _) fun x => by
    rw [reducedL_minimal (reducedL_V hf)]
    constructor
    · exact fun h => h.1
    · intro h
      exact ⟨h, fun m hm hw => ((reducedL_minimal hf x).1 h).2 m (reducedL_mem hm) hw⟩
/-- A formula of n facts in reduced form. -/
def RedF (n : Int) (h : List (List FLit)) : Prop := ∃ k, vF n k ∧ h = reducedL k
theorem RedF.V {n : Int} {h : List (List FLit)} (r : RedF n h) : vF n h := by obtain ⟨k, hk, rfl⟩ := r; exact reducedL_V hk
theorem RedF.good {n : Int} {h : List (List FLit)} (r : RedF n h) (hl : h.length ≤ 400) : goodB n h = true := by
  have hv := r.V
  obtain ⟨k, hk, rfl⟩ := r
  rw [goodB, isForm, refRed_eq hv, reducedL_idem hk]
  have : formB n (reducedL k) = true := List.all_eq_true.2 fun l hl => hv l hl
  rw [this]; simp [hl]
theorem aheadF_R {n : Int} (hn : n ≤ 400) {c : FAct} (hc : AV_ n c) {f h : List (List FLit)} (e : aheadF c f = some h) (hf : vF n f) : RedF n h ∧ h.length ≤ 400 := by
  unfold aheadF at e
  cases h1 : backF c f with
  | none => rw [h1] at e; simp at e
  | some g =>
    rw [h1] at e; simp only at e
    split at e
    · injection e with e; subst e
      obtain ⟨k, hk⟩ := neg_one hn hc.pre
      refine ⟨⟨_, ?_, rfl⟩, ‹_›⟩
      rw [hk]
      exact append_V (negF_V (one_V hc.pre) hk) (backF_V hc hf h1).1
    · simp at e
end Go.Proofs.YtbnhijapbnfohaaGreat
namespace Go.Proofs.YtbnhijapbnfohaaGreat
open Go.Ahl
/-! ### Of four facts there are 81 conditions -/
/-! ### The state after an action -/
theorem listB_mem : ∀ (w : List Bool) (k : Nat) (x : Int), x ∈ listB k w ↔ ∃ j : Nat, x = ((k + j : Nat) : Int) ∧ w[j]? = some true
  | [], k, x => by simp [listB]
  | b :: w, k, x => by
    have ih := listB_mem w (k + 1) x
    have key : x ∈ listB (k + 1) w ↔ ∃ j : Nat, x = ((k + (j + 1) : Nat) : Int) ∧ (b :: w)[j + 1]? = some true := by
      rw [ih]
      constructor
      · rintro ⟨j, h1, h2⟩; exact ⟨j, by rw [h1]; omega, by simpa using h2⟩
      · rintro ⟨j, h1, h2⟩; exact ⟨j, by rw [h1]; omega, by simpa using h2⟩
    rw [listB]
    split
    · rename_i hb
      rw [List.mem_cons, key]
      constructor
      · rintro (rfl | ⟨j, h1, h2⟩)
        · exact ⟨0, by simp, by simp [hb]⟩
        · exact ⟨j + 1, h1, h2⟩
      · rintro ⟨j, h1, h2⟩
        cases j with
        | zero => left; simpa using h1
        | succ j => right; exact ⟨j, h1, h2⟩
    · rename_i hb
      rw [key]
      constructor
      · rintro ⟨j, h1, h2⟩; exact ⟨j + 1, h1, h2⟩
      · rintro ⟨j, h1, h2⟩
        cases j with
        | zero => simp at h2; exact absurd h2 hb
        | succ j => exact ⟨j, h1, h2⟩
theorem listB_rising (n : Int) : ∀ (w : List Bool) (k : Nat) (p : Int), p < k → (k : Int) + w.length ≤ n → risingB n p (listB k w) = true
  | [], k, p, h, hn => rfl
  | b :: w, k, p, h, hn => by
    rw [List.length_cons] at hn
    rw [listB]
    split
    · rw [risingB, Bool.and_eq_true, Bool.and_eq_true]
      exact ⟨⟨by simpa using h, by simp; omega⟩, listB_rising n w (k + 1) k (by omega) (by omega)⟩
    · exact listB_rising n w (k + 1) p (by omega) (by omega)
theorem hits_T (s : List Int) (neg : Bool) (es : List FEff) (i : Nat) : hits s neg es i = formT (fun i => s.contains i) (whenL ⟨(i : Int), false⟩ neg es) := by
  unfold hits formT whenL
  rw [List.any_map, List.any_filter]
  congr 1
  funext e
  simp only [Function.comp]
  have : condHolds s e.when_ = termT (fun i => s.contains i) e.when_ := rfl
  rw [this]
  cases (e.lit.neg == neg) <;> cases (e.lit.fact == (i : Int)) <;> simp
theorem afterL_contains {n : Nat} (s : List Int) (c : FAct) {i : Int} (h0 : 0 ≤ i) (h1 : i < n) : (afterL n s c).contains i = afterA (fun i => s.contains i) c i := by
  obtain ⟨k, rfl⟩ : ∃ k : Nat, i = (k : Int) := ⟨i.toNat, by omega⟩
  rw [List.contains_eq_mem]
  have hk : k < n := by omega
  have hg : (afterB n s c)[k]? = some (afterA (fun i => s.contains i) c (k : Int)) := by
    rw [afterB, genB_get hk, hits_T, hits_T]; rfl
  have : ((k : Int) ∈ afterL n s c) ↔ afterA (fun i => s.contains i) c (k : Int) = true := by
    rw [afterL, listB_mem]
    constructor
    · rintro ⟨j, h1, h2⟩
      have : j = k := by omega
      subst this
      rw [hg] at h2; injection h2
    · intro h
      exact ⟨k, by simp, by rw [hg, h]⟩
  cases hq : afterA (fun i => s.contains i) c (k : Int)
  · exact decide_eq_false (fun h => by have := this.1 h; rw [hq] at this; exact absurd this (by simp))
  · exact decide_eq_true (this.2 hq)
theorem afterL_T {n : Nat} (s : List Int) (c : FAct) {f : List (List FLit)} (hf : vF n f) : formHolds (afterL n s c) f = formT (afterA (fun i => s.contains i) c) f := by
  rw [formHolds_T]
  induction f with
  | nil => rfl
  | cons l f ih =>
    rw [formT_cons, formT_cons, ih (fun m hm => hf m (List.mem_cons_of_mem _ hm))]
    congr 1
    have hl := (cond_apart (hf l List.mem_cons_self)).1
    clear ih hf
    induction l with
    | nil => rfl
    | cons x l ih =>
      rw [termT_cons, termT_cons, ih (fun y hy => hl y (List.mem_cons_of_mem _ hy))]
      congr 1
      have hx := hl x List.mem_cons_self
      unfold litT
      show ((afterL n s c).contains x.fact != x.neg) = _
      rw [afterL_contains s c (by omega) hx.2]
end Go.Proofs.YtbnhijapbnfohaaGreat
namespace Go.Proofs.YtbnhijapbnfohaaGreat
open Go.Ahl
theorem fineE_fault (t : FTask) : ∀ fs : List (List (List FLit)), fs ≠ [] → fineE t fs = if validB t then (if fs.all (isForm t.facts.length) then 0 else 70) else 10
  | [], h => absurd rfl h
  | [f], _ => by
    rw [fineE]; unfold checkE
    cases h1 : validB t <;> cases h2 : isForm t.facts.length f <;> simp [h2, fineE]
  | f :: g :: r, _ => by
    rw [fineE, fineE_fault t (g :: r) (by simp), List.all_cons (a := f)]; unfold checkE
    cases h1 : validB t <;> cases h2 : isForm t.facts.length f <;> simp [h2]
theorem fewB_size {t : FTask} {fs : List (List (List FLit))} (h : fewB t fs = true) : taskSize t ≤ 400 ∧ (fs.map formSize).sum ≤ 2400 := by
  rw [fewB, fewT, Bool.and_eq_true, Bool.and_eq_true, decide_eq_true_eq, decide_eq_true_eq] at h
  exact ⟨h.1.1, h.2⟩
/-! ### What a call that makes a formula comes back with -/
def outF (o : Option (List (List FLit))) : List (List FLit) := o.getD []
theorem vF_size {n : Int} (hn : n ≤ 1000000) {h : List (List FLit)} (hv : vF n h) (hl : h.length ≤ 400) : FB h ∧ FB (refRed h) ∧ h.length ≤ 1073741824 ∧ ∀ l ∈ h, l.length ≤ 1073741824 := by
  have h1 : ∀ l, cV n l → l.length ≤ 1000000 := fun l hl => by rcases condB_len hl with h | h; simp [h]; omega
  refine ⟨⟨by omega, fun l hl => by have := h1 l (hv l hl); omega⟩, ?_, by omega, fun l hl => by have := h1 l (hv l hl); omega⟩
  rw [refRed_eq hv]
  exact ⟨by have := reducedL_len h; omega, fun l hl => by have := h1 l (reducedL_V hv l hl); omega⟩
/-- A formula that was returned is as it should be, or there is none and that is permitted. -/
structure OutOk (n : Int) (o : Option (List (List FLit))) (large : Bool) : Prop where
  red : ∀ h, o = some h → RedF n h ∧ h.length ≤ 400
  none_ : o = none → large = true
theorem OutOk.size {n : Int} {o : Option (List (List FLit))} {large : Bool} (h : OutOk n o large) (hn : n ≤ 1000000) : FB (outF o) ∧ FB (refRed (outF o)) ∧ (outF o).length ≤ 1073741824 ∧ ∀ l ∈ outF o, l.length ≤ 1073741824 := by
  cases o with
  | none => exact vF_size hn (h := []) (by intro l hl; simp at hl) (by simp)
  | some k => exact vF_size hn (h.red k rfl).1.V (h.red k rfl).2
end Go.Proofs.YtbnhijapbnfohaaGreat
/- The abstract layer, part 26: the library's sorting of integers, told of rows of one's own. -/
namespace Go.Ahl
open Go.Sort Go.Shelf Go.RowKit Go.Lib Go.Proofs
/-- Integers in order. -/
def sortI (l : List Int) : List Int := l.mergeSort fun x y => decide (x ≤ y)
theorem sortI_len (l : List Int) : (sortI l).length = l.length := List.length_mergeSort l
theorem sortI_perm (l : List Int) : (sortI l).Perm l := List.mergeSort_perm l _
theorem sortI_sorted (l : List Int) : (sortI l).Pairwise (· ≤ ·) := by
  have := List.pairwise_mergeSort (le := fun x y : Int => decide (x ≤ y)) (fun a b c h k => by simp at h k ⊢; omega) (fun a b => by simp; omega) l
  exact this.imp (fun h => by simpa using h)
theorem sortI_eq {l k : List Int} (hp : k.Perm l) (hk : k.Pairwise (· ≤ ·)) : sortI l = k := by
  exact List.Perm.eq_of_pairwise (le := fun a b : Int => a ≤ b) (fun a b _ _ h1 h2 => by omega) (sortI_sorted l) hk ((sortI_perm l).trans hp.symm)
theorem rel_int_eq {m : Mem} {loc : List Loc} {n : Int} {v : Value} (h : Rel m loc (ai n) v) : v = .int .i64 n := by
  unfold ai at h; cases h; rfl
variable {P : Program} {ρ : Ren}
/-- slices.Sort of integers. -/
theorem sortInts (L : SlLaysN.n53 P ρ) {fn : Func} (hf : P.funcs[ρ.f 53]? = some fn) (hfb : fn.body.isSome = true) (hfn : fn.name ≠ "runtime.NumGoroutine")
    (id : Nat) (l : List Int) (σ : Store) (hσ : σ[id]? = some (.row (l.map ai))) (hlen : l.length < 4611686018427387904) :
    ACalls P (ρ.f 53) [.ref id 1 0 l.length] σ fun r σ' => r = .tuple [] ∧ σ' = σ.set id (.row ((sortI l).map ai)) := by
  intro m loc w vs hs ha
  refine .inl ⟨fn, hf, hfb, hfn, ?_⟩
  obtain ⟨v, rfl, h1⟩ : ∃ v, vs = #[v] ∧ Rel m loc (.ref id 1 0 l.length) v := by
    obtain ⟨h1, h2⟩ := ha
    have h1 : vs.size = 1 := h1
    refine ⟨vs[0], ?_, h2 0 _ _ rfl (Array.getElem?_eq_getElem _)⟩
    apply Array.ext (by simp [h1])
    intro i hi _
    have : i = 0 := by omega
    subst this; rfl
  have hid := lt_of_get hσ
  by_cases hl0 : l.length = 0
  · have hlnil : l = [] := List.length_eq_zero_iff.1 hl0
    subst hlnil
    have key : ∀ a c, v = .slice a 0 c → Calls P (ρ.f 53) #[v] w fun e w' => ∃ v', e = .returned v' ∧ ARet loc m w (fun r σ' => r = .tuple [] ∧ σ' = σ.set id (.row ((sortI []).map ai))) v' w' := by
      rintro a c rfl
      refine (AnyG.slices_Sort_int_none L a c w).mono ?_
      rintro e w' ⟨rfl, rfl⟩
      refine ⟨_, rfl, .tuple [], σ, m, loc, ⟨rfl, ?_⟩, .tuple [] #[] rfl (by simp), hs, .refl _ _ _ _⟩
      rw [← set_same hσ]; simp [sortI]
    rcases rel_ref h1 with ⟨cap, b, n, q0, _⟩ | ⟨_, a, q0⟩
    · exact key _ _ q0
    · exact key _ _ q0
  · rcases rel_ref h1 with ⟨cap, blk, n, q0, q1, q2, q3, q4⟩ | ⟨q0, _⟩
    rotate_left
    · exact absurd q0 hl0
    · subst q0
      obtain ⟨arr, t, e1, e2, e3, e4, e5⟩ := hs.obj id _ _ q1 hσ
      have e3 : l.length ≤ arr.size := by simpa using e3
      have hH : Holds (Value.int .i64) w blk 0 l.toArray := by
        intro j hj
        have hj : j < l.length := by simpa using hj
        have hr := e4 j (ai l[j]) (arr[j]'(by omega)) (by rw [List.getElem?_map, List.getElem?_eq_getElem hj]; rfl) (Array.getElem?_eq_getElem _)
        have hv : arr[j]'(by omega) = .int .i64 l[j] := by
          exact rel_int_eq hr
        rw [getElem!_pos l.toArray j (by simpa using hj), Nat.zero_add]
        refine ⟨?_, by simp [World.frozen?, e1]⟩
        simp only [World.cell?, e1, Option.isSome_none, Bool.false_eq_true, if_false]
        rw [Array.getElem?_eq_getElem (by omega), hv]; simp
      have hblk : blk < w.heap.size := hs.lt blk ⟨id, .inl q1⟩
      refine (AnyG.slices_Sort_int L blk 0 cap l w hH hblk hlen).mono ?_
      rintro e w' ⟨rfl, n', os, rfl⟩
      have hset : loc.set id (.blk blk) = loc := set_same q1
      have hs1 : (sortI l).toArray.size = l.length := by simp [sortI_len]
      have key := hs.turn loc.length (m' := m) (w' := sortWorld (Value.int .i64) w blk 0 n' (sortI l).toArray os) (l' := .blk blk) (.row ((sortI l).map ai)) q1 hσ (.refl m) (.refl _)
        (fun k hk hne => sortWorld_other (Value.int .i64) w blk 0 n' _ os hk (fun q => hne (by subst q; rfl))) (by rw [size_sortWorld]; omega) (fun _ _ _ _ => rfl) ?_ ?_ ?_ (fun b q => .inl q) ?_ rfl rfl rfl (by simp [sortWorld, grow, putRow, mapBlock, Sort.ahead])
      · rw [hset] at key
        exact ⟨_, rfl, .tuple [], _, m, loc, ⟨rfl, rfl⟩, .tuple [] #[] rfl (by simp), key.1, key.2⟩
      · intro k o v hk e'
        rcases hk with hk | hk
        · simp [own] at hk; subst hk; rw [e5] at e'; simp at e'
        · have := hs.im_lt e'; omega
      · intro k z hz
        by_cases hk : k = blk
        · subst hk
          refine .inr ⟨_, t, _, sortWorld_own (Value.int .i64) w k 0 n' _ os e1, ?_⟩
          rw [size_putCells]
          rw [e2] at hz; injection hz
        · exact .inl ⟨hz, by simp [own]; exact fun q => hk q.symm⟩
      · rintro b ⟨_, _, _, e, _⟩; simp at e
      · refine ⟨_, t, sortWorld_own (Value.int .i64) w blk 0 n' _ os e1, by rw [size_putCells]; exact e2, by rw [size_putCells, List.length_map, sortI_len]; exact e3, ?_, e5⟩
        rw [hset]
        intro j x v hj hv'
        have hjl : j < (sortI l).length := by have := lt_of_get hj; simpa using this
        have hx : x = ai ((sortI l)[j]) := by
          rw [List.getElem?_map, List.getElem?_eq_getElem hjl] at hj; simpa using hj.symm
        have hvv : v = .int .i64 ((sortI l)[j]) := by
          simp only [putCells, Array.getElem?_mapIdx, Array.getElem?_eq_getElem (by rw [sortI_len] at hjl; omega : j < arr.size), Option.map_some, Option.some.injEq] at hv'
          rw [if_pos (by rw [hs1, ← sortI_len]; omega), Nat.sub_zero, getElem!_pos (sortI l).toArray j (by simpa using hjl)] at hv'
          rw [← hv']; simp
        subst hx; subst hvv
        exact .int _ _
/-- A map from numbers that are all told to be there. -/
def encSI (l : List Int) : List (AV × AV) := l.map fun s => (.int .i64 s, .bool true)
theorem findI_out (s : Int) : ∀ (l : List Int) (k : Nat), l.contains s = false → aFind (.int .i64 s) (encSI l) k = some none
  | [], k, _ => rfl
  | t :: l, k, h => by
    simp only [List.contains_cons, Bool.or_eq_false_iff] at h
    have e : keyEq (.int .i64 s) (.int .i64 t) = some false := by simp only [keyEq, h.1, if_true]
    simp only [encSI, List.map_cons, aFind, e]
    exact findI_out s l (k + 1) h.2
theorem findI_in (s : Int) : ∀ (l : List Int) (k : Nat), l.contains s = true → ∃ i, aFind (.int .i64 s) (encSI l) k = some (some (k + i, .bool true)) ∧ l[i]? = some s
  | [], k, h => by simp at h
  | t :: l, k, h => by
    by_cases h1 : s = t
    · subst h1
      have e : keyEq (.int .i64 s) (.int .i64 s) = some true := by simp only [keyEq, beq_self_eq_true, if_true]
      exact ⟨0, by simp only [encSI, List.map_cons, aFind, e]; rfl, rfl⟩
    · have h1' : (s == t) = false := by simpa using h1
      have e : keyEq (.int .i64 s) (.int .i64 t) = some false := by simp only [keyEq, h1', if_true]
      obtain ⟨i, hi, hx⟩ := findI_in s l (k + 1) (by rw [List.contains_cons, h1', Bool.false_or] at h; exact h)
      exact ⟨i + 1, by simp only [encSI, List.map_cons, aFind, e]; rw [show k + (i + 1) = k + 1 + i by omega]; exact hi, by simpa using hx⟩
theorem encSI_app (l : List Int) (s : Int) : encSI l ++ [(.int .i64 s, .bool true)] = encSI (l ++ [s]) := by simp [encSI]
theorem encSI_set {l : List Int} {s : Int} {i : Nat} (h : l[i]? = some s) : (encSI l).set i (.int .i64 s, .bool true) = encSI l := set_same (by simp [encSI, h])
theorem encSI_get {l : List Int} {i : Nat} {s : Int} (h : l[i]? = some s) : (encSI l)[i]? = some (.int .i64 s, .bool true) := by simp [encSI, h]
theorem ids_encSI {n : Nat} (l : List Int) : IdsO n (.map (encSI l)) := by
  intro j k x e
  simp only [encSI, List.getElem?_map, Option.map_eq_some_iff] at e
  obtain ⟨t, _, e⟩ := e
  injection e with e1 e2; subst e1; subst e2
  exact ⟨.int _ _, .bool _⟩
/-- A number put into a set. -/
def insI (l : List Int) (s : Int) : List Int := if l.contains s then l else l ++ [s]
theorem insI_mem {l : List Int} {s x : Int} : x ∈ insI l s ↔ x ∈ l ∨ x = s := by
  unfold insI; split
  · rename_i h; have := List.contains_iff_mem.1 h
    constructor
    · exact .inl
    · rintro (h | rfl)
      · exact h
      · exact this
  · simp
theorem insI_nodup {l : List Int} {s : Int} (h : l.Nodup) : (insI l s).Nodup := by
  unfold insI; split
  · exact h
  · rename_i hc
    rw [List.nodup_append]
    refine ⟨h, by simp, fun a ha b hb => ?_⟩
    simp only [List.mem_singleton] at hb; subst hb
    rintro rfl; exact hc (List.contains_iff_mem.2 ha)
end Go.Ahl
namespace Go.Ahl
/-- A row of one's own goes behind all else. -/
theorem Ghost.reown {n0 nt : Nat} {s : Slots} {σ : Store} (t : Nat) {id sz off len : Nat} {cells : List AV} (ht : lk s t = .ref id sz off len) (hs : σ[id]? = some (.row cells)) :
    Ghost n0 nt s σ ((t, .ref σ.length sz off len) :: s) (σ.set id .dead ++ [.row cells]) := by
  intro m loc w tm hl hS hr
  have hid : id < loc.length := by rw [hS.len]; exact lt_of_get hs
  have hrel := hr.rel t
  rw [ht] at hrel
  have hloc : loc[id]? = some loc[id] := List.getElem?_eq_getElem hid
  have hobj := hS.obj id _ _ hloc hs
  have hlen : (σ.set id .dead).length = loc.length := by simp [hS.len]
  have fin : ∀ l, SRel m (loc ++ [l]) (σ.set id .dead ++ [.row cells]) w → Ext n0 m loc w m (loc ++ [l]) w → Rel m (loc ++ [l]) (.ref σ.length sz off len) (tm.getD t undef) →
      ∃ m' loc', SRel m' loc' (σ.set id .dead ++ [.row cells]) w ∧ SlotRel m' loc' nt ((t, .ref σ.length sz off len) :: s) tm ∧ Ext n0 m loc w m' loc' w := by
    intro l g1 g2 g3
    refine ⟨m, _, g1, ⟨hr.size, fun i => ?_⟩, g2⟩
    simp only [Ahl.lk]
    by_cases e : t = i
    · subst e; simp only [beq_self_eq_true, cond_true]; exact g3
    · have : (t == i) = false := by simpa using e
      rw [this, cond_false]; exact (hr.rel i).mono (.refl m) (.app _ _ _)
  generalize hv : tm.getD t undef = v at hrel fin
  generalize loc[id] = l at hloc hobj
  cases l with
  | blk b =>
    obtain ⟨g1, g2⟩ := hS.reown n0 hloc hs
    refine fin _ g1 g2 ?_
    cases hrel with
    | ref _ _ _ _ cap b' n h1 h2 h3 h4 =>
      rw [hloc] at h1; injection h1 with h1; injection h1 with h1; subst h1
      exact .ref _ _ _ _ cap b n (by rw [← hS.len]; simp) h2 h3 h4
    | ref0 _ _ _ a _ => exact .ref0 _ _ _ a (by rw [← hS.len]; simp)
  | nowhere =>
    have hc : cells = [] := hobj
    subst hc
    obtain ⟨g1, g2⟩ := (hS.die id).row0 n0
    refine fin _ g1 g2 ?_
    cases hrel with
    | ref _ _ _ _ cap b' n h1 h2 h3 h4 => rw [hloc] at h1; simp at h1
    | ref0 _ _ _ a _ => exact .ref0 _ _ _ a (by rw [← hS.len]; simp)
  | tok _ _ => exact hobj.elim
theorem places_all {α : Type} : ∀ (l p : List α), (List.range' p.length l.length).filterMap (fun i => (p ++ l)[i]?) = l
  | [], p => rfl
  | x :: l, p => by
    have ih := places_all l (p ++ [x])
    rw [List.length_cons, List.range'_succ, List.filterMap_cons]
    rw [show (p ++ x :: l)[p.length]? = some x by rw [List.getElem?_append_right (Nat.le_refl _), Nat.sub_self]; rfl]
    simp only [List.append_assoc, List.singleton_append, List.length_append, List.length_singleton] at ih
    rw [ih]
/-- Numbers of places, each once, that are all: what stands at them is all. -/
theorem perm_places {α : Type} (l : List α) (seen : List Nat) (h1 : seen.Nodup) (h2 : ∀ i ∈ seen, i < l.length) (h3 : ∀ i, i < l.length → i ∈ seen) : (seen.filterMap fun i => l[i]?).Perm l := by
  have hp : seen.Perm (List.range l.length) := by
    rw [List.perm_ext_iff_of_nodup h1 List.nodup_range]
    intro i; rw [List.mem_range]; exact ⟨h2 i, h3 i⟩
  refine (hp.filterMap _).trans ?_
  have := places_all l []
  rw [List.range_eq_range']
  simp only [List.nil_append, List.length_nil] at this
  rw [this]
end Go.Ahl
/- The abstract layer, part 27: words for rounds whose store begins with a part that is named. -/
namespace Go.Ahl
section
variable {n0 nt t : Nat} {s s' : Slots} {S σ g : Store} {R : Cont}
theorem ghP0 {l : Store} (h2 : IdsS (S ++ l).length (S ++ l)) (h1 : TellW s (S.length + l.length) s' := by simp only [TellW, lk, Nat.reduceBEq, cond_true, cond_false, and_true, List.length_cons, List.length_nil, Nat.reduceAdd]; and_intros <;> first | exact Wk.refl _ | exact Wk.unk _ _ | exact Wk.slice _ (WkLL.one (WkL.one (Wk.unk _ _))) | exact Wk.any _ | first | assumption | exact .int _ _ | exact .bool _ | exact .str _ | exact .any | exact .mapnil | exact .ptr _ _ (by omega) | exact .ref _ _ _ _ (by omega) | exact .vec _ _ _ (by omega) | exact .map _ (by omega) | exact ids_mapE _ | exact ids_growE (by omega) _ | exact ids_aggE _ | (refine ids_up ?_ (by assumption); omega) | exact ids_func0 _ | exact ids_nil _ (by simp) | (simp only [encLit, encI, encT, encC, encA, encE, encL, encTask, encB]; done)) (hn : n0 ≤ S.length := by first | exact Nat.le_refl _ | omega) : Ghost n0 nt s (S ++ l) s' (S ++ l) := .keepL0 l rfl hn h1 h2
theorem ghPM (k : Nat) {o : AObj} (ho : g[k]? = some o := by rfl) (hi : IdsS S.length S := by assumption) (hio : IdsO S.length o := by trivial) (h1 : TellM s (S.length + k) S.length s' := by simp only [TellM, lk, Nat.reduceBEq, cond_true, cond_false, and_true, List.length_cons, List.length_nil, Nat.reduceAdd]; and_intros <;> first | exact mv_mapE _ | exact .ref _ _ _ | exact .ptr _ | exact .map | exact .keep (.refl _) (by first | assumption | exact .int _ _ | exact .bool _ | exact .str _ | exact .any | exact .mapnil | exact .ptr _ _ (by omega) | exact .ref _ _ _ _ (by omega) | exact .vec _ _ _ (by omega) | exact .map _ (by omega) | exact ids_mapE _ | exact ids_growE (by omega) _ | exact ids_aggE _ | (refine ids_up ?_ (by assumption); omega) | exact ids_func0 _ | exact ids_nil _ (by simp) | (simp only [encLit, encI, encT, encC, encA, encE, encL, encTask, encB]; done)) | exact .keep (Wk.unk _ _) (by first | assumption | exact .int _ _ | exact .bool _ | exact .str _ | exact .any | exact .mapnil | exact .ptr _ _ (by omega) | exact .ref _ _ _ _ (by omega) | exact .vec _ _ _ (by omega) | exact .map _ (by omega) | exact ids_mapE _ | exact ids_growE (by omega) _ | exact ids_aggE _ | (refine ids_up ?_ (by assumption); omega) | exact ids_func0 _ | exact ids_nil _ (by simp) | (simp only [encLit, encI, encT, encC, encA, encE, encL, encTask, encB]; done))) (hn : n0 ≤ S.length := by first | exact Nat.le_refl _ | omega) : Ghost n0 nt s (S ++ g) s' (S ++ [o]) :=
  .moved _ k _ hn ho hi hio h1
/-- The end of a function whose row becomes its answer. -/
theorem retRow {id len : Nat} {l : List Int} (ht : S.take σ.length = σ) (hs : lk s t = .ref id 1 0 len) (hid : S[id]? = some (.row (l.map ai))) (hlen : l.length = len) (hge : σ.length ≤ id) (h : R (.slice .unk (l.map encI)) σ) (hσ : IdsS σ.length σ := by assumption) :
    bodyK [.tmp t] σ.length nt R .ret s S := by
  refine ret_gh (v := .slice .unk (l.map encI)) (σ' := σ) ?_ (Nat.le_refl _) hσ (ids_map ids_encI _) h
  refine Ghost.trans (Ghost.freeze t (l.map encI) hs hid (by simpa using hlen) ?_) ?_
  · intro i e he
    rw [List.getElem?_map] at he
    obtain ⟨x, hx, rfl⟩ := Option.map_eq_some_iff.1 he
    refine ⟨rfl, fun j hj => ?_⟩
    obtain rfl : j = 0 := by omega
    rw [List.getElem?_map]
    simp [hx, encI, ai]
  · have ht' : (S.set id .dead).take σ.length = σ := by rw [List.take_set_of_le hge, ht]
    have := Ghost.cut (n0 := σ.length) (nt := nt) (σ := S.set id .dead) (s := (t, .slice .unk (l.map encI)) :: s) [(t, .slice .unk (l.map encI))] σ.length (Nat.le_refl _) ⟨⟨by simp only [Ahl.lk, beq_self_eq_true, cond_true]; exact Wk.refl _, ids_map ids_encI _⟩, trivial⟩ (by rw [ht']; exact hσ)
    rwa [ht'] at this
end
theorem idsS_dead {n : Nat} {σ : Store} (h : IdsS n σ) (i : Nat) : IdsS n (σ.set i .dead) := by
  intro j o ho
  rcases get_set ho with ⟨rfl, rfl⟩ | ⟨_, ho⟩
  · trivial
  · exact h j o ho
theorem unseen_lt {α : Type} (p q : α → Bool) (h : ∀ x, q x = true → p x = true) (i : α) (hp : p i = true) (hq : q i = false) : ∀ l : List α, i ∈ l → (l.filter q).length < (l.filter p).length
  | x :: l, hi => by
    have hle : (l.filter q).length ≤ (l.filter p).length := by
      clear hi
      induction l with
      | nil => simp
      | cons y l ih =>
        rw [List.filter_cons, List.filter_cons]
        cases hy : q y
        · simp only [Bool.false_eq_true, if_false]; split
          · simp only [List.length_cons]; omega
          · exact ih
        · rw [if_pos rfl, if_pos (h y hy)]; simp only [List.length_cons]; omega
    rw [List.filter_cons, List.filter_cons]
    rcases List.mem_cons.1 hi with rfl | hi
    · rw [hp, hq]; simp only [if_true, Bool.false_eq_true, if_false, List.length_cons]; omega
    · have := unseen_lt p q h i hp hq l hi
      cases hx : q x
      · simp only [Bool.false_eq_true, if_false]; split
        · simp only [List.length_cons]; omega
        · exact this
      · rw [if_pos rfl, if_pos (h x hx)]; simp only [List.length_cons]; omega
/-- How many places are not seen yet. -/
def unseen (n : Nat) (seen : List Nat) : Nat := ((List.range n).filter fun i => !(seen.contains i)).length
theorem unseen_snoc {n i : Nat} {seen : List Nat} (hi : i < n) (hs : i ∉ seen) : unseen n (seen ++ [i]) < unseen n seen := by
  refine unseen_lt _ _ ?_ i ?_ ?_ _ (List.mem_range.2 hi)
  · intro x hx
    simp only [Bool.not_eq_true', List.contains_eq_mem, List.mem_append, decide_eq_false_iff_not] at hx ⊢
    exact fun q => hx (.inl q)
  · simpa using hs
  · simp
theorem nodup_below {n : Nat} {l : List Nat} (h : l.Nodup) (hl : ∀ i ∈ l, i < n) : l.length ≤ n := by
  have h1 : l.length ≤ n := by
    have hp : ∀ (l : List Nat), l.Nodup → ∀ p : Nat → Bool, (∀ i ∈ l, p i = true) → (∀ i ∈ l, i < n) → l.length ≤ ((List.range n).filter p).length := by
      intro l
      induction l with
      | nil => intros; simp
      | cons x l ih =>
        intro hnd p hp hb
        rw [List.nodup_cons] at hnd
        have h1 := ih hnd.2 (fun i => p i && decide (i ≠ x)) (fun i hi => by
          rw [hp i (List.mem_cons_of_mem _ hi), Bool.true_and]
          exact decide_eq_true (fun e => hnd.1 (e ▸ hi))) (fun i hi => hb i (List.mem_cons_of_mem _ hi))
        have h2 := unseen_lt p (fun i => p i && decide (i ≠ x)) (fun y hy => by simp only [Bool.and_eq_true] at hy; exact hy.1) x (hp x List.mem_cons_self) (by simp) (List.range n) (List.mem_range.2 (hb x List.mem_cons_self))
        rw [List.length_cons]; omega
    have h2 := hp l h (fun _ => true) (fun _ _ => rfl) hl
    have h3 := List.length_filter_le (fun _ => true) (List.range n)
    rw [List.length_range] at h3
    omega
  exact h1
theorem sortI_perm_eq {l k : List Int} (h : l.Perm k) : sortI l = sortI k := sortI_eq ((sortI_perm k).trans h.symm) (sortI_sorted k)
end Go.Ahl
/- The abstract layer, part 29: a row told as a shorter one; an answer told in another way. -/
namespace Go.Ahl
theorem own_row (l : Loc) (a b : List AV) : own l (.row a) = own l (.row b) := by cases l <;> rfl
theorem ACalls.to {P : Program} {f : FuncId} {args : List AV} {σ τ : Store} {v : AV} {K : Cont} (h : ACalls P f args σ (isR v τ)) (k : K v τ) : ACalls P f args σ K :=
  h.mono fun r σ' hr => by obtain ⟨rfl, rfl⟩ := hr; exact k
/-- An answer, told in another way. -/
theorem ACalls.ghost {P : Program} {f : FuncId} {args : List AV} {σ τ τ' : Store} {a b : AV} (h : ACalls P f args σ (isR a τ)) (hg : IdsS σ.length σ → Ghost σ.length 1 [(0, a)] τ [(0, b)] τ') : ACalls P f args σ (isR b τ') := by
  intro m loc w vs hs ha
  have key : ∀ v w', ARet loc m w (isR a τ) v w' → ARet loc m w (isR b τ') v w' := by
    rintro v w' ⟨r, σ', m', loc', ⟨rfl, rfl⟩, h2, h3, h4⟩
    have hn : σ.length ≤ loc'.length := by
      have := h4.len (Nat.le_refl _)
      rw [← hs.len]; exact this
    obtain ⟨m2, loc2, g1, g2, g3⟩ := hg hs.ids m' loc' w' #[v] hn h3 ⟨rfl, fun i => by
      cases i with
      | zero => exact h2
      | succ i => exact .any _⟩
    refine ⟨b, τ', m2, loc2, ⟨rfl, rfl⟩, g2.rel 0, g1, ?_⟩
    rw [← hs.len] at g3
    exact h4.trans g3
  rcases h m loc w vs hs ha with ⟨fn, h1, h2, h3, h4⟩ | ⟨v, w', h1, h2⟩
  · exact .inl ⟨fn, h1, h2, h3, h4.mono fun e w' ⟨v, e1, e2⟩ => ⟨v, e1, key _ _ e2⟩⟩
  · exact .inr ⟨v, w', h1, key _ _ h2⟩
end Go.Ahl
/- The abstract layer, part 30: a row becomes a slice that never changes, with the right to append to it. -/
namespace Go.Ahl
/-- A right to append to what never changes. -/
theorem SRel.right {m : Mem} {loc : List Loc} {σ : Store} {w : World} (h : SRel m loc σ w) (n0 sz len : Nat) {b i0 : Nat} {arr : Array Value} {ty : TypeId} (hl : loc[i0]? = some (.blk b)) (h1 : w.heap[b]? = some (.cells arr ty (0, 0))) (h2 : m.bs b = some arr.size)
    (h3 : ∀ o, sz * len ≤ o → m.im b o = none) (hno : ∀ (i : Nat) l o, loc[i]? = some l → σ[i]? = some o → own l o ≠ some b) :
    SRel m (loc ++ [.tok sz fun k => if k = len then some (some b) else none]) (σ ++ [.grow sz len]) w ∧ Ext n0 m loc w m (loc ++ [.tok sz fun k => if k = len then some (some b) else none]) w := by
  have hfl : (fun k => if k = len then some (some b) else none : Nat → Option (Option Nat)) len = some (some b) := by simp
  have hown : ∀ b', own (.tok sz fun k => if k = len then some (some b) else none) (.grow sz len) = some b' → b' = b := by
    intro b' e; simp [own] at e; exact e.symm
  have hnam : ∀ b', Names (loc ++ [.tok sz fun k => if k = len then some (some b) else none]) b' → Names loc b' := by
    intro b' e
    rcases e.app with e | e | ⟨sz', f, k, e, hk⟩
    · exact e
    · simp at e
    · injection e with e1 e2
      subst e2
      simp only at hk
      split at hk
      · simp at hk; subst hk; exact ⟨i0, .inl hl⟩
      · simp at hk
  refine ⟨⟨by simp [h.len], h.im, h.bs, ?_, ?_, fun b' e => h.lt b' (hnam b' e), h.mp, ?_, h.ok.names hnam⟩, ⟨rfl, rfl, rfl, Nat.le_refl _, Nat.le_refl _, .refl m, .app _ _ _, fun b' e => .inl (hnam b' e), fun _ _ _ _ => rfl, fun _ _ _ e => .inl e⟩⟩
  · intro i l o e1 e2
    rcases get_app e1 with e1 | ⟨hi, e1⟩
    · rcases get_app e2 with e2 | ⟨hi2, e2⟩
      · exact (h.obj i l o e1 e2).mono (.refl m) (.app _ _ _) (fun _ _ => rfl) (fun _ _ _ => rfl)
      · have := lt_of_get e1; have := h.len; omega
    · rcases get_app e2 with e2 | ⟨hi2, e2⟩
      · have := lt_of_get e2; have := h.len; omega
      · subst e1; subst e2
        exact ⟨rfl, fun k hk => by show (if k = len then some (some b) else none) = none; rw [if_neg (by omega)], .inr ⟨b, arr, ty, hfl, h1, h2, h3⟩⟩
  · intro i j l1 l2 o1 o2 b' e1 e2 e3 e4 w1 w2
    rcases get_app e1 with f1 | ⟨hi, f1⟩ <;> rcases get_app e2 with f2 | ⟨hj, f2⟩
    · rcases get_app e3 with f3 | ⟨hi3, f3⟩
      · rcases get_app e4 with f4 | ⟨hi4, f4⟩
        · exact h.inj i j l1 l2 o1 o2 b' f1 f2 f3 f4 w1 w2
        · have := lt_of_get f2; have := h.len; omega
      · have := lt_of_get f1; have := h.len; omega
    · rcases get_app e3 with f3 | ⟨hi3, f3⟩
      · rcases get_app e4 with f4 | ⟨hi4, f4⟩
        · have := lt_of_get f4; have := h.len; omega
        · subst f2; subst f4
          have := hown _ w2; subst this
          exact absurd w1 (hno i l1 o1 f1 f3)
      · have := lt_of_get f1; have := h.len; omega
    · rcases get_app e4 with f4 | ⟨hi4, f4⟩
      · rcases get_app e3 with f3 | ⟨hi3, f3⟩
        · have := lt_of_get f3; have := h.len; omega
        · subst f1; subst f3
          have := hown _ w1; subst this
          exact absurd w2 (hno j l2 o2 f2 f4)
      · have := lt_of_get f2; have := h.len; omega
    · omega
  · intro i l o b' e1 e2 w1
    rcases get_app e1 with e1 | ⟨hi, e1⟩
    · rcases get_app e2 with e2 | ⟨hi2, e2⟩
      · exact h.mpo i l o b' e1 e2 w1
      · have := lt_of_get e1; have := h.len; omega
    · rcases get_app e2 with e2 | ⟨hi2, e2⟩
      · have := lt_of_get e2; have := h.len; omega
      · subst e1; subst e2
        have := hown _ w1; subst this
        cases hq : m.mp b' with
        | none => rfl
        | some e => have := h.mp b' e hq; rw [h1] at this; simp at this
end Go.Ahl
/- The abstract layer, part 28: the bits of a number. -/
namespace Go.Ahl
end Go.Ahl
namespace Go.Ahl
end Go.Ahl
namespace Go.Ahl
end Go.Ahl
namespace Go.Ahl
end Go.Ahl
/- The abstract layer, part 31: rows that grow in their place, in cells. -/
namespace Go.Ahl
section
variable {m : Mem} {loc : List Loc} {σ : Store} {w : World}
/-- One more place for what is there already. -/
theorem SRel.place (h : SRel m loc σ w) (n0 : Nat) (l : Loc) (o : AObj) (hnm : ∀ b, (l = .blk b ∨ ∃ sz g k, l = .tok sz g ∧ g k = some (some b)) → Names loc b)
    (ho : ObjRel m (loc ++ [l]) w l o) (hno : ∀ b, own l o = some b → (∀ (i : Nat) l' o', loc[i]? = some l' → σ[i]? = some o' → own l' o' ≠ some b) ∧ m.mp b = none) :
    SRel m (loc ++ [l]) (σ ++ [o]) w ∧ Ext n0 m loc w m (loc ++ [l]) w := by
  have hnam : ∀ b, Names (loc ++ [l]) b → Names loc b := by
    intro b e
    rcases e.app with e | e | e
    · exact e
    · exact hnm b (.inl e)
    · exact hnm b (.inr e)
  refine ⟨⟨by simp [h.len], h.im, h.bs, ?_, ?_, fun b' e => h.lt b' (hnam b' e), h.mp, ?_, h.ok.names hnam⟩, ⟨rfl, rfl, rfl, Nat.le_refl _, Nat.le_refl _, .refl m, .app _ _ _, fun b' e => .inl (hnam b' e), fun _ _ _ _ => rfl, fun _ _ _ e => .inl e⟩⟩
  · intro i l' o' e1 e2
    rcases get_app e1 with f1 | ⟨hi, f1⟩
    · rcases get_app e2 with f2 | ⟨hi2, f2⟩
      · exact (h.obj i l' o' f1 f2).mono (.refl m) (.app _ _ _) (fun _ _ => rfl) (fun _ _ _ => rfl)
      · have := lt_of_get f1; have := h.len; omega
    · rcases get_app e2 with f2 | ⟨hi2, f2⟩
      · have := lt_of_get f2; have := h.len; omega
      · subst f1; subst f2; exact ho
  · intro i j l1 l2 o1 o2 b e1 e2 e3 e4 w1 w2
    have hl := h.len
    rcases get_app e1 with f1 | ⟨hi, f1⟩ <;> rcases get_app e2 with f2 | ⟨hj, f2⟩ <;> rcases get_app e3 with f3 | ⟨hi3, f3⟩ <;> rcases get_app e4 with f4 | ⟨hi4, f4⟩
    · exact h.inj i j l1 l2 o1 o2 b f1 f2 f3 f4 w1 w2
    · have := lt_of_get f2; omega
    · have := lt_of_get f1; omega
    · have := lt_of_get f1; omega
    · have := lt_of_get f4; omega
    · subst f2; subst f4; exact absurd w1 ((hno b w2).1 i l1 o1 f1 f3)
    · have := lt_of_get f1; omega
    · have := lt_of_get f1; omega
    · have := lt_of_get f3; omega
    · have := lt_of_get f2; omega
    · subst f1; subst f3; exact absurd w2 ((hno b w1).1 j l2 o2 f2 f4)
    · have := lt_of_get f2; omega
    · omega
    · omega
    · omega
    · omega
  · intro i l' o' b e1 e2 w1
    rcases get_app e1 with f1 | ⟨hi, f1⟩
    · rcases get_app e2 with f2 | ⟨hi2, f2⟩
      · exact h.mpo i l' o' b f1 f2 w1
      · have := lt_of_get f1; have := h.len; omega
    · rcases get_app e2 with f2 | ⟨hi2, f2⟩
      · have := lt_of_get f2; have := h.len; omega
      · subst f1; subst f2; exact (hno b w1).2
end
end Go.Ahl
/- The abstract layer, part 32: new memory that is told as what may be written to at any time. -/
namespace Go.Ahl
def kindV : Value → Option Kind
  | .int k _ => some (.int k)
  | .string _ => some .str
  | .bool _ => some .bool
  | _ => none
theorem kindV_is {v : Value} {K : Kind} (h : kindV v = some K) : K.is v := by
  cases v <;> simp [kindV] at h <;> subst h <;> exact ⟨_, rfl⟩
/-- A cell's value, told as one that anyone may have written to. -/
inductive Wkn : AV → AV → Prop where
  | int (k : IntKind) (n : Int) : Wkn (.int k n) (.cell (.int k))
  | str (s : ByteArray) : Wkn (.str s) (.cell .str)
  | bool (b : Bool) : Wkn (.bool b) (.cell .bool)
  | nil : Wkn (.slice .nil []) (.wslice [])
  | slice (es es' : List (List AV)) (hl : es.length = es'.length) (hle : ∀ (i : Nat) e e', es[i]? = some e → es'[i]? = some e' → e.length = e'.length)
      (h : ∀ (i : Nat) e e', es[i]? = some e → es'[i]? = some e' → ∀ (j : Nat) x y, e[j]? = some x → e'[j]? = some y → Wkn x y) : Wkn (.slice .fresh es) (.wslice es')
/-- What was known in m1 of blocks from n on, told as what may be written to; of the others what m knows. -/
def Mem.weaken (m m1 : Mem) (n : Nat) : Mem where
  im b o := if b < n then m.im b o else (m1.im b o).bind fun v => if (kindV v).isSome then none else some v
  bs := m.bs
  mp := m.mp
  base := m.base
  wk b o := if b < n then m.wk b o else (m1.im b o).bind kindV
theorem get_both {α β : Type} {l : List α} {l' : List β} {i : Nat} {y : β} (h : l.length = l'.length) (e : l'[i]? = some y) : ∃ x, l[i]? = some x :=
  ⟨l[i]'(by rw [h]; exact lt_of_get e), List.getElem?_eq_getElem _⟩
theorem Wkn.rel {m m1 : Mem} {loc loc1 : List Loc} {n : Nat} (hb : m1.base = n) (hl0 : 0 < loc.length) {a b : AV} (h : Wkn a b) : ∀ {v : Value}, Rel m1 loc1 a v →
    Rel (m.weaken m1 n) loc b v ∧ (∀ K, b = .cell K → kindV v = some K) ∧ (b.isCell = false → kindV v = none) := by
  induction h with
  | int k i => intro v hr; cases hr; exact ⟨.cell _ _ ⟨_, rfl⟩, by rintro K e; injection e with e; subst e; rfl, by simp [AV.isCell]⟩
  | str s => intro v hr; cases hr; exact ⟨.cell _ _ ⟨_, rfl⟩, by rintro K e; injection e with e; subst e; rfl, by simp [AV.isCell]⟩
  | bool b => intro v hr; cases hr; exact ⟨.cell _ _ ⟨_, rfl⟩, by rintro K e; injection e with e; subst e; rfl, by simp [AV.isCell]⟩
  | nil =>
    intro v hr
    cases hr with
    | slice _ _ a cap sz b o f hcap htok hsz ha hc hr =>
      exact ⟨.wslice [] a cap 0 0 0 (fun _ _ => undef) hl0 hcap (by simp) (fun h => absurd rfl h) (by simp) (by simp) (by simp), by simp, fun _ => rfl⟩
  | slice es es' hl hle h ih =>
    intro v hr
    cases hr with
    | slice _ _ a cap sz b o f hcap htok hsz ha hc hr =>
      refine ⟨?_, by simp, fun _ => rfl⟩
      rw [hl]
      have hne : es' ≠ [] → es ≠ [] := fun q q' => by subst q'; exact q (List.length_eq_zero_iff.1 hl.symm)
      have hn : ∀ (i : Nat) e', es'[i]? = some e' → ¬ b < n := fun i e' he => by
        have hi := lt_of_get he
        have hq : es ≠ [] := by intro q; subst q; simp at hl; omega
        have := htok (by omega) b o (ha hq)
        omega
      have hcell : ∀ (i : Nat) e', es'[i]? = some e' → ∀ (j : Nat) y, e'[j]? = some y → ∃ x e, es[i]? = some e ∧ e[j]? = some x ∧ m1.im b (o + (i * sz + j)) = some (f i j) := fun i e' he j y hy => by
        obtain ⟨e, he1⟩ := get_both hl he
        obtain ⟨x, hx⟩ := get_both (hle i e e' he1 he) hy
        exact ⟨x, e, he1, hx, hc i (lt_of_get he1) j (by rw [← hsz e (List.mem_of_getElem? he1)]; exact lt_of_get hx)⟩
      refine .wslice es' a cap sz b o f hl0 (by omega) (fun e' he' => ?_) (fun q => ha (hne q)) (fun i e' he j K hK => ?_) (fun i e' he j y hy hyc => ?_) (fun i e' he j y hy hyc => ?_)
      · obtain ⟨i, hi, rfl⟩ := List.mem_iff_getElem.1 he'
        obtain ⟨e, he1⟩ := get_both hl (List.getElem?_eq_getElem hi)
        rw [← hle i e _ he1 (List.getElem?_eq_getElem hi)]; exact hsz e (List.mem_of_getElem? he1)
      · obtain ⟨x, e, h1, h2, h3⟩ := hcell i e' he j _ hK
        obtain ⟨_, q, _⟩ := ih i e e' h1 he j x _ h2 hK (hr i e h1 j x h2)
        simp only [Mem.weaken]; rw [if_neg (hn i e' he), h3]; exact q K rfl
      · obtain ⟨x, e, h1, h2, h3⟩ := hcell i e' he j _ hy
        obtain ⟨_, _, q⟩ := ih i e e' h1 he j x _ h2 hy (hr i e h1 j x h2)
        simp only [Mem.weaken]; rw [if_neg (hn i e' he), h3]; simp [q hyc]
      · obtain ⟨x, e, h1, h2, h3⟩ := hcell i e' he j _ hy
        exact (ih i e e' h1 he j x _ h2 hy (hr i e h1 j x h2)).1
/-- A value in which nothing is said of new memory. -/
def Unf (a : AV) : Prop := ∀ m v n, Rel m [] a v → Rel { m with base := n } [] a v
def UnfL (l : List AV) : Prop := ∀ x ∈ l, Unf x
theorem Unf.int (k : IntKind) (n : Int) : Unf (.int k n) := fun m v n h => by cases h; exact .int _ _
theorem Unf.str (s : ByteArray) : Unf (.str s) := fun m v n h => by cases h; exact .str _
theorem Unf.bool (b : Bool) : Unf (.bool b) := fun m v n h => by cases h; exact .bool _
theorem Unf.slice {t : Tok} (ht : t = .unk ∨ t = .nil ∨ t = .zero) {es : List (List AV)} (h : ∀ e ∈ es, UnfL e) : Unf (.slice t es) := fun m v n hr => by
  cases hr with
  | slice _ _ a cap sz b o f hcap htok hsz ha hc hr =>
    refine .slice t es a cap sz b o f hcap ?_ hsz ha hc (fun i e he j x hx => h e (List.mem_of_getElem? he) x (List.mem_of_getElem? hx) m _ n (hr i e he j x hx))
    rcases ht with rfl | rfl | rfl <;> exact htok
theorem Unf.map {α : Type} {enc : α → List AV} (h : ∀ x, UnfL (enc x)) (l : List α) : Unf (.slice .unk (l.map enc)) :=
  .slice (.inl rfl) fun e he => by obtain ⟨x, _, rfl⟩ := List.mem_map.1 he; exact h x
theorem Unf.nil : Unf (.slice .nil []) := .slice (.inr (.inl rfl)) (by simp)
theorem Unf.agg {l : List AV} (h : UnfL l) : Unf (.agg l) := fun m v n hr => by
  cases hr with
  | agg _ vs hlen hr => exact .agg _ vs hlen fun j x v e1 e2 => h x (List.mem_of_getElem? e1) m v n (hr j x v e1 e2)
theorem UnfL.nil : UnfL [] := fun x h => by simp at h
theorem UnfL.cons {x : AV} {l : List AV} (h : Unf x) (k : UnfL l) : UnfL (x :: l) := fun y hy => by
  rcases List.mem_cons.1 hy with rfl | hy
  · exact h
  · exact k y hy
theorem UnfL.app {l k : List AV} (h : UnfL l) (h' : UnfL k) : UnfL (l ++ k) := fun y hy => by
  rcases List.mem_append.1 hy with hy | hy
  · exact h y hy
  · exact h' y hy
def AV.flat : AV → Bool
  | .int .. | .bool _ | .str _ => true
  | _ => false
def Wkn1 (x y : AV) : Prop := Wkn x y ∨ (x = y ∧ x.flat = true)
def WknT (a b : AV) : Prop := Wkn1 a b ∨ ∃ xs ys, a = .tuple xs ∧ b = .tuple ys ∧ xs.length = ys.length ∧ ∀ (j : Nat) x y, xs[j]? = some x → ys[j]? = some y → Wkn1 x y
theorem Wkn1.rel {m m1 : Mem} {loc loc1 : List Loc} {n : Nat} (hb : m1.base = n) (hl0 : 0 < loc.length) {a b : AV} (h : Wkn1 a b) {v : Value} (hr : Rel m1 loc1 a v) : Rel (m.weaken m1 n) loc b v := by
  rcases h with h | ⟨rfl, h⟩
  · exact (h.rel hb hl0 hr).1
  · cases hr <;> simp [AV.flat] at h <;> constructor
theorem WknT.rel {m m1 : Mem} {loc loc1 : List Loc} {n : Nat} (hb : m1.base = n) (hl0 : 0 < loc.length) {a b : AV} (h : WknT a b) {v : Value} (hr : Rel m1 loc1 a v) : Rel (m.weaken m1 n) loc b v := by
  rcases h with h | ⟨xs, ys, rfl, rfl, hl, h⟩
  · exact h.rel hb hl0 hr
  · cases hr with
    | tuple _ vs hlen hr =>
      refine .tuple ys vs (by omega) fun j y v e1 e2 => ?_
      obtain ⟨x, hx⟩ := get_both hl e1
      exact (h j x y hx e1).rel hb hl0 (hr j x v hx e2)
/-- A call, whose result is new memory: this may be written to from now on. -/
theorem ACalls.weak {P : Program} {f : FuncId} {args : List AV} {R : Cont} {Q : AV → Prop} (h : ACalls P f args [] R) (hab : ∀ r σ', R r σ' → ∃ b, WknT r b ∧ Q b) (hi : ∀ x ∈ args, Ids 0 x) (hu : UnfL args) (σ : Store) :
    ACalls P f args σ (fun r σ' => Q r ∧ σ' = σ ++ [.dead]) := by
  intro m loc w vs hs ha
  let m0 : Mem := { m.strip with base := w.heap.size }
  have hS0 : SRel m0 [] [] w := by
    have h1 := (srel_base hs).strip fun _ _ q => q.strip
    exact ⟨h1.len, h1.im, h1.bs, by intro i l o e; simp at e, by intro i j l l' o o' b e; simp at e, h1.lt, h1.mp, by intro i l o b e; simp at e,
      ⟨Nat.le_refl _, by rintro b ⟨i, e | ⟨_, _, _, e, _⟩⟩ <;> simp at e, fun b o K e => by simp [m0, Mem.strip] at e, fun b o v q e => by
        have := hs.im_lt (b := b) (o := o) (v := v) e
        have q : w.heap.size ≤ b := q
        omega⟩⟩
  have hA : ArgsRel m0 [] args vs := by
    refine ⟨ha.1, fun j x v e1 e2 => ?_⟩
    have h1 := (ha.2 j x v e1 e2).take (n := 0) (hi x (List.mem_of_getElem? e1))
    rw [List.take_zero] at h1
    exact hu x (List.mem_of_getElem? e1) _ _ _ h1.strip
  have key : ∀ v w', ARet [] m0 w R v w' → ARet loc m w (fun r σ' => Q r ∧ σ' = σ ++ [.dead]) v w' := by
    rintro v w' ⟨r, σ', m1, loc1, hR, hrel, hsr, hext⟩
    obtain ⟨b, hb1, hb2⟩ := hab r σ' hR
    have hbase : m1.base = w.heap.size := hext.mem.base
    have hfr : ∀ k, k < w.heap.size → w'.heap[k]? = w.heap[k]? := fun k hk => hext.frame k hk (by rintro ⟨i, e | ⟨_, _, _, e, _⟩⟩ <;> simp at e) (fun _ => rfl)
    let m2 := m.weaken m1 w.heap.size
    have him : ∀ k o, k < w.heap.size → m2.im k o = m.im k o := fun k o hk => if_pos hk
    have hwk : ∀ k o, k < w.heap.size → m2.wk k o = m.wk k o := fun k o hk => if_pos hk
    have hwlt : ∀ k o K, m.wk k o = some K → k < w.heap.size := fun k o K e => by
      obtain ⟨_, _, arr, t, fz, v, h3, _⟩ := hs.ok.wk k o K e
      exact lt_of_heap h3
    have hle : m.le m2 := ⟨fun k o v e => by rw [him k o (hs.im_lt e)]; exact e, fun _ _ e => e, fun _ _ e => e, fun k o K e => by rw [hwk k o (hwlt k o K e)]; exact e, rfl⟩
    have hnew : ∀ k o v, ¬ k < w.heap.size → m2.im k o = some v → m1.im k o = some v := fun k o v hk e => by
      simp only [m2, Mem.weaken] at e
      rw [if_neg hk] at e
      cases e1 : m1.im k o with
      | none => rw [e1] at e; simp at e
      | some u =>
        rw [e1] at e; simp only [Option.bind_some] at e
        split at e
        · simp at e
        · exact e
    have hS2 : SRel m2 loc σ w' := by
      refine ⟨hs.len, ?_, ?_, ?_, hs.inj, fun b e => Nat.lt_of_lt_of_le (hs.lt b e) hext.size, ?_, hs.mpo, ?_⟩
      · intro k o v e
        by_cases hk : k < w.heap.size
        · rw [him k o hk] at e
          have := hs.im k o v e
          simpa [World.cell?, hfr k hk] using this
        · exact hsr.im k o v (hnew k o v hk e)
      · intro k n e
        rw [hfr k (hs.bs_lt (b := k) (n := n) e)]; exact hs.bs k n e
      · intro i l o e1 e2
        exact (hs.obj i l o e1 e2).mono hle (.refl _ _) (fun k e => hfr k (hs.lt k (own_names e1 e))) (fun k off e => him k off (hs.lt k (own_names e1 e)))
      · intro k e q
        rw [hfr k (hs.mp_lt (b := k) (e := e) q)]; exact hs.mp k e q
      · refine ⟨Nat.le_trans hs.ok.low hext.size, hs.ok.own, fun k o K e => ?_, fun k o v q e => ?_⟩
        · by_cases hk : k < w.heap.size
          · rw [hwk k o hk] at e
            obtain ⟨h1, h2, arr, t, fz, v, h3, h4, h5, h6⟩ := hs.ok.wk k o K e
            exact ⟨h1, by rw [him k o hk]; exact h2, arr, t, fz, v, by rw [hfr k hk]; exact h3, h4, h5, by rw [frozen_same (hfr k hk)]; exact h6⟩
          · simp only [m2, Mem.weaken] at e
            rw [if_neg hk] at e
            cases e1 : m1.im k o with
            | none => rw [e1] at e; simp at e
            | some u =>
              rw [e1] at e; simp only [Option.bind_some] at e
              have hc := hsr.im k o u e1
              refine ⟨fun q => hk (hs.lt k q), ?_, ?_⟩
              · simp only [m2, Mem.weaken]; rw [if_neg hk, e1]; simp [e]
              · have hz := hsr.ok.fz k o u (by rw [hbase]; omega) e1
                unfold World.cell? at hc
                split at hc
                · rename_i arr t fz hh
                  simp at hc
                  exact ⟨arr, t, fz, u, hh, hc, kindV_is e, hz⟩
                · simp at hc
        · by_cases hk : k < w.heap.size
          · rw [him k o hk] at e
            rw [frozen_same (hfr k hk)]; exact hs.ok.fz k o v q e
          · exact hsr.ok.fz k o v (by rw [hbase]; omega) (hnew k o v hk e)
    have hE2 : Ext loc.length m loc w m2 loc w' := ⟨hext.os, hext.tape, hext.output, hext.drawn, hext.size, hle, .refl _ _, fun _ e => .inl e, fun k hk _ _ => hfr k hk, fun k o K e => by
      by_cases hk : k < w.heap.size
      · rw [hwk k o hk] at e; exact .inl e
      · exact .inr (by omega)⟩
    obtain ⟨g1, g2⟩ := hS2.ghost loc.length .nowhere .dead (by rintro b (e | ⟨_, _, _, e, _⟩) <;> simp at e) (by intro b; simp [own]) trivial
    exact ⟨b, _, m2, _, ⟨hb2, rfl⟩, hb1.rel hbase (by simp) hrel, g1, hE2.trans g2⟩
  rcases h m0 [] w vs hS0 hA with ⟨fn, h1, h2, h3, h4⟩ | ⟨v, w', h1, h2⟩
  · exact .inl ⟨fn, h1, h2, h3, h4.mono fun e w' ⟨v, e1, e2⟩ => ⟨v, e1, key _ _ e2⟩⟩
  · exact .inr ⟨v, w', h1, key _ _ h2⟩
theorem Wkn.map {α : Type} {enc enc' : α → List AV} (hl : ∀ x, (enc x).length = (enc' x).length) (h : ∀ x (j : Nat) a b, (enc x)[j]? = some a → (enc' x)[j]? = some b → Wkn a b) (l : List α) :
    Wkn (.slice .fresh (l.map enc)) (.wslice (l.map enc')) := by
  have hx : ∀ (i : Nat) e e', (l.map enc)[i]? = some e → (l.map enc')[i]? = some e' → ∃ x, e = enc x ∧ e' = enc' x := by
    intro i e e' h1 h2
    rw [List.getElem?_map] at h1 h2
    cases q : l[i]? with
    | none => rw [q] at h1; simp at h1
    | some x => rw [q] at h1 h2; simp at h1 h2; exact ⟨x, h1.symm, h2.symm⟩
  refine .slice _ _ (by simp) (fun i e e' h1 h2 => ?_) (fun i e e' h1 h2 j x y h3 h4 => ?_)
  · obtain ⟨x, rfl, rfl⟩ := hx i e e' h1 h2; exact hl x
  · obtain ⟨z, rfl, rfl⟩ := hx i e e' h1 h2; exact h z j x y h3 h4
theorem WknT.of {a b : AV} (h : Wkn a b) : WknT a b := .inl (.inl h)
theorem WknT.tuple {xs ys : List AV} (hl : xs.length = ys.length) (h : ∀ (j : Nat) x y, xs[j]? = some x → ys[j]? = some y → Wkn1 x y) : WknT (.tuple xs) (.tuple ys) := .inr ⟨xs, ys, rfl, rfl, hl, h⟩
theorem WknT.two {a b c d : AV} (h : Wkn1 a c) (k : Wkn1 b d) : WknT (.tuple [a, b]) (.tuple [c, d]) := .tuple rfl fun j x y h1 h2 => by
  match j with
  | 0 => simp at h1 h2; subst h1; subst h2; exact h
  | 1 => simp at h1 h2; subst h1; subst h2; exact k
  | j + 2 => simp at h1
theorem Wkn1.flat {a : AV} (h : a.flat = true) : Wkn1 a a := .inr ⟨rfl, h⟩
end Go.Ahl
/- The abstract layer, part 33: what a row's cells hold, told in another way; nothing in a cell, as the right to append. -/
namespace Go.Ahl
theorem SRel.rewk {m : Mem} {loc : List Loc} {σ : Store} {w : World} (h : SRel m loc σ w) (id : Nat) {xs ys : List AV} (hs : σ[id]? = some (.row xs)) (hw : WkL xs ys) : SRel m loc (σ.set id (.row ys)) w where
  len := by simp [h.len]
  im := h.im
  bs := h.bs
  obj := by
    intro i l o h1 h2
    rcases get_set h2 with ⟨rfl, rfl⟩ | ⟨_, h2⟩
    · have := h.obj _ l _ h1 hs
      cases l with
      | nowhere =>
        have e : xs = [] := this
        subst e
        cases hw
        exact rfl
      | tok sz f => exact this.elim
      | blk b =>
        obtain ⟨arr, t, h1, h2, h3, h4, h5⟩ := this
        refine ⟨arr, t, h1, h2, by rw [← hw.len]; exact h3, fun j z v e1 e2 => ?_, h5⟩
        obtain ⟨x, q1, q2⟩ := hw.get j z e1
        exact q2 _ _ _ (h4 j x v q1 e2)
    · exact h.obj i l o h1 h2
  inj := by
    intro i j l l' o o' b h1 h2 h3 h4 w1 w2
    have fix : ∀ {i : Nat} {l : Loc} {o : AObj}, (σ.set id (.row ys))[i]? = some o → own l o = some b → ∃ o2, σ[i]? = some o2 ∧ own l o2 = some b := by
      intro i l o h3 w1
      rcases get_set h3 with ⟨rfl, rfl⟩ | ⟨_, h3⟩
      · exact ⟨_, hs, by rw [own_row l xs ys]; exact w1⟩
      · exact ⟨_, h3, w1⟩
    obtain ⟨o2, q1, q2⟩ := fix h3 w1
    obtain ⟨o3, q3, q4⟩ := fix h4 w2
    exact h.inj i j l l' o2 o3 b h1 h2 q1 q3 q2 q4
  lt := h.lt
  mp := h.mp
  mpo := by
    intro i l o b h1 h2 w1
    rcases get_set h2 with ⟨rfl, rfl⟩ | ⟨_, h2⟩
    · exact h.mpo _ l _ b h1 hs (by rw [own_row l xs ys]; exact w1)
    · exact h.mpo i l o b h1 h2 w1
  ok := h.ok
theorem Ghost.rewk {n0 nt : Nat} {s : Slots} {σ : Store} (id : Nat) {xs ys : List AV} (hs : σ[id]? = some (.row xs)) (hw : WkL xs ys) : Ghost n0 nt s σ s (σ.set id (.row ys)) :=
  fun m loc w t _ h1 h2 => ⟨m, loc, h1.rewk id hs hw, h2, .refl _ _ _ _⟩
end Go.Ahl
/- The abstract layer, part 34: ranges over functions, as they are run by rewriting. -/
namespace Go.Ahl
theorem AYld.is {P : Program} {id : Nat} {args : List AV} {σ σ' : Store} {v : AV} {K : Cont} (h : AYld P id args σ (isR v σ')) (k : K v σ') : AYld P id args σ K :=
  h.mono fun _ _ e => by rw [e.1, e.2]; exact k
def yldC (P : Program) (args : List AV) (σ : Store) (K : Cont) : AV → Prop
  | .yld id => AYld P id args σ K
  | _ => False
theorem i_callY (P : Program) (s : Slots) (σ : Store) (K : Cont) (f : Opd) (args : List Opd) : aI P (.callY f args) s σ K = yldC P (evs s args) σ K (aev s f) := by
  simp only [aI]; cases aev s f <;> rfl
theorem yldC_yld (P : Program) (args : List AV) (σ : Store) (K : Cont) (id : Nat) : yldC P args σ K (.yld id) = AYld P id args σ K := rfl
theorem putAll_cons (s : Slots) (p : Nat) (ps : List Nat) (x : AV) (xs : List AV) : putAll s (p :: ps) (x :: xs) = putAll ((p, x) :: s) ps xs := rfl
theorem putAll_nil (s : Slots) (xs : List AV) : putAll s [] xs = s := by cases xs <;> rfl
attribute [go_sem] i_callY yldC_yld putAll_cons putAll_nil
section
variable {P : Program} {nt n0 : Nat} {Q : Post} {s : Slots} {σ : Store}
/-- A range over a function; its codes are known by what they compile to. -/
theorem wpc_rangeF {g : Opd} {ps : List Nat} {A B : CCode} (h : ∀ (H : Hints) (asg body : Code), comp P H asg = A → comp P H body = B → rangeC P nt ps asg body Q s σ (aev s g)) : wpc P nt n0 (.rangeF g ps A B) Q s σ := h
theorem rangeC_intro {ps : List Nat} {asg body : Code} {it : FuncId} {cap : List AV} (hf : ∃ fn, P.funcs[it]? = some fn ∧ fn.body.isSome = true ∧ fn.name ≠ "runtime.NumGoroutine")
    (h : ∀ L : LoopA, L = ⟨nt, s, ps, asg, body, .ready, none⟩ → ACalls P it (.yld σ.length :: cap) (σ ++ [.loop L]) (rangeK σ.length Q s)) : rangeC P nt ps asg body Q s σ (.func it cap) := ⟨hf, h _ rfl⟩
theorem rangeK_intro {k : Nat} {v : AV} {L : LoopA} (h : σ[k]? = some (.loop L)) (h1 : L.st = .ready) (h2 : L.pend = none) (h3 : Q .normal s (σ.set k .dead)) : rangeK k Q s v σ :=
  ⟨L, h, by rw [h1]; simp, by rw [h2]; exact h3⟩
/-- A round's normal end. -/
theorem round_end {id : Nat} {K : Cont} {L : LoopA} {S : Store} (g : Store) (hS : IdsS S.length S) (hL : S[id]? = some (.loop L)) (k : K (.bool true) (S.set id (.loop { L with st := .ready, pend := none }))) (hn : n0 = S.length) :
    roundK id n0 nt K .normal s (S ++ g) := by
  subst hn
  refine Gh.cut [] S.length (Nat.le_refl _) trivial ?_ ?_
  · rw [take_app]; exact hS
  · rw [take_app]; exact ⟨L, hL, k⟩
theorem round_end0 {id : Nat} {K : Cont} {L : LoopA} {S : Store} (hS : IdsS S.length S) (hL : S[id]? = some (.loop L)) (k : K (.bool true) (S.set id (.loop { L with st := .ready, pend := none }))) (hn : n0 = S.length) :
    roundK id n0 nt K .normal s S := by
  have := round_end (nt := nt) (s := s) [] hS hL k hn
  rwa [List.append_nil] at this
/-- What the slots of a record name. -/
theorem idsO_loop {n : Nat} {L : LoopA} (h : ∀ e ∈ L.s, Ids n e.2) : IdsO n (.loop L) := by
  intro j
  generalize L.s = l at h
  induction l with
  | nil => exact .any
  | cons e l ih =>
    obtain ⟨i, v⟩ := e
    simp only [Ahl.lk]
    cases i == j with
    | true => exact h _ List.mem_cons_self
    | false => exact ih fun e he => h e (List.mem_cons_of_mem _ he)
end
end Go.Ahl
namespace Go.Ahl
section
variable {P : Program} {nt n0 : Nat} {Q : Post} {s : Slots} {σ : Store}
/-- Behind the assignment of a round. -/
def asgK (P : Program) (id n nt : Nat) (B : CCode) (K : Cont) : Slots → Store → Prop := fun s σ1 =>
  ∃ L1, σ1[id]? = some (.loop L1) ∧ L1.st = .ready ∧ wpc P nt n B (roundK id n nt K) s (σ1.set id (.loop { L1 with st := .busy }))
theorem yld_as (hm : P.follows .mixedOrders = true) {H : Hints} {id : Nat} {args : List AV} {K : Cont} {L : LoopA} (hL : σ[id]? = some (.loop L)) (hst : L.st = .ready) (hps : L.ps.length = args.length) (hpn : ∀ p ∈ L.ps, p < L.nt) {A B : CCode}
    (hA : comp P H L.asg = A) (hB : comp P H L.body = B) (hn : noRange A = true) (hn2 : noRange B = true)
    (h : wpc P L.nt σ.length A (seqK (asgK P id σ.length L.nt B K) (fun _ _ _ => False)) (putAll L.s L.ps args) σ) : AYld P id args σ K :=
  yld_of hm H hL hst hps hpn (by rw [hA]; exact hn) (by rw [hB]; exact hn2) (by rw [hA, hB]; exact h)
end
end Go.Ahl
namespace Go.Ahl
/-- The end of a function whose first result is an aggregate in cells, told in another way. -/
theorem ret_cN2 {nt t u id n : Nat} {s : Slots} {σ S : Store} {R : Cont} {c0 cells : List AV} {x : AV} (h1 : lk s t = .ptr id 0) (h2 : S[id]? = some (.row c0)) (hid : σ.length ≤ id) (hw : WkL c0 cells) (hn : cells.length = n) (h3 : lk s u = x)
    (ht : S.take σ.length = σ) (hσ : IdsS σ.length σ) (iv : Ids σ.length (.agg cells)) (ix : Ids σ.length x) (h : R (.tuple [.agg cells, x]) σ) : bodyK [.cell (some n) t, .tmp u] σ.length nt R .ret s S := by
  refine ⟨s, S.set id (.row cells), Ghost.rewk id h2 hw, ?_⟩
  simp only [aRes, h1, h3]
  rw [e_loadN_ptr, List.getElem?_set_self (lt_of_get h2), rowK_some]
  refine ⟨by omega, ?_⟩
  rw [List.drop_zero, ← hn, List.take_length]
  refine ⟨σ.length, Nat.le_refl _, ?_⟩
  rw [List.take_set_of_le hid, ht]
  exact ⟨hσ, .tuple _ (fun j y hy => by match j, hy with | 0, hy => simp at hy; subst hy; exact iv | 1, hy => simp at hy; subst hy; exact ix), h⟩
theorem ret_cN3 {nt t u w id n : Nat} {s : Slots} {σ S : Store} {R : Cont} {c0 cells : List AV} {x y : AV} (h1 : lk s t = .ptr id 0) (h2 : S[id]? = some (.row c0)) (hid : σ.length ≤ id) (hw : WkL c0 cells) (hn : cells.length = n) (h3 : lk s u = x) (h4 : lk s w = y)
    (ht : S.take σ.length = σ) (hσ : IdsS σ.length σ) (iv : Ids σ.length (.agg cells)) (ix : Ids σ.length x) (iy : Ids σ.length y) (h : R (.tuple [.agg cells, x, y]) σ) : bodyK [.cell (some n) t, .tmp u, .tmp w] σ.length nt R .ret s S := by
  refine ⟨s, S.set id (.row cells), Ghost.rewk id h2 hw, ?_⟩
  simp only [aRes, h1, h3, h4]
  rw [e_loadN_ptr, List.getElem?_set_self (lt_of_get h2), rowK_some]
  refine ⟨by omega, ?_⟩
  rw [List.drop_zero, ← hn, List.take_length]
  refine ⟨σ.length, Nat.le_refl _, ?_⟩
  rw [List.take_set_of_le hid, ht]
  exact ⟨hσ, .tuple _ (fun j y hy => by match j, hy with | 0, hy => simp at hy; subst hy; exact iv | 1, hy => simp at hy; subst hy; exact ix | 2, hy => simp at hy; subst hy; exact iy), h⟩
end Go.Ahl
namespace Go.Proofs.YtbnhijapbnfohaaGreat
open Go.Ahl
def c_cNaN : CCode := .seq (.ops [⟨some 2, .move (.lit (.bool false)), none, []⟩]) (.seq (.ops [⟨some 3, .move (.tmp 0), none, []⟩, ⟨some 4, .move (.tmp 0), none, []⟩, ⟨some 5, .bin .neq .none (.tmp 3) (.tmp 4), none, []⟩, ⟨some 2, .move (.tmp 5), none, []⟩]) .ret)
theorem cNaN_spec (x : Int) (σ : Store) : ACalls Tryz.prog 120 [.int .i64 x] σ (isR (.bool false) σ) := by
  refine ACalls.intro (rs := [(.tmp 2)]) (by kernel_rfl) { own := [], ghosts := [] } Tryz.func120 (c := Tryz.f120.body.getD .skip) (by kernel_rfl) (by decide) (by rw [show Tryz.f120.ntmps = 6 by kernel_rfl]; exact Nat.le_of_ble_eq_true rfl) (by kernel_rfl) ?_
  intro hσ hids
  rw [show comp Tryz.prog { own := [], ghosts := [] } (Tryz.f120.body.getD .skip) = c_cNaN by kernel_rfl, show Tryz.f120.ntmps = 6 by kernel_rfl]
  unfold c_cNaN
  have hx : (x != x) = false := by simp
  simp only [go_sem, Int.reduceToNat, Int.reduceLE, Int.reduceLT, Nat.reduceBEq, Nat.reduceLT, Nat.reduceAdd, Nat.reduceLeDiff, hx]
  first | exact rtk (.bool false) ⟨rfl, rfl⟩ | exact rtk0 (.bool false) ⟨rfl, rfl⟩
def c_sNaN : CCode := .seq (.ops [⟨some 2, .move (.lit (.bool false)), none, []⟩]) (.seq (.ops [⟨some 3, .move (.tmp 0), none, []⟩, ⟨some 4, .move (.tmp 0), none, []⟩, ⟨some 5, .bin .neq .none (.tmp 3) (.tmp 4), none, []⟩, ⟨some 2, .move (.tmp 5), none, []⟩]) .ret)
theorem sNaN_spec (x : Int) (σ : Store) : ACalls Tryz.prog 112 [.int .i64 x] σ (isR (.bool false) σ) := by
  refine ACalls.intro (rs := [(.tmp 2)]) (by kernel_rfl) { own := [], ghosts := [] } Tryz.func112 (c := Tryz.f112.body.getD .skip) (by kernel_rfl) (by decide) (by rw [show Tryz.f112.ntmps = 6 by kernel_rfl]; exact Nat.le_of_ble_eq_true rfl) (by kernel_rfl) ?_
  intro hσ hids
  rw [show comp Tryz.prog { own := [], ghosts := [] } (Tryz.f112.body.getD .skip) = c_sNaN by kernel_rfl, show Tryz.f112.ntmps = 6 by kernel_rfl]
  unfold c_sNaN
  have hx : (x != x) = false := by simp
  simp only [go_sem, Int.reduceToNat, Int.reduceLE, Int.reduceLT, Nat.reduceBEq, Nat.reduceLT, Nat.reduceAdd, Nat.reduceLeDiff, hx]
  first | exact rtk (.bool false) ⟨rfl, rfl⟩ | exact rtk0 (.bool false) ⟨rfl, rfl⟩
def c_cLess : CCode := .seq (.ops [⟨some 4, .move (.lit (.bool false)), none, []⟩]) (.seq (.ops [⟨some 5, .move (.tmp 0), none, []⟩, ⟨some 6, .call (.lit (.func 120 [])) [.tmp 5], none, []⟩, ⟨some 7, .move (.tmp 6), none, []⟩, ⟨some 8, .move (.tmp 1), some (some 7, true), []⟩, ⟨some 9, .call (.lit (.func 120 [])) [.tmp 8], some (some 7, true), []⟩, ⟨some 10, .un .not (.tmp 9), some (some 7, true), []⟩, ⟨some 11, .pick (.tmp 7) (.tmp 10) (.lit (.bool false)), none, []⟩, ⟨some 12, .move (.tmp 11), none, []⟩, ⟨some 13, .move (.tmp 0), some (some 12, false), []⟩, ⟨some 14, .move (.tmp 1), some (some 12, false), []⟩, ⟨some 15, .bin .lss .none (.tmp 13) (.tmp 14), some (some 12, false), []⟩, ⟨some 16, .pick (.tmp 12) (.lit (.bool true)) (.tmp 15), none, []⟩, ⟨some 4, .move (.tmp 16), none, []⟩]) .ret)
theorem cLess_spec (x y : Int) (σ : Store) : ACalls Tryz.prog 111 [.int .i64 x, .int .i64 y] σ (isR (.bool (decide (x < y))) σ) := by
  refine ACalls.intro (rs := [(.tmp 4)]) (by kernel_rfl) { own := [], ghosts := [] } Tryz.func111 (c := Tryz.f111.body.getD .skip) (by kernel_rfl) (by decide) (by rw [show Tryz.f111.ntmps = 17 by kernel_rfl]; exact Nat.le_of_ble_eq_true rfl) (by kernel_rfl) ?_
  intro hσ hids
  rw [show comp Tryz.prog { own := [], ghosts := [] } (Tryz.f111.body.getD .skip) = c_cLess by kernel_rfl, show Tryz.f111.ntmps = 17 by kernel_rfl]
  unfold c_cLess
  simp only [go_sem, Int.reduceToNat, Int.reduceLE, Int.reduceLT, Nat.reduceBEq, Nat.reduceLT, Nat.reduceAdd, Nat.reduceLeDiff]
  refine (cNaN_spec x σ).is ?_
  simp only [go_sem, Int.reduceToNat, Int.reduceLE, Int.reduceLT, Nat.reduceBEq, Nat.reduceLT, Nat.reduceAdd, Nat.reduceLeDiff]
  first | exact rtw (v := .bool _) wkS ⟨rfl, rfl⟩ | exact rtw0 (v := .bool _) wkS ⟨rfl, rfl⟩
theorem wrap_u64 {x : Int} (h : 0 ≤ x) (h2 : x < 18446744073709551616) : IntKind.u64.wrap x = x := by
  unfold IntKind.wrap
  simp only [IntKind.bits, IntKind.signed, Bool.false_and, Bool.false_eq_true, if_false]
  exact Int.emod_eq_of_lt h h2
/-- The two ends of a search among rising numbers. -/
def BsInv (l : List Int) (x : Int) (p : Nat × Nat) : Prop :=
  p.1 ≤ p.2 ∧ p.2 ≤ l.length ∧ (∀ k, k < p.1 → ∀ y, l[k]? = some y → y < x) ∧ (∀ k, p.2 ≤ k → ∀ y, l[k]? = some y → x ≤ y)
theorem pw_get {l : List Int} (h : l.Pairwise (· < ·)) {i j : Nat} {a b : Int} (hi : l[i]? = some a) (hj : l[j]? = some b) (hij : i < j) : a < b := by
  obtain ⟨h1, rfl⟩ := List.getElem?_eq_some_iff.1 hi
  obtain ⟨h2, rfl⟩ := List.getElem?_eq_some_iff.1 hj
  exact List.pairwise_iff_getElem.1 h i j h1 h2 hij
theorem bs_lo {l : List Int} {x y : Int} {a b m : Nat} (hs : l.Pairwise (· < ·)) (h : BsInv l x (a, b)) (hm : l[m]? = some y) (hma : a ≤ m) (hmb : m < b) (hy : y < x) : BsInv l x (m + 1, b) := by
  obtain ⟨h1, h2, h3, h4⟩ := h
  refine ⟨by simp only; omega, h2, fun k hk z hz => ?_, h4⟩
  by_cases hkm : k = m
  · subst hkm; rw [hm] at hz; injection hz with hz; omega
  · have := pw_get hs hz hm (by simp only at hk; omega); omega
theorem bs_hi {l : List Int} {x y : Int} {a b m : Nat} (hs : l.Pairwise (· < ·)) (h : BsInv l x (a, b)) (hm : l[m]? = some y) (hma : a ≤ m) (hmb : m < b) (hy : ¬ y < x) : BsInv l x (a, m) := by
  obtain ⟨h1, h2, h3, h4⟩ := h
  refine ⟨hma, by have := lt_of_get hm; simp only; omega, h3, fun k hk z hz => ?_⟩
  by_cases hkm : k = m
  · subst hkm; rw [hm] at hz; injection hz with hz; omega
  · have := pw_get hs hm hz (by simp only at hk; omega); omega
theorem bs_end {l : List Int} {x y : Int} {a : Nat} (hs : l.Pairwise (· < ·)) (h : BsInv l x (a, a)) (hy : l[a]? = some y) : l.contains x = decide (y = x) := by
  obtain ⟨h1, h2, h3, h4⟩ := h
  by_cases hyx : y = x
  · subst hyx; rw [decide_eq_true rfl]; exact List.contains_iff_mem.2 (List.mem_of_getElem? hy)
  · rw [decide_eq_false hyx]
    cases hc : l.contains x with
    | false => rfl
    | true =>
      obtain ⟨k, hk⟩ := List.mem_iff_getElem?.1 (List.contains_iff_mem.1 hc)
      have hxy := h4 a (Nat.le_refl _) y hy
      rcases Nat.lt_trichotomy k a with hka | hka | hka
      · have := h3 k hka x hk; omega
      · subst hka; rw [hy] at hk; injection hk with hk; omega
      · have := pw_get hs hy hk hka; omega
theorem bs_out {l : List Int} {x : Int} (h : BsInv l x (l.length, l.length)) : l.contains x = false := by
  obtain ⟨h1, h2, h3, h4⟩ := h
  cases hc : l.contains x with
  | false => rfl
  | true =>
    obtain ⟨k, hk⟩ := List.mem_iff_getElem?.1 (List.contains_iff_mem.1 hc)
    have := h3 k (lt_of_get hk) x hk; omega
theorem rising_pw {n : Int} : ∀ {s : List Int} {p : Int}, risingB n p s = true → s.Pairwise (· < ·) ∧ ∀ x ∈ s, p < x ∧ x < n
  | [], _, _ => ⟨.nil, by simp⟩
  | x :: s, p, h => by
    simp only [risingB, Bool.and_eq_true, decide_eq_true_eq] at h
    obtain ⟨h1, h2⟩ := rising_pw (s := s) (p := x) (by simpa using h.2)
    refine ⟨List.pairwise_cons.2 ⟨fun y hy => (h2 y hy).1, h1⟩, ?_⟩
    intro y hy
    rcases List.mem_cons.1 hy with rfl | hy
    · omega
    · have := h2 y hy; omega
def c_bsearch : CCode := .seq (.ops [⟨some 4, .move (.lit (.int .i64 0)), none, []⟩, ⟨some 5, .move (.lit (.bool false)), none, []⟩]) (.seq (.ops [⟨some 10, .move (.tmp 0), none, []⟩, ⟨some 11, .blen 1 (.tmp 10), none, []⟩, ⟨some 6, .move (.tmp 11), none, []⟩]) (.seq (.ops [⟨some 12, .move (.tmp 6), none, []⟩, ⟨some 7, .move (.lit (.int .i64 0)), none, []⟩, ⟨some 8, .move (.tmp 12), none, []⟩]) (.seq (.block 0 (.loop (.seq (.seq (.ops [⟨some 13, .move (.tmp 7), none, []⟩, ⟨some 14, .move (.tmp 8), none, []⟩, ⟨some 15, .bin .lss .none (.tmp 13) (.tmp 14), none, []⟩]) (.cond (.tmp 15) .skip (.exit 0))) (.block 1 (.seq (.ops [⟨some 16, .move (.tmp 7), none, []⟩, ⟨some 17, .move (.tmp 8), none, []⟩, ⟨some 18, .bin .add .none (.tmp 16) (.tmp 17), none, []⟩, ⟨some 19, .conv .u64 (.tmp 18), none, []⟩, ⟨some 20, .bin .shr .none (.tmp 19) (.lit (.int .u64 1)), none, []⟩, ⟨some 21, .conv .i64 (.tmp 20), none, []⟩, ⟨some 9, .move (.tmp 21), none, []⟩]) (.seq (.ops [⟨some 22, .move (.tmp 0), none, []⟩, ⟨some 23, .move (.tmp 9), none, []⟩, ⟨some 24, .iaddr 1 (.tmp 22) (.tmp 23), none, []⟩, ⟨some 25, .load none (.tmp 24), none, []⟩, ⟨some 26, .move (.tmp 1), none, []⟩, ⟨some 27, .call (.lit (.func 111 [])) [.tmp 25, .tmp 26], none, []⟩]) (.cond (.tmp 27) (.ops [⟨some 28, .move (.tmp 9), none, []⟩, ⟨some 29, .bin .add .none (.tmp 28) (.lit (.int .i64 1)), none, []⟩, ⟨some 7, .move (.tmp 29), none, []⟩]) (.ops [⟨some 30, .move (.tmp 9), none, []⟩, ⟨some 8, .move (.tmp 30), none, []⟩])))))))) (.seq (.ops [⟨some 31, .move (.tmp 7), none, []⟩, ⟨some 32, .move (.tmp 7), none, []⟩, ⟨some 33, .move (.tmp 6), none, []⟩, ⟨some 34, .bin .lss .none (.tmp 32) (.tmp 33), none, []⟩, ⟨some 35, .move (.tmp 34), none, []⟩, ⟨some 36, .move (.tmp 0), some (some 35, true), []⟩, ⟨some 37, .move (.tmp 7), some (some 35, true), []⟩, ⟨some 38, .iaddr 1 (.tmp 36) (.tmp 37), some (some 35, true), []⟩, ⟨some 39, .load none (.tmp 38), some (some 35, true), []⟩, ⟨some 40, .move (.tmp 1), some (some 35, true), []⟩, ⟨some 41, .bin .eql .none (.tmp 39) (.tmp 40), some (some 35, true), []⟩, ⟨some 42, .move (.tmp 41), some (some 35, true), []⟩, ⟨some 43, .move (.tmp 0), some (some 42, false), []⟩, ⟨some 44, .move (.tmp 7), some (some 42, false), []⟩, ⟨some 45, .iaddr 1 (.tmp 43) (.tmp 44), some (some 42, false), []⟩, ⟨some 46, .load none (.tmp 45), some (some 42, false), []⟩, ⟨some 47, .call (.lit (.func 112 [])) [.tmp 46], some (some 42, false), []⟩, ⟨some 48, .move (.tmp 47), some (some 42, false), []⟩, ⟨some 49, .move (.tmp 1), some (some 48, true), []⟩, ⟨some 50, .call (.lit (.func 112 [])) [.tmp 49], some (some 48, true), []⟩, ⟨some 51, .pick (.tmp 48) (.tmp 50) (.lit (.bool false)), some (some 42, false), []⟩, ⟨some 52, .pick (.tmp 42) (.lit (.bool true)) (.tmp 51), some (some 35, true), []⟩, ⟨some 53, .pick (.tmp 35) (.tmp 52) (.lit (.bool false)), none, []⟩, ⟨some 4, .move (.tmp 31), none, []⟩, ⟨some 5, .move (.tmp 53), none, []⟩]) .ret))))
set_option maxRecDepth 20000 in
set_option maxHeartbeats 1000000 in
theorem bsearch_spec (l : List Int) (x : Int) (tok : Tok) (σ : Store) (hl : l.length ≤ 140737488355328) (hs : l.Pairwise (· < ·)) :
    ACalls Tryz.prog 91 [.slice tok (l.map Ahl.encI), .int .i64 x] σ (isR (.tuple [.any, .bool (l.contains x)]) σ) := by
  refine ACalls.intro (rs := [(.tmp 4), (.tmp 5)]) (by kernel_rfl) { own := [], ghosts := [] } Tryz.func91 (c := Tryz.f91.body.getD .skip) (by kernel_rfl) (by decide) (by rw [show Tryz.f91.ntmps = 54 by kernel_rfl]; exact Nat.le_of_ble_eq_true rfl) (by kernel_rfl) ?_
  intro hσ hids
  rw [show comp Tryz.prog { own := [], ghosts := [] } (Tryz.f91.body.getD .skip) = c_bsearch by kernel_rfl, show Tryz.f91.ntmps = 54 by kernel_rfl]
  unfold c_bsearch
  have hil : Ids σ.length (.slice tok (l.map Ahl.encI)) := hids _ (by simp)
  simp only [go_sem, Int.reduceToNat, Int.reduceLE, Int.reduceLT, Nat.reduceBEq, Nat.reduceLT, Nat.reduceAdd, Nat.reduceLeDiff]
  refine wpc_while (fun p => [(0, .slice tok (l.map Ahl.encI)), (1, .int .i64 x), (6, .int .i64 l.length), (7, .int .i64 (p.1 : Nat)), (8, .int .i64 (p.2 : Nat))]) (fun _ => σ) (BsInv l x) (fun p => p.2 - p.1) (0, l.length) ⟨Nat.zero_le _, Nat.le_refl _, fun k hk => absurd hk (Nat.not_lt_zero _), fun k hk y hy => by have := lt_of_get hy; simp only at hk; omega⟩ (by (try dsimp only); first | exact ghk | exact ghk0) ?_
  rintro ⟨a, b⟩ hv K hK hE hR
  have hab := hv.1
  have hbl := hv.2.1
  simp only at hab hbl
  by_cases h : a < b
  · obtain ⟨y, hx⟩ := get_ex (show (a + b) / 2 < l.length by omega)
    have hlt : ((a : Int) < (b : Int)) := by omega
    have hm : IntKind.i64.wrap ((IntKind.u64.wrap (IntKind.i64.wrap ((a : Int) + b))).fdiv (2 ^ min 1 64)) = (((a + b) / 2 : Nat) : Int) := by
      have h1 : IntKind.i64.wrap ((a : Int) + b) = ((a + b : Nat) : Int) := by rw [wrap_ok (by omega)]; omega
      rw [h1, wrap_u64 (by omega) (by omega), show (2 : Int) ^ min 1 64 = 2 from rfl, show ((a + b : Nat) : Int).fdiv 2 = (((a + b) / 2 : Nat) : Int) by rw [Int.fdiv_eq_ediv_of_nonneg _ (by omega)]; omega, wrap_ok (by omega)]
    have hw : IntKind.i64.wrap ((((a + b) / 2 : Nat) : Int) + 1) = (((a + b) / 2 + 1 : Nat) : Int) := by rw [wrap_ok (by omega)]; omega
    simp only [go_sem, Int.reduceToNat, Int.reduceLE, Int.reduceLT, Nat.reduceBEq, Nat.reduceLT, Nat.reduceAdd, Nat.reduceLeDiff, hlt, hm, hx, Ahl.encI]
    refine (cLess_spec y x σ).is ?_
    by_cases hy : y < x
    · simp only [go_sem, Int.reduceToNat, Int.reduceLE, Int.reduceLT, Nat.reduceBEq, Nat.reduceLT, Nat.reduceAdd, Nat.reduceLeDiff, hy]
      refine hK _ _ (((a + b) / 2 + 1, b)) (bs_lo hs hv hx (by omega) (by omega) hy) (by first | omega | (simp only []; omega) | (simp; omega)) ?_; (try dsimp only); (try simp only [ hw]); first | exact ghk | exact ghk0
    · simp only [go_sem, Int.reduceToNat, Int.reduceLE, Int.reduceLT, Nat.reduceBEq, Nat.reduceLT, Nat.reduceAdd, Nat.reduceLeDiff, hy]
      refine hK _ _ ((a, (a + b) / 2)) (bs_hi hs hv hx (by omega) (by omega) hy) (by first | omega | (simp only []; omega) | (simp; omega)) ?_; (try dsimp only); (try simp only [ hw]); first | exact ghk | exact ghk0
  · have hlt : ¬ ((a : Int) < (b : Int)) := by omega
    obtain rfl : a = b := by omega
    by_cases hb : a < l.length
    · obtain ⟨y, hx⟩ := get_ex hb
      have hb' : ((a : Int) < (l.length : Int)) := by omega
      have hc := bs_end hs hv hx
      by_cases hy : y = x
      · have hy' : (y == x) = true := by simpa using hy
        simp only [go_sem, Int.reduceToNat, Int.reduceLE, Int.reduceLT, Nat.reduceBEq, Nat.reduceLT, Nat.reduceAdd, Nat.reduceLeDiff, hlt, hE, hb', hx, Ahl.encI, hy']
        first | exact rtl (.any) (.bool true) ⟨by rw [hc, decide_eq_true hy], rfl⟩ | exact rtl0 (.any) (.bool true) ⟨by rw [hc, decide_eq_true hy], rfl⟩
      · have hy' : (y == x) = false := by simpa using hy
        simp only [go_sem, Int.reduceToNat, Int.reduceLE, Int.reduceLT, Nat.reduceBEq, Nat.reduceLT, Nat.reduceAdd, Nat.reduceLeDiff, hlt, hE, hb', hx, Ahl.encI, hy']
        refine (sNaN_spec y σ).is ?_
        simp only [go_sem, Int.reduceToNat, Int.reduceLE, Int.reduceLT, Nat.reduceBEq, Nat.reduceLT, Nat.reduceAdd, Nat.reduceLeDiff]
        first | exact rtl (.any) (.bool false) ⟨by rw [hc, decide_eq_false hy], rfl⟩ | exact rtl0 (.any) (.bool false) ⟨by rw [hc, decide_eq_false hy], rfl⟩
    · obtain rfl : a = l.length := by omega
      simp only [go_sem, Int.reduceToNat, Int.reduceLE, Int.reduceLT, Nat.reduceBEq, Nat.reduceLT, Nat.reduceAdd, Nat.reduceLeDiff, hlt, hE]
      first | exact rtl (.any) (.bool false) ⟨by rw [bs_out hv], rfl⟩ | exact rtl0 (.any) (.bool false) ⟨by rw [bs_out hv], rfl⟩
def c_shas : CCode := .seq (.ops [⟨some 4, .move (.lit (.bool false)), none, []⟩]) (.seq (.ops [⟨some 8, .move (.tmp 0), none, []⟩, ⟨some 9, .move (.tmp 1), none, []⟩, ⟨some 10, .call (.lit (.func 91 [])) [.tmp 8, .tmp 9], none, []⟩, ⟨some 7, .move (.tmp 10), none, []⟩, ⟨some 11, .extract (.tmp 7) 0, none, []⟩, ⟨some 12, .extract (.tmp 7) 1, none, []⟩, ⟨some 5, .move (.tmp 11), none, []⟩, ⟨some 6, .move (.tmp 12), none, []⟩]) (.seq (.ops [⟨some 13, .move (.tmp 6), none, []⟩, ⟨some 4, .move (.tmp 13), none, []⟩]) .ret))
set_option maxRecDepth 20000 in
theorem shas_spec (l : List Int) (x : Int) (tok : Tok) (σ : Store) (hl : l.length ≤ 140737488355328) (hs : l.Pairwise (· < ·)) :
    ACalls Tryz.prog 76 [.slice tok (l.map Ahl.encI), .int .i64 x] σ (isR (.bool (l.contains x)) σ) := by
  refine ACalls.intro (rs := [(.tmp 4)]) (by kernel_rfl) { own := [], ghosts := [] } Tryz.func76 (c := Tryz.f76.body.getD .skip) (by kernel_rfl) (by decide) (by rw [show Tryz.f76.ntmps = 14 by kernel_rfl]; exact Nat.le_of_ble_eq_true rfl) (by kernel_rfl) ?_
  intro hσ hids
  rw [show comp Tryz.prog { own := [], ghosts := [] } (Tryz.f76.body.getD .skip) = c_shas by kernel_rfl, show Tryz.f76.ntmps = 14 by kernel_rfl]
  unfold c_shas
  simp only [go_sem, Int.reduceToNat, Int.reduceLE, Int.reduceLT, Nat.reduceBEq, Nat.reduceLT, Nat.reduceAdd, Nat.reduceLeDiff]
  refine (bsearch_spec l x tok σ hl hs).is ?_
  simp only [go_sem, Int.reduceToNat, Int.reduceLE, Int.reduceLT, Nat.reduceBEq, Nat.reduceLT, Nat.reduceAdd, Nat.reduceLeDiff]
  first | exact rtw (v := .bool _) wkS ⟨rfl, rfl⟩ | exact rtw0 (v := .bool _) wkS ⟨rfl, rfl⟩
def d_sTrue1_0 : List COp := [⟨some 4, .load none (.tmp 1), none, []⟩, ⟨some 5, .faddr 0 (.tmp 2), none, []⟩, ⟨some 6, .load none (.tmp 5), none, [1]⟩, ⟨some 7, .call (.lit (.func 76 [])) [.tmp 4, .tmp 6], none, [0, 2]⟩, ⟨some 8, .faddr 1 (.tmp 2), none, []⟩, ⟨some 9, .load none (.tmp 8), none, [4]⟩, ⟨some 10, .bin .eql .bool (.tmp 7) (.tmp 9), none, [3, 5]⟩, ⟨some 3, .move (.tmp 10), none, [6, 3, 0, 1, 2, 3, 4, 5, 6]⟩]
theorem dr_sTrue1_0 (P : Program) (nt n0 : Nat) (Q : Post) (s : Slots) (σ : Store) : wpc P nt n0 (.draw d_sTrue1_0) Q s σ = aOpsD P nt [⟨some 4, .load none (.tmp 1), none, []⟩, ⟨some 5, .faddr 0 (.tmp 2), none, []⟩, ⟨some 6, .load none (.tmp 5), none, [1]⟩, ⟨some 7, .call (.lit (.func 76 [])) [.tmp 4, .tmp 6], none, [0, 2]⟩, ⟨some 8, .faddr 1 (.tmp 2), none, []⟩, ⟨some 9, .load none (.tmp 8), none, [4]⟩, ⟨some 10, .bin .eql .bool (.tmp 7) (.tmp 9), none, [3, 5]⟩, ⟨some 3, .move (.tmp 10), none, [6, 3, 0, 1, 2, 3, 4, 5, 6]⟩] (Q .normal) s σ := wpc_draw _ (by decide)
def c_sTrue1 : CCode := .seq (.ops [⟨some 2, .box (.tmp 0), none, []⟩, ⟨some 3, .move (.lit (.bool false)), none, []⟩]) (.seq (.draw d_sTrue1_0) .ret)
set_option maxRecDepth 20000 in
theorem sTrue1_spec (s : List Int) (x : FLit) (tok : Tok) (V : Nat) (σ : Store) (hl : s.length ≤ 140737488355328) (hs : s.Pairwise (· < ·)) (hV : σ[V]? = some (.row [.slice tok (s.map Ahl.encI)])) :
    ACalls Tryz.prog 75 [.agg (encLit x), .ptr V 0] σ (isR (.bool (s.contains x.fact == x.neg)) σ) := by
  refine ACalls.intro (rs := [(.tmp 3)]) (by kernel_rfl) { own := [], ghosts := [] } Tryz.func75 (c := Tryz.f75.body.getD .skip) (by kernel_rfl) (by decide) (by rw [show Tryz.f75.ntmps = 11 by kernel_rfl]; exact Nat.le_of_ble_eq_true rfl) (by kernel_rfl) ?_
  intro hσ hids
  rw [show comp Tryz.prog { own := [], ghosts := [] } (Tryz.f75.body.getD .skip) = c_sTrue1 by kernel_rfl, show Tryz.f75.ntmps = 11 by kernel_rfl]
  unfold c_sTrue1
  have hV' : ∀ l, (σ ++ l)[V]? = some (.row [.slice tok (s.map Ahl.encI)]) := fun l => by rw [List.getElem?_append_left (lt_of_get hV)]; exact hV
  simp only [go_sem, Int.reduceToNat, Int.reduceLE, Int.reduceLT, Nat.reduceBEq, Nat.reduceLT, Nat.reduceAdd, Nat.reduceLeDiff, dr_sTrue1_0, encLit, hV']
  refine ⟨_, shas_spec s x.fact tok _ hl hs, ?_⟩
  simp only [go_sem, Int.reduceToNat, Int.reduceLE, Int.reduceLT, Nat.reduceBEq, Nat.reduceLT, Nat.reduceAdd, Nat.reduceLeDiff, dr_sTrue1_0, encLit]
  first | exact rtw (v := .bool _) wkS ⟨rfl, rfl⟩ | exact rtw0 (v := .bool _) wkS ⟨rfl, rfl⟩
theorem condHolds_any (s : List Int) (l : List FLit) : (!(l.any fun x => s.contains x.fact == x.neg)) = condHolds s l := by
  unfold condHolds
  induction l with
  | nil => rfl
  | cons x l ih => rw [List.any_cons, List.all_cons, ← ih, Bool.not_or]; rfl
def c_sTrue : CCode := .seq (.ops [⟨some 2, .box (.tmp 0), none, []⟩, ⟨some 4, .move (.lit (.bool false)), none, []⟩]) (.seq (.ops [⟨some 5, .move (.tmp 1), none, []⟩, ⟨some 6, .mkfunc 75 [.tmp 2], none, []⟩, ⟨some 7, .call (.lit (.func 73 [])) [.tmp 5, .tmp 6], none, []⟩, ⟨some 8, .un .not (.tmp 7), none, []⟩, ⟨some 4, .move (.tmp 8), none, []⟩]) .ret)
set_option maxRecDepth 20000 in
theorem sTrue_spec (s : List Int) (l : List FLit) (tok tok' : Tok) (σ : Store) (hl : s.length ≤ 140737488355328) (hs : s.Pairwise (· < ·)) (hll : l.length ≤ 140737488355328) :
    ACalls Tryz.prog 53 [.slice tok (s.map Ahl.encI), .slice tok' (l.map encLit)] σ (isR (.bool (condHolds s l)) σ) := by
  refine ACalls.intro (rs := [(.tmp 4)]) (by kernel_rfl) { own := [], ghosts := [] } Tryz.func53 (c := Tryz.f53.body.getD .skip) (by kernel_rfl) (by decide) (by rw [show Tryz.f53.ntmps = 9 by kernel_rfl]; exact Nat.le_of_ble_eq_true rfl) (by kernel_rfl) ?_
  intro hσ hids
  rw [show comp Tryz.prog { own := [], ghosts := [] } (Tryz.f53.body.getD .skip) = c_sTrue by kernel_rfl, show Tryz.f53.ntmps = 9 by kernel_rfl]
  unfold c_sTrue
  simp only [go_sem, Int.reduceToNat, Int.reduceLE, Int.reduceLT, Nat.reduceBEq, Nat.reduceLT, Nat.reduceAdd, Nat.reduceLeDiff]
  refine (containsFuncL_spec l _ _ (fun x => s.contains x.fact == x.neg) tok' _ hll (fun x _ => sTrue1_spec s x tok _ _ hl hs (by simp))).is ?_
  simp only [go_sem, Int.reduceToNat, Int.reduceLE, Int.reduceLT, Nat.reduceBEq, Nat.reduceLT, Nat.reduceAdd, Nat.reduceLeDiff]
  first | exact rtw (v := .bool _) wkS ⟨by rw [condHolds_any], rfl⟩ | exact rtw0 (v := .bool _) wkS ⟨by rw [condHolds_any], rfl⟩
def c_rTrue1 : CCode := .seq (.ops [⟨some 3, .move (.lit (.bool false)), none, []⟩]) (.seq (.ops [⟨some 4, .load none (.tmp 1), none, []⟩, ⟨some 5, .move (.tmp 0), none, []⟩, ⟨some 6, .call (.lit (.func 53 [])) [.tmp 4, .tmp 5], none, []⟩, ⟨some 3, .move (.tmp 6), none, []⟩]) .ret)
set_option maxRecDepth 20000 in
theorem rTrue1_spec (s : List Int) (l : List FLit) (tok : Tok) (V : Nat) (σ : Store) (hl : s.length ≤ 140737488355328) (hs : s.Pairwise (· < ·)) (hll : l.length ≤ 140737488355328) (hV : σ[V]? = some (.row [.slice tok (s.map Ahl.encI)])) :
    ACalls Tryz.prog 52 [.slice .unk (l.map encLit), .ptr V 0] σ (isR (.bool (condHolds s l)) σ) := by
  refine ACalls.intro (rs := [(.tmp 3)]) (by kernel_rfl) { own := [], ghosts := [] } Tryz.func52 (c := Tryz.f52.body.getD .skip) (by kernel_rfl) (by decide) (by rw [show Tryz.f52.ntmps = 7 by kernel_rfl]; exact Nat.le_of_ble_eq_true rfl) (by kernel_rfl) ?_
  intro hσ hids
  rw [show comp Tryz.prog { own := [], ghosts := [] } (Tryz.f52.body.getD .skip) = c_rTrue1 by kernel_rfl, show Tryz.f52.ntmps = 7 by kernel_rfl]
  unfold c_rTrue1
  simp only [go_sem, Int.reduceToNat, Int.reduceLE, Int.reduceLT, Nat.reduceBEq, Nat.reduceLT, Nat.reduceAdd, Nat.reduceLeDiff, hV]
  refine (sTrue_spec s l tok .unk _ hl hs hll).is ?_
  simp only [go_sem, Int.reduceToNat, Int.reduceLE, Int.reduceLT, Nat.reduceBEq, Nat.reduceLT, Nat.reduceAdd, Nat.reduceLeDiff]
  first | exact rtw (v := .bool _) wkS ⟨rfl, rfl⟩ | exact rtw0 (v := .bool _) wkS ⟨rfl, rfl⟩
def c_rTrue : CCode := .seq (.ops [⟨some 2, .box (.tmp 0), none, []⟩, ⟨some 4, .move (.lit (.bool false)), none, []⟩]) (.seq (.ops [⟨some 5, .move (.tmp 1), none, []⟩, ⟨some 6, .mkfunc 52 [.tmp 2], none, []⟩, ⟨some 7, .call (.lit (.func 49 [])) [.tmp 5, .tmp 6], none, []⟩, ⟨some 4, .move (.tmp 7), none, []⟩]) .ret)
set_option maxRecDepth 20000 in
theorem rTrue_spec (s : List Int) (f : List (List FLit)) (tok tok' : Tok) (σ : Store) (hl : s.length ≤ 140737488355328) (hs : s.Pairwise (· < ·)) (hf : FB f) :
    ACalls Tryz.prog 27 [.slice tok (s.map Ahl.encI), .slice tok' (f.map encC)] σ (isR (.bool (formHolds s f)) σ) := by
  refine ACalls.intro (rs := [(.tmp 4)]) (by kernel_rfl) { own := [], ghosts := [] } Tryz.func27 (c := Tryz.f27.body.getD .skip) (by kernel_rfl) (by decide) (by rw [show Tryz.f27.ntmps = 8 by kernel_rfl]; exact Nat.le_of_ble_eq_true rfl) (by kernel_rfl) ?_
  intro hσ hids
  rw [show comp Tryz.prog { own := [], ghosts := [] } (Tryz.f27.body.getD .skip) = c_rTrue by kernel_rfl, show Tryz.f27.ntmps = 8 by kernel_rfl]
  unfold c_rTrue
  simp only [go_sem, Int.reduceToNat, Int.reduceLE, Int.reduceLT, Nat.reduceBEq, Nat.reduceLT, Nat.reduceAdd, Nat.reduceLeDiff]
  refine (containsFuncC_spec (fun l => .slice .unk (l.map encLit)) f _ [.ptr σ.length 0] (condHolds s) tok' (σ ++ [.row [.slice tok (s.map Ahl.encI)]]) hf.1 (fun l hm => rTrue1_spec s l tok σ.length _ hl hs (hf.2 l hm) (by rw [List.getElem?_append_right (Nat.le_refl _), Nat.sub_self]; rfl))).is ?_
  simp only [go_sem, Int.reduceToNat, Int.reduceLE, Int.reduceLT, Nat.reduceBEq, Nat.reduceLT, Nat.reduceAdd, Nat.reduceLeDiff]
  first | exact rtw (v := .bool _) wkS ⟨rfl, rfl⟩ | exact rtw0 (v := .bool _) wkS ⟨rfl, rfl⟩
/-- The error of a task and a state. -/
def stE (t : FTask) (s : List Int) : Int := if validB t then (if risingB t.facts.length (-1) s then 0 else 20) else 10
def c_sFine : CCode := .seq (.ops [⟨some 2, .box (.tmp 0), none, []⟩, ⟨some 4, .move (.lit (.int .i64 0)), none, []⟩]) (.seq (.seq (.ops [⟨some 5, .load (some 4) (.tmp 2), none, []⟩, ⟨some 6, .call (.lit (.func 35 [])) [.tmp 5], none, []⟩, ⟨some 7, .un .not (.tmp 6), none, []⟩]) (.cond (.tmp 7) (.seq (.ops [⟨some 4, .move (.lit (.int .i64 10)), none, []⟩]) .ret) .skip)) (.seq (.seq (.ops [⟨some 8, .faddr 0 (.tmp 2), none, []⟩, ⟨some 9, .load none (.tmp 8), none, []⟩, ⟨some 10, .blen 1 (.tmp 9), none, []⟩, ⟨some 11, .move (.tmp 1), none, []⟩, ⟨some 12, .call (.lit (.func 48 [])) [.tmp 10, .tmp 11], none, []⟩, ⟨some 13, .un .not (.tmp 12), none, []⟩]) (.cond (.tmp 13) (.seq (.ops [⟨some 4, .move (.lit (.int .i64 20)), none, []⟩]) .ret) .skip)) (.seq (.ops [⟨some 4, .move (.lit (.int .i64 0)), none, []⟩]) .ret)))
set_option maxRecDepth 20000 in
theorem sFine_spec (t : FTask) (s : List Int) (tok : Tok) (σ : Store) (ht : TB t) (hl : s.length ≤ 140737488355328) :
    ACalls Tryz.prog 25 [.agg (encTask t), .slice tok (s.map Ahl.encI)] σ (isR (.int .i64 (stE t s)) σ) := by
  refine ACalls.intro (rs := [(.tmp 4)]) (by kernel_rfl) { own := [], ghosts := [] } Tryz.func25 (c := Tryz.f25.body.getD .skip) (by kernel_rfl) (by decide) (by rw [show Tryz.f25.ntmps = 14 by kernel_rfl]; exact Nat.le_of_ble_eq_true rfl) (by kernel_rfl) ?_
  intro hσ hids
  rw [show comp Tryz.prog { own := [], ghosts := [] } (Tryz.f25.body.getD .skip) = c_sFine by kernel_rfl, show Tryz.f25.ntmps = 14 by kernel_rfl]
  unfold c_sFine
  simp only [go_sem, Int.reduceToNat, Int.reduceLE, Int.reduceLT, Nat.reduceBEq, Nat.reduceLT, Nat.reduceAdd, Nat.reduceLeDiff, encTask]
  refine (valid_spec t _ ht).is ?_
  cases h1 : validB t
  · simp only [go_sem, Int.reduceToNat, Int.reduceLE, Int.reduceLT, Nat.reduceBEq, Nat.reduceLT, Nat.reduceAdd, Nat.reduceLeDiff]
    first | exact rtk (.int .i64 10) ⟨by rw [stE, h1]; rfl, rfl⟩ | exact rtk0 (.int .i64 10) ⟨by rw [stE, h1]; rfl, rfl⟩
  simp only [go_sem, Int.reduceToNat, Int.reduceLE, Int.reduceLT, Nat.reduceBEq, Nat.reduceLT, Nat.reduceAdd, Nat.reduceLeDiff, encTask]
  refine (rising_spec s t.facts.length tok _ hl).is ?_
  cases h2 : risingB t.facts.length (-1) s
  · simp only [go_sem, Int.reduceToNat, Int.reduceLE, Int.reduceLT, Nat.reduceBEq, Nat.reduceLT, Nat.reduceAdd, Nat.reduceLeDiff]
    first | exact rtk (.int .i64 20) ⟨by rw [stE, h1, h2]; rfl, rfl⟩ | exact rtk0 (.int .i64 20) ⟨by rw [stE, h1, h2]; rfl, rfl⟩
  simp only [go_sem, Int.reduceToNat, Int.reduceLE, Int.reduceLT, Nat.reduceBEq, Nat.reduceLT, Nat.reduceAdd, Nat.reduceLeDiff]
  first | exact rtk (.int .i64 0) ⟨by rw [stE, h1, h2]; rfl, rfl⟩ | exact rtk0 (.int .i64 0) ⟨by rw [stE, h1, h2]; rfl, rfl⟩
/-- Whether a formula holds, and the error. -/
def rhR (t : FTask) (s : List Int) (f : List (List FLit)) : AV :=
  if stE t s = 0 then (if isForm t.facts.length f then .tuple [.bool (formHolds s f), .int .i64 0] else .tuple [.bool false, .int .i64 70]) else .tuple [.bool false, .int .i64 (stE t s)]
def c_rHolds : CCode := .seq (.ops [⟨some 3, .box (.tmp 0), none, []⟩, ⟨some 6, .move (.lit (.bool false)), none, []⟩, ⟨some 7, .move (.lit (.int .i64 0)), none, []⟩]) (.seq (.seq (.ops [⟨some 9, .load (some 4) (.tmp 3), none, []⟩, ⟨some 10, .move (.tmp 1), none, []⟩, ⟨some 11, .call (.lit (.func 25 [])) [.tmp 9, .tmp 10], none, []⟩, ⟨some 8, .move (.tmp 11), none, []⟩]) (.seq (.ops [⟨some 12, .move (.tmp 8), none, []⟩, ⟨some 13, .bin .neq .none (.tmp 12) (.lit (.int .i64 0)), none, []⟩]) (.cond (.tmp 13) (.seq (.ops [⟨some 14, .move (.tmp 8), none, []⟩, ⟨some 6, .move (.lit (.bool false)), none, []⟩, ⟨some 7, .move (.tmp 14), none, []⟩]) .ret) .skip))) (.seq (.seq (.ops [⟨some 15, .load (some 4) (.tmp 3), none, []⟩, ⟨some 16, .move (.tmp 2), none, []⟩, ⟨some 17, .call (.lit (.func 26 [])) [.tmp 15, .tmp 16], none, []⟩, ⟨some 18, .un .not (.tmp 17), none, []⟩]) (.cond (.tmp 18) (.seq (.ops [⟨some 6, .move (.lit (.bool false)), none, []⟩, ⟨some 7, .move (.lit (.int .i64 70)), none, []⟩]) .ret) .skip)) (.seq (.ops [⟨some 19, .move (.tmp 1), none, []⟩, ⟨some 20, .move (.tmp 2), none, []⟩, ⟨some 21, .call (.lit (.func 27 [])) [.tmp 19, .tmp 20], none, []⟩, ⟨some 6, .move (.tmp 21), none, []⟩, ⟨some 7, .move (.lit (.int .i64 0)), none, []⟩]) .ret)))
set_option maxRecDepth 20000 in
theorem rHolds_spec (t : FTask) (s : List Int) (f : List (List FLit)) (tok tok' : Tok) (σ : Store) (ht : TB t) (hl : s.length ≤ 140737488355328) (hf : FB f) :
    ACalls Tryz.prog 7 [.agg (encTask t), .slice tok (s.map Ahl.encI), .slice tok' (f.map encC)] σ (isR (rhR t s f) σ) := by
  refine ACalls.intro (rs := [(.tmp 6), (.tmp 7)]) (by kernel_rfl) { own := [], ghosts := [] } Tryz.func7 (c := Tryz.f7.body.getD .skip) (by kernel_rfl) (by decide) (by rw [show Tryz.f7.ntmps = 22 by kernel_rfl]; exact Nat.le_of_ble_eq_true rfl) (by kernel_rfl) ?_
  intro hσ hids
  rw [show comp Tryz.prog { own := [], ghosts := [] } (Tryz.f7.body.getD .skip) = c_rHolds by kernel_rfl, show Tryz.f7.ntmps = 22 by kernel_rfl]
  unfold c_rHolds
  simp only [go_sem, Int.reduceToNat, Int.reduceLE, Int.reduceLT, Nat.reduceBEq, Nat.reduceLT, Nat.reduceAdd, Nat.reduceLeDiff, encTask]
  refine (sFine_spec t s tok _ ht hl).is ?_
  by_cases h1 : stE t s = 0
  · rw [h1]
    simp only [go_sem, Int.reduceToNat, Int.reduceLE, Int.reduceLT, Nat.reduceBEq, Nat.reduceLT, Nat.reduceAdd, Nat.reduceLeDiff, encTask]
    refine (formula_spec t f tok' _ hf.1 hf.2).is ?_
    have hr : risingB t.facts.length (-1) s = true := by
      unfold stE at h1
      split at h1
      · split at h1
        · assumption
        · simp at h1
      · simp at h1
    cases h2 : isForm t.facts.length f
    · simp only [go_sem, Int.reduceToNat, Int.reduceLE, Int.reduceLT, Nat.reduceBEq, Nat.reduceLT, Nat.reduceAdd, Nat.reduceLeDiff]
      first | exact rtl (.bool false) (.int .i64 70) ⟨by rw [rhR, if_pos h1, h2]; rfl, rfl⟩ | exact rtl0 (.bool false) (.int .i64 70) ⟨by rw [rhR, if_pos h1, h2]; rfl, rfl⟩
    · simp only [go_sem, Int.reduceToNat, Int.reduceLE, Int.reduceLT, Nat.reduceBEq, Nat.reduceLT, Nat.reduceAdd, Nat.reduceLeDiff]
      refine (rTrue_spec s f tok tok' _ hl (rising_pw hr).1 hf).is ?_
      simp only [go_sem, Int.reduceToNat, Int.reduceLE, Int.reduceLT, Nat.reduceBEq, Nat.reduceLT, Nat.reduceAdd, Nat.reduceLeDiff]
      first | exact rtx (v := .bool _) (x := .int .i64 0) wkS wkS ⟨by rw [rhR, if_pos h1, h2, if_pos rfl], rfl⟩ | exact rtx0 (v := .bool _) (x := .int .i64 0) wkS wkS ⟨by rw [rhR, if_pos h1, h2, if_pos rfl], rfl⟩
  · have h1' : (stE t s != 0) = true := by simpa using h1
    simp only [go_sem, Int.reduceToNat, Int.reduceLE, Int.reduceLT, Nat.reduceBEq, Nat.reduceLT, Nat.reduceAdd, Nat.reduceLeDiff, h1']
    first | exact rtl (.bool false) (.int .i64 (stE t s)) ⟨by rw [rhR, if_neg h1], rfl⟩ | exact rtl0 (.bool false) (.int .i64 (stE t s)) ⟨by rw [rhR, if_neg h1], rfl⟩
end Go.Proofs.YtbnhijapbnfohaaGreat
namespace Go.Proofs
open Go.Shelf Go.RowKit Go.Lib Go.Sort
def YtbnhijapbnfohaaGreat.laysSI_ren : Go.Shelf.Ren := ⟨fun | 53 => 110 | 64 => 78 | 63 => 119 | 78 => 100 | 79 => 101 | 70 => 122 | 71 => 123 | 72 => 124 | 73 => 125 | 74 => 126 | 75 => 127 | 59 => 111 | 76 => 128 | 77 => 129 | 88 => 130 | 89 => 114 | 90 => 115 | 91 => 131 | 92 => 132 | 68 => 120 | 96 => 133 | n => n, fun | 22 => 23 | 23 => 3 | 3 => 3 | 51 => 104 | 0 => 0 | 67 => 125 | 69 => 127 | 4 => 4 | 61 => 119 | 60 => 118 | 44 => 115 | 5 => 5 | 9 => 9 | 75 => 135 | 79 => 139 | 83 => 142 | 84 => 143 | n => n, fun | n => n⟩
theorem YtbnhijapbnfohaaGreat.laysSI : Go.Proofs.SlLaysN.n53 Tryz.prog YtbnhijapbnfohaaGreat.laysSI_ren := {
  mixed := by kernel_rfl
  f53 := ⟨Tryz.f110.name, by decide, Tryz.func110.trans (congrArg some (by kernel_rfl))⟩
  f59 := ⟨Tryz.f111.name, by decide, Tryz.func111.trans (congrArg some (by kernel_rfl))⟩
  f63 := ⟨Tryz.f119.name, by decide, Tryz.func119.trans (congrArg some (by kernel_rfl))⟩
  f64 := Tryz.func78.trans (congrArg some (by kernel_rfl))
  f68 := ⟨Tryz.f120.name, by decide, Tryz.func120.trans (congrArg some (by kernel_rfl))⟩
  f70 := ⟨Tryz.f122.name, by decide, Tryz.func122.trans (congrArg some (by kernel_rfl))⟩
  f71 := ⟨Tryz.f123.name, by decide, Tryz.func123.trans (congrArg some (by kernel_rfl))⟩
  f72 := ⟨Tryz.f124.name, by decide, Tryz.func124.trans (congrArg some (by kernel_rfl))⟩
  f73 := ⟨Tryz.f125.name, by decide, Tryz.func125.trans (congrArg some (by kernel_rfl))⟩
  f74 := ⟨Tryz.f126.name, by decide, Tryz.func126.trans (congrArg some (by kernel_rfl))⟩
  f75 := ⟨Tryz.f127.name, by decide, Tryz.func127.trans (congrArg some (by kernel_rfl))⟩
  f76 := ⟨Tryz.f128.name, by decide, Tryz.func128.trans (congrArg some (by kernel_rfl))⟩
  f77 := ⟨Tryz.f129.name, by decide, Tryz.func129.trans (congrArg some (by kernel_rfl))⟩
  f78 := Tryz.func100.trans (congrArg some (by kernel_rfl))
  f79 := Tryz.func101.trans (congrArg some (by kernel_rfl))
  f88 := ⟨Tryz.f130.name, by decide, Tryz.func130.trans (congrArg some (by kernel_rfl))⟩
  f89 := Tryz.func114.trans (congrArg some (by kernel_rfl))
  f90 := Tryz.func115.trans (congrArg some (by kernel_rfl))
  f91 := ⟨Tryz.f131.name, by decide, Tryz.func131.trans (congrArg some (by kernel_rfl))⟩
  f92 := ⟨Tryz.f132.name, by decide, Tryz.func132.trans (congrArg some (by kernel_rfl))⟩
  f96 := ⟨Tryz.f133.name, by decide, Tryz.func133.trans (congrArg some (by kernel_rfl))⟩
  t0 := Tryz.underlying0
  a0 := Tryz.isAgg0
  z0 := Tryz.sizeOf0
  v0 := Tryz.zeroValue0
  t3 := Tryz.underlying3
  a3 := Tryz.isAgg3
  z3 := Tryz.sizeOf3
  v3 := Tryz.zeroValue3
  t4 := Tryz.underlying4
  a4 := Tryz.isAgg4
  z4 := Tryz.sizeOf4
  v4 := Tryz.zeroValue4
  t5 := Tryz.underlying5
  a5 := Tryz.isAgg5
  z5 := Tryz.sizeOf5
  v5 := Tryz.zeroValue5
  t9 := Tryz.underlying9
  a9 := Tryz.isAgg9
  z9 := Tryz.sizeOf9
  v9 := Tryz.zeroValue9
  t22 := Tryz.underlying23
  a22 := Tryz.isAgg23
  z22 := Tryz.sizeOf23
  v22 := Tryz.zeroValue23
  t23 := Tryz.underlying3
  a23 := Tryz.isAgg3
  z23 := Tryz.sizeOf3
  v23 := Tryz.zeroValue3
  t44 := Tryz.underlying115
  a44 := Tryz.isAgg115
  z44 := Tryz.sizeOf115
  v44 := Tryz.zeroValue115
  t51 := Tryz.underlying104
  a51 := Tryz.isAgg104
  z51 := Tryz.sizeOf104
  v51 := Tryz.zeroValue104
  t60 := Tryz.underlying118
  a60 := Tryz.isAgg118
  z60 := Tryz.sizeOf118
  v60 := Tryz.zeroValue118
  t61 := Tryz.underlying119
  a61 := Tryz.isAgg119
  z61 := Tryz.sizeOf119
  v61 := Tryz.zeroValue119
  t67 := Tryz.underlying125
  a67 := Tryz.isAgg125
  z67 := Tryz.sizeOf125
  v67 := Tryz.zeroValue125
  t69 := Tryz.underlying127
  a69 := Tryz.isAgg127
  z69 := Tryz.sizeOf127
  v69 := Tryz.zeroValue127
  t75 := Tryz.underlying135
  a75 := Tryz.isAgg135
  z75 := Tryz.sizeOf135
  v75 := Tryz.zeroValue135
  t79 := Tryz.underlying139
  a79 := Tryz.isAgg139
  z79 := Tryz.sizeOf139
  v79 := Tryz.zeroValue139
  t83 := Tryz.underlying142
  a83 := Tryz.isAgg142
  z83 := Tryz.sizeOf142
  v83 := Tryz.zeroValue142
  t84 := Tryz.underlying143
  a84 := Tryz.isAgg143
  z84 := Tryz.sizeOf143
  v84 := Tryz.zeroValue143 }
end Go.Proofs
namespace Go.Proofs.YtbnhijapbnfohaaGreat
open Go.Ahl
set_option maxRecDepth 20000 in
theorem sortI_spec (id : Nat) (l : List Int) (σ : Store) (hσ : σ[id]? = some (.row (l.map ai))) (hlen : l.length < 4611686018427387904) :
    ACalls Tryz.prog 110 [.ref id 1 0 l.length] σ fun r σ' => r = .tuple [] ∧ σ' = σ.set id (.row ((Ahl.sortI l).map ai)) :=
  sortInts laysSI (fn := Tryz.f110) Tryz.func110 (by kernel_rfl) (by decide) id l σ hσ hlen
/-- The facts that effects make true, each once; and those that they make false. -/
def addOf (s : List Int) (es : List FEff) : List Int := es.foldl (fun l e => if condHolds s e.when_ && !e.lit.neg then insI l e.lit.fact else l) []
def dropOf (s : List Int) (es : List FEff) : List Int := es.foldl (fun l e => if condHolds s e.when_ && e.lit.neg then insI l e.lit.fact else l) []
theorem addOf_app (s : List Int) (es : List FEff) (e : FEff) : addOf s (es ++ [e]) = if condHolds s e.when_ && !e.lit.neg then insI (addOf s es) e.lit.fact else addOf s es := by unfold addOf; rw [List.foldl_append]; rfl
theorem dropOf_app (s : List Int) (es : List FEff) (e : FEff) : dropOf s (es ++ [e]) = if condHolds s e.when_ && e.lit.neg then insI (dropOf s es) e.lit.fact else dropOf s es := by unfold dropOf; rw [List.foldl_append]; rfl
/-- What stays of a state. -/
def stayS (s : List Int) (es : List FEff) (x : Int) : Bool := !((dropOf s es).contains x) || (addOf s es).contains x
def afterS (s : List Int) (es : List FEff) : List Int := Ahl.sortI (s.filter (stayS s es) ++ (addOf s es).filter fun x => !(s.contains x))
theorem addOf_len (s : List Int) : ∀ es : List FEff, (addOf s es).length ≤ es.length := by
  intro es
  suffices h : ∀ (es : List FEff) (l : List Int), (es.foldl (fun l e => if condHolds s e.when_ && !e.lit.neg then insI l e.lit.fact else l) l).length ≤ l.length + es.length by
    have := h es []; simpa [addOf] using this
  intro es
  induction es with
  | nil => intro l; simp
  | cons e es ih =>
    intro l
    rw [List.foldl_cons]
    refine Nat.le_trans (ih _) ?_
    split
    · unfold insI; split
      · simp
      · simp only [List.length_append, List.length_cons, List.length_nil]; omega
    · simp
def c_sAfter : CCode := .seq (.ops [⟨some 3, .box (.tmp 1), none, []⟩, ⟨some 4, .move (.lit (.slice .nil [])), none, []⟩]) (.seq (.ops [⟨some 13, .mkmap, none, []⟩, ⟨some 14, .mkmap, none, []⟩, ⟨some 5, .move (.tmp 13), none, []⟩, ⟨some 6, .move (.tmp 14), none, []⟩]) (.seq (.seq (.ops [⟨some 15, .faddr 3 (.tmp 3), none, []⟩, ⟨some 16, .load none (.tmp 15), none, []⟩, ⟨some 17, .blen 1 (.tmp 16), none, []⟩, ⟨some 18, .move (.lit (.int .i64 0)), none, []⟩]) (.block 0 (.loop (.seq (.ops [⟨some 19, .bin .lss .none (.tmp 18) (.tmp 17), none, []⟩]) (.seq (.cond (.tmp 19) .skip (.exit 0)) (.seq (.block 1 (.seq (.ops [⟨some 20, .iaddr 3 (.tmp 16) (.tmp 18), none, []⟩, ⟨some 21, .load (some 3) (.tmp 20), none, []⟩, ⟨some 8, .alloc (.agg [.slice .nil [], .int .i64 0, .bool false]), none, []⟩, ⟨none, .store 3 (.tmp 8) (.tmp 21), none, []⟩]) (.seq (.ops [⟨some 22, .move (.tmp 0), none, []⟩, ⟨some 23, .faddr 0 (.tmp 8), none, []⟩, ⟨some 24, .load none (.tmp 23), none, []⟩, ⟨some 25, .call (.lit (.func 53 [])) [.tmp 22, .tmp 24], none, []⟩]) (.cond (.tmp 25) (.seq (.ops [⟨some 26, .faddr 1 (.tmp 8), none, []⟩, ⟨some 27, .faddr 1 (.tmp 26), none, []⟩, ⟨some 28, .load none (.tmp 27), none, []⟩]) (.cond (.tmp 28) (.ops [⟨some 29, .move (.tmp 6), none, []⟩, ⟨some 30, .faddr 1 (.tmp 8), none, []⟩, ⟨some 31, .faddr 0 (.tmp 30), none, []⟩, ⟨some 32, .load none (.tmp 31), none, []⟩, ⟨none, .mapup false (.tmp 29) (.tmp 32) (.lit (.bool true)), none, []⟩]) (.ops [⟨some 33, .move (.tmp 5), none, []⟩, ⟨some 34, .faddr 1 (.tmp 8), none, []⟩, ⟨some 35, .faddr 0 (.tmp 34), none, []⟩, ⟨some 36, .load none (.tmp 35), none, []⟩, ⟨none, .mapup false (.tmp 33) (.tmp 36) (.lit (.bool true)), none, []⟩]))) .skip)))) (.ops [⟨some 37, .bin .add .none (.tmp 18) (.lit (.int .i64 1)), none, []⟩, ⟨some 18, .move (.tmp 37), none, []⟩]))))))) (.seq (.ops [⟨some 9, .move (.lit (.slice .nil [])), none, []⟩]) (.seq (.seq (.ops [⟨some 38, .move (.tmp 0), none, []⟩, ⟨some 39, .blen 1 (.tmp 38), none, []⟩, ⟨some 40, .move (.lit (.int .i64 0)), none, []⟩]) (.block 2 (.loop (.seq (.ops [⟨some 41, .bin .lss .none (.tmp 40) (.tmp 39), none, []⟩]) (.seq (.cond (.tmp 41) .skip (.exit 2)) (.seq (.block 3 (.seq (.ops [⟨some 42, .iaddr 1 (.tmp 38) (.tmp 40), none, []⟩, ⟨some 43, .load none (.tmp 42), none, []⟩, ⟨some 11, .move (.tmp 43), none, []⟩]) (.seq (.ops [⟨some 44, .move (.tmp 6), none, []⟩, ⟨some 45, .move (.tmp 11), none, []⟩, ⟨some 46, .lookup false (.bool false) (.tmp 44) (.tmp 45) false, none, []⟩, ⟨some 47, .un .not (.tmp 46), none, []⟩, ⟨some 48, .move (.tmp 47), none, []⟩, ⟨some 49, .move (.tmp 5), some (some 48, false), []⟩, ⟨some 50, .move (.tmp 11), some (some 48, false), []⟩, ⟨some 51, .lookup false (.bool false) (.tmp 49) (.tmp 50) false, some (some 48, false), []⟩, ⟨some 52, .pick (.tmp 48) (.lit (.bool true)) (.tmp 51), none, []⟩]) (.cond (.tmp 52) (.ops [⟨some 53, .move (.tmp 9), none, []⟩, ⟨some 54, .move (.tmp 11), none, []⟩, ⟨some 55, .bslice 1 [.tmp 54] false, none, []⟩, ⟨some 56, .bappend 1 8 (.tmp 53) (.tmp 55) false, none, []⟩, ⟨some 9, .move (.tmp 56), none, []⟩]) .skip)))) (.ops [⟨some 57, .bin .add .none (.tmp 40) (.lit (.int .i64 1)), none, []⟩, ⟨some 40, .move (.tmp 57), none, []⟩]))))))) (.seq (.seq (.ops [⟨some 58, .move (.tmp 5), none, []⟩, ⟨some 59, .rng (.tmp 58), none, []⟩]) (.block 4 (.loop (.seq (.ops [⟨some 60, .nxt (.tmp 59), none, []⟩, ⟨some 61, .extract (.tmp 60) 0, none, []⟩]) (.seq (.cond (.tmp 61) .skip (.exit 4)) (.block 5 (.seq (.ops [⟨some 62, .ent (.tmp 59), none, []⟩, ⟨some 63, .extract (.tmp 62) 0, none, []⟩, ⟨some 12, .move (.tmp 63), none, []⟩]) (.seq (.ops [⟨some 64, .move (.tmp 0), none, []⟩, ⟨some 65, .move (.tmp 12), none, []⟩, ⟨some 66, .call (.lit (.func 76 [])) [.tmp 64, .tmp 65], none, []⟩, ⟨some 67, .un .not (.tmp 66), none, []⟩]) (.cond (.tmp 67) (.ops [⟨some 68, .move (.tmp 9), none, []⟩, ⟨some 69, .move (.tmp 12), none, []⟩, ⟨some 70, .bslice 1 [.tmp 69] false, none, []⟩, ⟨some 71, .bappend 1 8 (.tmp 68) (.tmp 70) false, none, []⟩, ⟨some 9, .move (.tmp 71), none, []⟩]) .skip))))))))) (.seq (.ops [⟨some 72, .move (.tmp 9), none, []⟩, ⟨some 73, .call (.lit (.func 110 [])) [.tmp 72], none, []⟩]) (.seq (.ops [⟨some 74, .move (.tmp 9), none, []⟩, ⟨some 4, .move (.tmp 74), none, []⟩]) .ret)))))))
set_option maxRecDepth 20000 in
set_option maxHeartbeats 2000000 in
theorem sAfter_spec (s : List Int) (a : FAct) (tok : Tok) (σ : Store) (hl : s.length ≤ 1000000) (hs : s.Pairwise (· < ·)) (he : a.effects.length ≤ 1000000) (hwh : ∀ e ∈ a.effects, e.when_.length ≤ 140737488355328) :
    ACalls Tryz.prog 89 [.slice tok (s.map Ahl.encI), .agg (encA a)] σ (isR (.slice .unk ((afterS s a.effects).map Ahl.encI)) σ) := by
  refine ACalls.intro (rs := [(.tmp 4)]) (by kernel_rfl) { own := [], ghosts := [] } Tryz.func89 (c := Tryz.f89.body.getD .skip) (by kernel_rfl) (by decide) (by rw [show Tryz.f89.ntmps = 75 by kernel_rfl]; exact Nat.le_of_ble_eq_true rfl) (by kernel_rfl) ?_
  intro hσ hids
  rw [show comp Tryz.prog { own := [], ghosts := [] } (Tryz.f89.body.getD .skip) = c_sAfter by kernel_rfl, show Tryz.f89.ntmps = 75 by kernel_rfl]
  unfold c_sAfter
  have hil : Ids σ.length (.slice tok (s.map Ahl.encI)) := hids _ (by simp)
  have hS1 : ∀ x y, IdsS (σ ++ [AObj.row (encA a), .map (encSI x), .map (encSI y)]).length (σ ++ [AObj.row (encA a), .map (encSI x), .map (encSI y)]) := fun x y => idsS_app _ hσ (all_cons' (idsO_row (ids_encA a)) (all_cons' (ids_encSI _) (all_cons' (ids_encSI _) all_nil')))
  simp only [go_sem, Int.reduceToNat, Int.reduceLE, Int.reduceLT, Nat.reduceBEq, Nat.reduceLT, Nat.reduceAdd, Nat.reduceLeDiff, encA]
  refine wpc_while (fun i => [(0, .slice tok (s.map Ahl.encI)), (5, .map (σ.length + 1)), (6, .map (σ.length + 2)), (16, .slice .unk (a.effects.map encE)), (17, .int .i64 a.effects.length), (18, .int .i64 (i : Nat))])
    (fun i => σ ++ [.row (encA a), .map (encSI (addOf s (a.effects.take i))), .map (encSI (dropOf s (a.effects.take i)))])
    (fun i => i ≤ a.effects.length) (fun i => a.effects.length - i) 0 (Nat.zero_le _) (by (try dsimp only); first | exact ghL (hS1 [] []) | exact ghL0 (hS1 [] [])) ?_
  rintro i hi K hK hE hR
  by_cases h : i < a.effects.length
  · obtain ⟨y, hx⟩ := get_ex h; have hlt : ((i : Int) < (a.effects.length : Int)) := (by omega); have hw : IntKind.i64.wrap ((i : Int) + 1) = ((i + 1 : Nat) : Int) := (by rw [wrap_ok (by omega)]; omega)
    simp only [go_sem, Int.reduceToNat, Int.reduceLE, Int.reduceLT, Nat.reduceBEq, Nat.reduceLT, Nat.reduceAdd, Nat.reduceLeDiff, hlt, hx, encE]
    refine (sTrue_spec s y.when_ tok .unk _ (by omega) hs (hwh y (List.mem_of_getElem? hx))).is ?_
    cases h1 : condHolds s y.when_
    · simp only [go_sem, Int.reduceToNat, Int.reduceLE, Int.reduceLT, Nat.reduceBEq, Nat.reduceLT, Nat.reduceAdd, Nat.reduceLeDiff]
      have e1 : addOf s (a.effects.take (i + 1)) = addOf s (a.effects.take i) := by rw [take_succ' hx, addOf_app, h1]; rfl
      have e2 : dropOf s (a.effects.take (i + 1)) = dropOf s (a.effects.take i) := by rw [take_succ' hx, dropOf_app, h1]; rfl
      rw [← e1, ← e2]
      refine hK _ _ (i + 1) (by omega) (by first | omega | (simp only []; omega) | (simp; omega)) ?_; (try dsimp only); (try simp only [ hw]); first | exact ghL (hS1 _ _) | exact ghL0 (hS1 _ _)
    · have h1t := h1
      cases hn : y.lit.neg
      · have e2 : dropOf s (a.effects.take (i + 1)) = dropOf s (a.effects.take i) := by rw [take_succ' hx, dropOf_app, h1, hn]; rfl
        rw [← e2]
        cases hc : (addOf s (a.effects.take i)).contains y.lit.fact
        · have hj := findI_out _ _ 0 hc
          have e1 : addOf s (a.effects.take (i + 1)) = addOf s (a.effects.take i) ++ [y.lit.fact] := by rw [take_succ' hx, addOf_app, h1, hn]; simp only [Bool.not_false, Bool.and_self, if_true, insI, hc, Bool.false_eq_true, if_false]
          simp only [go_sem, Int.reduceToNat, Int.reduceLE, Int.reduceLT, Nat.reduceBEq, Nat.reduceLT, Nat.reduceAdd, Nat.reduceLeDiff, encE, hn, hj, encSI_app, ← e1]
          refine hK _ _ (i + 1) (by omega) (by first | omega | (simp only []; omega) | (simp; omega)) ?_; (try dsimp only); (try simp only [ hw]); first | exact ghL (hS1 _ _) | exact ghL0 (hS1 _ _)
        · obtain ⟨j, hj, hjx⟩ := findI_in _ _ 0 hc
          have e1 : addOf s (a.effects.take (i + 1)) = addOf s (a.effects.take i) := by rw [take_succ' hx, addOf_app, h1, hn]; simp only [Bool.not_false, Bool.and_self, if_true, insI, hc]
          simp only [go_sem, Int.reduceToNat, Int.reduceLE, Int.reduceLT, Nat.reduceBEq, Nat.reduceLT, Nat.reduceAdd, Nat.reduceLeDiff, encE, hn, hj, Nat.zero_add, encSI_set hjx]
          rw [← e1]
          refine hK _ _ (i + 1) (by omega) (by first | omega | (simp only []; omega) | (simp; omega)) ?_; (try dsimp only); (try simp only [ hw]); first | exact ghL (hS1 _ _) | exact ghL0 (hS1 _ _)
      · have e1 : addOf s (a.effects.take (i + 1)) = addOf s (a.effects.take i) := by rw [take_succ' hx, addOf_app, h1, hn]; rfl
        rw [← e1]
        cases hc : (dropOf s (a.effects.take i)).contains y.lit.fact
        · have hj := findI_out _ _ 0 hc
          have e2 : dropOf s (a.effects.take (i + 1)) = dropOf s (a.effects.take i) ++ [y.lit.fact] := by rw [take_succ' hx, dropOf_app, h1, hn]; simp only [Bool.and_self, if_true, insI, hc, Bool.false_eq_true, if_false]
          simp only [go_sem, Int.reduceToNat, Int.reduceLE, Int.reduceLT, Nat.reduceBEq, Nat.reduceLT, Nat.reduceAdd, Nat.reduceLeDiff, encE, hn, hj, encSI_app, ← e2]
          refine hK _ _ (i + 1) (by omega) (by first | omega | (simp only []; omega) | (simp; omega)) ?_; (try dsimp only); (try simp only [ hw]); first | exact ghL (hS1 _ _) | exact ghL0 (hS1 _ _)
        · obtain ⟨j, hj, hjx⟩ := findI_in _ _ 0 hc
          have e2 : dropOf s (a.effects.take (i + 1)) = dropOf s (a.effects.take i) := by rw [take_succ' hx, dropOf_app, h1, hn]; simp only [Bool.and_self, if_true, insI, hc]
          simp only [go_sem, Int.reduceToNat, Int.reduceLE, Int.reduceLT, Nat.reduceBEq, Nat.reduceLT, Nat.reduceAdd, Nat.reduceLeDiff, encE, hn, hj, Nat.zero_add, encSI_set hjx]
          rw [← e2]
          refine hK _ _ (i + 1) (by omega) (by first | omega | (simp only []; omega) | (simp; omega)) ?_; (try dsimp only); (try simp only [ hw]); first | exact ghL (hS1 _ _) | exact ghL0 (hS1 _ _)
  · have hlt : ¬ ((i : Int) < (a.effects.length : Int)) := by omega
    rw [List.take_of_length_le (by omega : a.effects.length ≤ i)]
    simp only [go_sem, Int.reduceToNat, Int.reduceLE, Int.reduceLT, Nat.reduceBEq, Nat.reduceLT, Nat.reduceAdd, Nat.reduceLeDiff, hlt, hE]
    clear hK hE hR
    obtain ⟨S, hS⟩ : ∃ S, S = σ ++ [.row (encA a), .map (encSI (addOf s a.effects)), .map (encSI (dropOf s a.effects))] := ⟨_, rfl⟩
    have hSs : IdsS S.length S := by rw [hS]; exact hS1 _ _
    have hA : ∀ t, (S ++ t)[σ.length + 1]? = some (.map (encSI (addOf s a.effects))) := fun t => by rw [hS, List.append_assoc, List.getElem?_append_right (by omega), Nat.add_sub_cancel_left]; rfl
    have hD : ∀ t, (S ++ t)[σ.length + 2]? = some (.map (encSI (dropOf s a.effects))) := fun t => by rw [hS, List.append_assoc, List.getElem?_append_right (by omega), Nat.add_sub_cancel_left]; rfl
    have hSl : S.length = σ.length + 3 := by rw [hS]; simp
    have htk : S.take σ.length = σ := by rw [hS]; simp
    rw [← hS]
    have hS2 : ∀ w : List Int, IdsS (S ++ [AObj.row (w.map ai)]).length (S ++ [AObj.row (w.map ai)]) := fun w => idsS_push hSs (ids_ai w)
    refine wpc_while (fun i => [(0, .slice tok (s.map Ahl.encI)), (5, .map (σ.length + 1)), (6, .map (σ.length + 2)), (9, .ref S.length 1 0 ((s.take i).filter (stayS s a.effects)).length), (38, .slice tok (s.map Ahl.encI)), (39, .int .i64 s.length), (40, .int .i64 (i : Nat))])
      (fun i => S ++ [.row (((s.take i).filter (stayS s a.effects)).map ai)]) (fun i => i ≤ s.length) (fun i => s.length - i) 0 (Nat.zero_le _) (by
        refine Ghost.trans (Ghost.row0 9 1 0 (.inl rfl)) ?_
        exact ghP0 (hS2 [])) ?_
    rintro i hi K hK hE hR
    by_cases h : i < s.length
    · obtain ⟨x, hx⟩ := get_ex h; have hlt : ((i : Int) < (s.length : Int)) := (by omega); have hw : IntKind.i64.wrap ((i : Int) + 1) = ((i + 1 : Nat) : Int) := (by rw [wrap_ok (by omega)]; omega)
      have hst : stayS s a.effects x = (!((dropOf s a.effects).contains x) || (addOf s a.effects).contains x) := rfl
      have hle : ((s.take i).filter (stayS s a.effects)).length ≤ i := Nat.le_trans (List.length_filter_le _ _) (by simp; omega)
      have hbig : bigLen (((s.take i).filter (stayS s a.effects)).length + 1) 8 := big_ok (by omega) (by omega)
      have e0 : stayS s a.effects x = false → (s.take (i + 1)).filter (stayS s a.effects) = (s.take i).filter (stayS s a.effects) := fun q => by rw [take_succ' hx, List.filter_append, List.filter_cons, q]; simp
      have e1 : stayS s a.effects x = true → (s.take (i + 1)).filter (stayS s a.effects) = (s.take i).filter (stayS s a.effects) ++ [x] := fun q => by rw [take_succ' hx, List.filter_append, List.filter_cons, q]; simp
      cases hd : (dropOf s a.effects).contains x
      · have hj := findI_out _ _ 0 hd
        have e1 := e1 (by rw [hst, hd]; rfl)
        simp only [go_sem, Int.reduceToNat, Int.reduceLE, Int.reduceLT, Nat.reduceBEq, Nat.reduceLT, Nat.reduceAdd, Nat.reduceLeDiff, hlt, hx, Ahl.encI, hD, hj, hbig]
        have hf : ((s.take i).filter (stayS s a.effects)).map ai ++ [[AV.int .i64 x]].flatten = ((s.take (i + 1)).filter (stayS s a.effects)).map ai := by rw [e1, List.map_append]; rfl
        have hn : ((s.take i).filter (stayS s a.effects)).length + 1 = ((s.take (i + 1)).filter (stayS s a.effects)).length := by rw [e1]; simp
        rw [hf, hn, hw]
        refine hK _ _ (i + 1) (by omega) (by omega) ?_
        (try dsimp only)
        exact ghPM 2 (hio := ids_ai _)
      · obtain ⟨j, hj, _⟩ := findI_in _ _ 0 hd
        cases hc : (addOf s a.effects).contains x
        · have hk := findI_out _ _ 0 hc
          have e0 := e0 (by rw [hst, hd, hc]; rfl)
          simp only [go_sem, Int.reduceToNat, Int.reduceLE, Int.reduceLT, Nat.reduceBEq, Nat.reduceLT, Nat.reduceAdd, Nat.reduceLeDiff, hlt, hx, Ahl.encI, hD, hj, hA, hk]
          refine hK _ _ (i + 1) (by omega) (by omega) ?_
          (try dsimp only)
          rw [hw, e0]
          exact ghP0 (hS2 _)
        · obtain ⟨k, hk, _⟩ := findI_in _ _ 0 hc
          have e1 := e1 (by rw [hst, hd, hc]; rfl)
          simp only [go_sem, Int.reduceToNat, Int.reduceLE, Int.reduceLT, Nat.reduceBEq, Nat.reduceLT, Nat.reduceAdd, Nat.reduceLeDiff, hlt, hx, Ahl.encI, hD, hj, hA, hk, hbig]
          have hf : ((s.take i).filter (stayS s a.effects)).map ai ++ [[AV.int .i64 x]].flatten = ((s.take (i + 1)).filter (stayS s a.effects)).map ai := by rw [e1, List.map_append]; rfl
          have hn : ((s.take i).filter (stayS s a.effects)).length + 1 = ((s.take (i + 1)).filter (stayS s a.effects)).length := by rw [e1]; simp
          rw [hf, hn, hw]
          refine hK _ _ (i + 1) (by omega) (by omega) ?_
          (try dsimp only)
          exact ghPM 2 (hio := ids_ai _)
    · have hlt : ¬ ((i : Int) < (s.length : Int)) := by omega
      rw [List.take_of_length_le (by omega : s.length ≤ i)]
      have hset : ∀ t, (S ++ t).set (σ.length + 1) .dead = S.set (σ.length + 1) .dead ++ t := fun t => List.set_append_left _ _ (by omega)
      simp only [go_sem, Int.reduceToNat, Int.reduceLE, Int.reduceLT, Nat.reduceBEq, Nat.reduceLT, Nat.reduceAdd, Nat.reduceLeDiff, hlt, hE, hA, hset]
      clear hK hE hR
      obtain ⟨S', hS'⟩ : ∃ S', S' = S.set (σ.length + 1) .dead := ⟨_, rfl⟩
      have hl' : S'.length = S.length := by rw [hS', List.length_set]
      have htk' : S'.take σ.length = σ := by rw [hS', List.take_set_of_le (by omega), htk]
      have hSs' : IdsS S'.length S' := by rw [hl', hS']; exact idsS_dead hSs _
      rw [← hS']
      clear hset hS' hA hD hS2
      obtain ⟨A, hAe⟩ : ∃ A, A = addOf s a.effects := ⟨_, rfl⟩
      have hAl : A.length ≤ 1000000 := by rw [hAe]; exact Nat.le_trans (addOf_len s _) he
      rw [← hAe]
      obtain ⟨T, hT⟩ : ∃ T : List Nat → Store, ∀ l, T l = S' ++ [.dead, .iter (encSI A) l] := ⟨_, fun _ => rfl⟩
      have hTl : ∀ l, (T l).length = S.length + 2 := fun l => by rw [hT, List.length_append, hl']; rfl
      have hTi : ∀ l t, (T l ++ t)[S.length + 1]? = some (.iter (encSI A) l) := fun l t => by rw [hT, List.append_assoc, List.getElem?_append_right (by omega), hl', Nat.add_sub_cancel_left]; rfl
      have hTs : ∀ l t k, (T l ++ t).set (S.length + 1) (.iter (encSI A) k) = T k ++ t := fun l t k => by rw [hT, hT, List.append_assoc, List.set_append_right _ _ (by omega), hl', Nat.add_sub_cancel_left]; simp
      have hTe : ∀ l x t, (T l ++ x :: t)[S.length + 2]? = some x := fun l x t => by rw [List.getElem?_append_right (by rw [hTl]; omega), hTl, Nat.sub_self]; rfl
      have hTu : ∀ l x t y, (T l ++ x :: t).set (S.length + 2) y = T l ++ y :: t := fun l x t y => by rw [List.set_append_right _ _ (by rw [hTl]; omega), hTl, Nat.sub_self]; rfl
      have hTd : ∀ l, IdsS (T l).length (T l) := fun l => by rw [hT]; exact idsS_app _ hSs' (all_cons' (by trivial) (all_cons' (ids_encSI A) all_nil'))
      have hTr : ∀ l (w : List Int), IdsS (T l ++ [AObj.row (w.map ai)]).length (T l ++ [AObj.row (w.map ai)]) := fun l w => idsS_push (hTd l) (ids_ai w)
      have hTl0 := hTl []
      obtain ⟨out, hout⟩ : ∃ out : List Nat → List Int, ∀ l, out l = s.filter (stayS s a.effects) ++ (l.filterMap fun i => A[i]?).filter fun x => !(s.contains x) := ⟨_, fun _ => rfl⟩
      have hout0 : out [] = s.filter (stayS s a.effects) := by simp [hout]
      refine wpc_while (fun l => [(0, .slice tok (s.map Ahl.encI)), (9, .ref (S.length + 2) 1 0 (out l).length), (59, .ptr (S.length + 1) 0)]) (fun l => T l ++ [.row ((out l).map ai)]) (fun l => l.Nodup ∧ ∀ i ∈ l, i < A.length) (unseen A.length) [] ⟨.nil, by simp⟩ (by
        refine Ghost.trans (Ghost.reown 9 (cells := (s.filter (stayS s a.effects)).map ai) rfl (by rw [← hl', List.getElem?_append_right (Nat.le_refl _), Nat.sub_self]; rfl)) ?_
        rw [show (S' ++ [AObj.row (List.map ai (List.filter (stayS s a.effects) s)), AObj.iter (encSI A) []]).set (List.length S) AObj.dead ++ [AObj.row (List.map ai (List.filter (stayS s a.effects) s))] = T [] ++ [.row ((out []).map ai)] by
          rw [hT, hout0, ← hl', List.set_append_right _ _ (Nat.le_refl _), Nat.sub_self]; simp, show (S' ++ [AObj.row (List.map ai (List.filter (stayS s a.effects) s)), AObj.iter (encSI A) []]).length = S.length + 2 by rw [List.length_append, hl']; rfl, ← hout0]
        exact ghP0 (hTr _ _)) ?_
      rintro l ⟨hnd, hlt⟩ K hK hE hR
      simp only [go_sem, Int.reduceToNat, Int.reduceLE, Int.reduceLT, Nat.reduceBEq, Nat.reduceLT, Nat.reduceAdd, Nat.reduceLeDiff, hTi]
      refine ⟨?_, ?_⟩
      · intro i k v hik hns
        obtain ⟨x, hx, rfl, rfl⟩ : ∃ x, A[i]? = some x ∧ k = .int .i64 x ∧ v = .bool true := by
          simp only [encSI, List.getElem?_map, Option.map_eq_some_iff] at hik
          obtain ⟨x, hx, e⟩ := hik
          injection e with e1 e2
          exact ⟨x, hx, e1.symm, e2.symm⟩
        have hiA := lt_of_get hx
        have hTl1 := hTl (l ++ [i])
        have hJ : (l ++ [i]).Nodup ∧ ∀ j ∈ l ++ [i], j < A.length := by
          refine ⟨?_, fun j hj => ?_⟩
          · rw [List.nodup_append]
            refine ⟨hnd, by simp, fun p hp q hq => ?_⟩
            simp only [List.mem_singleton] at hq; subst hq
            rintro rfl; exact hns hp
          · rcases List.mem_append.1 hj with hj | hj
            · exact hlt j hj
            · simp only [List.mem_singleton] at hj; subst hj; exact hiA
        simp only [go_sem, Int.reduceToNat, Int.reduceLE, Int.reduceLT, Nat.reduceBEq, Nat.reduceLT, Nat.reduceAdd, Nat.reduceLeDiff, hTs, hTi]
        refine ⟨l, i, rfl, ?_⟩
        rw [encSI_get hx]
        simp only [go_sem, Int.reduceToNat, Int.reduceLE, Int.reduceLT, Nat.reduceBEq, Nat.reduceLT, Nat.reduceAdd, Nat.reduceLeDiff]
        refine (shas_spec s x tok _ (by omega) hs).is ?_
        have hfm : (l ++ [i]).filterMap (fun i => A[i]?) = l.filterMap (fun i => A[i]?) ++ [x] := by rw [List.filterMap_append]; simp [hx]
        cases hc : s.contains x
        · have ho : out (l ++ [i]) = out l ++ [x] := by simp only [hout, hfm, List.filter_append, List.filter_cons, hc, Bool.not_false, if_true, List.filter_nil, List.append_assoc]
          have hol : (out l).length ≤ 2000000 := by
            have h1 := List.length_filter_le (stayS s a.effects) s
            have h2 := List.length_filter_le (fun x => !(s.contains x)) (l.filterMap fun i => A[i]?)
            have h3 := List.length_filterMap_le (fun i => A[i]?) l
            have h4 := nodup_below hnd hlt
            rw [hout, List.length_append]; omega
          have hbig : bigLen ((out l).length + 1) 8 := big_ok (by omega) (by omega)
          simp only [go_sem, Int.reduceToNat, Int.reduceLE, Int.reduceLT, Nat.reduceBEq, Nat.reduceLT, Nat.reduceAdd, Nat.reduceLeDiff, hTe, hTu, hTl, hbig]
          have hf : (out l).map ai ++ [[AV.int .i64 x]].flatten = (out (l ++ [i])).map ai := by rw [ho, List.map_append]; rfl
          have hn : (out l).length + 1 = (out (l ++ [i])).length := by rw [ho]; simp
          rw [hf, hn]
          refine hK _ _ (l ++ [i]) hJ (unseen_snoc hiA hns) ?_
          rw [← hTl1]
          exact ghPM 2 (hi := hTd _) (hio := ids_ai _)
        · have ho : out (l ++ [i]) = out l := by simp only [hout, hfm, List.filter_append, List.filter_cons, hc, Bool.not_true, Bool.false_eq_true, if_false, List.filter_nil, List.append_nil]
          simp only [go_sem, Int.reduceToNat, Int.reduceLE, Int.reduceLT, Nat.reduceBEq, Nat.reduceLT, Nat.reduceAdd, Nat.reduceLeDiff]
          refine hK _ _ (l ++ [i]) hJ (unseen_snoc hiA hns) ?_
          (try dsimp only)
          rw [ho]
          exact ghP0 (hTr _ _)
      · intro hall
        have hol : (out l).length < 4611686018427387904 := by
          have h1 := List.length_filter_le (stayS s a.effects) s
          have h2 := List.length_filter_le (fun x => !(s.contains x)) (l.filterMap fun i => A[i]?)
          have h3 := List.length_filterMap_le (fun i => A[i]?) l
          have h4 := nodup_below hnd hlt
          rw [hout, List.length_append]; omega
        have hp : (out l).Perm (s.filter (stayS s a.effects) ++ (addOf s a.effects).filter fun x => !(s.contains x)) := by
          rw [← hAe, hout]
          exact List.Perm.append_left _ ((perm_places A l hnd hlt (fun i hi => hall i (by simpa [encSI] using hi))).filter _)
        simp only [go_sem, Int.reduceToNat, Int.reduceLE, Int.reduceLT, Nat.reduceBEq, Nat.reduceLT, Nat.reduceAdd, Nat.reduceLeDiff, hE]
        refine (sortI_spec (S.length + 2) (out l) _ (hTe _ _ _) hol).mono ?_
        rintro _ _ ⟨rfl, rfl⟩
        simp only [go_sem, Int.reduceToNat, Int.reduceLE, Int.reduceLT, Nat.reduceBEq, Nat.reduceLT, Nat.reduceAdd, Nat.reduceLeDiff, hTu]
        have hTl1 := hTl l
        refine retRow (id := S.length + 2) (len := (out l).length) (l := Ahl.sortI (out l)) ?_ ?_ ?_ ?_ ?_ ?_
        · rw [hT, List.append_assoc, List.take_append_of_le_length (by omega), htk']
        · rfl
        · exact hTe _ _ _
        · exact sortI_len _
        · omega
        · exact ⟨by rw [afterS, sortI_perm_eq hp], rfl⟩
end Go.Proofs.YtbnhijapbnfohaaGreat
namespace Go.Proofs.YtbnhijapbnfohaaGreat
open Go.Ahl
/-- The state behind the first k actions of a list. -/
def stk (t : FTask) (s : List Int) (p : List Int) : Nat → List Int
  | 0 => s
  | k + 1 => match (p[k]?).bind fun n => t.actions[n.toNat]? with
    | some a => afterS (stk t s p k) a.effects
    | none => stk t s p k
/-- May the action behind the first k ones be executed? -/
def canB (t : FTask) (s : List Int) (p : List Int) (k : Nat) : Bool := match (p[k]?).bind fun n => t.actions[n.toNat]? with
  | some a => condHolds (stk t s p k) a.pre
  | none => false
/-- How many actions are executed. -/
def stopN (t : FTask) (s : List Int) (p : List Int) : Nat := ((List.range p.length).takeWhile (canB t s p)).length
theorem takeWhile_range {q : Nat → Bool} {n : Nat} : ∀ k, k < ((List.range n).takeWhile q).length ↔ k < n ∧ ∀ j, j ≤ k → q j = true := by
  intro k
  have key : ∀ (l : List Nat) (k : Nat), k < (l.takeWhile q).length ↔ k < l.length ∧ ∀ (j : Nat) x, j ≤ k → l[j]? = some x → q x = true := by
    intro l
    induction l with
    | nil => intro k; simp
    | cons y l ih =>
      intro k
      rw [List.takeWhile_cons]
      cases hq : q y with
      | false =>
        rw [if_neg (by simp)]
        simp only [List.length_nil, Nat.not_lt_zero, false_iff]
        rintro ⟨_, h⟩
        have := h 0 y (Nat.zero_le _) rfl
        rw [hq] at this; simp at this
      | true =>
        rw [if_pos rfl]
        cases k with
        | zero =>
          simp only [List.length_cons, Nat.zero_lt_succ, true_iff, true_and]
          intro j x hj hx
          have : j = 0 := by omega
          subst this; simp at hx; subst hx; exact hq
        | succ k =>
          simp only [List.length_cons, Nat.succ_lt_succ_iff]
          rw [ih k]
          constructor
          · rintro ⟨h1, h2⟩
            refine ⟨h1, fun j x hj hx => ?_⟩
            cases j with
            | zero => simp at hx; subst hx; exact hq
            | succ j => exact h2 j x (by omega) (by simpa using hx)
          · rintro ⟨h1, h2⟩
            exact ⟨h1, fun j x hj hx => h2 (j + 1) x (by omega) (by simpa using hx)⟩
  rw [key]
  simp only [List.length_range]
  constructor
  · rintro ⟨h1, h2⟩
    exact ⟨h1, fun j hj => h2 j j hj (by rw [List.getElem?_range (by omega)])⟩
  · rintro ⟨h1, h2⟩
    refine ⟨h1, fun j x hj hx => ?_⟩
    rw [List.getElem?_range (by omega)] at hx
    injection hx with hx; subst hx; exact h2 _ hj
theorem stopN_lt {t : FTask} {s p : List Int} {k : Nat} : k < stopN t s p ↔ k < p.length ∧ ∀ j, j ≤ k → canB t s p j = true := takeWhile_range k
theorem stopN_le (t : FTask) (s p : List Int) : stopN t s p ≤ p.length := by
  unfold stopN
  have := (List.takeWhile_sublist (l := List.range p.length) (canB t s p)).length_le
  simpa using this
theorem stopN_no {t : FTask} {s p : List Int} {k : Nat} (h : k ≤ stopN t s p) (hk : k < p.length) (hc : canB t s p k = false) : k = stopN t s p := by
  rcases Nat.lt_or_ge k (stopN t s p) with q | q
  · have := (stopN_lt.1 q).2 k (Nat.le_refl _)
    rw [hc] at this; simp at this
  · omega
theorem stopN_yes {t : FTask} {s p : List Int} {k : Nat} (h : k ≤ stopN t s p) (hk : k < p.length) (hc : canB t s p k = true) : k < stopN t s p := by
  refine stopN_lt.2 ⟨hk, fun j hj => ?_⟩
  rcases Nat.lt_or_ge j k with q | q
  · exact (stopN_lt.1 (by omega : j < stopN t s p)).2 j (Nat.le_refl _)
  · have : j = k := by omega
    subst this; exact hc
/-- A task of small actions. -/
structure SB (t : FTask) : Prop where
  acts : t.actions.length ≤ 1000000
  pre : ∀ a ∈ t.actions, a.pre.length ≤ 140737488355328
  effs : ∀ a ∈ t.actions, a.effects.length ≤ 1000000
  whens : ∀ a ∈ t.actions, ∀ e ∈ a.effects, e.when_.length ≤ 140737488355328
def d_walk1_0 : List COp := [⟨some 14, .load none (.tmp 2), none, []⟩, ⟨some 15, .faddr 3 (.tmp 3), none, []⟩, ⟨some 16, .load none (.tmp 15), none, [1]⟩, ⟨some 17, .move (.tmp 6), none, []⟩, ⟨some 18, .iaddr 4 (.tmp 16) (.tmp 17), none, [2, 3]⟩, ⟨some 19, .faddr 2 (.tmp 18), none, [4]⟩, ⟨some 20, .load none (.tmp 19), none, [5]⟩, ⟨some 21, .call (.lit (.func 53 [])) [.tmp 14, .tmp 20], none, [0, 6]⟩, ⟨some 22, .un .not (.tmp 21), none, [7]⟩]
theorem dr_walk1_0 (P : Program) (nt n0 : Nat) (Q : Post) (s : Slots) (σ : Store) : wpc P nt n0 (.draw d_walk1_0) Q s σ = aOpsD P nt [⟨some 14, .load none (.tmp 2), none, []⟩, ⟨some 15, .faddr 3 (.tmp 3), none, []⟩, ⟨some 16, .load none (.tmp 15), none, [1]⟩, ⟨some 17, .move (.tmp 6), none, []⟩, ⟨some 18, .iaddr 4 (.tmp 16) (.tmp 17), none, [2, 3]⟩, ⟨some 19, .faddr 2 (.tmp 18), none, [4]⟩, ⟨some 20, .load none (.tmp 19), none, [5]⟩, ⟨some 21, .call (.lit (.func 53 [])) [.tmp 14, .tmp 20], none, [0, 6]⟩, ⟨some 22, .un .not (.tmp 21), none, [7]⟩] (Q .normal) s σ := wpc_draw _ (by decide)
def d_walk1_1 : List COp := [⟨some 23, .load none (.tmp 2), none, []⟩, ⟨some 24, .faddr 3 (.tmp 3), none, []⟩, ⟨some 25, .load none (.tmp 24), none, [1]⟩, ⟨some 26, .move (.tmp 6), none, []⟩, ⟨some 27, .iaddr 4 (.tmp 25) (.tmp 26), none, [2, 3]⟩, ⟨some 28, .load (some 4) (.tmp 27), none, [4]⟩, ⟨some 29, .call (.lit (.func 89 [])) [.tmp 23, .tmp 28], none, [0, 5]⟩, ⟨none, .store 1 (.tmp 2) (.tmp 29), none, [6, 6, 0, 1, 2, 3, 4, 5, 6]⟩]
theorem dr_walk1_1 (P : Program) (nt n0 : Nat) (Q : Post) (s : Slots) (σ : Store) : wpc P nt n0 (.draw d_walk1_1) Q s σ = aOpsD P nt [⟨some 23, .load none (.tmp 2), none, []⟩, ⟨some 24, .faddr 3 (.tmp 3), none, []⟩, ⟨some 25, .load none (.tmp 24), none, [1]⟩, ⟨some 26, .move (.tmp 6), none, []⟩, ⟨some 27, .iaddr 4 (.tmp 25) (.tmp 26), none, [2, 3]⟩, ⟨some 28, .load (some 4) (.tmp 27), none, [4]⟩, ⟨some 29, .call (.lit (.func 89 [])) [.tmp 23, .tmp 28], none, [0, 5]⟩, ⟨none, .store 1 (.tmp 2) (.tmp 29), none, [6, 6, 0, 1, 2, 3, 4, 5, 6]⟩] (Q .normal) s σ := wpc_draw _ (by decide)
def c_walk1 : CCode := .seq (.ops [⟨some 7, .load none (.tmp 1), none, []⟩, ⟨some 8, .blen 1 (.tmp 7), none, []⟩, ⟨some 9, .move (.lit (.int .i64 0)), none, []⟩]) (.block 0 (.loop (.seq (.ops [⟨some 10, .bin .lss .none (.tmp 9) (.tmp 8), none, []⟩]) (.seq (.cond (.tmp 10) .skip (.exit 0)) (.seq (.block 1 (.seq (.ops [⟨some 11, .move (.tmp 9), none, []⟩, ⟨some 12, .iaddr 1 (.tmp 7) (.tmp 9), none, []⟩, ⟨some 13, .load none (.tmp 12), none, []⟩, ⟨some 5, .move (.tmp 11), none, []⟩, ⟨some 6, .move (.tmp 13), none, []⟩]) (.seq (.seq (.draw d_walk1_0) (.cond (.tmp 22) .ret .skip)) (.seq (.draw d_walk1_1) (.seq (.ops [⟨some 30, .move (.tmp 0), none, []⟩, ⟨some 31, .move (.tmp 5), none, []⟩, ⟨some 32, .load none (.tmp 2), none, []⟩, ⟨some 33, .callY (.tmp 30) [.tmp 31, .tmp 32], none, []⟩, ⟨some 34, .un .not (.tmp 33), none, []⟩]) (.cond (.tmp 34) .ret .skip)))))) (.ops [⟨some 35, .bin .add .none (.tmp 9) (.lit (.int .i64 1)), none, []⟩, ⟨some 9, .move (.tmp 35), none, []⟩]))))))
set_option maxRecDepth 20000 in
set_option maxHeartbeats 2000000 in
theorem walk1_spec (t : FTask) (s p : List Int) (hb : SB t) (hp : ∀ n ∈ p, 0 ≤ n ∧ n < t.actions.length) (hpl : p.length ≤ 1000000) (hs : ∀ k, (stk t s p k).length ≤ 1000000 ∧ (stk t s p k).Pairwise (· < ·))
    (Y T V W : Nat) (A : Nat → Store) (hA : ∀ k, k ≤ stopN t s p → (A k).length = (A 0).length ∧ IdsS (A k).length (A k) ∧ (A k)[T]? = some (.row (encTask t)) ∧ (A k)[V]? = some (.row [.slice .unk ((stk t s p k).map Ahl.encI)]) ∧ (A k)[W]? = some (.row [.slice .unk (p.map Ahl.encI)]))
    (hY : ∀ k, k < stopN t s p → AYld Tryz.prog Y [.int .i64 (k : Nat), .slice .unk ((stk t s p (k + 1)).map Ahl.encI)] ((A k).set V (.row [.slice .unk ((stk t s p (k + 1)).map Ahl.encI)])) (isR (.bool true) (A (k + 1)))) :
    ACalls Tryz.prog 88 [.yld Y, .ptr W 0, .ptr V 0, .ptr T 0] (A 0) (isR (.tuple []) (A (stopN t s p))) := by
  obtain ⟨σ, hAσ⟩ : ∃ σ, σ = A 0 := ⟨_, rfl⟩
  obtain ⟨h01, h02, h03, h04, h05⟩ := hA 0 (Nat.zero_le _)
  rw [← hAσ]
  rw [← hAσ] at h02 h03 h04 h05
  refine ACalls.intro (rs := []) (by kernel_rfl) { own := [], ghosts := [], yields := [(5, 3)] } Tryz.func88 (c := Tryz.f88.body.getD .skip) (by kernel_rfl) (by decide) (by rw [show Tryz.f88.ntmps = 36 by kernel_rfl]; exact Nat.le_of_ble_eq_true rfl) (by kernel_rfl) ?_
  intro hσ hids
  rw [show comp Tryz.prog { own := [], ghosts := [], yields := [(5, 3)] } (Tryz.f88.body.getD .skip) = c_walk1 by kernel_rfl, show Tryz.f88.ntmps = 36 by kernel_rfl]
  unfold c_walk1
  have ht : T < σ.length := lt_of_get h03
  have hv : V < σ.length := lt_of_get h04
  have hw' : W < σ.length := lt_of_get h05
  have hy : Ids σ.length (.yld Y) := hids _ (by simp)
  simp only [go_sem, Int.reduceToNat, Int.reduceLE, Int.reduceLT, Nat.reduceBEq, Nat.reduceLT, Nat.reduceAdd, Nat.reduceLeDiff, dr_walk1_0, dr_walk1_1, h05]
  refine wpc_while (fun (i : Nat) => [(0, .yld Y), (2, .ptr V 0), (3, .ptr T 0), (7, .slice .unk (p.map Ahl.encI)), (8, .int .i64 p.length), (9, .int .i64 (i : Nat))]) (fun i => A i) (fun i => i ≤ stopN t s p) (fun i => p.length - i) 0 (Nat.zero_le _) ?_ ?_
  · rw [← hAσ]; exact (by (try dsimp only); first | exact ghk | exact ghk0)
  intro i hi K hK hE hR
  have hle := stopN_le t s p
  obtain ⟨g1, g2, g3, g4, g5⟩ := hA i hi
  rw [← hAσ] at g1
  by_cases h : i < p.length
  · obtain ⟨n, hx⟩ := get_ex h; have hlt : ((i : Int) < (p.length : Int)) := (by omega); have hw : IntKind.i64.wrap ((i : Int) + 1) = ((i + 1 : Nat) : Int) := (by rw [wrap_ok (by omega)]; omega)
    obtain ⟨hn1, hn2⟩ := hp n (List.mem_of_getElem? hx)
    obtain ⟨a, ha⟩ : ∃ a, t.actions[n.toNat]? = some a := ⟨_, List.getElem?_eq_getElem (by omega)⟩
    have ham := List.mem_of_getElem? ha
    obtain ⟨hs1, hs2⟩ := hs i
    have hcb : canB t s p i = condHolds (stk t s p i) a.pre := by unfold canB; rw [hx, Option.bind_some, ha]
    simp only [go_sem, Int.reduceToNat, Int.reduceLE, Int.reduceLT, Nat.reduceBEq, Nat.reduceLT, Nat.reduceAdd, Nat.reduceLeDiff, dr_walk1_0, dr_walk1_1, hlt, hx, g3, g4, ha, encTask, encA, Ahl.encI, hn1]
    refine ⟨_, sTrue_spec (stk t s p i) a.pre .unk .unk _ (by omega) hs2 (hb.pre a ham), ?_⟩
    cases hc : condHolds (stk t s p i) a.pre
    · simp only [go_sem, Int.reduceToNat, Int.reduceLE, Int.reduceLT, Nat.reduceBEq, Nat.reduceLT, Nat.reduceAdd, Nat.reduceLeDiff, dr_walk1_0, dr_walk1_1]
      rw [hR]
      have := stopN_no hi h (hcb.trans hc)
      rw [← this]
      exact ret_gh0 (Ghost.keep0 (s' := []) (by omega) trivial g2) (by omega) g2 ⟨rfl, rfl⟩
    · have hlt2 := stopN_yes hi h (hcb.trans hc)
      have hst : stk t s p (i + 1) = afterS (stk t s p i) a.effects := by rw [stk, hx, Option.bind_some, ha]
      simp only [go_sem, Int.reduceToNat, Int.reduceLE, Int.reduceLT, Nat.reduceBEq, Nat.reduceLT, Nat.reduceAdd, Nat.reduceLeDiff, dr_walk1_0, dr_walk1_1, g3, g4, hx, ha, encTask, encA, Ahl.encI, hn1]
      refine ⟨_, sAfter_spec (stk t s p i) a .unk _ hs1 hs2 (hb.effs a ham) (hb.whens a ham), ?_⟩
      rw [← hst]
      simp only [go_sem, Int.reduceToNat, Int.reduceLE, Int.reduceLT, Nat.reduceBEq, Nat.reduceLT, Nat.reduceAdd, Nat.reduceLeDiff, dr_walk1_0, dr_walk1_1, g4]
      have hset : ((A i).set V (AObj.row [AV.slice Tok.unk ((stk t s p (i + 1)).map Ahl.encI)]))[V]? = some (.row [.slice .unk ((stk t s p (i + 1)).map Ahl.encI)]) := by
        rw [List.getElem?_set_self (by omega)]
      simp only [go_sem, Int.reduceToNat, Int.reduceLE, Int.reduceLT, Nat.reduceBEq, Nat.reduceLT, Nat.reduceAdd, Nat.reduceLeDiff, dr_walk1_0, dr_walk1_1, hset]
      refine (hY i hlt2).is ?_
      obtain ⟨f1, f2, f3, f4, f5⟩ := hA (i + 1) (by omega)
      rw [← hAσ] at f1
      simp only [go_sem, Int.reduceToNat, Int.reduceLE, Int.reduceLT, Nat.reduceBEq, Nat.reduceLT, Nat.reduceAdd, Nat.reduceLeDiff, dr_walk1_0, dr_walk1_1, hw]
      refine hK _ _ (i + 1) (by omega) (by omega) ?_
      rw [← f1] at ht hv hy
      exact Ghost.keep0 (by omega) tellT f2
  · have hlt : ¬ ((i : Int) < (p.length : Int)) := by omega
    have : i = stopN t s p := by omega
    subst this
    simp only [go_sem, Int.reduceToNat, Int.reduceLE, Int.reduceLT, Nat.reduceBEq, Nat.reduceLT, Nat.reduceAdd, Nat.reduceLeDiff, dr_walk1_0, dr_walk1_1, hlt, hE]
    exact ret_gh0 (Ghost.keep0 (s' := []) (by omega) trivial g2) (by omega) g2 ⟨rfl, rfl⟩
end Go.Proofs.YtbnhijapbnfohaaGreat
namespace Go.Proofs.YtbnhijapbnfohaaGreat
open Go.Ahl
def c_walk : CCode := .seq (.ops [⟨some 3, .box (.tmp 0), none, []⟩, ⟨some 4, .box (.tmp 1), none, []⟩, ⟨some 5, .box (.tmp 2), none, []⟩, ⟨some 6, .move (.lit (.conc Value.nilFunc)), none, []⟩]) (.seq (.ops [⟨some 7, .mkfunc 88 [.tmp 5, .tmp 4, .tmp 3], none, []⟩, ⟨some 6, .move (.tmp 7), none, []⟩]) .ret)
set_option maxRecDepth 20000 in
theorem walk_spec (t : FTask) (s p : List Int) (σ : Store) :
    ACalls Tryz.prog 68 [.agg (encTask t), .slice .unk (s.map Ahl.encI), .slice .unk (p.map Ahl.encI)] σ (isR (.func 88 [.ptr (σ.length + 2) 0, .ptr (σ.length + 1) 0, .ptr σ.length 0]) (σ ++ [.row (encTask t), .row [.slice .unk (s.map Ahl.encI)], .row [.slice .unk (p.map Ahl.encI)]])) := by
  refine ACalls.intro (rs := [(.tmp 6)]) (by kernel_rfl) { own := [], ghosts := [] } Tryz.func68 (c := Tryz.f68.body.getD .skip) (by kernel_rfl) (by decide) (by rw [show Tryz.f68.ntmps = 8 by kernel_rfl]; exact Nat.le_of_ble_eq_true rfl) (by kernel_rfl) ?_
  intro hσ hids
  rw [show comp Tryz.prog { own := [], ghosts := [] } (Tryz.f68.body.getD .skip) = c_walk by kernel_rfl, show Tryz.f68.ntmps = 8 by kernel_rfl]
  unfold c_walk
  simp only [go_sem, Int.reduceToNat, Int.reduceLE, Int.reduceLT, Nat.reduceBEq, Nat.reduceLT, Nat.reduceAdd, Nat.reduceLeDiff, encTask]
  have h1 : IdsS (σ ++ [AObj.row (encTask t), .row [.slice .unk (s.map Ahl.encI)], .row [.slice .unk (p.map Ahl.encI)]]).length (σ ++ [AObj.row (encTask t), .row [.slice .unk (s.map Ahl.encI)], .row [.slice .unk (p.map Ahl.encI)]]) := idsS_app _ hσ (all_cons' (idsO_row (ids_encTask t)) (all_cons' (idsO_row (by intro x hx; simp at hx; subst hx; exact ids_map ids_encI s)) (all_cons' (idsO_row (by intro x hx; simp at hx; subst hx; exact ids_map ids_encI p)) all_nil')))
  have hif : Ids (σ ++ [AObj.row (encTask t), .row [.slice .unk (s.map Ahl.encI)], .row [.slice .unk (p.map Ahl.encI)]]).length (.func 88 [.ptr (σ.length + 2) 0, .ptr (σ.length + 1) 0, .ptr σ.length 0]) :=
    .func _ _ (by intro j x hx; match j, hx with | 0, hx => simp at hx; subst hx; exact .ptr _ _ (by simp) | 1, hx => simp at hx; subst hx; exact .ptr _ _ (by simp) | 2, hx => simp at hx; subst hx; exact .ptr _ _ (by simp))
  exact ret_gh (v := .func 88 [.ptr (σ.length + 2) 0, .ptr (σ.length + 1) 0, .ptr σ.length 0]) (σ' := σ ++ [.row (encTask t), .row [.slice .unk (s.map Ahl.encI)], .row [.slice .unk (p.map Ahl.encI)]]) (Ghost.keep0 (s' := [(6, .func 88 [.ptr (σ.length + 2) 0, .ptr (σ.length + 1) 0, .ptr σ.length 0])]) (by simp) ⟨⟨.refl _, hif⟩, trivial⟩ h1) (by simp) h1 hif ⟨rfl, rfl⟩
def c_cloneI : CCode := .seq (.ops [⟨some 2, .move (.lit (.slice .nil [])), none, []⟩]) (.seq (.seq (.ops [⟨some 3, .move (.tmp 0), none, []⟩, ⟨some 4, .bin .eql .slice (.tmp 3) (.lit (.slice .nil [])), none, []⟩]) (.cond (.tmp 4) (.seq (.ops [⟨some 2, .move (.lit (.slice .nil [])), none, []⟩]) .ret) .skip)) (.seq (.ops [⟨some 5, .bslice 1 [] false, none, []⟩, ⟨some 6, .move (.tmp 0), none, []⟩, ⟨some 7, .bappend 1 8 (.tmp 5) (.tmp 6) false, none, []⟩, ⟨some 2, .move (.tmp 7), none, []⟩]) .ret))
set_option maxRecDepth 20000 in
theorem cloneI_specF (f : List Int) (tok : Tok) (σ : Store) (hf : f.length ≤ 1073741824) :
    ACalls Tryz.prog 67 [.slice tok (f.map Ahl.encI)] σ (isR (.slice .fresh (f.map Ahl.encI)) σ) := by
  refine ACalls.intro (rs := [(.tmp 2)]) (by kernel_rfl) { own := [], ghosts := [] } Tryz.func67 (c := Tryz.f67.body.getD .skip) (by kernel_rfl) (by decide) (by rw [show Tryz.f67.ntmps = 8 by kernel_rfl]; exact Nat.le_of_ble_eq_true rfl) (by kernel_rfl) ?_
  intro hσ hids
  rw [show comp Tryz.prog { own := [], ghosts := [] } (Tryz.f67.body.getD .skip) = c_cloneI by kernel_rfl, show Tryz.f67.ntmps = 8 by kernel_rfl]
  unfold c_cloneI
  have hbig : bigLen f.length 8 := big_ok (by omega) (by omega)
  simp only [go_sem, Int.reduceToNat, Int.reduceLE, Int.reduceLT, Nat.reduceBEq, Nat.reduceLT, Nat.reduceAdd, Nat.reduceLeDiff]
  intro b hb
  cases b
  · have hall : ∀ x ∈ f, (Ahl.encI x).length = 1 ∧ (Ahl.encI x).all AV.one = true := fun x _ => ⟨rfl, rfl⟩
    simp only [go_sem, Int.reduceToNat, Int.reduceLE, Int.reduceLT, Nat.reduceBEq, Nat.reduceLT, Nat.reduceAdd, Nat.reduceLeDiff, hbig]
    refine ⟨hall, ?_⟩
    first | exact rtk (.slice .fresh (f.map Ahl.encI)) ⟨rfl, rfl⟩ | exact rtk0 (.slice .fresh (f.map Ahl.encI)) ⟨rfl, rfl⟩
  · have hl0 : f = [] := by
      cases f with
      | nil => rfl
      | cons x l => exact absurd (hb (by simp)) (by simp)
    subst hl0
    simp only [go_sem, Int.reduceToNat, Int.reduceLE, Int.reduceLT, Nat.reduceBEq, Nat.reduceLT, Nat.reduceAdd, Nat.reduceLeDiff]
    first | exact rtk (.slice .fresh []) ⟨rfl, rfl⟩ | exact rtk0 (.slice .fresh []) ⟨rfl, rfl⟩
theorem cloneI_spec (f : List Int) (tok : Tok) (σ : Store) (hf : f.length ≤ 1073741824) :
    ACalls Tryz.prog 67 [.slice tok (f.map Ahl.encI)] σ (isR (.slice .unk (f.map Ahl.encI)) σ) := (cloneI_specF f tok σ hf).wkR (.unk _ _)
/-- The cost of the first k actions. -/
def costK (t : FTask) (p : List Int) : Nat → Int
  | 0 => 0
  | k + 1 => match (p[k]?).bind fun n => t.actions[n.toNat]? with
    | some a => IntKind.i64.wrap (costK t p k + a.cost)
    | none => costK t p k
/-- The states behind the first k actions, with the first one. -/
def statesK (t : FTask) (s p : List Int) (k : Nat) : List (List Int) := (List.range (k + 1)).map (stk t s p)
def doneR (t : FTask) (s p : List Int) : AV :=
  .tuple [.agg [.slice .unk ((statesK t s p (stopN t s p)).map encL), .int .i64 (costK t p (stopN t s p)), .bool (condHolds (stk t s p (stopN t s p)) t.goal)], .int .i64 (if stopN t s p = p.length then -1 else (stopN t s p : Nat))]
/-- The store in a round. -/
def roundS (t : FTask) (s p : List Int) (σ : Store) (L : LoopA) (k : Nat) : Store :=
  σ ++ [.row (encTask t), .row [.slice .unk (p.map Ahl.encI)], .row [.slice .nil [], .int .i64 0, .bool false], .grow 1 (k + 1), .row [.slice (.grow (σ.length + 3)) ((statesK t s p k).map encL), .int .i64 (costK t p k), .bool false], .row [.int .i64 (k : Nat)],
    .row (encTask t), .row [.slice .unk ((stk t s p k).map Ahl.encI)], .row [.slice .unk (p.map Ahl.encI)], .loop L]
def d_done_0 : List COp := [⟨some 22, .faddr 0 (.tmp 8), none, []⟩, ⟨some 23, .load none (.tmp 22), none, [0]⟩, ⟨some 24, .move (.tmp 11), none, []⟩, ⟨some 25, .call (.lit (.func 67 [])) [.tmp 24], none, [2]⟩, ⟨some 26, .bsliceC 1 [.tmp 25], none, [3]⟩, ⟨some 27, .bappend 1 24 (.tmp 23) (.tmp 26) false, none, [1, 4, 3]⟩, ⟨some 28, .faddr 0 (.tmp 8), none, [0, 1, 2, 3, 4, 5]⟩, ⟨none, .store 1 (.tmp 28) (.tmp 27), none, [6, 5, 5, 0, 1, 2, 3, 4, 5]⟩]
theorem dr_done_0 (P : Program) (nt n0 : Nat) (Q : Post) (s : Slots) (σ : Store) : wpc P nt n0 (.draw d_done_0) Q s σ = aOpsD P nt [⟨some 22, .faddr 0 (.tmp 8), none, []⟩, ⟨some 23, .load none (.tmp 22), none, [0]⟩, ⟨some 24, .move (.tmp 11), none, []⟩, ⟨some 25, .call (.lit (.func 67 [])) [.tmp 24], none, [2]⟩, ⟨some 26, .bsliceC 1 [.tmp 25], none, [3]⟩, ⟨some 27, .bappend 1 24 (.tmp 23) (.tmp 26) false, none, [1, 4, 3]⟩, ⟨some 28, .faddr 0 (.tmp 8), none, [0, 1, 2, 3, 4, 5]⟩, ⟨none, .store 1 (.tmp 28) (.tmp 27), none, [6, 5, 5, 0, 1, 2, 3, 4, 5]⟩] (Q .normal) s σ := wpc_draw _ (by decide)
def d_done_1 : List COp := [⟨some 29, .faddr 1 (.tmp 8), none, []⟩, ⟨some 30, .load none (.tmp 29), none, [0]⟩, ⟨some 31, .faddr 3 (.tmp 3), none, []⟩, ⟨some 32, .load none (.tmp 31), none, [2]⟩, ⟨some 33, .load none (.tmp 5), none, []⟩, ⟨some 34, .move (.tmp 10), none, []⟩, ⟨some 35, .iaddr 1 (.tmp 33) (.tmp 34), none, [4, 5]⟩, ⟨some 36, .load none (.tmp 35), none, [6]⟩, ⟨some 37, .iaddr 4 (.tmp 32) (.tmp 36), none, [3, 7]⟩, ⟨some 38, .faddr 1 (.tmp 37), none, [8]⟩, ⟨some 39, .load none (.tmp 38), none, [9]⟩, ⟨some 40, .bin .add .none (.tmp 30) (.tmp 39), none, [1, 10]⟩, ⟨some 41, .faddr 1 (.tmp 8), none, [0, 1, 2, 3, 4, 5, 6, 7, 8, 9, 10, 11]⟩, ⟨none, .store 1 (.tmp 41) (.tmp 40), none, [12, 11, 0, 1, 2, 3, 4, 5, 6, 7, 8, 9, 10, 11]⟩]
theorem dr_done_1 (P : Program) (nt n0 : Nat) (Q : Post) (s : Slots) (σ : Store) : wpc P nt n0 (.draw d_done_1) Q s σ = aOpsD P nt [⟨some 29, .faddr 1 (.tmp 8), none, []⟩, ⟨some 30, .load none (.tmp 29), none, [0]⟩, ⟨some 31, .faddr 3 (.tmp 3), none, []⟩, ⟨some 32, .load none (.tmp 31), none, [2]⟩, ⟨some 33, .load none (.tmp 5), none, []⟩, ⟨some 34, .move (.tmp 10), none, []⟩, ⟨some 35, .iaddr 1 (.tmp 33) (.tmp 34), none, [4, 5]⟩, ⟨some 36, .load none (.tmp 35), none, [6]⟩, ⟨some 37, .iaddr 4 (.tmp 32) (.tmp 36), none, [3, 7]⟩, ⟨some 38, .faddr 1 (.tmp 37), none, [8]⟩, ⟨some 39, .load none (.tmp 38), none, [9]⟩, ⟨some 40, .bin .add .none (.tmp 30) (.tmp 39), none, [1, 10]⟩, ⟨some 41, .faddr 1 (.tmp 8), none, [0, 1, 2, 3, 4, 5, 6, 7, 8, 9, 10, 11]⟩, ⟨none, .store 1 (.tmp 41) (.tmp 40), none, [12, 11, 0, 1, 2, 3, 4, 5, 6, 7, 8, 9, 10, 11]⟩] (Q .normal) s σ := wpc_draw _ (by decide)
def d_done_2 : List COp := [⟨some 44, .faddr 0 (.tmp 8), none, []⟩, ⟨some 45, .load none (.tmp 44), none, [0]⟩, ⟨some 46, .faddr 0 (.tmp 8), none, []⟩, ⟨some 47, .load none (.tmp 46), none, [2]⟩, ⟨some 48, .blen 1 (.tmp 47), none, [3]⟩, ⟨some 49, .bin .sub .none (.tmp 48) (.lit (.int .i64 1)), none, [4]⟩, ⟨some 50, .iaddr 1 (.tmp 45) (.tmp 49), none, [1, 5]⟩, ⟨some 51, .load none (.tmp 50), none, [6]⟩, ⟨some 52, .faddr 2 (.tmp 3), none, []⟩, ⟨some 53, .load none (.tmp 52), none, [8]⟩, ⟨some 54, .call (.lit (.func 53 [])) [.tmp 51, .tmp 53], none, [7, 9]⟩, ⟨some 55, .faddr 2 (.tmp 8), none, [0, 1, 2, 3, 4, 5, 6, 7, 8, 9, 10]⟩, ⟨none, .store 1 (.tmp 55) (.tmp 54), none, [11, 10, 10, 0, 1, 2, 3, 4, 5, 6, 7, 8, 9, 10]⟩]
theorem dr_done_2 (P : Program) (nt n0 : Nat) (Q : Post) (s : Slots) (σ : Store) : wpc P nt n0 (.draw d_done_2) Q s σ = aOpsD P nt [⟨some 44, .faddr 0 (.tmp 8), none, []⟩, ⟨some 45, .load none (.tmp 44), none, [0]⟩, ⟨some 46, .faddr 0 (.tmp 8), none, []⟩, ⟨some 47, .load none (.tmp 46), none, [2]⟩, ⟨some 48, .blen 1 (.tmp 47), none, [3]⟩, ⟨some 49, .bin .sub .none (.tmp 48) (.lit (.int .i64 1)), none, [4]⟩, ⟨some 50, .iaddr 1 (.tmp 45) (.tmp 49), none, [1, 5]⟩, ⟨some 51, .load none (.tmp 50), none, [6]⟩, ⟨some 52, .faddr 2 (.tmp 3), none, []⟩, ⟨some 53, .load none (.tmp 52), none, [8]⟩, ⟨some 54, .call (.lit (.func 53 [])) [.tmp 51, .tmp 53], none, [7, 9]⟩, ⟨some 55, .faddr 2 (.tmp 8), none, [0, 1, 2, 3, 4, 5, 6, 7, 8, 9, 10]⟩, ⟨none, .store 1 (.tmp 55) (.tmp 54), none, [11, 10, 10, 0, 1, 2, 3, 4, 5, 6, 7, 8, 9, 10]⟩] (Q .normal) s σ := wpc_draw _ (by decide)
def d_done_3 : List COp := [⟨some 60, .load (some 3) (.tmp 8), none, []⟩, ⟨some 61, .load none (.tmp 9), none, []⟩, ⟨none, .store 3 (.tmp 6) (.tmp 60), none, [0, 0]⟩, ⟨some 7, .move (.tmp 61), none, [1, 2, 0, 1, 2]⟩]
theorem dr_done_3 (P : Program) (nt n0 : Nat) (Q : Post) (s : Slots) (σ : Store) : wpc P nt n0 (.drawU d_done_3 [[], [2], [1], []]) Q s σ = aOpsU P nt [⟨some 60, .load (some 3) (.tmp 8), none, []⟩, ⟨some 61, .load none (.tmp 9), none, []⟩, ⟨none, .store 3 (.tmp 6) (.tmp 60), none, [0, 0]⟩, ⟨some 7, .move (.tmp 61), none, [1, 2, 0, 1, 2]⟩] [[], [2], [1], []] 0 [] [] (Q .normal) s σ := wpc_drawU _ _ (by decide)
def c_done : CCode := .seq (.ops [⟨some 3, .box (.tmp 0), none, []⟩, ⟨some 5, .box (.tmp 2), none, []⟩, ⟨some 6, .alloc (.agg [.slice .nil [], .int .i64 0, .bool false]), none, []⟩, ⟨some 7, .move (.lit (.int .i64 0)), none, []⟩]) (.seq (.ops [⟨some 12, .move (.tmp 1), none, []⟩, ⟨some 13, .call (.lit (.func 67 [])) [.tmp 12], none, []⟩, ⟨some 14, .bslice 1 [.tmp 13] false, none, []⟩, ⟨some 15, .build [.slice .nil [], .int .i64 0, .bool false] [(0, 1, .tmp 14)], none, []⟩, ⟨some 8, .alloc (.agg [.slice .nil [], .int .i64 0, .bool false]), none, []⟩, ⟨none, .store 3 (.tmp 8) (.tmp 15), none, []⟩]) (.seq (.ops [⟨some 9, .alloc (.int .i64 0), none, []⟩, ⟨none, .store 1 (.tmp 9) (.lit (.int .i64 0)), none, []⟩]) (.seq (.seq (.ops [⟨some 16, .load (some 4) (.tmp 3), none, []⟩, ⟨some 17, .move (.tmp 1), none, []⟩, ⟨some 18, .load none (.tmp 5), none, []⟩, ⟨some 19, .call (.lit (.func 68 [])) [.tmp 16, .tmp 17, .tmp 18], none, []⟩]) (.block 0 (.rangeF (.tmp 19) [20, 21] (.seq (.ops [⟨some 10, .move (.tmp 20), none, []⟩]) (.ops [⟨some 11, .move (.tmp 21), none, []⟩])) (.block 1 (.seq (.draw d_done_0) (.seq (.draw d_done_1) (.ops [⟨some 42, .move (.tmp 10), none, []⟩, ⟨some 43, .bin .add .none (.tmp 42) (.lit (.int .i64 1)), none, []⟩, ⟨none, .store 1 (.tmp 9) (.tmp 43), none, []⟩]))))))) (.seq (.draw d_done_2) (.seq (.seq (.ops [⟨some 56, .load none (.tmp 9), none, []⟩, ⟨some 57, .load none (.tmp 5), none, []⟩, ⟨some 58, .blen 1 (.tmp 57), none, []⟩, ⟨some 59, .bin .eql .none (.tmp 56) (.tmp 58), none, []⟩]) (.cond (.tmp 59) (.ops [⟨none, .store 1 (.tmp 9) (.lit (.int .i64 (-1))), none, []⟩]) .skip)) (.seq (.drawU d_done_3 [[], [2], [1], []]) .ret))))))
set_option maxRecDepth 20000 in
set_option maxHeartbeats 2000000 in
theorem done_spec (t : FTask) (s p : List Int) (σ : Store) (hb : SB t) (hg : t.goal.length ≤ 140737488355328) (hp : ∀ n ∈ p, 0 ≤ n ∧ n < t.actions.length) (hpl : p.length ≤ 1000000) (hs : ∀ k, (stk t s p k).length ≤ 1000000 ∧ (stk t s p k).Pairwise (· < ·)) :
    ACalls Tryz.prog 46 [.agg (encTask t), .slice .unk (s.map Ahl.encI), .slice .unk (p.map Ahl.encI)] σ (isR (doneR t s p) σ) := by
  refine ACalls.intro (rs := [(.cell (some 3) 6), (.tmp 7)]) (by kernel_rfl) { own := [], ghosts := [], cold := [(6, 4)], free := [(12, [[], [2], [1], []])] } Tryz.func46 (c := Tryz.f46.body.getD .skip) (by kernel_rfl) (by decide) (by rw [show Tryz.f46.ntmps = 62 by kernel_rfl]; exact Nat.le_of_ble_eq_true rfl) (by kernel_rfl) ?_
  intro hσ hids
  rw [show comp Tryz.prog { own := [], ghosts := [], cold := [(6, 4)], free := [(12, [[], [2], [1], []])] } (Tryz.f46.body.getD .skip) = c_done by kernel_rfl, show Tryz.f46.ntmps = 62 by kernel_rfl]
  unfold c_done
  simp only [go_sem, Int.reduceToNat, Int.reduceLE, Int.reduceLT, Nat.reduceBEq, Nat.reduceLT, Nat.reduceAdd, Nat.reduceLeDiff, dr_done_0, dr_done_1, dr_done_2, dr_done_3, encTask]
  refine (cloneI_spec s .unk _ (by have := (hs 0).1; simp only [stk] at this; omega)).is ?_
  simp only [go_sem, Int.reduceToNat, Int.reduceLE, Int.reduceLT, Nat.reduceBEq, Nat.reduceLT, Nat.reduceAdd, Nat.reduceLeDiff, dr_done_0, dr_done_1, dr_done_2, dr_done_3, encTask]
  have hw := fun σ => walk_spec t s p σ
  simp only [encTask] at hw
  refine (hw _).to ?_
  simp only [go_sem, Int.reduceToNat, Int.reduceLE, Int.reduceLT, Nat.reduceBEq, Nat.reduceLT, Nat.reduceAdd, Nat.reduceLeDiff, dr_done_0, dr_done_1, dr_done_2, dr_done_3]
  refine wpc_rangeF ?_
  intro H asg body hA hB
  simp only [go_sem, Int.reduceToNat, Int.reduceLE, Int.reduceLT, Nat.reduceBEq, Nat.reduceLT, Nat.reduceAdd, Nat.reduceLeDiff, dr_done_0, dr_done_1, dr_done_2, dr_done_3, encTask]
  refine rangeC_intro ⟨_, Tryz.func88, by kernel_rfl, by decide⟩ fun L hL => ?_
  simp only [go_sem, Int.reduceToNat, Int.reduceLE, Int.reduceLT, Nat.reduceBEq, Nat.reduceLT, Nat.reduceAdd, Nat.reduceLeDiff, dr_done_0, dr_done_1, dr_done_2, dr_done_3]
  have hLs : Ids (σ.length + 10) (.yld (σ.length + 9)) := .yld _ (by omega)
  have e0 : roundS t s p σ L 0 = σ ++ [.row (encTask t), .row [.slice .unk (p.map Ahl.encI)], .row [.slice .nil [], .int .i64 0, .bool false], .grow 1 1, .row [.slice (.grow (σ.length + 3)) [[.slice .unk (s.map Ahl.encI)]], .int .i64 0, .bool false], .row [.int .i64 0],
    .row (encTask t), .row [.slice .unk (s.map Ahl.encI)], .row [.slice .unk (p.map Ahl.encI)], .loop L] := by
    simp [roundS, statesK, stk, costK, encL]
  have hin : ∀ k (L' : LoopA), L'.s = L.s → IdsS (roundS t s p σ L' k).length (roundS t s p σ L' k) := by
    intro k L' hL'
    have hr1 : ∀ (n : Nat) (l : List Int), IdsO n (.row [.slice .unk (l.map Ahl.encI)]) := fun n l => idsO_row (by intro x hx; simp at hx; subst hx; exact ids_map ids_encI l)
    have hT : ∀ n, IdsO n (.row (encTask t)) := fun n => idsO_row (ids_encTask t)
    refine idsS_app _ hσ (all_cons' (hT _) (all_cons' (hr1 _ _) (all_cons' (idsO_row ?_) (all_cons' trivial (all_cons' (idsO_row ?_) (all_cons' (idsO_row ?_) (all_cons' (hT _) (all_cons' (hr1 _ _) (all_cons' (hr1 _ _) (all_cons' (idsO_loop ?_) all_nil'))))))))))
    · intro x hx
      simp at hx
      rcases hx with rfl | rfl | rfl <;> first | exact .int _ _ | exact .bool _ | exact ids_nil _ (by simp)
    · intro x hx
      simp at hx
      rcases hx with rfl | rfl | rfl <;> first | exact .int _ _ | exact .bool _ | exact ids_grow_map ids_encL (by simp)
    · intro x hx
      simp at hx; subst hx; exact .int _ _
    · rw [hL', congrArg LoopA.s hL]
      intro e he
      simp only [List.mem_cons, List.not_mem_nil, or_false] at he
      have hT' : ∀ n, Ids n (.agg (encTask t)) := fun n => ids_agg (ids_encTask t)
      simp only [encTask] at hT'
      have hgr : ∀ n, σ.length + 3 < n → Ids n (.slice (.grow (σ.length + 3)) [[.slice .unk (s.map Ahl.encI)]]) := fun n hn => .slice _ _ (by intro id h; cases h; exact hn) (by
        intro i e he j x hx
        match i, he with
        | 0, he => simp at he; subst he; match j, hx with | 0, hx => simp at hx; subst hx; exact ids_map ids_encI _)
      rcases he with rfl | rfl | rfl | rfl | rfl | rfl | rfl | rfl | rfl | rfl | rfl | rfl | rfl | rfl | rfl | rfl | rfl <;> first
        | exact .ptr _ _ (by simp) | exact .int _ _ | exact ids_map ids_encI _ | exact hT' _ | exact hgr _ (by simp)
        | exact .agg _ (fun j x hx => by match j, hx with | 0, hx => simp at hx; subst hx; exact hgr _ (by simp) | 1, hx => simp at hx; subst hx; exact .int _ _ | 2, hx => simp at hx; subst hx; exact .bool _)
        | exact .func _ _ (by intro j x hx; match j, hx with | 0, hx => simp at hx; subst hx; exact .ptr _ _ (by simp) | 1, hx => simp at hx; subst hx; exact .ptr _ _ (by simp) | 2, hx => simp at hx; subst hx; exact .ptr _ _ (by simp))
  have hwalk := walk1_spec t s p hb hp hpl hs (σ.length + 9) (σ.length + 6) (σ.length + 7) (σ.length + 8) (roundS t s p σ L) (fun k hk => ⟨by simp [roundS], hin k L rfl, by simp [roundS], by simp [roundS], by simp [roundS]⟩) ?_
  · rw [e0] at hwalk
    simp only [encTask] at hwalk
    refine hwalk.to ?_
    refine rangeK_intro (L := L) (by simp [roundS]) (by rw [hL]) (by rw [hL]) ?_
    have hq := stopN_le t s p
    generalize hst : stopN t s p = q at hq
    have hlq : (statesK t s p q).length = q + 1 := by simp [statesK]
    have hxq : (statesK t s p q)[q]? = some (stk t s p q) := by simp [statesK]
    have hwr : IntKind.i64.wrap (((q + 1 : Nat) : Int) - 1) = (q : Nat) := by rw [wrap_ok (by omega)]; omega
    simp only [roundS]
    simp only [go_sem, Int.reduceToNat, Int.reduceLE, Int.reduceLT, Nat.reduceBEq, Nat.reduceLT, Nat.reduceAdd, Nat.reduceLeDiff, dr_done_0, dr_done_1, dr_done_2, dr_done_3, encTask, hlq, hwr, hxq, encL]
    refine ⟨_, sTrue_spec (stk t s p q) t.goal .unk .unk _ (by have := (hs q).1; omega) (hs q).2 hg, ?_⟩
    have hend : ∀ (S : Slots) (x : Store) (at_ : Int), lk S 6 = .ptr (σ.length + 2) 0 → lk S 7 = .int .i64 at_ → x = σ ++ [.row (encTask t), .row [.slice .unk (p.map Ahl.encI)], .row [.slice (.grow (σ.length + 3)) ((statesK t s p q).map encL), .int .i64 (costK t p q), .bool (condHolds (stk t s p q) t.goal)], .grow 1 (q + 1),
        .row [.slice (.grow (σ.length + 3)) ((statesK t s p q).map encL), .int .i64 (costK t p q), .bool (condHolds (stk t s p q) t.goal)], .row [.int .i64 at_], .row (encTask t), .row [.slice .unk ((stk t s p q).map Ahl.encI)], .row [.slice .unk (p.map Ahl.encI)], .dead] → at_ = (if q = p.length then -1 else (q : Int)) →
        bodyK [.cell (some 3) 6, .tmp 7] σ.length 62 (isR (doneR t s p) σ) .ret S x := by
      rintro S _ at_ h1 h2 rfl rfl
      have hiu : Ids σ.length (.slice .unk ((statesK t s p q).map encL)) := ids_map ids_encL _
      refine ret_cN2 (c0 := [.slice (.grow (σ.length + 3)) ((statesK t s p q).map encL), .int .i64 (costK t p q), .bool (condHolds (stk t s p q) t.goal)]) (cells := [.slice .unk ((statesK t s p q).map encL), .int .i64 (costK t p q), .bool (condHolds (stk t s p q) t.goal)]) h1 (by simp) (by omega) (.cons (Wk.unk _ _) (.refl _)) rfl h2 (by simp) hσ
        (.agg _ fun j x hx => by match j, hx with | 0, hx => simp at hx; subst hx; exact hiu | 1, hx => simp at hx; subst hx; exact .int _ _ | 2, hx => simp at hx; subst hx; exact .bool _) (.int _ _) ⟨?_, rfl⟩
      simp only [doneR, hst]
    by_cases hqp : q = p.length
    · have hbq : ((q : Int) == (p.length : Int)) = true := by simp [hqp]
      simp only [go_sem, Int.reduceToNat, Int.reduceLE, Int.reduceLT, Nat.reduceBEq, Nat.reduceLT, Nat.reduceAdd, Nat.reduceLeDiff, dr_done_0, dr_done_1, dr_done_2, dr_done_3, encTask, hbq]
      exact hend _ _ (-1) rfl rfl (by simp [encTask]) (by rw [if_pos hqp])
    · have hbq : ((q : Int) == (p.length : Int)) = false := by simp; omega
      simp only [go_sem, Int.reduceToNat, Int.reduceLE, Int.reduceLT, Nat.reduceBEq, Nat.reduceLT, Nat.reduceAdd, Nat.reduceLeDiff, dr_done_0, dr_done_1, dr_done_2, dr_done_3, encTask, hbq]
      exact hend _ _ (q : Int) rfl rfl (by simp [encTask]) (by rw [if_neg hqp])
  · intro k hk
    obtain ⟨hk1, hk2⟩ := stopN_lt.1 hk
    obtain ⟨n, hx⟩ := get_ex hk1
    obtain ⟨hn1, hn2⟩ := hp n (List.mem_of_getElem? hx)
    obtain ⟨a, ha⟩ : ∃ a, t.actions[n.toNat]? = some a := ⟨_, List.getElem?_eq_getElem (by omega)⟩
    rw [← show L.asg = asg by rw [hL]] at hA
    rw [← show L.body = body by rw [hL]] at hB
    refine yld_as (by kernel_rfl) (L := L) (by simp [roundS]) (by rw [hL]) (by rw [hL]; rfl) (by rw [hL]; show ∀ x ∈ [20, 21], x < 62; decide) hA hB rfl rfl ?_
    rw [show L.nt = 62 by rw [hL], show L.ps = [20, 21] by rw [hL]]
    have hlen : (((roundS t s p σ L k).set (σ.length + 7) (AObj.row [AV.slice Tok.unk ((stk t s p (k + 1)).map Ahl.encI)]))).length = σ.length + 10 := by simp [roundS]
    rw [hlen]
    rw [congrArg LoopA.s hL]
    simp only [roundS]
    simp only [go_sem, Int.reduceToNat, Int.reduceLE, Int.reduceLT, Nat.reduceBEq, Nat.reduceLT, Nat.reduceAdd, Nat.reduceLeDiff, dr_done_0, dr_done_1, dr_done_2, dr_done_3, encTask]
    refine ⟨L, by simp, by rw [hL], ?_⟩
    have hsp : statesK t s p (k + 1) = statesK t s p k ++ [stk t s p (k + 1)] := by unfold statesK; rw [List.range_succ, List.map_append]; rfl
    have hco : costK t p (k + 1) = IntKind.i64.wrap (costK t p k + a.cost) := by rw [costK, hx, Option.bind_some, ha]
    have hlk : (statesK t s p k).length = k + 1 := by simp [statesK]
    simp only [go_sem, Int.reduceToNat, Int.reduceLE, Int.reduceLT, Nat.reduceBEq, Nat.reduceLT, Nat.reduceAdd, Nat.reduceLeDiff, dr_done_0, dr_done_1, dr_done_2, dr_done_3, encTask]
    refine ⟨_, cloneI_spec (stk t s p (k + 1)) .unk _ (by have := (hs (k + 1)).1; omega), ?_⟩
    simp only [go_sem, Int.reduceToNat, Int.reduceLE, Int.reduceLT, Nat.reduceBEq, Nat.reduceLT, Nat.reduceAdd, Nat.reduceLeDiff, dr_done_0, dr_done_1, dr_done_2, dr_done_3, encTask]
    have hbig : bigLen (k + 1 + 1) 24 := big_ok (by omega) (by omega)
    have hwk : IntKind.i64.wrap ((k : Int) + 1) = ((k + 1 : Nat) : Int) := by rw [wrap_ok (by omega)]; omega
    simp only [go_sem, Int.reduceToNat, Int.reduceLE, Int.reduceLT, Nat.reduceBEq, Nat.reduceLT, Nat.reduceAdd, Nat.reduceLeDiff, dr_done_0, dr_done_1, dr_done_2, dr_done_3, encTask, hlk, hbig, hx, ha, Ahl.encI, encA, hn1, hwk]
    have hsp2 : (statesK t s p k).map encL ++ [[.slice .unk ((stk t s p (k + 1)).map Ahl.encI)]] = (statesK t s p (k + 1)).map encL := by rw [hsp, List.map_append]; rfl
    rw [hsp2, ← hco]
    have hfin := hin (k + 1) { L with st := .busy } rfl
    simp only [roundS, encTask] at hfin
    refine round_end0 (L := { L with st := .busy }) hfin (by simp) ?_ (by simp)
    refine ⟨rfl, ?_⟩
    have hLL : ({ { L with st := .busy } with st := .ready, pend := none } : LoopA) = L := by rw [hL]
    simp [hLL]
end Go.Proofs.YtbnhijapbnfohaaGreat
