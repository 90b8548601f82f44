/- Contracts of the given program's functions, and an abstract layer over the model; no condition. -/
import Derived.Test.YtjmmldkailblmaaGreatBase5
set_option linter.unusedVariables false
set_option linter.unusedSimpArgs false
namespace Go.Proofs.YtjmmldkailblmaaGreat
open Go.Ahl
section
variable (nx : List Int → List (List Int)) (s0 : List Int)
def gK : Nat → List (List Int)
  | 0 => [s0]
  | k + 1 => match (gK k)[k]? with
    | some s => addAll (gK k) (nx s)
    | none => gK k
end
section
variable {nx : List Int → List (List Int)} {s0 : List Int}
theorem gK_step {k : Nat} {s : List Int} (h : (gK nx s0 k)[k]? = some s) : gK nx s0 (k + 1) = addAll (gK nx s0 k) (nx s) := by rw [gK, h]
theorem gK_pre1 (k : Nat) : Pre (gK nx s0 k) (gK nx s0 (k + 1)) := by
  rw [gK]; split
  · exact pre_addAll _ _
  · exact .refl _
theorem gK_nodup : ∀ k, (gK nx s0 k).Nodup
  | 0 => by simp [gK]
  | k + 1 => by
    rw [gK]; split
    · exact nodup_addAll _ _ (gK_nodup k)
    · exact gK_nodup k
theorem gK_stop {k : Nat} (h : (gK nx s0 k).length ≤ k) : ∀ j, gK nx s0 (k + j) = gK nx s0 k
  | 0 => rfl
  | j + 1 => by
    have ih := gK_stop h j
    show gK nx s0 (k + j + 1) = _
    rw [gK, ih, List.getElem?_eq_none (by omega)]
theorem gK_rising {n : Nat} (hs : risingB n (-1) s0 = true) (hn : ∀ s, risingB n (-1) s = true → ∀ y ∈ nx s, risingB n (-1) y = true) : ∀ k, ∀ y ∈ gK nx s0 k, risingB n (-1) y = true
  | 0, y, hy => by rw [gK, List.mem_singleton] at hy; subst hy; exact hs
  | k + 1, y, hy => by
    have ih := gK_rising hs hn k
    rw [gK] at hy
    split at hy
    · rename_i s h
      rcases mem_addAll.1 hy with q | q
      · exact ih y q
      · exact hn s (ih s (List.mem_of_getElem? h)) y q
    · exact ih y hy
theorem gK_len {n : Nat} (hs : risingB n (-1) s0 = true) (hn : ∀ s, risingB n (-1) s = true → ∀ y ∈ nx s, risingB n (-1) y = true) (k : Nat) : (gK nx s0 k).length ≤ 2 ^ n := by
  have := nodup_sub_len (gK_nodup (nx := nx) (s0 := s0) k) (m := statesL n) (fun y hy => by
    obtain ⟨h1, h2⟩ := rising_pw (gK_rising hs hn k y hy)
    exact statesL_all _ y h1 fun v hv => by have := h2 v hv; omega)
  rwa [statesL_len] at this
theorem gK_closed : ∀ (k j : Nat) (s : List Int), j < k → (gK nx s0 k)[j]? = some s → ∀ y ∈ nx s, y ∈ gK nx s0 k
  | k + 1, j, s, hj, hs, y, hy => by
    have hp := gK_pre1 (nx := nx) (s0 := s0) k
    rcases Nat.lt_or_ge j (gK nx s0 k).length with hl | hl
    · have hs' : (gK nx s0 k)[j]? = some s := by
        obtain ⟨x, hx⟩ := get_ex hl
        have := hp.get hx
        rw [hs] at this; injection this with this; subst this; exact hx
      rcases Nat.lt_or_ge j k with q | q
      · exact hp.mem (gK_closed k j s q hs' y hy)
      · have : j = k := by omega
        subst this
        rw [gK_step hs']
        exact mem_addAll.2 (.inr hy)
    · have hlt := lt_of_get hs
      rw [gK] at hlt
      split at hlt
      · rename_i h; have := lt_of_get h; omega
      · omega
end
def c_indexI : CCode := .seq (.ops [⟨some 4, .move (.lit (.int .i64 0)), none, []⟩]) (.seq (.seq (.ops [⟨some 6, .move (.tmp 0), none, []⟩, ⟨some 7, .blen 1 (.tmp 6), none, []⟩, ⟨some 8, .move (.lit (.int .i64 0)), none, []⟩]) (.block 0 (.loop (.seq (.ops [⟨some 9, .bin .lss .none (.tmp 8) (.tmp 7), none, []⟩]) (.seq (.cond (.tmp 9) .skip (.exit 0)) (.seq (.block 1 (.seq (.ops [⟨some 10, .move (.tmp 8), none, []⟩, ⟨some 5, .move (.tmp 10), none, []⟩]) (.seq (.ops [⟨some 11, .move (.tmp 1), none, []⟩, ⟨some 12, .move (.tmp 0), none, []⟩, ⟨some 13, .move (.tmp 5), none, []⟩, ⟨some 14, .iaddr 1 (.tmp 12) (.tmp 13), none, []⟩, ⟨some 15, .load none (.tmp 14), none, []⟩, ⟨some 16, .bin .eql .none (.tmp 11) (.tmp 15), none, []⟩]) (.cond (.tmp 16) (.seq (.ops [⟨some 17, .move (.tmp 5), none, []⟩, ⟨some 4, .move (.tmp 17), none, []⟩]) .ret) .skip)))) (.ops [⟨some 18, .bin .add .none (.tmp 8) (.lit (.int .i64 1)), none, []⟩, ⟨some 8, .move (.tmp 18), none, []⟩]))))))) (.seq (.ops [⟨some 4, .move (.lit (.int .i64 (-1))), none, []⟩]) .ret))
set_option maxRecDepth 20000 in
theorem indexI_spec (l : List Int) (x : Int) (tok : Tok) (σ : Store) (hl : l.length ≤ 140737488355328) :
    ACalls Tryz.prog 82 [.slice tok (l.map Ahl.encI), .int .i64 x] σ (isR (.int .i64 (idxFrom (fun y => x == y) 0 l)) σ) := by
  refine ACalls.intro (rs := [(.tmp 4)]) (by kernel_rfl) { own := [], ghosts := [] } Tryz.func82 (c := Tryz.f82.body.getD .skip) (by kernel_rfl) (by decide) (by rw [show Tryz.f82.ntmps = 19 by kernel_rfl]; exact Nat.le_of_ble_eq_true rfl) (by kernel_rfl) ?_
  intro hσ hids
  rw [show comp Tryz.prog { own := [], ghosts := [] } (Tryz.f82.body.getD .skip) = c_indexI by kernel_rfl, show Tryz.f82.ntmps = 19 by kernel_rfl]
  unfold c_indexI
  have hil : Ids σ.length (.slice tok (l.map Ahl.encI)) := hids _ (by simp)
  simp only [go_sem, simprocAttr]
  refine wpc_while (fun i => [(0, .slice tok (l.map Ahl.encI)), (1, .int .i64 x), (7, .int .i64 l.length), (8, .int .i64 (i : Nat))]) (fun _ => σ) (fun i => i ≤ l.length ∧ idxFrom (fun y => x == y) 0 l = idxFrom (fun y => x == y) i (l.drop i)) (fun i => l.length - i) 0 ⟨Nat.zero_le _, rfl⟩ (by (try dsimp only); first | exact ghk | exact ghk0) ?_
  rintro i ⟨hi, hv⟩ K hK hE hR
  by_cases h : i < l.length
  · obtain ⟨y, hx⟩ := get_ex h; have hlt : ((i : Int) < (l.length : Int)) := (by omega); have hw : IntKind.i64.wrap ((i : Int) + 1) = ((i + 1 : Nat) : Int) := (by rw [wrap_ok (by omega)]; omega)
    rw [drop_cons hx, idxFrom] at hv
    cases h1 : (x == y)
    · simp only [go_sem, simprocAttr, hlt, hx, Ahl.encI, h1]
      rw [h1, if_neg (by simp)] at hv
      refine hK _ _ (i + 1) (⟨by omega, by rw [hv]; norm_cast⟩) (by first | omega | (simp only []; omega) | (simp; omega)) ?_; (try dsimp only); (try simp only [ hw]); first | exact ghk | exact ghk0
    · simp only [go_sem, simprocAttr, hlt, hx, Ahl.encI, h1, hR]
      rw [h1, if_pos rfl] at hv
      first | exact rtk (.int .i64 i) ⟨by rw [hv], rfl⟩ | exact rtk0 (.int .i64 i) ⟨by rw [hv], rfl⟩
  · have hlt : ¬ ((i : Int) < (l.length : Int)) := by omega
    rw [drop_len h, idxFrom] at hv
    simp only [go_sem, simprocAttr, hlt, hE]
    first | exact rtk (.int .i64 (-1)) ⟨by rw [hv], rfl⟩ | exact rtk0 (.int .i64 (-1)) ⟨by rw [hv], rfl⟩
theorem any_containsI (l : List Int) (x : Int) : l.any (fun y => x == y) = l.contains x := by
  induction l with
  | nil => rfl
  | cons y l ih => rw [List.any_cons, List.contains_cons, ih]
def c_contI : CCode := .seq (.ops [⟨some 4, .move (.lit (.bool false)), none, []⟩]) (.seq (.ops [⟨some 5, .move (.tmp 0), none, []⟩, ⟨some 6, .move (.tmp 1), none, []⟩, ⟨some 7, .call (.lit (.func 82 [])) [.tmp 5, .tmp 6], none, []⟩, ⟨some 8, .bin .geq .none (.tmp 7) (.lit (.int .i64 0)), none, []⟩, ⟨some 4, .move (.tmp 8), none, []⟩]) .ret)
set_option maxRecDepth 20000 in
theorem contI_spec (l : List Int) (x : Int) (tok : Tok) (σ : Store) (hl : l.length ≤ 140737488355328) :
    ACalls Tryz.prog 43 [.slice tok (l.map Ahl.encI), .int .i64 x] σ (isR (.bool (l.contains x)) σ) := by
  refine ACalls.intro (rs := [(.tmp 4)]) (by kernel_rfl) { own := [], ghosts := [] } Tryz.func43 (c := Tryz.f43.body.getD .skip) (by kernel_rfl) (by decide) (by rw [show Tryz.f43.ntmps = 9 by kernel_rfl]; exact Nat.le_of_ble_eq_true rfl) (by kernel_rfl) ?_
  intro hσ hids
  rw [show comp Tryz.prog { own := [], ghosts := [] } (Tryz.f43.body.getD .skip) = c_contI by kernel_rfl, show Tryz.f43.ntmps = 9 by kernel_rfl]
  unfold c_contI
  simp only [go_sem, simprocAttr]
  refine (indexI_spec l x tok _ hl).is ?_
  simp only [go_sem, simprocAttr, idxFrom_ge _ l 0 (Int.le_refl _), any_containsI]
  first | exact rtw (v := .bool _) wkS ⟨rfl, rfl⟩ | exact rtw0 (v := .bool _) wkS ⟨rfl, rfl⟩
def entB (t : FTask) (g : List (List Int)) (p : List FEnt) (i : Nat) (x : FEnt) : Bool :=
  risingB t.facts.length (-1) x.1 && (decide (0 ≤ x.2) && (decide (x.2 < (g.length : Int)) && ((decide (i = 0) || decide (cmpInts (p.getD (i - 1) ([], 0)).1 x.1 < 0)) && (appB t (grp g x.2.toNat) x.1 && !condHolds x.1 t.goal))))
def polB (t : FTask) (g : List (List Int)) (p : List FEnt) : Bool := (List.range p.length).all fun i => entB t g p i (p.getD i ([], 0))
def polG (p : List FEnt) (s : List Int) : Option Int := (p.find? fun x => x.1 == s).map (·.2)
def nxP (t : FTask) (g : List (List Int)) (p : List FEnt) (s : List Int) : List (List Int) := match polG p s with
  | some n => outsL t (grp g n.toNat) s
  | none => []
def chP (t : FTask) (g : List (List Int)) (p : List FEnt) (ss : List (List Int)) (s : List Int) : List (Nat × List Nat) := match polG p s with
  | some n => [(n.toNat, (outsL t (grp g n.toNat) s).map ss.idxOf)]
  | none => []
def ssP (t : FTask) (g : List (List Int)) (p : List FEnt) : List (List Int) := gK (nxP t g p) t.init (2 ^ t.facts.length)
def wldP (t : FTask) (g : List (List Int)) (p : List FEnt) : Wld := ⟨ssP t g p, (ssP t g p).map (chP t g p (ssP t g p)), (ssP t g p).map fun s => condHolds s t.goal⟩
def weakB (t : FTask) (ss : List (List Int)) : Bool := ss.any fun s => condHolds s t.goal
def shutB (t : FTask) (p : List FEnt) (ss : List (List Int)) : Bool := ss.all fun s => (polG p s).isSome || condHolds s t.goal
def badB (w : Wld) : Bool := (List.range w.ss.length).any fun i => !goalB w i && decide (nearF w (fun _ => true) i < 0)
def kindOf (w : Wld) (shut weak : Bool) : Int :=
  if shut then (if (dIter w w.ss.length).contains (-1) then (if badB w then (if weak then 1 else 0) else 2) else 3) else (if weak then 1 else 0)
def kindN (t : FTask) (g : List (List Int)) (p : List FEnt) : Int := kindOf (wldP t g p) (shutB t p (wldP t g p).ss) (weakB t (wldP t g p).ss)
def KindR (t : FTask) (g : List (List Int)) (p : List FEnt) : AV :=
  if askE t g = 0 then (if polB t g p then .tuple [.int .i64 (kindN t g p), .int .i64 0] else .tuple [.int .i64 0, .int .i64 161]) else .tuple [.int .i64 0, .int .i64 (askE t g)]
theorem entB_get {t : FTask} {g : List (List Int)} {p : List FEnt} (h : polB t g p = true) {i : Nat} {x : FEnt} (hx : p[i]? = some x) : entB t g p i x = true := by
  have := List.all_eq_true.1 h i (List.mem_range.2 (lt_of_get hx))
  rwa [List.getD_eq_getElem?_getD, hx] at this
theorem entB_parts {t : FTask} {g : List (List Int)} {p : List FEnt} {i : Nat} {x : FEnt} (h : entB t g p i x = true) : risingB t.facts.length (-1) x.1 = true ∧ 0 ≤ x.2 ∧ x.2.toNat < g.length ∧ (i = 0 ∨ cmpInts (p.getD (i - 1) ([], 0)).1 x.1 < 0) ∧ appB t (grp g x.2.toNat) x.1 = true ∧ condHolds x.1 t.goal = false := by
  unfold entB at h
  simp only [Bool.and_eq_true, Bool.or_eq_true, decide_eq_true_eq, Bool.not_eq_true'] at h
  obtain ⟨h1, h2, h3, h4, h5, h6⟩ := h
  exact ⟨h1, h2, by omega, h4, h5, h6⟩
theorem polG_mem {p : List FEnt} {s : List Int} {n : Int} (h : polG p s = some n) : (s, n) ∈ p := by
  unfold polG at h
  obtain ⟨x, hx, rfl⟩ := Option.map_eq_some_iff.1 h
  have h1 := List.find?_some hx
  have h2 := List.mem_of_find?_eq_some hx
  have : x.1 = s := by simpa using h1
  rw [← this]; exact h2
theorem polG_ok {t : FTask} {g : List (List Int)} {p : List FEnt} (h : polB t g p = true) {s : List Int} {n : Int} (hn : polG p s = some n) : 0 ≤ n ∧ n.toNat < g.length ∧ risingB t.facts.length (-1) s = true ∧ appB t (grp g n.toNat) s = true ∧ condHolds s t.goal = false := by
  obtain ⟨i, hi⟩ := List.getElem?_of_mem (polG_mem hn)
  obtain ⟨h1, h2, h3, _, h5, h6⟩ := entB_parts (entB_get h hi)
  exact ⟨h2, h3, h1, h5, h6⟩
theorem nxP_rising {t : FTask} {g : List (List Int)} {p : List FEnt} (he : EOk t) (hc : choicesB t g = true) (h : polB t g p = true) : ∀ s, risingB t.facts.length (-1) s = true → ∀ y ∈ nxP t g p s, risingB t.facts.length (-1) y = true := by
  intro s hs y hy
  unfold nxP at hy
  split at hy
  · rename_i n hn
    obtain ⟨h1, h2, _⟩ := polG_ok h hn
    exact outs_rising he hs (grp_ok hc h2).2.2.1 y hy
  · simp at hy
def ofE (x : FEnt) : AV × AV := (.str (keyP x.1), .int .i64 x.2)
theorem ids_ofE (n : Nat) (l : List FEnt) : IdsO n (.map (l.map ofE)) := by
  intro j a b h
  rw [List.getElem?_map] at h
  obtain ⟨x, _, hx⟩ := Option.map_eq_some_iff.1 h
  simp only [ofE, Prod.mk.injEq] at hx
  obtain ⟨rfl, rfl⟩ := hx
  exact ⟨.str _, .int _ _⟩
theorem find_of (x : List Int) : ∀ (l : List FEnt) (k : Nat), (∀ y ∈ l, keyP y.1 = keyP x → y.1 = x) → ∃ i : Nat, aFind (.str (keyP x)) (l.map ofE) k = some ((polG l x).map fun n => (i, .int .i64 n))
  | [], k, _ => ⟨0, by simp [aFind, polG]⟩
  | y :: l, k, h => by
    rw [List.map_cons, ofE, aFind]
    by_cases e : y.1 = x
    · refine ⟨k, ?_⟩
      have : keyEq (.str (keyP x)) (.str (keyP y.1)) = some true := by rw [e]; simp [keyEq]
      rw [this]
      simp [polG, e]
    · obtain ⟨i, hi⟩ := find_of x l (k + 1) fun z hz => h z (List.mem_cons_of_mem _ hz)
      refine ⟨i, ?_⟩
      have hk : ¬ keyP y.1 = keyP x := fun q => e (h y List.mem_cons_self q)
      have : keyEq (.str (keyP x)) (.str (keyP y.1)) = some false := by
        simp only [keyEq, Option.some.injEq, beq_eq_false_iff_ne, ne_eq]
        exact fun q => hk q.symm
      rw [this]
      simp only
      rw [hi]
      unfold polG
      rw [List.find?_cons_of_neg (by simpa using e)]
theorem polG_none {p : List FEnt} {s : List Int} (h : ∀ x ∈ p, x.1 ≠ s) : polG p s = none := by
  unfold polG
  rw [List.find?_eq_none.2 (fun x hx => by simpa using h x hx)]; rfl
theorem pol_rise {t : FTask} {g : List (List Int)} {p : List FEnt} : ∀ (i : Nat), (∀ j, j < i → ∀ x, p[j]? = some x → entB t g p j x = true) → (p.take i).Pairwise fun x y => cmpInts x.1 y.1 < 0
  | 0, _ => by simp
  | i + 1, h => by
    have ih := pol_rise i fun j hj => h j (by omega)
    rcases Nat.lt_or_ge i p.length with hi | hi
    · obtain ⟨x, hx⟩ := get_ex hi
      rw [take_succ' hx, List.pairwise_append]
      refine ⟨ih, by simp, fun y hy z hz => ?_⟩
      rw [List.mem_singleton] at hz; subst hz
      have h1 := (entB_parts (h i (by omega) z hx)).2.2.2.1
      obtain ⟨j, hj, rfl⟩ := List.getElem_of_mem hy
      have hj2 : j < i := by rw [List.length_take] at hj; omega
      have h1 := h1.resolve_left (by omega)
      obtain ⟨u, hu⟩ := get_ex (show i - 1 < p.length by omega)
      rw [List.getD_eq_getElem?_getD, hu] at h1
      simp only [Option.getD_some] at h1
      by_cases e : j = i - 1
      · subst e
        have : (p.take i)[i - 1] = u := by
          rw [List.getElem_take]; rw [List.getElem?_eq_getElem (by omega)] at hu; injection hu
        rw [this]; exact h1
      · have hpw := List.pairwise_iff_getElem.1 ih j (i - 1) hj (by rw [List.length_take]; omega) (by omega)
        have : (p.take i)[i - 1]'(by rw [List.length_take]; omega) = u := by
          rw [List.getElem_take]; rw [List.getElem?_eq_getElem (by omega)] at hu; injection hu
        rw [this] at hpw
        exact cmpInts_trans hpw h1
    · rw [List.take_of_length_le (by omega)]; rwa [List.take_of_length_le (by omega)] at ih
end Go.Proofs.YtjmmldkailblmaaGreat
namespace Go.Proofs.YtjmmldkailblmaaGreat
open Go.Ahl
theorem cg6 {a b c d e f : AObj} {r : Store} (k : Nat) : (a :: b :: c :: d :: e :: f :: r)[6 + k]? = r[k]? := by rw [Nat.add_comm]; rfl
theorem cs6 {a b c d e f x : AObj} {r : Store} (k : Nat) : (a :: b :: c :: d :: e :: f :: r).set (6 + k) x = a :: b :: c :: d :: e :: f :: r.set k x := by rw [Nat.add_comm]; rfl
theorem rk_get {α : Type} (y x : α) (r : List α) : ∀ k, (List.replicate k y ++ x :: r)[k]? = some x
  | 0 => rfl
  | k + 1 => by rw [List.replicate_succ, List.cons_append, List.getElem?_cons_succ]; exact rk_get y x r k
theorem rk_set {α : Type} (y x z : α) (r : List α) : ∀ k, (List.replicate k y ++ x :: r).set k z = List.replicate k y ++ z :: r
  | 0 => rfl
  | k + 1 => by rw [List.replicate_succ, List.cons_append, List.set_cons_succ, rk_set y x z r k]; rfl
theorem rk_succ {α : Type} (y : α) (r : List α) (k : Nat) : List.replicate (k + 1) y ++ r = List.replicate k y ++ y :: r := by
  rw [List.replicate_succ', List.append_assoc]; rfl
theorem rk_get1 {α : Type} (y x : α) (r : List α) : ∀ k, (List.replicate k y ++ x :: r)[k + 1]? = r[0]?
  | 0 => rfl
  | k + 1 => by rw [List.replicate_succ, List.cons_append, List.getElem?_cons_succ]; exact rk_get1 y x r k
theorem rk_set1 {α : Type} (y x z : α) (r : List α) : ∀ k, (List.replicate k y ++ x :: r).set (k + 1) z = List.replicate k y ++ x :: r.set 0 z
  | 0 => rfl
  | k + 1 => by rw [List.replicate_succ, List.cons_append, List.set_cons_succ, rk_set1 y x z r k]; rfl
theorem rk_get2 {α : Type} (y x : α) (r : List α) : ∀ k, (List.replicate k y ++ x :: r)[k + 2]? = r[1]?
  | 0 => rfl
  | k + 1 => by rw [List.replicate_succ, List.cons_append, List.getElem?_cons_succ]; exact rk_get2 y x r k
theorem rk_set2 {α : Type} (y x z : α) (r : List α) : ∀ k, (List.replicate k y ++ x :: r).set (k + 2) z = List.replicate k y ++ x :: r.set 1 z
  | 0 => rfl
  | k + 1 => by rw [List.replicate_succ, List.cons_append, List.set_cons_succ, rk_set2 y x z r k]; rfl
theorem WkL.snoc {a b : AV} (h : Wk a b) : ∀ (l : List AV), WkL (l ++ [a]) (l ++ [b])
  | [] => .cons h .nil
  | x :: l => .cons (.refl x) (WkL.snoc h l)
theorem tokJ {n0 nt : Nat} {s : Slots} (σ : Store) (a b c d e f x : AObj) (n : Int) (J : Nat) : Ghost n0 nt s (σ ++ (a :: b :: c :: d :: e :: f :: (List.replicate J AObj.dead ++ [x, .row [.int .i64 n, .slice .nil []]]))) s
    (σ ++ (a :: b :: c :: d :: e :: f :: (List.replicate J AObj.dead ++ [x, .row [.int .i64 n, .slice (.grow (σ.length + (6 + (J + 2)))) []], .grow 1 0]))) := by
  have h := Ghost.tokRow (n0 := n0) (nt := nt) (s := s) (σ := σ ++ (a :: b :: c :: d :: e :: f :: (List.replicate J AObj.dead ++ [x, .row [.int .i64 n, .slice .nil []]]))) (σ.length + (6 + (J + 1))) 1 1 (cells := [.int .i64 n, .slice .nil []]) (by rw [g_get, cg6, rk_get1]; rfl) rfl
  have hl : (σ ++ (a :: b :: c :: d :: e :: f :: (List.replicate J AObj.dead ++ [x, .row [.int .i64 n, .slice .nil []]]))).length = σ.length + (6 + (J + 2)) := by simp; omega
  rw [hl, List.append_assoc, g_set] at h
  simp only [List.cons_append, List.append_assoc, List.nil_append, cs6, rk_set1, List.set_cons_zero, List.set_cons_succ] at h
  exact h
theorem ofWK (a b e : AObj) (c d : AV) (ss : List (List Int)) (x : List Int) (σ r : Store) (hx : x.length ≤ 1000000) (hap : Apart ss x) (hl : ss.length ≤ 1000000) :
    ACalls Tryz.prog 42 [.ptr (σ.length + 3) 0, .slice .unk (x.map Ahl.encI)] (σ ++ (a :: b :: .map (encW ss) :: .row [.map (σ.length + 2), .slice (.grow (σ.length + 4)) (ss.map encL), c, d] :: .grow 1 ss.length :: e :: r))
      (isR (.int .i64 (((addS ss x).idxOf x : Nat) : Int)) (σ ++ (a :: b :: .map (encW (addS ss x)) :: .row [.map (σ.length + 2), .slice (.grow (σ.length + 4)) ((addS ss x).map encL), c, d] :: .grow 1 (addS ss x).length :: e :: r))) := by
  have h := ofN_spec ss x (σ.length + 2) (σ.length + 4) (σ.length + 3) [c, d] (σ ++ (a :: b :: .map (encW ss) :: .row [.map (σ.length + 2), .slice (.grow (σ.length + 4)) (ss.map encL), c, d] :: .grow 1 ss.length :: e :: r)) hx hap hl (by simp) (by simp) (by simp) (by omega) (by omega) (by omega)
  have e' : (if x ∈ ss then σ ++ (a :: b :: .map (encW ss) :: .row [.map (σ.length + 2), .slice (.grow (σ.length + 4)) (ss.map encL), c, d] :: .grow 1 ss.length :: e :: r) else (((σ ++ (a :: b :: .map (encW ss) :: .row [.map (σ.length + 2), .slice (.grow (σ.length + 4)) (ss.map encL), c, d] :: .grow 1 ss.length :: e :: r)).set (σ.length + 2) (.map (encW (ss ++ [x])))).set (σ.length + 4) (.grow 1 (ss.length + 1))).set (σ.length + 3) (.row (.map (σ.length + 2) :: .slice (.grow (σ.length + 4)) ((ss ++ [x]).map encL) :: [c, d]))) = σ ++ (a :: b :: .map (encW (addS ss x)) :: .row [.map (σ.length + 2), .slice (.grow (σ.length + 4)) ((addS ss x).map encL), c, d] :: .grow 1 (addS ss x).length :: e :: r) := by
    by_cases hm : x ∈ ss
    · rw [if_pos hm, addS_in hm]
    · rw [if_neg hm, addS_out hm]
      simp
  rwa [e'] at h
theorem chP_pre {t : FTask} {g : List (List Int)} {p : List FEnt} {ss ss' : List (List Int)} {s : List Int} (h : Pre ss ss') (hm : ∀ y ∈ nxP t g p s, y ∈ ss) : chP t g p ss' s = chP t g p ss s := by
  unfold chP
  unfold nxP at hm
  split
  · rename_i n hn
    rw [hn] at hm
    congr 2
    exact List.map_congr_left fun y hy => h.idx (hm y hy)
  · rfl
def chV (l : List (Nat × List Nat)) : AV := .slice .unk (l.map encCo)
def CHp (t : FTask) (g : List (List Int)) (p : List FEnt) (ss : List (List Int)) (k : Nat) : List (List (Nat × List Nat)) := (ss.take k).map (chP t g p ss)
def GLp (t : FTask) (ss : List (List Int)) (k : Nat) : List Bool := (ss.take k).map fun s => condHolds s t.goal
theorem take_pre {ss ss' : List (List Int)} (h : Pre ss ss') {k : Nat} (hk : k ≤ ss.length) : ss'.take k = ss.take k := by
  obtain ⟨r, rfl⟩ := h; rw [List.take_append_of_le_length hk]
theorem CHp_step {t : FTask} {g : List (List Int)} {p : List FEnt} {k : Nat} {s : List Int} (h : (gK (nxP t g p) t.init k)[k]? = some s) :
    CHp t g p (gK (nxP t g p) t.init (k + 1)) (k + 1) = CHp t g p (gK (nxP t g p) t.init k) k ++ [chP t g p (gK (nxP t g p) t.init (k + 1)) s] := by
  have hp := gK_pre1 (nx := nxP t g p) (s0 := t.init) k
  have hk := lt_of_get h
  unfold CHp
  rw [take_succ' (hp.get h), take_pre hp (by omega), List.map_append]
  congr 1
  refine List.map_congr_left fun x hx => ?_
  obtain ⟨j, hj, rfl⟩ := List.getElem_of_mem hx
  have hj2 : j < k := by rw [List.length_take] at hj; omega
  exact chP_pre hp (gK_closed k j _ hj2 (by rw [List.getElem_take]; exact List.getElem?_eq_getElem _))
theorem GLp_step {t : FTask} {nx : List Int → List (List Int)} {s0 : List Int} {k : Nat} {s : List Int} (h : (gK nx s0 k)[k]? = some s) : GLp t (gK nx s0 (k + 1)) (k + 1) = GLp t (gK nx s0 k) k ++ [condHolds s t.goal] := by
  have hp := gK_pre1 (nx := nx) (s0 := s0) k
  have hk := lt_of_get h
  unfold GLp
  rw [take_succ' (hp.get h), take_pre hp (by omega), List.map_append]; rfl
theorem tokP {n0 nt : Nat} {s : Slots} (t : FTask) (p : List FEnt) (σ : Store) : Ghost n0 nt s (σ ++ [.row (encTask t), .map (p.map ofE), .map [], .row [.map (σ.length + 2), .slice .nil [], .slice .nil [], .slice .nil []]]) s (σ ++ ([AObj.row (encTask t), AObj.map (List.map ofE p), AObj.map (encW []), AObj.row [AV.map (σ.length + 2), AV.slice (.grow (σ.length + 4)) (List.map encL []), AV.ref (σ.length + (6 + 0)) 1 0 0, AV.slice (.grow (σ.length + 5)) (List.map encB [])], AObj.grow 1 (@List.length (List Int) []), AObj.grow 1 (@List.length Bool [])] ++ [AObj.row []])) := by
  have g1 := Ghost.tokRow (n0 := n0) (nt := nt) (s := s) (σ := σ ++ [.row (encTask t), .map (p.map ofE), .map [], .row [.map (σ.length + 2), .slice .nil [], .slice .nil [], .slice .nil []]]) (σ.length + 3) 1 1 (by simp; rfl) rfl
  have g2 := Ghost.tokRow (n0 := n0) (nt := nt) (s := s) (σ := σ ++ [.row (encTask t), .map (p.map ofE), .map [], .row [.map (σ.length + 2), .slice (.grow (σ.length + 4)) [], .slice .nil [], .slice .nil []], .grow 1 0]) (σ.length + 3) 3 1 (by simp; rfl) rfl
  have g3 := Ghost.rowRow (n0 := n0) (nt := nt) (s := s) (σ := σ ++ [.row (encTask t), .map (p.map ofE), .map [], .row [.map (σ.length + 2), .slice (.grow (σ.length + 4)) [], .slice .nil [], .slice (.grow (σ.length + 5)) []], .grow 1 0, .grow 1 0]) (σ.length + 3) 2 1 (by simp; rfl) rfl
  simp only [List.length_append, List.length_cons, List.length_nil, Nat.zero_add, Nat.reduceAdd, List.append_assoc, List.cons_append, List.nil_append, g_set, List.set_cons_succ, List.set_cons_zero] at g1 g2 g3
  exact (g1.trans g2).trans g3
theorem wldP_ok {t : FTask} {g : List (List Int)} {p : List FEnt} (he : EOk t) (hc : choicesB t g = true) (hp : polB t g p = true) (hs : risingB t.facts.length (-1) t.init = true) (h8 : t.facts.length ≤ 8) : WOk (wldP t g p) := by
  have hnx := nxP_rising he hc hp
  have hlen := gK_len hs hnx (2 ^ t.facts.length)
  have h2n : 2 ^ t.facts.length ≤ 256 := Nat.pow_le_pow_right (n := 2) (by omega) h8
  refine ⟨?_, by simp [wldP], by simp [wldP], ?_, ?_⟩
  · show (ssP t g p).length ≤ _
    unfold ssP; omega
  · intro l hl
    obtain ⟨s, _, rfl⟩ := List.mem_map.1 hl
    unfold chP; split <;> simp
  · intro l hl c hcm
    obtain ⟨s, hsm, rfl⟩ := List.mem_map.1 hl
    unfold chP at hcm
    split at hcm
    · rename_i n hn
      rw [List.mem_singleton] at hcm; subst hcm
      obtain ⟨h1, h2, h3, h4, h5⟩ := polG_ok hp hn
      have hnxs : nxP t g p s = outsL t (grp g n.toNat) s := by unfold nxP; rw [hn]
      have hcl : ∀ y ∈ outsL t (grp g n.toNat) s, y ∈ ssP t g p := fun y hy => by
        obtain ⟨j, hj⟩ := List.getElem?_of_mem hsm
        exact gK_closed _ j s (by have := lt_of_get hj; unfold ssP at this; omega) hj y (by rw [hnxs]; exact hy)
      refine ⟨?_, ?_, ?_⟩
      · have h1 : (outsL t (grp g n.toNat) s).Nodup := (outs_strict t _ s).imp fun {a b} q e => by subst e; exact absurd q (by unfold ltL; rw [cmpInts_refl]; omega)
        have := nodup_sub_len h1 hcl
        unfold ssP at this
        rw [List.length_map]; omega
      · have := outs_ne (t := t) (s := s) (grp_ok hc h2).2.1
        simpa using this
      · intro k hk
        obtain ⟨y, hy, rfl⟩ := List.mem_map.1 hk
        exact List.idxOf_lt_length_of_mem (hcl y hy)
    · simp at hcm
def d_pKind_0 : List COp := [⟨some 44, .faddr 0 (.tmp 3), none, []⟩, ⟨some 45, .load none (.tmp 44), none, [0]⟩, ⟨some 46, .blen 1 (.tmp 45), none, [1]⟩, ⟨some 47, .faddr 0 (.tmp 11), none, []⟩, ⟨some 48, .load none (.tmp 47), none, [3]⟩, ⟨some 49, .call (.lit (.func 37 [])) [.tmp 46, .tmp 48], none, [2, 4]⟩, ⟨some 50, .un .not (.tmp 49), none, [5]⟩, ⟨some 51, .move (.tmp 50), none, [6, 5]⟩, ⟨some 52, .faddr 1 (.tmp 11), some (some 51, false), [7]⟩, ⟨some 53, .load none (.tmp 52), some (some 51, false), [8, 7]⟩, ⟨some 54, .bin .lss .none (.tmp 53) (.lit (.int .i64 0)), some (some 51, false), [9, 7]⟩, ⟨some 55, .pick (.tmp 51) (.lit (.bool true)) (.tmp 54), none, [7, 10]⟩, ⟨some 56, .move (.tmp 55), none, [11, 7]⟩, ⟨some 57, .faddr 1 (.tmp 11), some (some 56, false), [12]⟩, ⟨some 58, .load none (.tmp 57), some (some 56, false), [13, 12]⟩, ⟨some 59, .move (.tmp 1), some (some 56, false), [12]⟩, ⟨some 60, .blen 1 (.tmp 59), some (some 56, false), [15, 12]⟩, ⟨some 61, .bin .geq .none (.tmp 58) (.tmp 60), some (some 56, false), [14, 16, 12]⟩, ⟨some 62, .pick (.tmp 56) (.lit (.bool true)) (.tmp 61), none, [12, 17]⟩, ⟨some 63, .move (.tmp 62), none, [18, 12]⟩, ⟨some 64, .move (.tmp 10), some (some 63, false), [19]⟩, ⟨some 65, .bin .gtr .none (.tmp 64) (.lit (.int .i64 0)), some (some 63, false), [20, 19]⟩, ⟨some 66, .move (.tmp 65), some (some 63, false), [21, 19, 19]⟩, ⟨some 67, .move (.tmp 2), some (some 66, true), [22]⟩, ⟨some 68, .move (.tmp 10), some (some 66, true), [22]⟩, ⟨some 69, .bin .sub .none (.tmp 68) (.lit (.int .i64 1)), some (some 66, true), [24, 22]⟩, ⟨some 70, .iaddr 2 (.tmp 67) (.tmp 69), some (some 66, true), [23, 25, 22]⟩, ⟨some 71, .faddr 0 (.tmp 70), some (some 66, true), [26, 22]⟩, ⟨some 72, .load none (.tmp 71), some (some 66, true), [27, 22]⟩, ⟨some 73, .faddr 0 (.tmp 11), some (some 66, true), [22]⟩, ⟨some 74, .load none (.tmp 73), some (some 66, true), [29, 22]⟩, ⟨some 75, .call (.lit (.func 38 [])) [.tmp 72, .tmp 74], some (some 66, true), [28, 30, 22, 22]⟩, ⟨some 76, .bin .geq .none (.tmp 75) (.lit (.int .i64 0)), some (some 66, true), [31, 22]⟩, ⟨some 77, .pick (.tmp 66) (.tmp 76) (.lit (.bool false)), some (some 63, false), [22, 32, 19]⟩, ⟨some 78, .pick (.tmp 63) (.lit (.bool true)) (.tmp 77), none, [19, 33]⟩]
theorem dr_pKind_0 (P : Program) (nt n0 : Nat) (Q : Post) (s : Slots) (σ : Store) : wpc P nt n0 (.draw d_pKind_0) Q s σ = aOpsD P nt [⟨some 44, .faddr 0 (.tmp 3), none, []⟩, ⟨some 45, .load none (.tmp 44), none, [0]⟩, ⟨some 46, .blen 1 (.tmp 45), none, [1]⟩, ⟨some 47, .faddr 0 (.tmp 11), none, []⟩, ⟨some 48, .load none (.tmp 47), none, [3]⟩, ⟨some 49, .call (.lit (.func 37 [])) [.tmp 46, .tmp 48], none, [2, 4]⟩, ⟨some 50, .un .not (.tmp 49), none, [5]⟩, ⟨some 51, .move (.tmp 50), none, [6, 5]⟩, ⟨some 52, .faddr 1 (.tmp 11), some (some 51, false), [7]⟩, ⟨some 53, .load none (.tmp 52), some (some 51, false), [8, 7]⟩, ⟨some 54, .bin .lss .none (.tmp 53) (.lit (.int .i64 0)), some (some 51, false), [9, 7]⟩, ⟨some 55, .pick (.tmp 51) (.lit (.bool true)) (.tmp 54), none, [7, 10]⟩, ⟨some 56, .move (.tmp 55), none, [11, 7]⟩, ⟨some 57, .faddr 1 (.tmp 11), some (some 56, false), [12]⟩, ⟨some 58, .load none (.tmp 57), some (some 56, false), [13, 12]⟩, ⟨some 59, .move (.tmp 1), some (some 56, false), [12]⟩, ⟨some 60, .blen 1 (.tmp 59), some (some 56, false), [15, 12]⟩, ⟨some 61, .bin .geq .none (.tmp 58) (.tmp 60), some (some 56, false), [14, 16, 12]⟩, ⟨some 62, .pick (.tmp 56) (.lit (.bool true)) (.tmp 61), none, [12, 17]⟩, ⟨some 63, .move (.tmp 62), none, [18, 12]⟩, ⟨some 64, .move (.tmp 10), some (some 63, false), [19]⟩, ⟨some 65, .bin .gtr .none (.tmp 64) (.lit (.int .i64 0)), some (some 63, false), [20, 19]⟩, ⟨some 66, .move (.tmp 65), some (some 63, false), [21, 19, 19]⟩, ⟨some 67, .move (.tmp 2), some (some 66, true), [22]⟩, ⟨some 68, .move (.tmp 10), some (some 66, true), [22]⟩, ⟨some 69, .bin .sub .none (.tmp 68) (.lit (.int .i64 1)), some (some 66, true), [24, 22]⟩, ⟨some 70, .iaddr 2 (.tmp 67) (.tmp 69), some (some 66, true), [23, 25, 22]⟩, ⟨some 71, .faddr 0 (.tmp 70), some (some 66, true), [26, 22]⟩, ⟨some 72, .load none (.tmp 71), some (some 66, true), [27, 22]⟩, ⟨some 73, .faddr 0 (.tmp 11), some (some 66, true), [22]⟩, ⟨some 74, .load none (.tmp 73), some (some 66, true), [29, 22]⟩, ⟨some 75, .call (.lit (.func 38 [])) [.tmp 72, .tmp 74], some (some 66, true), [28, 30, 22, 22]⟩, ⟨some 76, .bin .geq .none (.tmp 75) (.lit (.int .i64 0)), some (some 66, true), [31, 22]⟩, ⟨some 77, .pick (.tmp 66) (.tmp 76) (.lit (.bool false)), some (some 63, false), [22, 32, 19]⟩, ⟨some 78, .pick (.tmp 63) (.lit (.bool true)) (.tmp 77), none, [19, 33]⟩] (Q .normal) s σ := wpc_draw _ (by decide)
def d_pKind_1 : List COp := [⟨some 80, .load (some 4) (.tmp 3), none, []⟩, ⟨some 81, .move (.tmp 1), none, []⟩, ⟨some 82, .faddr 1 (.tmp 11), none, []⟩, ⟨some 83, .load none (.tmp 82), none, [2]⟩, ⟨some 84, .iaddr 1 (.tmp 81) (.tmp 83), none, [1, 3]⟩, ⟨some 85, .load none (.tmp 84), none, [4]⟩, ⟨some 86, .faddr 0 (.tmp 11), none, []⟩, ⟨some 87, .load none (.tmp 86), none, [6]⟩, ⟨some 88, .call (.lit (.func 39 [])) [.tmp 80, .tmp 85, .tmp 87], none, [0, 5, 7]⟩, ⟨some 79, .move (.tmp 88), none, [8]⟩, ⟨some 89, .extract (.tmp 79) 0, none, [9]⟩, ⟨some 90, .extract (.tmp 79) 1, none, [9]⟩, ⟨some 12, .move (.tmp 89), none, [10, 8, 0, 1, 2, 3, 4, 5, 6, 7, 8, 9, 10]⟩, ⟨some 13, .move (.tmp 90), none, [11, 12, 0, 1, 2, 3, 4, 5, 6, 7, 8, 9, 10, 11, 12]⟩]
theorem dr_pKind_1 (P : Program) (nt n0 : Nat) (Q : Post) (s : Slots) (σ : Store) : wpc P nt n0 (.draw d_pKind_1) Q s σ = aOpsD P nt [⟨some 80, .load (some 4) (.tmp 3), none, []⟩, ⟨some 81, .move (.tmp 1), none, []⟩, ⟨some 82, .faddr 1 (.tmp 11), none, []⟩, ⟨some 83, .load none (.tmp 82), none, [2]⟩, ⟨some 84, .iaddr 1 (.tmp 81) (.tmp 83), none, [1, 3]⟩, ⟨some 85, .load none (.tmp 84), none, [4]⟩, ⟨some 86, .faddr 0 (.tmp 11), none, []⟩, ⟨some 87, .load none (.tmp 86), none, [6]⟩, ⟨some 88, .call (.lit (.func 39 [])) [.tmp 80, .tmp 85, .tmp 87], none, [0, 5, 7]⟩, ⟨some 79, .move (.tmp 88), none, [8]⟩, ⟨some 89, .extract (.tmp 79) 0, none, [9]⟩, ⟨some 90, .extract (.tmp 79) 1, none, [9]⟩, ⟨some 12, .move (.tmp 89), none, [10, 8, 0, 1, 2, 3, 4, 5, 6, 7, 8, 9, 10]⟩, ⟨some 13, .move (.tmp 90), none, [11, 12, 0, 1, 2, 3, 4, 5, 6, 7, 8, 9, 10, 11, 12]⟩] (Q .normal) s σ := wpc_draw _ (by decide)
def d_pKind_2 : List COp := [⟨some 100, .move (.tmp 9), none, []⟩, ⟨some 101, .faddr 0 (.tmp 11), none, []⟩, ⟨some 102, .load none (.tmp 101), none, [1]⟩, ⟨some 103, .call (.lit (.func 41 [])) [.tmp 102], none, [2]⟩, ⟨some 104, .faddr 1 (.tmp 11), none, []⟩, ⟨some 105, .load none (.tmp 104), none, [4]⟩, ⟨none, .mapup true (.tmp 100) (.tmp 103) (.tmp 105), none, [0, 3, 5, 3, 0, 1, 2, 3, 4, 5]⟩]
theorem dr_pKind_2 (P : Program) (nt n0 : Nat) (Q : Post) (s : Slots) (σ : Store) : wpc P nt n0 (.draw d_pKind_2) Q s σ = aOpsD P nt [⟨some 100, .move (.tmp 9), none, []⟩, ⟨some 101, .faddr 0 (.tmp 11), none, []⟩, ⟨some 102, .load none (.tmp 101), none, [1]⟩, ⟨some 103, .call (.lit (.func 41 [])) [.tmp 102], none, [2]⟩, ⟨some 104, .faddr 1 (.tmp 11), none, []⟩, ⟨some 105, .load none (.tmp 104), none, [4]⟩, ⟨none, .mapup true (.tmp 100) (.tmp 103) (.tmp 105), none, [0, 3, 5, 3, 0, 1, 2, 3, 4, 5]⟩] (Q .normal) s σ := wpc_draw _ (by decide)
def d_pKind_3 : List COp := [⟨some 111, .move (.tmp 14), none, []⟩, ⟨some 112, .nilck (.tmp 111), none, [0]⟩, ⟨some 113, .faddr 0 (.tmp 112), none, [1]⟩, ⟨some 114, .faddr 1 (.tmp 3), none, []⟩, ⟨some 115, .load none (.tmp 114), none, [3]⟩, ⟨some 116, .callE (.lit (.func 42 [])) [.tmp 113, .tmp 115], none, [2, 4]⟩]
theorem dr_pKind_3 (P : Program) (nt n0 : Nat) (Q : Post) (s : Slots) (σ : Store) : wpc P nt n0 (.draw d_pKind_3) Q s σ = aOpsD P nt [⟨some 111, .move (.tmp 14), none, []⟩, ⟨some 112, .nilck (.tmp 111), none, [0]⟩, ⟨some 113, .faddr 0 (.tmp 112), none, [1]⟩, ⟨some 114, .faddr 1 (.tmp 3), none, []⟩, ⟨some 115, .load none (.tmp 114), none, [3]⟩, ⟨some 116, .callE (.lit (.func 42 [])) [.tmp 113, .tmp 115], none, [2, 4]⟩] (Q .normal) s σ := wpc_draw _ (by decide)
def d_pKind_4 : List COp := [⟨some 135, .move (.tmp 14), none, []⟩, ⟨some 136, .move (.tmp 14), none, []⟩, ⟨some 137, .nilck (.tmp 136), none, [1]⟩, ⟨some 138, .faddr 3 (.tmp 137), none, [2]⟩, ⟨some 139, .load none (.tmp 138), none, [3]⟩, ⟨some 140, .move (.tmp 18), none, []⟩, ⟨some 141, .faddr 2 (.tmp 3), none, []⟩, ⟨some 142, .load none (.tmp 141), none, [6]⟩, ⟨some 143, .call (.lit (.func 40 [])) [.tmp 140, .tmp 142], none, [5, 7]⟩, ⟨some 144, .bsliceC 1 [.tmp 143], none, [8]⟩, ⟨some 145, .bappend 1 1 (.tmp 139) (.tmp 144) false, none, [4, 9, 8]⟩, ⟨some 146, .nilck (.tmp 135), none, [0, 0, 1, 2, 3, 4, 5, 6, 7, 8, 9, 10]⟩, ⟨some 147, .faddr 3 (.tmp 146), none, [11, 0, 1, 2, 3, 4, 5, 6, 7, 8, 9, 10]⟩, ⟨none, .store 1 (.tmp 147) (.tmp 145), none, [12, 10, 10, 0, 1, 2, 3, 4, 5, 6, 7, 8, 9, 10]⟩]
theorem dr_pKind_4 (P : Program) (nt n0 : Nat) (Q : Post) (s : Slots) (σ : Store) : wpc P nt n0 (.draw d_pKind_4) Q s σ = aOpsD P nt [⟨some 135, .move (.tmp 14), none, []⟩, ⟨some 136, .move (.tmp 14), none, []⟩, ⟨some 137, .nilck (.tmp 136), none, [1]⟩, ⟨some 138, .faddr 3 (.tmp 137), none, [2]⟩, ⟨some 139, .load none (.tmp 138), none, [3]⟩, ⟨some 140, .move (.tmp 18), none, []⟩, ⟨some 141, .faddr 2 (.tmp 3), none, []⟩, ⟨some 142, .load none (.tmp 141), none, [6]⟩, ⟨some 143, .call (.lit (.func 40 [])) [.tmp 140, .tmp 142], none, [5, 7]⟩, ⟨some 144, .bsliceC 1 [.tmp 143], none, [8]⟩, ⟨some 145, .bappend 1 1 (.tmp 139) (.tmp 144) false, none, [4, 9, 8]⟩, ⟨some 146, .nilck (.tmp 135), none, [0, 0, 1, 2, 3, 4, 5, 6, 7, 8, 9, 10]⟩, ⟨some 147, .faddr 3 (.tmp 146), none, [11, 0, 1, 2, 3, 4, 5, 6, 7, 8, 9, 10]⟩, ⟨none, .store 1 (.tmp 147) (.tmp 145), none, [12, 10, 10, 0, 1, 2, 3, 4, 5, 6, 7, 8, 9, 10]⟩] (Q .normal) s σ := wpc_draw _ (by decide)
def d_pKind_5 : List COp := [⟨some 187, .load (some 4) (.tmp 3), none, []⟩, ⟨some 188, .move (.tmp 1), none, []⟩, ⟨some 189, .move (.tmp 19), none, []⟩, ⟨some 190, .iaddr 1 (.tmp 188) (.tmp 189), none, [1, 2]⟩, ⟨some 191, .load none (.tmp 190), none, [3]⟩, ⟨some 192, .move (.tmp 18), none, []⟩, ⟨some 193, .call (.lit (.func 39 [])) [.tmp 187, .tmp 191, .tmp 192], none, [0, 4, 5]⟩, ⟨some 186, .move (.tmp 193), none, [6]⟩, ⟨some 194, .extract (.tmp 186) 0, none, [7]⟩, ⟨some 195, .extract (.tmp 186) 1, none, [7]⟩, ⟨some 21, .move (.tmp 194), none, [8, 6, 0, 1, 2, 3, 4, 5, 6, 7, 8]⟩, ⟨some 22, .move (.tmp 195), none, [9, 10, 0, 1, 2, 3, 4, 5, 6, 7, 8, 9, 10]⟩]
theorem dr_pKind_5 (P : Program) (nt n0 : Nat) (Q : Post) (s : Slots) (σ : Store) : wpc P nt n0 (.draw d_pKind_5) Q s σ = aOpsD P nt [⟨some 187, .load (some 4) (.tmp 3), none, []⟩, ⟨some 188, .move (.tmp 1), none, []⟩, ⟨some 189, .move (.tmp 19), none, []⟩, ⟨some 190, .iaddr 1 (.tmp 188) (.tmp 189), none, [1, 2]⟩, ⟨some 191, .load none (.tmp 190), none, [3]⟩, ⟨some 192, .move (.tmp 18), none, []⟩, ⟨some 193, .call (.lit (.func 39 [])) [.tmp 187, .tmp 191, .tmp 192], none, [0, 4, 5]⟩, ⟨some 186, .move (.tmp 193), none, [6]⟩, ⟨some 194, .extract (.tmp 186) 0, none, [7]⟩, ⟨some 195, .extract (.tmp 186) 1, none, [7]⟩, ⟨some 21, .move (.tmp 194), none, [8, 6, 0, 1, 2, 3, 4, 5, 6, 7, 8]⟩, ⟨some 22, .move (.tmp 195), none, [9, 10, 0, 1, 2, 3, 4, 5, 6, 7, 8, 9, 10]⟩] (Q .normal) s σ := wpc_draw _ (by decide)
def d_pKind_6 : List COp := [⟨some 204, .faddr 1 (.tmp 23), none, []⟩, ⟨some 205, .load none (.tmp 204), none, [0]⟩, ⟨some 206, .move (.tmp 14), none, []⟩, ⟨some 207, .nilck (.tmp 206), none, [2]⟩, ⟨some 208, .faddr 0 (.tmp 207), none, [3]⟩, ⟨some 209, .move (.tmp 25), none, []⟩, ⟨some 210, .callE (.lit (.func 42 [])) [.tmp 208, .tmp 209], none, [4, 5]⟩, ⟨some 211, .bsliceC 1 [.tmp 210], none, [6]⟩, ⟨some 212, .bappend 1 8 (.tmp 205) (.tmp 211) false, none, [1, 7, 6]⟩, ⟨some 213, .faddr 1 (.tmp 23), none, [0, 1, 2, 3, 4, 5, 6, 7, 8]⟩, ⟨none, .store 1 (.tmp 213) (.tmp 212), none, [9, 8, 8, 0, 1, 2, 3, 4, 5, 6, 7, 8]⟩]
theorem dr_pKind_6 (P : Program) (nt n0 : Nat) (Q : Post) (s : Slots) (σ : Store) : wpc P nt n0 (.drawU d_pKind_6 [[], [6], [], [], [], [], [1], [], [], [], []]) Q s σ = aOpsU P nt [⟨some 204, .faddr 1 (.tmp 23), none, []⟩, ⟨some 205, .load none (.tmp 204), none, [0]⟩, ⟨some 206, .move (.tmp 14), none, []⟩, ⟨some 207, .nilck (.tmp 206), none, [2]⟩, ⟨some 208, .faddr 0 (.tmp 207), none, [3]⟩, ⟨some 209, .move (.tmp 25), none, []⟩, ⟨some 210, .callE (.lit (.func 42 [])) [.tmp 208, .tmp 209], none, [4, 5]⟩, ⟨some 211, .bsliceC 1 [.tmp 210], none, [6]⟩, ⟨some 212, .bappend 1 8 (.tmp 205) (.tmp 211) false, none, [1, 7, 6]⟩, ⟨some 213, .faddr 1 (.tmp 23), none, [0, 1, 2, 3, 4, 5, 6, 7, 8]⟩, ⟨none, .store 1 (.tmp 213) (.tmp 212), none, [9, 8, 8, 0, 1, 2, 3, 4, 5, 6, 7, 8]⟩] [[], [6], [], [], [], [], [1], [], [], [], []] 0 [] [] (Q .normal) s σ := wpc_drawU _ _ (by decide)
def d_pKind_7 : List COp := [⟨some 215, .move (.tmp 14), none, []⟩, ⟨some 216, .nilck (.tmp 215), none, [0]⟩, ⟨some 217, .faddr 2 (.tmp 216), none, [1]⟩, ⟨some 218, .load none (.tmp 217), none, [2]⟩, ⟨some 219, .move (.tmp 17), none, []⟩, ⟨some 220, .load (some 2) (.tmp 23), none, []⟩, ⟨some 221, .bsliceC 2 [.tmp 220], none, [5]⟩, ⟨some 222, .iaddr 1 (.tmp 218) (.tmp 219), none, [3, 4, 0, 1, 2, 3, 4, 5, 6]⟩, ⟨none, .store 1 (.tmp 222) (.tmp 221), none, [7, 6, 0, 1, 2, 3, 4, 5, 6]⟩]
theorem dr_pKind_7 (P : Program) (nt n0 : Nat) (Q : Post) (s : Slots) (σ : Store) : wpc P nt n0 (.draw d_pKind_7) Q s σ = aOpsD P nt [⟨some 215, .move (.tmp 14), none, []⟩, ⟨some 216, .nilck (.tmp 215), none, [0]⟩, ⟨some 217, .faddr 2 (.tmp 216), none, [1]⟩, ⟨some 218, .load none (.tmp 217), none, [2]⟩, ⟨some 219, .move (.tmp 17), none, []⟩, ⟨some 220, .load (some 2) (.tmp 23), none, []⟩, ⟨some 221, .bsliceC 2 [.tmp 220], none, [5]⟩, ⟨some 222, .iaddr 1 (.tmp 218) (.tmp 219), none, [3, 4, 0, 1, 2, 3, 4, 5, 6]⟩, ⟨none, .store 1 (.tmp 222) (.tmp 221), none, [7, 6, 0, 1, 2, 3, 4, 5, 6]⟩] (Q .normal) s σ := wpc_draw _ (by decide)
attribute [local go_sem] dr_pKind_0 dr_pKind_1 dr_pKind_2 dr_pKind_3 dr_pKind_4 dr_pKind_5 dr_pKind_6 dr_pKind_7
def c_pKind : CCode := .seq (.ops [⟨some 3, .box (.tmp 0), none, []⟩, ⟨some 6, .move (.lit (.int .i64 0)), none, []⟩, ⟨some 7, .move (.lit (.int .i64 0)), none, []⟩]) (.seq (.seq (.ops [⟨some 30, .load (some 4) (.tmp 3), none, []⟩, ⟨some 31, .move (.tmp 1), none, []⟩, ⟨some 32, .call (.lit (.func 36 [])) [.tmp 30, .tmp 31], none, []⟩, ⟨some 8, .move (.tmp 32), none, []⟩]) (.seq (.ops [⟨some 33, .move (.tmp 8), none, []⟩, ⟨some 34, .bin .neq .none (.tmp 33) (.lit (.int .i64 0)), none, []⟩]) (.cond (.tmp 34) (.seq (.ops [⟨some 35, .move (.tmp 8), none, []⟩, ⟨some 6, .move (.lit (.int .i64 0)), none, []⟩, ⟨some 7, .move (.tmp 35), none, []⟩]) .ret) .skip))) (.seq (.ops [⟨some 36, .mkmap, none, []⟩, ⟨some 9, .move (.tmp 36), none, []⟩]) (.seq (.seq (.ops [⟨some 37, .move (.tmp 2), none, []⟩, ⟨some 38, .blen 1 (.tmp 37), none, []⟩, ⟨some 39, .move (.lit (.int .i64 0)), none, []⟩]) (.block 0 (.loop (.seq (.ops [⟨some 40, .bin .lss .none (.tmp 39) (.tmp 38), none, []⟩]) (.seq (.cond (.tmp 40) .skip (.exit 0)) (.seq (.block 1 (.seq (.ops [⟨some 41, .move (.tmp 39), none, []⟩, ⟨some 42, .iaddr 2 (.tmp 37) (.tmp 39), none, []⟩, ⟨some 43, .load (some 2) (.tmp 42), none, []⟩, ⟨some 11, .alloc (.agg [.slice .nil [], .int .i64 0]), none, []⟩, ⟨some 10, .move (.tmp 41), none, []⟩, ⟨none, .store 2 (.tmp 11) (.tmp 43), none, []⟩]) (.seq (.seq (.draw d_pKind_0) (.cond (.tmp 78) (.seq (.ops [⟨some 6, .move (.lit (.int .i64 0)), none, []⟩, ⟨some 7, .move (.lit (.int .i64 161)), none, []⟩]) .ret) .skip)) (.seq (.seq (.draw d_pKind_1) (.seq (.ops [⟨some 91, .move (.tmp 13), none, []⟩, ⟨some 92, .un .not (.tmp 91), none, []⟩, ⟨some 93, .move (.tmp 92), none, []⟩, ⟨some 94, .faddr 0 (.tmp 11), some (some 93, false), []⟩, ⟨some 95, .load none (.tmp 94), some (some 93, false), []⟩, ⟨some 96, .faddr 2 (.tmp 3), some (some 93, false), []⟩, ⟨some 97, .load none (.tmp 96), some (some 93, false), []⟩, ⟨some 98, .call (.lit (.func 40 [])) [.tmp 95, .tmp 97], some (some 93, false), []⟩, ⟨some 99, .pick (.tmp 93) (.lit (.bool true)) (.tmp 98), none, []⟩]) (.cond (.tmp 99) (.seq (.ops [⟨some 6, .move (.lit (.int .i64 0)), none, []⟩, ⟨some 7, .move (.lit (.int .i64 161)), none, []⟩]) .ret) .skip))) (.draw d_pKind_2))))) (.ops [⟨some 106, .bin .add .none (.tmp 39) (.lit (.int .i64 1)), none, []⟩, ⟨some 39, .move (.tmp 106), none, []⟩]))))))) (.seq (.ghost (.ops [⟨some 107, .mkmap, none, []⟩, ⟨some 108, .build [.mapnil, .slice .nil []] [(0, 1, .tmp 107)], none, []⟩, ⟨some 109, .build [.mapnil, .slice .nil [], .slice .nil [], .slice .nil []] [(0, 2, .tmp 108)], none, []⟩, ⟨some 110, .box (.tmp 109), none, []⟩, ⟨some 14, .move (.tmp 110), none, []⟩])) (.seq (.ghost (.draw d_pKind_3)) (.seq (.ops [⟨some 15, .move (.lit (.bool true)), none, []⟩, ⟨some 16, .move (.lit (.bool false)), none, []⟩]) (.seq (.seq (.ops [⟨some 17, .move (.lit (.int .i64 0)), none, []⟩]) (.block 2 (.loop (.seq (.seq (.ops [⟨some 117, .move (.tmp 17), none, []⟩, ⟨some 118, .move (.tmp 14), none, []⟩, ⟨some 119, .nilck (.tmp 118), none, []⟩, ⟨some 120, .faddr 0 (.tmp 119), none, []⟩, ⟨some 121, .faddr 1 (.tmp 120), none, []⟩, ⟨some 122, .load none (.tmp 121), none, []⟩, ⟨some 123, .blen 1 (.tmp 122), none, []⟩, ⟨some 124, .bin .lss .none (.tmp 117) (.tmp 123), none, []⟩]) (.cond (.tmp 124) .skip (.exit 2))) (.seq (.block 3 (.seq (.ops [⟨some 127, .move (.tmp 14), none, []⟩, ⟨some 128, .nilck (.tmp 127), none, []⟩, ⟨some 129, .faddr 0 (.tmp 128), none, []⟩, ⟨some 130, .faddr 1 (.tmp 129), none, []⟩, ⟨some 131, .load none (.tmp 130), none, []⟩, ⟨some 132, .move (.tmp 17), none, []⟩, ⟨some 133, .iaddr 1 (.tmp 131) (.tmp 132), none, []⟩, ⟨some 134, .load none (.tmp 133), none, []⟩, ⟨some 18, .move (.tmp 134), none, []⟩]) (.seq (.draw d_pKind_4) (.seq (.ghost (.ops [⟨some 148, .move (.tmp 14), none, []⟩, ⟨some 149, .move (.tmp 14), none, []⟩, ⟨some 150, .nilck (.tmp 149), none, []⟩, ⟨some 151, .faddr 2 (.tmp 150), none, []⟩, ⟨some 152, .load none (.tmp 151), none, []⟩, ⟨some 153, .bsliceC 1 [.lit (.slice .nil [])], none, []⟩, ⟨some 154, .bappend 1 24 (.tmp 152) (.tmp 153) true, none, []⟩, ⟨some 155, .nilck (.tmp 148), none, []⟩, ⟨some 156, .faddr 2 (.tmp 155), none, []⟩, ⟨none, .store 1 (.tmp 156) (.tmp 154), none, []⟩])) (.seq (.ghost (.ops [⟨some 157, .move (.tmp 16), none, []⟩, ⟨some 158, .move (.tmp 157), none, []⟩, ⟨some 159, .move (.tmp 14), some (some 158, false), []⟩, ⟨some 160, .nilck (.tmp 159), some (some 158, false), []⟩, ⟨some 161, .faddr 3 (.tmp 160), some (some 158, false), []⟩, ⟨some 162, .load none (.tmp 161), some (some 158, false), []⟩, ⟨some 163, .move (.tmp 17), some (some 158, false), []⟩, ⟨some 164, .iaddr 1 (.tmp 162) (.tmp 163), some (some 158, false), []⟩, ⟨some 165, .load none (.tmp 164), some (some 158, false), []⟩, ⟨some 166, .pick (.tmp 158) (.lit (.bool true)) (.tmp 165), none, []⟩, ⟨some 16, .move (.tmp 166), none, []⟩])) (.seq (.ops [⟨some 168, .move (.tmp 9), none, []⟩, ⟨some 169, .move (.tmp 18), none, []⟩, ⟨some 170, .call (.lit (.func 41 [])) [.tmp 169], none, []⟩, ⟨some 171, .lookup true (.int .i64 0) (.tmp 168) (.tmp 170) true, none, []⟩, ⟨some 167, .move (.tmp 171), none, []⟩, ⟨some 172, .extract (.tmp 167) 0, none, []⟩, ⟨some 173, .extract (.tmp 167) 1, none, []⟩, ⟨some 19, .move (.tmp 172), none, []⟩, ⟨some 20, .move (.tmp 173), none, []⟩]) (.seq (.seq (.ops [⟨some 174, .move (.tmp 20), none, []⟩, ⟨some 175, .un .not (.tmp 174), none, []⟩]) (.cond (.tmp 175) (.seq (.ops [⟨some 176, .move (.tmp 15), none, []⟩, ⟨some 177, .move (.tmp 176), none, []⟩, ⟨some 178, .move (.tmp 14), some (some 177, true), []⟩, ⟨some 179, .nilck (.tmp 178), some (some 177, true), []⟩, ⟨some 180, .faddr 3 (.tmp 179), some (some 177, true), []⟩, ⟨some 181, .load none (.tmp 180), some (some 177, true), []⟩, ⟨some 182, .move (.tmp 17), some (some 177, true), []⟩, ⟨some 183, .iaddr 1 (.tmp 181) (.tmp 182), some (some 177, true), []⟩, ⟨some 184, .load none (.tmp 183), some (some 177, true), []⟩, ⟨some 185, .pick (.tmp 177) (.tmp 184) (.lit (.bool false)), none, []⟩, ⟨some 15, .move (.tmp 185), none, []⟩]) (.exit 3)) .skip)) (.seq (.draw d_pKind_5) (.seq (.ops [⟨some 196, .move (.tmp 19), none, []⟩, ⟨some 197, .build [.int .i64 0, .slice .nil []] [(0, 1, .tmp 196)], none, []⟩, ⟨some 23, .alloc (.agg [.int .i64 0, .slice .nil []]), none, []⟩, ⟨none, .store 2 (.tmp 23) (.tmp 197), none, []⟩]) (.seq (.seq (.ghost (.ops [⟨some 198, .move (.tmp 21), none, []⟩, ⟨some 199, .blen 1 (.tmp 198), none, []⟩, ⟨some 200, .move (.lit (.int .i64 0)), none, []⟩])) (.block 4 (.loop (.seq (.ops [⟨some 201, .bin .lss .none (.tmp 200) (.tmp 199), none, []⟩]) (.seq (.cond (.tmp 201) .skip (.exit 4)) (.seq (.block 5 (.seq (.ops [⟨some 202, .iaddr 1 (.tmp 198) (.tmp 200), none, []⟩, ⟨some 203, .load none (.tmp 202), none, []⟩, ⟨some 25, .move (.tmp 203), none, []⟩]) (.drawU d_pKind_6 [[], [6], [], [], [], [], [1], [], [], [], []]))) (.ops [⟨some 214, .bin .add .none (.tmp 200) (.lit (.int .i64 1)), none, []⟩, ⟨some 200, .move (.tmp 214), none, []⟩]))))))) (.ghost (.draw d_pKind_7)))))))))))) (.ops [⟨some 125, .move (.tmp 17), none, []⟩, ⟨some 126, .bin .add .none (.tmp 125) (.lit (.int .i64 1)), none, []⟩, ⟨some 17, .move (.tmp 126), none, []⟩])))))) (.seq (.seq (.ghost (.ops [⟨some 223, .move (.tmp 15), none, []⟩, ⟨some 224, .un .not (.tmp 223), none, []⟩])) (.cond (.tmp 224) (.seq (.seq (.ops [⟨some 225, .move (.tmp 16), none, []⟩]) (.cond (.tmp 225) (.seq (.ops [⟨some 6, .move (.lit (.int .i64 1)), none, []⟩, ⟨some 7, .move (.lit (.int .i64 0)), none, []⟩]) .ret) .skip)) (.seq (.ops [⟨some 6, .move (.lit (.int .i64 0)), none, []⟩, ⟨some 7, .move (.lit (.int .i64 0)), none, []⟩]) .ret)) .skip)) (.seq (.seq (.ops [⟨some 226, .move (.tmp 14), none, []⟩, ⟨some 227, .call (.lit (.func 44 [])) [.tmp 226], none, []⟩, ⟨some 228, .call (.lit (.func 43 [])) [.tmp 227, .lit (.int .i64 (-1))], none, []⟩, ⟨some 229, .un .not (.tmp 228), none, []⟩]) (.cond (.tmp 229) (.seq (.ops [⟨some 6, .move (.lit (.int .i64 3)), none, []⟩, ⟨some 7, .move (.lit (.int .i64 0)), none, []⟩]) .ret) .skip)) (.seq (.ops [⟨some 230, .move (.tmp 14), none, []⟩, ⟨some 231, .nilck (.tmp 230), none, []⟩, ⟨some 232, .faddr 0 (.tmp 231), none, []⟩, ⟨some 233, .faddr 1 (.tmp 232), none, []⟩, ⟨some 234, .load none (.tmp 233), none, []⟩, ⟨some 235, .blen 1 (.tmp 234), none, []⟩, ⟨some 236, .mkslice 1 1 [.bool false] (.tmp 235) (.tmp 235) true, none, []⟩, ⟨some 26, .move (.tmp 236), none, []⟩]) (.seq (.seq (.ghost (.ops [⟨some 237, .move (.tmp 26), none, []⟩, ⟨some 238, .blen 1 (.tmp 237), none, []⟩, ⟨some 239, .move (.lit (.int .i64 0)), none, []⟩])) (.block 6 (.loop (.seq (.ops [⟨some 240, .bin .lss .none (.tmp 239) (.tmp 238), none, []⟩]) (.seq (.cond (.tmp 240) .skip (.exit 6)) (.seq (.block 7 (.seq (.ops [⟨some 241, .move (.tmp 239), none, []⟩, ⟨some 27, .move (.tmp 241), none, []⟩]) (.ops [⟨some 242, .move (.tmp 26), none, []⟩, ⟨some 243, .move (.tmp 27), none, []⟩, ⟨some 244, .iaddr 1 (.tmp 242) (.tmp 243), none, []⟩, ⟨none, .store 1 (.tmp 244) (.lit (.bool true)), none, []⟩]))) (.ops [⟨some 245, .bin .add .none (.tmp 239) (.lit (.int .i64 1)), none, []⟩, ⟨some 239, .move (.tmp 245), none, []⟩]))))))) (.seq (.ops [⟨some 246, .move (.tmp 14), none, []⟩, ⟨some 247, .move (.tmp 26), none, []⟩, ⟨some 248, .call (.lit (.func 45 [])) [.tmp 246, .tmp 247], none, []⟩, ⟨some 28, .move (.tmp 248), none, []⟩]) (.seq (.seq (.ops [⟨some 249, .move (.tmp 26), none, []⟩, ⟨some 250, .blen 1 (.tmp 249), none, []⟩, ⟨some 251, .move (.lit (.int .i64 0)), none, []⟩]) (.block 8 (.loop (.seq (.ops [⟨some 252, .bin .lss .none (.tmp 251) (.tmp 250), none, []⟩]) (.seq (.cond (.tmp 252) .skip (.exit 8)) (.seq (.block 9 (.seq (.ops [⟨some 253, .move (.tmp 251), none, []⟩, ⟨some 29, .move (.tmp 253), none, []⟩]) (.seq (.ops [⟨some 254, .move (.tmp 14), none, []⟩, ⟨some 255, .nilck (.tmp 254), none, []⟩, ⟨some 256, .faddr 3 (.tmp 255), none, []⟩, ⟨some 257, .load none (.tmp 256), none, []⟩, ⟨some 258, .move (.tmp 29), none, []⟩, ⟨some 259, .iaddr 1 (.tmp 257) (.tmp 258), none, []⟩, ⟨some 260, .load none (.tmp 259), none, []⟩, ⟨some 261, .un .not (.tmp 260), none, []⟩, ⟨some 262, .move (.tmp 261), none, []⟩, ⟨some 263, .move (.tmp 28), some (some 262, true), []⟩, ⟨some 264, .move (.tmp 29), some (some 262, true), []⟩, ⟨some 265, .iaddr 1 (.tmp 263) (.tmp 264), some (some 262, true), []⟩, ⟨some 266, .load none (.tmp 265), some (some 262, true), []⟩, ⟨some 267, .bin .lss .none (.tmp 266) (.lit (.int .i64 0)), some (some 262, true), []⟩, ⟨some 268, .pick (.tmp 262) (.tmp 267) (.lit (.bool false)), none, []⟩]) (.cond (.tmp 268) (.seq (.seq (.ops [⟨some 269, .move (.tmp 16), none, []⟩]) (.cond (.tmp 269) (.seq (.ops [⟨some 6, .move (.lit (.int .i64 1)), none, []⟩, ⟨some 7, .move (.lit (.int .i64 0)), none, []⟩]) .ret) .skip)) (.seq (.ops [⟨some 6, .move (.lit (.int .i64 0)), none, []⟩, ⟨some 7, .move (.lit (.int .i64 0)), none, []⟩]) .ret)) .skip)))) (.ops [⟨some 270, .bin .add .none (.tmp 251) (.lit (.int .i64 1)), none, []⟩, ⟨some 251, .move (.tmp 270), none, []⟩]))))))) (.seq (.ops [⟨some 6, .move (.lit (.int .i64 2)), none, []⟩, ⟨some 7, .move (.lit (.int .i64 0)), none, []⟩]) .ret))))))))))))))
set_option maxRecDepth 20000 in
set_option maxHeartbeats 8000000 in
theorem pKind_spec (t : FTask) (g : List (List Int)) (p : List FEnt) (tok tok' : Tok) (σ : Store) (hb : PB t) (hg : LB g) (h8 : validB t = true → t.facts.length ≤ 8) (hpl : p.length ≤ 1000000) (hps : ∀ x ∈ p, x.1.length ≤ 1000000) :
    ACalls Tryz.prog 11 [.agg (encTask t), .slice tok (g.map encL), .slice tok' (p.map encEn)] σ (isR (KindR t g p) σ) := by
  refine ACalls.intro (rs := [(.tmp 6), (.tmp 7)]) (by kernel_rfl) { own := [(23, 6), (42, 6)], ghosts := [15, 16, 23, 24, 30, 35, 36, 43], cold := [(22, 9), (23, 5), (33, 7), (35, 6)], loud := [(16, 5), (33, 6)], free := [(33, [[], [6], [], [], [], [], [1], [], [], [], []])] } Tryz.func11 (c := Tryz.f11.body.getD .skip) (by kernel_rfl) (by decide) (by rw [show Tryz.f11.ntmps = 271 by kernel_rfl]; exact Nat.le_of_ble_eq_true rfl) (by kernel_rfl) ?_
  intro hσ hids
  rw [show comp Tryz.prog { own := [(23, 6), (42, 6)], ghosts := [15, 16, 23, 24, 30, 35, 36, 43], cold := [(22, 9), (23, 5), (33, 7), (35, 6)], loud := [(16, 5), (33, 6)], free := [(33, [[], [6], [], [], [], [], [1], [], [], [], []])] } (Tryz.f11.body.getD .skip) = c_pKind by kernel_rfl, show Tryz.f11.ntmps = 271 by kernel_rfl]
  unfold c_pKind
  have hil : Ids σ.length (.slice tok (g.map encL)) := hids _ (by simp)
  have hip : Ids σ.length (.slice tok' (p.map encEn)) := hids _ (by simp)
  simp only [go_sem, simprocAttr, encTask]
  refine (pasks_spec t g tok _ hb.tb hg).is ?_
  by_cases h1 : ¬ askE t g = 0
  · have h0 : (askE t g != 0) = true := by simpa using h1
    simp only [go_sem, simprocAttr, h0]
    first | exact rtl (.int .i64 0) (.int .i64 (askE t g)) ⟨by rw [KindR, if_neg h1], rfl⟩ | exact rtl0 (.int .i64 0) (.int .i64 (askE t g)) ⟨by rw [KindR, if_neg h1], rfl⟩
  replace h1 := Decidable.not_not.1 h1
  obtain ⟨hv, hch⟩ := askE_zero h1
  have hri : risingB t.facts.length (-1) t.init = true := valid_init16 hv
  obtain ⟨hSB, hEO, hfl⟩ := valid_SB hb hv
  have hKR : KindR t g p = if polB t g p then .tuple [.int .i64 (kindN t g p), .int .i64 0] else .tuple [.int .i64 0, .int .i64 161] := by rw [KindR, if_pos h1]
  have hgl2 : g.length ≤ 200 := by unfold choicesB at hch; rw [Bool.and_eq_true, decide_eq_true_eq] at hch; exact hch.1
  have hfl8 := h8 hv
  rw [h1]
  simp only [go_sem, simprocAttr, encTask]
  have hS0 : ∀ es : List FEnt, IdsS (σ ++ [AObj.row (encTask t), .map (es.map ofE)]).length (σ ++ [AObj.row (encTask t), .map (es.map ofE)]) := fun es => idsS_app _ hσ (all_cons' (idsO_row (ids_encTask t)) (all_cons' (ids_ofE _ _) all_nil'))
  refine wpc_while (fun (i : Nat) => [(1, .slice tok (g.map encL)), (2, .slice tok' (p.map encEn)), (3, .ptr σ.length 0), (9, .map (σ.length + 1)), (37, .slice tok' (p.map encEn)), (38, .int .i64 p.length), (39, .int .i64 (i : Nat))])
    (fun i => σ ++ [AObj.row (encTask t), .map ((p.take i).map ofE)]) (fun i => i ≤ p.length ∧ ∀ j, j < i → ∀ x, p[j]? = some x → entB t g p j x = true) (fun i => p.length - i) 0 ⟨Nat.zero_le _, fun j hj => absurd hj (by omega)⟩ ?_ ?_
  · exact ghL0 (hS0 [])
  · rintro i ⟨hi, hok⟩ K hK hE hR
    by_cases h : i < p.length
    · obtain ⟨x, hx⟩ := get_ex h
      have hxm := List.mem_of_getElem? hx
      have hxl := hps x hxm
      have hlt : ((i : Int) < (p.length : Int)) := by omega
      have hw1 : IntKind.i64.wrap ((i : Int) + 1) = ((i + 1 : Nat) : Int) := by rw [wrap_ok (by omega)]; omega
      have hbad : entB t g p i x = false → polB t g p = false := fun q => by
        rw [Bool.eq_false_iff]; intro r
        rw [entB_get r hx] at q; simp at q
      have hfin : entB t g p i x = false → KindR t g p = .tuple [.int .i64 0, .int .i64 161] := fun q => by rw [hKR, hbad q]; rfl
      simp only [go_sem, simprocAttr, hlt, hx, encEn, encTask]
      refine ⟨_, rising_spec x.1 t.facts.length .unk _ (by omega), ?_⟩
      cases hr : risingB t.facts.length (-1) x.1
      · simp only [go_sem, simprocAttr, hR]
        first | exact rtl (.int .i64 0) (.int .i64 161) ⟨by rw [hfin (by unfold entB; rw [hr]; rfl)], rfl⟩ | exact rtl0 (.int .i64 0) (.int .i64 161) ⟨by rw [hfin (by unfold entB; rw [hr]; rfl)], rfl⟩
      by_cases hg0 : x.2 < 0
      · simp only [go_sem, simprocAttr, hg0, hR]
        first | exact rtl (.int .i64 0) (.int .i64 161) ⟨by rw [hfin (by unfold entB; rw [decide_eq_false (by omega : ¬ 0 ≤ x.2)]; simp)], rfl⟩ | exact rtl0 (.int .i64 0) (.int .i64 161) ⟨by rw [hfin (by unfold entB; rw [decide_eq_false (by omega : ¬ 0 ≤ x.2)]; simp)], rfl⟩
      by_cases hg1 : x.2 ≥ (g.length : Int)
      · simp only [go_sem, simprocAttr, hg0, hg1, hR]
        first | exact rtl (.int .i64 0) (.int .i64 161) ⟨by rw [hfin (by unfold entB; rw [decide_eq_false (by omega : ¬ x.2 < (g.length : Int))]; simp)], rfl⟩ | exact rtl0 (.int .i64 0) (.int .i64 161) ⟨by rw [hfin (by unfold entB; rw [decide_eq_false (by omega : ¬ x.2 < (g.length : Int))]; simp)], rfl⟩
      have hx0 : 0 ≤ x.2 := by omega
      obtain ⟨l, hgx⟩ := get_ex (show x.2.toNat < g.length by omega)
      have hgrp : grp g x.2.toNat = l := by unfold grp; rw [List.getD_eq_getElem?_getD, hgx]; rfl
      obtain ⟨c0, c1, c2, c3⟩ := grp_ok hch (show x.2.toNat < g.length by omega)
      rw [hgrp] at c0 c1 c2 c3
      have hll := hg.2 l c0
      by_cases hi0 : i = 0
      · have hlt0 : ¬ ((i : Int) > 0) := by omega
        have hcmp0 : i = 0 ∨ cmpInts (p.getD (i - 1) ([], 0)).1 x.1 < 0 := .inl hi0
        simp only [go_sem, simprocAttr, hg0, hg1, hlt0]
        refine ⟨hx0, ?_⟩
        simp only [go_sem, simprocAttr, hgx, encL, encTask]
        refine ⟨_, pouts_spec t l x.1 .unk .unk _ hb.tb hSB hEO (by omega) c1 (by have := hSB.acts; omega) c2 hr, ?_⟩
        unfold outR
        cases hap : appB t l x.1
        · rw [if_neg (by simp)]
          simp only [go_sem, simprocAttr, encTask, hR]
          first | exact rtl (.int .i64 0) (.int .i64 161) ⟨by rw [hfin (by unfold entB; rw [hgrp, hap]; simp)], rfl⟩ | exact rtl0 (.int .i64 0) (.int .i64 161) ⟨by rw [hfin (by unfold entB; rw [hgrp, hap]; simp)], rfl⟩
        rw [if_pos rfl]
        simp only [go_sem, simprocAttr, encTask]
        refine (sTrue_spec x.1 t.goal .unk .unk _ (by omega) (rising_pw hr).1 hb.tb.goal).is ?_
        cases hgo : condHolds x.1 t.goal
        · simp only [go_sem, simprocAttr, encTask]
          refine ⟨_, key_spec x.1 .unk _ (by omega), ?_⟩
          have hent : entB t g p i x = true := by
            unfold entB
            rw [hr, decide_eq_true hx0, decide_eq_true (by omega : x.2 < (g.length : Int)), hgrp, hap, hgo]
            simpa using hcmp0
          have hok' : ∀ j, j < i + 1 → ∀ x, p[j]? = some x → entB t g p j x = true := fun j hj z hz => by
            rcases Nat.lt_or_ge j i with q | q
            · exact hok j q z hz
            · have : j = i := by omega
              subst this; rw [hx] at hz; injection hz with hz; subst hz; exact hent
          have hrise := pol_rise (i + 1) hok'
          rw [take_succ' hx, List.pairwise_append] at hrise
          have hnew : ∀ z ∈ p.take i, z.1 ≠ x.1 := fun z hz e => by
            have := hrise.2.2 z hz x (by simp)
            rw [e, cmpInts_refl] at this; omega
          have hrz : ∀ z ∈ (p.take i).map (·.1), risingB t.facts.length (-1) z = true := fun z hz => by
            obtain ⟨u, hu, rfl⟩ := List.mem_map.1 hz
            obtain ⟨j, hj, rfl⟩ := List.getElem_of_mem hu
            have hj2 : j < i := by rw [List.length_take] at hj; omega
            exact (entB_parts (hok j hj2 _ (by rw [List.getElem_take]; exact List.getElem?_eq_getElem _))).1
          obtain ⟨fi, hfi⟩ := find_of x.1 (p.take i) 0 fun z hz => key_apart (n := t.facts.length) (by omega) hrz hr z.1 (List.mem_map.2 ⟨z, hz, rfl⟩)
          rw [polG_none hnew] at hfi
          simp only [Option.map_none] at hfi
          simp only [go_sem, simprocAttr, hfi]
          refine hK _ _ (i + 1) ⟨by omega, hok'⟩ (by omega) ?_
          rw [hw1, take_succ' hx]
          have e2 : (p.take i).map ofE ++ [(AV.str (keyP x.1), AV.int .i64 x.2)] = (p.take i ++ [x]).map ofE := by rw [List.map_append]; rfl
          rw [e2]
          refine Ghost.keepL (g := [AObj.row [.slice .unk (x.1.map Ahl.encI), .int .i64 x.2]]) (k := 2) [AObj.row (encTask t), .map ((p.take i ++ [x]).map ofE)] rfl (Nat.le_refl _) ?_ (hS0 _)
          exact tellT
        · simp only [go_sem, simprocAttr, hR]
          first | exact rtl (.int .i64 0) (.int .i64 161) ⟨by rw [hfin (by unfold entB; rw [hgo]; simp)], rfl⟩ | exact rtl0 (.int .i64 0) (.int .i64 161) ⟨by rw [hfin (by unfold entB; rw [hgo]; simp)], rfl⟩
      · have hlt0 : ((i : Int) > 0) := by omega
        obtain ⟨y, hy⟩ := get_ex (show i - 1 < p.length by omega)
        have hyl := hps y (List.mem_of_getElem? hy)
        have hw2 : IntKind.i64.wrap ((i : Int) - 1) = ((i - 1 : Nat) : Int) := by rw [wrap_ok (by omega)]; omega
        simp only [go_sem, simprocAttr, hg0, hg1, hlt0, hw2, hy, encEn]
        have hgd : p.getD (i - 1) ([], 0) = y := by rw [List.getD_eq_getElem?_getD, hy]; rfl
        refine ⟨_, slCmp_spec y.1 x.1 .unk .unk _ (by omega) (by omega), ?_⟩
        by_cases hcq : cmpInts y.1 x.1 ≥ 0
        · simp only [go_sem, simprocAttr, hcq, hR]
          first | exact rtl (.int .i64 0) (.int .i64 161) ⟨by rw [hfin (by unfold entB; rw [hgd, decide_eq_false hi0, decide_eq_false (by omega : ¬ cmpInts y.1 x.1 < 0)]; simp)], rfl⟩ | exact rtl0 (.int .i64 0) (.int .i64 161) ⟨by rw [hfin (by unfold entB; rw [hgd, decide_eq_false hi0, decide_eq_false (by omega : ¬ cmpInts y.1 x.1 < 0)]; simp)], rfl⟩
        have hcmp0 : i = 0 ∨ cmpInts (p.getD (i - 1) ([], 0)).1 x.1 < 0 := .inr (by rw [hgd]; omega)
        simp only [go_sem, simprocAttr, hcq]
        refine ⟨hx0, ?_⟩
        simp only [go_sem, simprocAttr, hgx, encL, encTask]
        refine ⟨_, pouts_spec t l x.1 .unk .unk _ hb.tb hSB hEO (by omega) c1 (by have := hSB.acts; omega) c2 hr, ?_⟩
        unfold outR
        cases hap : appB t l x.1
        · rw [if_neg (by simp)]
          simp only [go_sem, simprocAttr, encTask, hR]
          first | exact rtl (.int .i64 0) (.int .i64 161) ⟨by rw [hfin (by unfold entB; rw [hgrp, hap]; simp)], rfl⟩ | exact rtl0 (.int .i64 0) (.int .i64 161) ⟨by rw [hfin (by unfold entB; rw [hgrp, hap]; simp)], rfl⟩
        rw [if_pos rfl]
        simp only [go_sem, simprocAttr, encTask]
        refine (sTrue_spec x.1 t.goal .unk .unk _ (by omega) (rising_pw hr).1 hb.tb.goal).is ?_
        cases hgo : condHolds x.1 t.goal
        · simp only [go_sem, simprocAttr, encTask]
          refine ⟨_, key_spec x.1 .unk _ (by omega), ?_⟩
          have hent : entB t g p i x = true := by
            unfold entB
            rw [hr, decide_eq_true hx0, decide_eq_true (by omega : x.2 < (g.length : Int)), hgrp, hap, hgo]
            simpa using hcmp0
          have hok' : ∀ j, j < i + 1 → ∀ x, p[j]? = some x → entB t g p j x = true := fun j hj z hz => by
            rcases Nat.lt_or_ge j i with q | q
            · exact hok j q z hz
            · have : j = i := by omega
              subst this; rw [hx] at hz; injection hz with hz; subst hz; exact hent
          have hrise := pol_rise (i + 1) hok'
          rw [take_succ' hx, List.pairwise_append] at hrise
          have hnew : ∀ z ∈ p.take i, z.1 ≠ x.1 := fun z hz e => by
            have := hrise.2.2 z hz x (by simp)
            rw [e, cmpInts_refl] at this; omega
          have hrz : ∀ z ∈ (p.take i).map (·.1), risingB t.facts.length (-1) z = true := fun z hz => by
            obtain ⟨u, hu, rfl⟩ := List.mem_map.1 hz
            obtain ⟨j, hj, rfl⟩ := List.getElem_of_mem hu
            have hj2 : j < i := by rw [List.length_take] at hj; omega
            exact (entB_parts (hok j hj2 _ (by rw [List.getElem_take]; exact List.getElem?_eq_getElem _))).1
          obtain ⟨fi, hfi⟩ := find_of x.1 (p.take i) 0 fun z hz => key_apart (n := t.facts.length) (by omega) hrz hr z.1 (List.mem_map.2 ⟨z, hz, rfl⟩)
          rw [polG_none hnew] at hfi
          simp only [Option.map_none] at hfi
          simp only [go_sem, simprocAttr, hfi]
          refine hK _ _ (i + 1) ⟨by omega, hok'⟩ (by omega) ?_
          rw [hw1, take_succ' hx]
          have e2 : (p.take i).map ofE ++ [(AV.str (keyP x.1), AV.int .i64 x.2)] = (p.take i ++ [x]).map ofE := by rw [List.map_append]; rfl
          rw [e2]
          refine Ghost.keepL (g := [AObj.row [.slice .unk (x.1.map Ahl.encI), .int .i64 x.2]]) (k := 2) [AObj.row (encTask t), .map ((p.take i ++ [x]).map ofE)] rfl (Nat.le_refl _) ?_ (hS0 _)
          exact tellT
        · simp only [go_sem, simprocAttr, hR]
          first | exact rtl (.int .i64 0) (.int .i64 161) ⟨by rw [hfin (by unfold entB; rw [hgo]; simp)], rfl⟩ | exact rtl0 (.int .i64 0) (.int .i64 161) ⟨by rw [hfin (by unfold entB; rw [hgo]; simp)], rfl⟩
    · have hlt : ¬ ((i : Int) < (p.length : Int)) := by omega
      have hpol : polB t g p = true := by
        unfold polB
        refine List.all_eq_true.2 fun j hj => ?_
        obtain ⟨x, hx⟩ := get_ex (List.mem_range.1 hj)
        rw [List.getD_eq_getElem?_getD, hx]
        exact hok j (by have := List.mem_range.1 hj; omega) x hx
      have hKR : KindR t g p = .tuple [.int .i64 (kindN t g p), .int .i64 0] := by rw [hKR, if_pos hpol]
      rw [List.take_of_length_le (by omega)]
      simp only [go_sem, simprocAttr, hlt, hE]
      refine Gh.of (s' := [(1, .slice tok (g.map encL)), (3, .ptr σ.length 0), (9, .map (σ.length + 1))]) (σ' := σ ++ [AObj.row (encTask t), .map (p.map ofE)]) (ghL0 (hS0 _)) ?_
      clear hK hE hR hi hok h hlt
      simp only [go_sem, simprocAttr]
      have hWd : ∀ (m k kc : Nat) ss (gl : List Bool) (cs : List AV), σ.length + 7 + k ≤ m → (∀ x ∈ cs, ∀ n, Ids n x) → ∀ o ∈ (([AObj.row (encTask t), AObj.map (List.map ofE p), AObj.map (encW ss), AObj.row [AV.map (σ.length + 2), AV.slice (.grow (σ.length + 4)) (List.map encL ss), AV.ref (σ.length + (6 + k)) 1 0 kc, AV.slice (.grow (σ.length + 5)) (List.map encB gl)], AObj.grow 1 (@List.length (List Int) ss), AObj.grow 1 (@List.length Bool gl)] ++ (List.replicate k AObj.dead ++ [AObj.row cs]))), IdsO m o := by
        intro m k kc ss gl cs hm hcs o ho
        simp only [List.cons_append, List.nil_append, List.mem_cons, List.mem_append, List.not_mem_nil, or_false] at ho
        rcases ho with rfl | rfl | rfl | rfl | rfl | rfl | ho | rfl
        · exact idsO_row (ids_encTask t)
        · exact ids_ofE _ _
        · exact idsO_encW _ _
        · exact idsO_row (idsL_cons (.map _ (by omega)) (idsL_cons (ids_grow_map ids_encL (by omega)) (idsL_cons (.ref _ _ _ _ (by omega)) (idsL_cons (ids_grow_map ids_encB (by omega)) idsL_nil))))
        · trivial
        · trivial
        · rw [List.eq_of_mem_replicate ho]; trivial
        · exact idsO_row (fun x hx => hcs x hx _)
      have hWS : ∀ (k kc : Nat) ss (gl : List Bool) (cs : List AV) (l : Store), (∀ x ∈ cs, ∀ n, Ids n x) → (∀ o ∈ l, IdsO (σ.length + 7 + k + l.length) o) → IdsS (σ ++ ((([AObj.row (encTask t), AObj.map (List.map ofE p), AObj.map (encW ss), AObj.row [AV.map (σ.length + 2), AV.slice (.grow (σ.length + 4)) (List.map encL ss), AV.ref (σ.length + (6 + k)) 1 0 kc, AV.slice (.grow (σ.length + 5)) (List.map encB gl)], AObj.grow 1 (@List.length (List Int) ss), AObj.grow 1 (@List.length Bool gl)] ++ (List.replicate k AObj.dead ++ [AObj.row cs]))) ++ l)).length (σ ++ ((([AObj.row (encTask t), AObj.map (List.map ofE p), AObj.map (encW ss), AObj.row [AV.map (σ.length + 2), AV.slice (.grow (σ.length + 4)) (List.map encL ss), AV.ref (σ.length + (6 + k)) 1 0 kc, AV.slice (.grow (σ.length + 5)) (List.map encB gl)], AObj.grow 1 (@List.length (List Int) ss), AObj.grow 1 (@List.length Bool gl)] ++ (List.replicate k AObj.dead ++ [AObj.row cs]))) ++ l)) := fun k kc ss gl cs l hcs hl => idsS_app _ hσ fun o ho => by
        rcases List.mem_append.1 ho with ho | ho
        · exact hWd _ k kc ss gl cs (by simp; omega) hcs o ho
        · have := hl o ho
          refine cast (congrArg (fun z => IdsO z o) ?_) this
          simp; omega
      have h2n : 2 ^ t.facts.length ≤ 256 := Nat.pow_le_pow_right (n := 2) (by omega) hfl8
      have hn8 : ∀ y, risingB t.facts.length (-1) y = true → y.length ≤ 8 := fun y hy => by
        rcases rising_len hy (by omega) with q | q
        · omega
        · rw [q]; simp
      have hnx := nxP_rising hEO hch hpol
      refine Gh.of (tokP t p σ) ?_
      simp only [go_sem, simprocAttr, encTask]
      refine ⟨_, _, ofWK _ _ _ _ _ [] t.init σ [AObj.row []] (by have := hn8 _ hri; omega) (by intro y hy; simp at hy) (by simp), ?_⟩
      have e1 : addS [] t.init = gK (nxP t g p) t.init 0 := rfl
      rw [e1]
      try simp only [go_sem, simprocAttr]
      have hchV : ∀ (l : List (List (Nat × List Nat))), ∀ x ∈ l.map chV, ∀ n, Ids n x := fun l x hx n => by
        obtain ⟨y, _, rfl⟩ := List.mem_map.1 hx
        exact ids_map ids_encCo _
      have hW0 : ∀ (k kc : Nat) ss (gl : List Bool) (l : List (List (Nat × List Nat))), IdsS (σ ++ (([AObj.row (encTask t), AObj.map (List.map ofE p), AObj.map (encW ss), AObj.row [AV.map (σ.length + 2), AV.slice (.grow (σ.length + 4)) (List.map encL ss), AV.ref (σ.length + (6 + k)) 1 0 kc, AV.slice (.grow (σ.length + 5)) (List.map encB gl)], AObj.grow 1 (@List.length (List Int) ss), AObj.grow 1 (@List.length Bool gl)] ++ (List.replicate k AObj.dead ++ [AObj.row (l.map chV)])))).length (σ ++ (([AObj.row (encTask t), AObj.map (List.map ofE p), AObj.map (encW ss), AObj.row [AV.map (σ.length + 2), AV.slice (.grow (σ.length + 4)) (List.map encL ss), AV.ref (σ.length + (6 + k)) 1 0 kc, AV.slice (.grow (σ.length + 5)) (List.map encB gl)], AObj.grow 1 (@List.length (List Int) ss), AObj.grow 1 (@List.length Bool gl)] ++ (List.replicate k AObj.dead ++ [AObj.row (l.map chV)])))) := fun k kc ss gl l => by
        have := hWS k kc ss gl (l.map chV) [] (hchV l) (by simp)
        rwa [List.append_nil] at this
      refine wpc_while (fun (k : Nat) => [(1, .slice tok (g.map encL)), (3, .ptr σ.length 0), (9, .map (σ.length + 1)), (14, .ptr (σ.length + 3) 0), (15, .bool (shutB t p ((gK (nxP t g p) t.init k).take k))), (16, .bool (weakB t ((gK (nxP t g p) t.init k).take k))), (17, .int .i64 (k : Nat))])
        (fun k => σ ++ ([AObj.row (encTask t), AObj.map (List.map ofE p), AObj.map (encW (gK (nxP t g p) t.init k)), AObj.row [AV.map (σ.length + 2), AV.slice (.grow (σ.length + 4)) (List.map encL (gK (nxP t g p) t.init k)), AV.ref (σ.length + (6 + k)) 1 0 k, AV.slice (.grow (σ.length + 5)) (List.map encB (GLp t (gK (nxP t g p) t.init k) k))], AObj.grow 1 (@List.length (List Int) (gK (nxP t g p) t.init k)), AObj.grow 1 (@List.length Bool (GLp t (gK (nxP t g p) t.init k) k))] ++ (List.replicate k AObj.dead ++ [AObj.row ((CHp t g p (gK (nxP t g p) t.init k) k).map chV)])))
        (fun k => k ≤ (gK (nxP t g p) t.init k).length) (fun k => 256 - k) 0 (Nat.zero_le _) ?_ ?_
      · exact ghL0 (hW0 0 0 (gK (nxP t g p) t.init 0) [] [])
      intro k hk K hK hE hR
      have hrs := gK_rising hri hnx k
      have hll := gK_len hri hnx k
      have hndk := gK_nodup (nx := nxP t g p) (s0 := t.init) k
      by_cases h : k < (gK (nxP t g p) t.init k).length
      · obtain ⟨s, hx⟩ := get_ex h
        have hsr := hrs s (List.mem_of_getElem? hx)
        have hs8 := hn8 s hsr
        have hlt : ((k : Int) < ((gK (nxP t g p) t.init k).length : Int)) := by omega
        have hw0 : IntKind.i64.wrap ((k : Int) + 1) = ((k + 1 : Nat) : Int) := by rw [wrap_ok (by omega)]; omega
        have hbig : bigLen (k + 1) 1 := big_ok (by omega) (by omega)
        have hbig24 : bigLen (k + 1) 24 := big_ok (by omega) (by omega)
        have hstp := gK_step hx
        have hCs := CHp_step hx
        have hGs := GLp_step (t := t) hx
        have htk : (gK (nxP t g p) t.init (k + 1)).take (k + 1) = (gK (nxP t g p) t.init k).take k ++ [s] := by
          rw [take_succ' ((gK_pre1 k).get hx), take_pre (gK_pre1 k) (by omega)]
        have hsh : shutB t p ((gK (nxP t g p) t.init (k + 1)).take (k + 1)) = (shutB t p ((gK (nxP t g p) t.init k).take k) && ((polG p s).isSome || condHolds s t.goal)) := by
          rw [htk]; unfold shutB; rw [List.all_append]; simp
        have hwe : weakB t ((gK (nxP t g p) t.init (k + 1)).take (k + 1)) = (weakB t ((gK (nxP t g p) t.init k).take k) || condHolds s t.goal) := by
          rw [htk]; unfold weakB; rw [List.any_append]; simp
        have hGl : (GLp t (gK (nxP t g p) t.init k) k).length = k := by unfold GLp; rw [List.length_map, List.length_take]; omega
        have hCl : (CHp t g p (gK (nxP t g p) t.init k) k).length = k := by unfold CHp; rw [List.length_map, List.length_take]; omega
        generalize shutB t p ((gK (nxP t g p) t.init k).take k) = sh0 at hsh
        generalize weakB t ((gK (nxP t g p) t.init k).take k) = we0 at hwe
        generalize GLp t (gK (nxP t g p) t.init k) k = GL0 at hGl hGs
        generalize CHp t g p (gK (nxP t g p) t.init k) k = CH0 at hCl hCs
        generalize hss : gK (nxP t g p) t.init k = ss at hk hrs hll hndk h hx hlt hstp
        generalize hN : gK (nxP t g p) t.init (k + 1) = N at hstp hCs hGs hsh hwe
        have hNr := gK_rising hri hnx (k + 1)
        have hNl := gK_len hri hnx (k + 1)
        rw [hN] at hNr hNl
        generalize hcs : CH0.map chV = cs
        have hcsl : cs.length = k := by rw [← hcs, List.length_map, hCl]
        have hcsI : ∀ x ∈ cs, ∀ n, Ids n x := by rw [← hcs]; exact hchV CH0
        simp only [go_sem, simprocAttr, hlt, hx, encL, encTask]
        refine ⟨_, sTrue_spec s t.goal .unk .unk _ (by omega) (rising_pw hsr).1 hb.tb.goal, ?_⟩
        generalize hcb : condHolds s t.goal = b at hsh hwe hGs
        have hGf : List.map encB GL0 ++ [[AV.bool b]] = List.map encB (GL0 ++ [b]) := by rw [List.map_append]; rfl
        simp only [go_sem, simprocAttr, hGl, hbig, hGf]
        have hG1l : (GL0 ++ [b]).length = k + 1 := by simp [hGl]
        have hG1k : (GL0 ++ [b])[k]? = some b := by rw [List.getElem?_append_right (by omega), hGl, Nat.sub_self]; rfl
        rw [show AObj.grow 1 (k + 1) = AObj.grow 1 (GL0 ++ [b]).length by rw [hG1l]]
        generalize hG1 : GL0 ++ [b] = G1 at hGf hG1l hG1k hGs
        have hkW : ∀ (k kc : Nat) ss (gl : List Bool) (cs : List AV), (∀ x ∈ cs, ∀ n, Ids n x) → IdsS (σ ++ (([AObj.row (encTask t), AObj.map (List.map ofE p), AObj.map (encW ss), AObj.row [AV.map (σ.length + 2), AV.slice (.grow (σ.length + 4)) (List.map encL ss), AV.ref (σ.length + (6 + k)) 1 0 kc, AV.slice (.grow (σ.length + 5)) (List.map encB gl)], AObj.grow 1 (@List.length (List Int) ss), AObj.grow 1 (@List.length Bool gl)] ++ (List.replicate k AObj.dead ++ [AObj.row cs])))).length (σ ++ (([AObj.row (encTask t), AObj.map (List.map ofE p), AObj.map (encW ss), AObj.row [AV.map (σ.length + 2), AV.slice (.grow (σ.length + 4)) (List.map encL ss), AV.ref (σ.length + (6 + k)) 1 0 kc, AV.slice (.grow (σ.length + 5)) (List.map encB gl)], AObj.grow 1 (@List.length (List Int) ss), AObj.grow 1 (@List.length Bool gl)] ++ (List.replicate k AObj.dead ++ [AObj.row cs])))) := fun k kc ss gl cs hcs => by
          have := hWS k kc ss gl cs [] hcs (by simp)
          rwa [List.append_nil] at this
        refine Gh.of (s' := [(1, .slice tok (g.map encL)), (3, .ptr σ.length 0), (9, .map (σ.length + 1)), (14, .ptr (σ.length + 3) 0), (15, .bool sh0), (16, .bool we0), (17, .int .i64 (k : Nat)), (18, .slice .unk (s.map Ahl.encI))]) (σ' := σ ++ (([AObj.row (encTask t), AObj.map (List.map ofE p), AObj.map (encW ss), AObj.row [AV.map (σ.length + 2), AV.slice (.grow (σ.length + 4)) (List.map encL ss), AV.ref (σ.length + (6 + k)) 1 0 k, AV.slice (.grow (σ.length + 5)) (List.map encB G1)], AObj.grow 1 (@List.length (List Int) ss), AObj.grow 1 (@List.length Bool G1)] ++ (List.replicate k AObj.dead ++ [AObj.row cs])))) (ghL0 (hkW _ _ _ _ _ hcsI)) ?_
        simp only [go_sem, simprocAttr, cg6, cs6, rk_get, rk_set, hcsl, hbig24]
        rw [show (List.replicate k AObj.dead).length + 1 + 1 + 1 + 1 + 1 + 1 + 1 = 6 + (k + 1) by simp; omega, ← rk_succ, show [[AV.slice Tok.nil []]].flatten = [AV.slice Tok.nil []] from rfl]
        have hcsI2 : ∀ x ∈ cs ++ [AV.slice .nil []], ∀ n, Ids n x := fun x hx n => by
          rcases List.mem_append.1 hx with hx | hx
          · exact hcsI x hx n
          · rw [List.mem_singleton] at hx; subst hx; exact ids_nil _ (by simp)
        refine Gh.of (s' := [(1, .slice tok (g.map encL)), (3, .ptr σ.length 0), (9, .map (σ.length + 1)), (14, .ptr (σ.length + 3) 0), (15, .bool sh0), (16, .bool we0), (17, .int .i64 (k : Nat)), (18, .slice .unk (s.map Ahl.encI))]) (σ' := σ ++ (([AObj.row (encTask t), AObj.map (List.map ofE p), AObj.map (encW ss), AObj.row [AV.map (σ.length + 2), AV.slice (.grow (σ.length + 4)) (List.map encL ss), AV.ref (σ.length + (6 + (k + 1))) 1 0 (k + 1), AV.slice (.grow (σ.length + 5)) (List.map encB G1)], AObj.grow 1 (@List.length (List Int) ss), AObj.grow 1 (@List.length Bool G1)] ++ (List.replicate (k + 1) AObj.dead ++ [AObj.row (cs ++ [AV.slice .nil []])])))) (ghL0 (hkW _ _ _ _ _ hcsI2)) ?_
        have hpr : ∀ z ∈ p.map (·.1), risingB t.facts.length (-1) z = true := fun z hz => by
          obtain ⟨u, hu, rfl⟩ := List.mem_map.1 hz
          obtain ⟨j, hj⟩ := List.getElem?_of_mem hu
          exact (entB_parts (entB_get hpol hj)).1
        obtain ⟨fi, hfi⟩ := find_of s p 0 fun z hz => key_apart (n := t.facts.length) (by omega) hpr hsr z.1 (List.mem_map.2 ⟨z, hz, rfl⟩)
        cases we0
        · simp only [go_sem, simprocAttr, hG1k, encB]
          refine (key_spec s .unk _ (by omega)).is ?_
          cases hpg : polG p s with
          | none =>
            rw [hpg] at hfi hsh
            simp only [Option.map_none, Option.isSome_none, Bool.false_or] at hfi hsh
            have hNs : N = ss := by rw [hstp]; unfold nxP; rw [hpg]; rfl
            have hcN : chP t g p N s = [] := by unfold chP; rw [hpg]
            rw [hcN] at hCs
            have hcf : (CHp t g p N (k + 1)).map chV = cs ++ [chV []] := by rw [hCs, List.map_append, hcs]; rfl
            have hgh : ∀ (sl : Slots), Ghost σ.length 271 sl (σ ++ (([AObj.row (encTask t), AObj.map (List.map ofE p), AObj.map (encW ss), AObj.row [AV.map (σ.length + 2), AV.slice (.grow (σ.length + 4)) (List.map encL ss), AV.ref (σ.length + (6 + (k + 1))) 1 0 (k + 1), AV.slice (.grow (σ.length + 5)) (List.map encB G1)], AObj.grow 1 (@List.length (List Int) ss), AObj.grow 1 (@List.length Bool G1)] ++ (List.replicate (k + 1) AObj.dead ++ [AObj.row (cs ++ [AV.slice .nil []])])))) sl (σ ++ (([AObj.row (encTask t), AObj.map (List.map ofE p), AObj.map (encW ss), AObj.row [AV.map (σ.length + 2), AV.slice (.grow (σ.length + 4)) (List.map encL ss), AV.ref (σ.length + (6 + (k + 1))) 1 0 (k + 1), AV.slice (.grow (σ.length + 5)) (List.map encB G1)], AObj.grow 1 (@List.length (List Int) ss), AObj.grow 1 (@List.length Bool G1)] ++ (List.replicate (k + 1) AObj.dead ++ [AObj.row (cs ++ [chV []])])))) := fun sl => by
              have := Ghost.rewk (n0 := σ.length) (nt := 271) (s := sl) (σ := σ ++ (([AObj.row (encTask t), AObj.map (List.map ofE p), AObj.map (encW ss), AObj.row [AV.map (σ.length + 2), AV.slice (.grow (σ.length + 4)) (List.map encL ss), AV.ref (σ.length + (6 + (k + 1))) 1 0 (k + 1), AV.slice (.grow (σ.length + 5)) (List.map encB G1)], AObj.grow 1 (@List.length (List Int) ss), AObj.grow 1 (@List.length Bool G1)] ++ (List.replicate (k + 1) AObj.dead ++ [AObj.row (cs ++ [AV.slice .nil []])])))) (σ.length + (6 + (k + 1))) (xs := cs ++ [AV.slice .nil []]) (ys := cs ++ [chV []]) (by simp only [List.cons_append, List.nil_append, g_get, cg6, rk_get]) (WkL.snoc (Wk.unk _ _) _)
              simpa only [List.cons_append, List.nil_append, g_set, cs6, rk_set] using this
            cases sh0
            · simp only [go_sem, simprocAttr, hfi]
              refine hK _ _ (k + 1) (by rw [hN, hNs]; omega) (by omega) ?_
              rw [hN, hw0, hsh, hwe, hGs, hcf, hNs]
              simp only [Bool.false_and, Bool.false_or, Bool.true_or]
              refine Ghost.trans (hgh _) ?_
              simp only [List.cons_append, List.nil_append]
              exact ghL0 (hkW _ _ _ _ _ (by rw [← hcf]; exact hchV _))
            · simp only [go_sem, simprocAttr, hfi, hG1k, encB]
              refine hK _ _ (k + 1) (by rw [hN, hNs]; omega) (by omega) ?_
              rw [hN, hw0, hsh, hwe, hGs, hcf, hNs]
              simp only [Bool.true_and, Bool.false_or, Bool.true_or]
              refine Ghost.trans (hgh _) ?_
              simp only [List.cons_append, List.nil_append]
              exact ghL0 (hkW _ _ _ _ _ (by rw [← hcf]; exact hchV _))
          | some n =>
            rw [hpg] at hfi hsh
            simp only [Option.map_some, Option.isSome_some, Bool.true_or, Bool.and_true] at hfi hsh
            obtain ⟨hn0, hn1, _, hna, _⟩ := polG_ok hpol hpg
            obtain ⟨l, hgx⟩ := get_ex hn1
            have hgrp : grp g n.toNat = l := by unfold grp; rw [List.getD_eq_getElem?_getD, hgx]; rfl
            obtain ⟨c0, c1, c2, c3⟩ := grp_ok hch hn1
            rw [hgrp] at c0 c1 c2 c3 hna
            have hll2 := hg.2 l c0
            simp only [go_sem, simprocAttr, hfi, hgx, hn0, encL, encTask]
            refine ⟨_, pouts_spec t l s .unk .unk _ hb.tb hSB hEO (by omega) c1 (by have := hSB.acts; omega) c2 hsr, ?_⟩
            unfold outR
            rw [if_pos hna]
            simp only [go_sem, simprocAttr, encTask]
            rw [show (List.replicate (k + 1) AObj.dead).length + 1 + 1 + 1 + 1 + 1 + 1 + 1 = 6 + (k + 1 + 1) by simp; omega]
            have hNO : N = addAll ss (outsL t l s) := by rw [hstp]; unfold nxP; rw [hpg]; show addAll ss (outsL t (grp g n.toNat) s) = _; rw [hgrp]
            have hcN : chP t g p N s = [(n.toNat, (outsL t l s).map N.idxOf)] := by unfold chP; rw [hpg]; show [(n.toNat, (outsL t (grp g n.toNat) s).map N.idxOf)] = _; rw [hgrp]
            rw [hcN] at hCs
            have hol : (outsL t l s).length ≤ 256 := by
              have h1 : (outsL t l s).Nodup := (outs_strict t l s).imp fun {a b} q e => by subst e; exact absurd q (by unfold ltL; rw [cmpInts_refl]; omega)
              have := nodup_sub_len h1 (m := N) fun y hy => by rw [hNO]; exact mem_addAll.2 (.inr hy)
              omega
            have hor : ∀ y ∈ outsL t l s, risingB t.facts.length (-1) y = true := outs_rising hEO hsr c2
            generalize outsL t l s = O at hNO hol hor hCs hcN
            have hwe2 := hwe
            simp only [Bool.false_or, Bool.true_or] at hwe2
            obtain ⟨w1, hw1⟩ : ∃ w1, w1 = weakB t (N.take (k + 1)) := ⟨_, rfl⟩
            rw [← hw1] at hwe2
            have hJS : ∀ ss' c j, IdsS (σ ++ ((([AObj.row (encTask t), AObj.map (List.map ofE p), AObj.map (encW ss'), AObj.row [AV.map (σ.length + 2), AV.slice (.grow (σ.length + 4)) (List.map encL ss'), AV.ref (σ.length + (6 + (k + 1))) 1 0 (k + 1), AV.slice (.grow (σ.length + 5)) (List.map encB G1)], AObj.grow 1 (@List.length (List Int) ss'), AObj.grow 1 (@List.length Bool G1)] ++ (List.replicate (k + 1) AObj.dead ++ [AObj.row (cs ++ [AV.slice .nil []])]))) ++ [AObj.row [.int .i64 n, .slice (.grow (σ.length + (6 + (k + 1 + 2)))) (List.map encNt c)], .grow 1 j])).length (σ ++ ((([AObj.row (encTask t), AObj.map (List.map ofE p), AObj.map (encW ss'), AObj.row [AV.map (σ.length + 2), AV.slice (.grow (σ.length + 4)) (List.map encL ss'), AV.ref (σ.length + (6 + (k + 1))) 1 0 (k + 1), AV.slice (.grow (σ.length + 5)) (List.map encB G1)], AObj.grow 1 (@List.length (List Int) ss'), AObj.grow 1 (@List.length Bool G1)] ++ (List.replicate (k + 1) AObj.dead ++ [AObj.row (cs ++ [AV.slice .nil []])]))) ++ [AObj.row [.int .i64 n, .slice (.grow (σ.length + (6 + (k + 1 + 2)))) (List.map encNt c)], .grow 1 j])) := fun ss' c j => hWS _ _ _ _ _ _ hcsI2 (by
              intro o ho
              simp only [List.mem_cons, List.not_mem_nil, or_false] at ho
              rcases ho with rfl | rfl
              · exact idsO_row (idsL_cons (.int _ _) (idsL_cons (ids_grow_map ids_encNt (by simp only [List.length_cons, List.length_nil]; omega)) idsL_nil))
              · trivial)
            refine Gh.of (s' := [(1, .slice tok (g.map encL)), (3, .ptr σ.length 0), (9, .map (σ.length + 1)), (14, .ptr (σ.length + 3) 0), (15, .bool sh0), (16, .bool w1), (17, .int .i64 (k : Nat)), (21, .slice .unk (O.map encL)), (23, .ptr (σ.length + (6 + (k + 1 + 1))) 0)])
              (σ' := σ ++ ((([AObj.row (encTask t), AObj.map (List.map ofE p), AObj.map (encW ss), AObj.row [AV.map (σ.length + 2), AV.slice (.grow (σ.length + 4)) (List.map encL ss), AV.ref (σ.length + (6 + (k + 1))) 1 0 (k + 1), AV.slice (.grow (σ.length + 5)) (List.map encB G1)], AObj.grow 1 (@List.length (List Int) ss), AObj.grow 1 (@List.length Bool G1)] ++ (List.replicate (k + 1) AObj.dead ++ [AObj.row (cs ++ [AV.slice .nil []])]))) ++ [AObj.row [.int .i64 n, .slice (.grow (σ.length + (6 + (k + 1 + 2)))) (List.map encNt [])], .grow 1 0])) ?_ ?_
            · refine Ghost.trans (tokJ σ _ _ _ _ _ _ _ n (k + 1)) ?_
              refine Ghost.trans (Ghost.weak 21 (.slice .unk (O.map encL)) (by simpa [lk] using Wk.lfu .fresh O)) ?_
              have := hJS ss [] 0
              simp only [List.cons_append, List.nil_append, List.append_assoc] at this ⊢
              rw [hwe2]
              refine Ghost.keepL0 (k := 6 + (k + 1 + 3)) _ (by simp; omega) (Nat.le_refl _) ?_ this
              exact tellT
            simp only [go_sem, simprocAttr]
            refine wpc_while (fun (j : Nat) => [(1, .slice tok (g.map encL)), (3, .ptr σ.length 0), (9, .map (σ.length + 1)), (14, .ptr (σ.length + 3) 0), (15, .bool sh0), (16, .bool w1), (17, .int .i64 (k : Nat)), (23, .ptr (σ.length + (6 + (k + 1 + 1))) 0), (198, .slice .unk (O.map encL)), (199, .int .i64 O.length), (200, .int .i64 (j : Nat))])
              (fun j => σ ++ ((([AObj.row (encTask t), AObj.map (List.map ofE p), AObj.map (encW (addAll ss (O.take j))), AObj.row [AV.map (σ.length + 2), AV.slice (.grow (σ.length + 4)) (List.map encL (addAll ss (O.take j))), AV.ref (σ.length + (6 + (k + 1))) 1 0 (k + 1), AV.slice (.grow (σ.length + 5)) (List.map encB G1)], AObj.grow 1 (@List.length (List Int) (addAll ss (O.take j))), AObj.grow 1 (@List.length Bool G1)] ++ (List.replicate (k + 1) AObj.dead ++ [AObj.row (cs ++ [AV.slice .nil []])]))) ++ [AObj.row [.int .i64 n, .slice (.grow (σ.length + (6 + (k + 1 + 2)))) (List.map encNt ((O.take j).map N.idxOf))], .grow 1 j])) (fun j => j ≤ O.length) (fun j => O.length - j) 0 (Nat.zero_le _) ?_ ?_
            · have := hJS ss [] 0
              simp only [List.cons_append, List.nil_append, List.append_assoc] at this ⊢
              refine Ghost.keepL0 (k := 6 + (k + 1 + 3)) _ (by simp; omega) (Nat.le_refl _) ?_ this
              exact tellT
            intro j hj K3 hK3 hE3 hR3
            by_cases h : j < O.length
            · obtain ⟨x, hx⟩ := get_ex h
              have hlt : ((j : Int) < (O.length : Int)) := by omega
              have hw2 : IntKind.i64.wrap ((j : Int) + 1) = ((j + 1 : Nat) : Int) := by rw [wrap_ok (by omega)]; omega
              have hbig2 : bigLen (j + 1) 8 := big_ok (by omega) (by omega)
              have hxr := hor x (List.mem_of_getElem? hx)
              have hpj : Pre (addAll ss (O.take j)) N := by rw [hNO]; exact pre_take ss O j
              have hpj1 : Pre (addAll ss (O.take (j + 1))) N := by rw [hNO]; exact pre_take ss O (j + 1)
              have hjl := hpj.len
              rw [addAll_take hx] at hpj1
              have hidx : (addS (addAll ss (O.take j)) x).idxOf x = N.idxOf x := (hpj1.idx (mem_addS.2 (.inr rfl))).symm
              have hlj : (((O.take j).map N.idxOf).map encNt).length = j := by simp; omega
              have hfj : ((O.take j).map N.idxOf).map encNt ++ [[AV.int .i64 ((N.idxOf x : Nat) : Int)]] = ((O.take (j + 1)).map N.idxOf).map encNt := by
                rw [take_succ' hx, List.map_append, List.map_append]; rfl
              simp only [go_sem, simprocAttr, hlt, hx, encL, cg6, rk_get1, rk_get2]
              refine ⟨_, _, ofWK _ _ _ _ _ (addAll ss (O.take j)) x σ _ (by have := hn8 x hxr; omega) (key_apart (n := t.facts.length) (by omega) (fun y hy => hNr y (hpj.mem hy)) hxr) (by omega), ?_⟩
              rw [hidx]
              simp only [go_sem, simprocAttr, cg6, rk_get1, rk_get2, cs6, rk_set1, rk_set2, hlj, hbig2, hfj, hw2]
              refine hK3 _ _ (j + 1) (by omega) (by omega) ?_
              rw [addAll_take hx]
              have := hJS (addS (addAll ss (O.take j)) x) ((O.take (j + 1)).map N.idxOf) (j + 1)
              simp only [List.cons_append, List.nil_append, List.append_assoc] at this ⊢
              refine Ghost.keepL0 (k := 6 + (k + 1 + 3)) _ (by simp; omega) (Nat.le_refl _) ?_ this
              exact tellT
            · have hlt : ¬ ((j : Int) < (O.length : Int)) := by omega
              rw [List.take_of_length_le (by omega), ← hNO]
              have hch1 : AV.slice .unk [[AV.int .i64 n, AV.slice .unk ((O.map N.idxOf).map encNt)]] = chV [(n.toNat, O.map N.idxOf)] := by
                unfold chV
                rw [List.map_singleton, encCo, show ((n.toNat : Nat) : Int) = n by omega]
              have hset : (cs ++ [AV.slice .nil []]).set k (AV.slice .unk [[AV.int .i64 n, AV.slice .unk ((O.map N.idxOf).map encNt)]]) = cs ++ [chV [(n.toNat, O.map N.idxOf)]] := by
                rw [hch1, List.set_append_right _ _ (by omega), hcsl, Nat.sub_self]; rfl
              simp only [go_sem, simprocAttr, hlt, hE3]
              refine Gh.of (Ghost.rewk (σ.length + (6 + (k + 1 + 1))) (xs := [.int .i64 n, .slice (.grow (σ.length + (6 + (k + 1 + 2)))) ((O.map N.idxOf).map encNt)]) (ys := [.int .i64 n, .slice .unk ((O.map N.idxOf).map encNt)]) (by rw [g_get, cg6, rk_get1]; rfl) (.cons (.refl _) (.cons (Wk.unk _ _) .nil))) ?_
              have hkk : k < k + 1 := by omega
              have hkl : k + 1 ≤ (cs ++ [AV.slice .nil []]).length := by simp [hcsl]
              simp only [go_sem, simprocAttr, cg6, cs6, rk_get, rk_set, rk_get1, rk_set1, hset, hkk, hkl]
              have hcf : (CHp t g p N (k + 1)).map chV = cs ++ [chV [(n.toNat, O.map N.idxOf)]] := by rw [hCs, List.map_append, hcs]; rfl
              have hk1N : k + 1 ≤ N.length := by
                have := (pre_addAll O ss).len
                rw [← hNO] at this; omega
              refine ⟨by omega, ?_⟩
              refine hK _ _ (k + 1) (by rw [hN]; exact hk1N) (by omega) ?_
              rw [hN, hw0, hsh, ← hw1, hGs, hcf]
              rw [show (List.replicate (k + 1) AObj.dead ++ [AObj.row (cs ++ [chV [(n.toNat, O.map N.idxOf)]]), AObj.row [.int .i64 n, .slice .unk ((O.map N.idxOf).map encNt)], AObj.grow 1 j]) = (List.replicate (k + 1) AObj.dead ++ [AObj.row (cs ++ [chV [(n.toNat, O.map N.idxOf)]])]) ++ [AObj.row [.int .i64 n, .slice .unk ((O.map N.idxOf).map encNt)], AObj.grow 1 j] by simp]
              refine Ghost.keepL (g := [AObj.row [.int .i64 n, .slice .unk ((O.map N.idxOf).map encNt)], AObj.grow 1 j]) (k := 6 + (k + 1 + 1)) _ (by simp; omega) (Nat.le_refl _) ?_ (hkW (k + 1) (k + 1) N G1 _ (by rw [← hcf]; exact hchV _))
              exact tellT
        · simp only [go_sem, simprocAttr]
          refine (key_spec s .unk _ (by omega)).is ?_
          cases hpg : polG p s with
          | none =>
            rw [hpg] at hfi hsh
            simp only [Option.map_none, Option.isSome_none, Bool.false_or] at hfi hsh
            have hNs : N = ss := by rw [hstp]; unfold nxP; rw [hpg]; rfl
            have hcN : chP t g p N s = [] := by unfold chP; rw [hpg]
            rw [hcN] at hCs
            have hcf : (CHp t g p N (k + 1)).map chV = cs ++ [chV []] := by rw [hCs, List.map_append, hcs]; rfl
            have hgh : ∀ (sl : Slots), Ghost σ.length 271 sl (σ ++ (([AObj.row (encTask t), AObj.map (List.map ofE p), AObj.map (encW ss), AObj.row [AV.map (σ.length + 2), AV.slice (.grow (σ.length + 4)) (List.map encL ss), AV.ref (σ.length + (6 + (k + 1))) 1 0 (k + 1), AV.slice (.grow (σ.length + 5)) (List.map encB G1)], AObj.grow 1 (@List.length (List Int) ss), AObj.grow 1 (@List.length Bool G1)] ++ (List.replicate (k + 1) AObj.dead ++ [AObj.row (cs ++ [AV.slice .nil []])])))) sl (σ ++ (([AObj.row (encTask t), AObj.map (List.map ofE p), AObj.map (encW ss), AObj.row [AV.map (σ.length + 2), AV.slice (.grow (σ.length + 4)) (List.map encL ss), AV.ref (σ.length + (6 + (k + 1))) 1 0 (k + 1), AV.slice (.grow (σ.length + 5)) (List.map encB G1)], AObj.grow 1 (@List.length (List Int) ss), AObj.grow 1 (@List.length Bool G1)] ++ (List.replicate (k + 1) AObj.dead ++ [AObj.row (cs ++ [chV []])])))) := fun sl => by
              have := Ghost.rewk (n0 := σ.length) (nt := 271) (s := sl) (σ := σ ++ (([AObj.row (encTask t), AObj.map (List.map ofE p), AObj.map (encW ss), AObj.row [AV.map (σ.length + 2), AV.slice (.grow (σ.length + 4)) (List.map encL ss), AV.ref (σ.length + (6 + (k + 1))) 1 0 (k + 1), AV.slice (.grow (σ.length + 5)) (List.map encB G1)], AObj.grow 1 (@List.length (List Int) ss), AObj.grow 1 (@List.length Bool G1)] ++ (List.replicate (k + 1) AObj.dead ++ [AObj.row (cs ++ [AV.slice .nil []])])))) (σ.length + (6 + (k + 1))) (xs := cs ++ [AV.slice .nil []]) (ys := cs ++ [chV []]) (by simp only [List.cons_append, List.nil_append, g_get, cg6, rk_get]) (WkL.snoc (Wk.unk _ _) _)
              simpa only [List.cons_append, List.nil_append, g_set, cs6, rk_set] using this
            cases sh0
            · simp only [go_sem, simprocAttr, hfi]
              refine hK _ _ (k + 1) (by rw [hN, hNs]; omega) (by omega) ?_
              rw [hN, hw0, hsh, hwe, hGs, hcf, hNs]
              simp only [Bool.false_and, Bool.false_or, Bool.true_or]
              refine Ghost.trans (hgh _) ?_
              simp only [List.cons_append, List.nil_append]
              exact ghL0 (hkW _ _ _ _ _ (by rw [← hcf]; exact hchV _))
            · simp only [go_sem, simprocAttr, hfi, hG1k, encB]
              refine hK _ _ (k + 1) (by rw [hN, hNs]; omega) (by omega) ?_
              rw [hN, hw0, hsh, hwe, hGs, hcf, hNs]
              simp only [Bool.true_and, Bool.false_or, Bool.true_or]
              refine Ghost.trans (hgh _) ?_
              simp only [List.cons_append, List.nil_append]
              exact ghL0 (hkW _ _ _ _ _ (by rw [← hcf]; exact hchV _))
          | some n =>
            rw [hpg] at hfi hsh
            simp only [Option.map_some, Option.isSome_some, Bool.true_or, Bool.and_true] at hfi hsh
            obtain ⟨hn0, hn1, _, hna, _⟩ := polG_ok hpol hpg
            obtain ⟨l, hgx⟩ := get_ex hn1
            have hgrp : grp g n.toNat = l := by unfold grp; rw [List.getD_eq_getElem?_getD, hgx]; rfl
            obtain ⟨c0, c1, c2, c3⟩ := grp_ok hch hn1
            rw [hgrp] at c0 c1 c2 c3 hna
            have hll2 := hg.2 l c0
            simp only [go_sem, simprocAttr, hfi, hgx, hn0, encL, encTask]
            refine ⟨_, pouts_spec t l s .unk .unk _ hb.tb hSB hEO (by omega) c1 (by have := hSB.acts; omega) c2 hsr, ?_⟩
            unfold outR
            rw [if_pos hna]
            simp only [go_sem, simprocAttr, encTask]
            rw [show (List.replicate (k + 1) AObj.dead).length + 1 + 1 + 1 + 1 + 1 + 1 + 1 = 6 + (k + 1 + 1) by simp; omega]
            have hNO : N = addAll ss (outsL t l s) := by rw [hstp]; unfold nxP; rw [hpg]; show addAll ss (outsL t (grp g n.toNat) s) = _; rw [hgrp]
            have hcN : chP t g p N s = [(n.toNat, (outsL t l s).map N.idxOf)] := by unfold chP; rw [hpg]; show [(n.toNat, (outsL t (grp g n.toNat) s).map N.idxOf)] = _; rw [hgrp]
            rw [hcN] at hCs
            have hol : (outsL t l s).length ≤ 256 := by
              have h1 : (outsL t l s).Nodup := (outs_strict t l s).imp fun {a b} q e => by subst e; exact absurd q (by unfold ltL; rw [cmpInts_refl]; omega)
              have := nodup_sub_len h1 (m := N) fun y hy => by rw [hNO]; exact mem_addAll.2 (.inr hy)
              omega
            have hor : ∀ y ∈ outsL t l s, risingB t.facts.length (-1) y = true := outs_rising hEO hsr c2
            generalize outsL t l s = O at hNO hol hor hCs hcN
            have hwe2 := hwe
            simp only [Bool.false_or, Bool.true_or] at hwe2
            obtain ⟨w1, hw1⟩ : ∃ w1, w1 = weakB t (N.take (k + 1)) := ⟨_, rfl⟩
            rw [← hw1] at hwe2
            have hJS : ∀ ss' c j, IdsS (σ ++ ((([AObj.row (encTask t), AObj.map (List.map ofE p), AObj.map (encW ss'), AObj.row [AV.map (σ.length + 2), AV.slice (.grow (σ.length + 4)) (List.map encL ss'), AV.ref (σ.length + (6 + (k + 1))) 1 0 (k + 1), AV.slice (.grow (σ.length + 5)) (List.map encB G1)], AObj.grow 1 (@List.length (List Int) ss'), AObj.grow 1 (@List.length Bool G1)] ++ (List.replicate (k + 1) AObj.dead ++ [AObj.row (cs ++ [AV.slice .nil []])]))) ++ [AObj.row [.int .i64 n, .slice (.grow (σ.length + (6 + (k + 1 + 2)))) (List.map encNt c)], .grow 1 j])).length (σ ++ ((([AObj.row (encTask t), AObj.map (List.map ofE p), AObj.map (encW ss'), AObj.row [AV.map (σ.length + 2), AV.slice (.grow (σ.length + 4)) (List.map encL ss'), AV.ref (σ.length + (6 + (k + 1))) 1 0 (k + 1), AV.slice (.grow (σ.length + 5)) (List.map encB G1)], AObj.grow 1 (@List.length (List Int) ss'), AObj.grow 1 (@List.length Bool G1)] ++ (List.replicate (k + 1) AObj.dead ++ [AObj.row (cs ++ [AV.slice .nil []])]))) ++ [AObj.row [.int .i64 n, .slice (.grow (σ.length + (6 + (k + 1 + 2)))) (List.map encNt c)], .grow 1 j])) := fun ss' c j => hWS _ _ _ _ _ _ hcsI2 (by
              intro o ho
              simp only [List.mem_cons, List.not_mem_nil, or_false] at ho
              rcases ho with rfl | rfl
              · exact idsO_row (idsL_cons (.int _ _) (idsL_cons (ids_grow_map ids_encNt (by simp only [List.length_cons, List.length_nil]; omega)) idsL_nil))
              · trivial)
            refine Gh.of (s' := [(1, .slice tok (g.map encL)), (3, .ptr σ.length 0), (9, .map (σ.length + 1)), (14, .ptr (σ.length + 3) 0), (15, .bool sh0), (16, .bool w1), (17, .int .i64 (k : Nat)), (21, .slice .unk (O.map encL)), (23, .ptr (σ.length + (6 + (k + 1 + 1))) 0)])
              (σ' := σ ++ ((([AObj.row (encTask t), AObj.map (List.map ofE p), AObj.map (encW ss), AObj.row [AV.map (σ.length + 2), AV.slice (.grow (σ.length + 4)) (List.map encL ss), AV.ref (σ.length + (6 + (k + 1))) 1 0 (k + 1), AV.slice (.grow (σ.length + 5)) (List.map encB G1)], AObj.grow 1 (@List.length (List Int) ss), AObj.grow 1 (@List.length Bool G1)] ++ (List.replicate (k + 1) AObj.dead ++ [AObj.row (cs ++ [AV.slice .nil []])]))) ++ [AObj.row [.int .i64 n, .slice (.grow (σ.length + (6 + (k + 1 + 2)))) (List.map encNt [])], .grow 1 0])) ?_ ?_
            · refine Ghost.trans (tokJ σ _ _ _ _ _ _ _ n (k + 1)) ?_
              refine Ghost.trans (Ghost.weak 21 (.slice .unk (O.map encL)) (by simpa [lk] using Wk.lfu .fresh O)) ?_
              have := hJS ss [] 0
              simp only [List.cons_append, List.nil_append, List.append_assoc] at this ⊢
              rw [hwe2]
              refine Ghost.keepL0 (k := 6 + (k + 1 + 3)) _ (by simp; omega) (Nat.le_refl _) ?_ this
              exact tellT
            simp only [go_sem, simprocAttr]
            refine wpc_while (fun (j : Nat) => [(1, .slice tok (g.map encL)), (3, .ptr σ.length 0), (9, .map (σ.length + 1)), (14, .ptr (σ.length + 3) 0), (15, .bool sh0), (16, .bool w1), (17, .int .i64 (k : Nat)), (23, .ptr (σ.length + (6 + (k + 1 + 1))) 0), (198, .slice .unk (O.map encL)), (199, .int .i64 O.length), (200, .int .i64 (j : Nat))])
              (fun j => σ ++ ((([AObj.row (encTask t), AObj.map (List.map ofE p), AObj.map (encW (addAll ss (O.take j))), AObj.row [AV.map (σ.length + 2), AV.slice (.grow (σ.length + 4)) (List.map encL (addAll ss (O.take j))), AV.ref (σ.length + (6 + (k + 1))) 1 0 (k + 1), AV.slice (.grow (σ.length + 5)) (List.map encB G1)], AObj.grow 1 (@List.length (List Int) (addAll ss (O.take j))), AObj.grow 1 (@List.length Bool G1)] ++ (List.replicate (k + 1) AObj.dead ++ [AObj.row (cs ++ [AV.slice .nil []])]))) ++ [AObj.row [.int .i64 n, .slice (.grow (σ.length + (6 + (k + 1 + 2)))) (List.map encNt ((O.take j).map N.idxOf))], .grow 1 j])) (fun j => j ≤ O.length) (fun j => O.length - j) 0 (Nat.zero_le _) ?_ ?_
            · have := hJS ss [] 0
              simp only [List.cons_append, List.nil_append, List.append_assoc] at this ⊢
              refine Ghost.keepL0 (k := 6 + (k + 1 + 3)) _ (by simp; omega) (Nat.le_refl _) ?_ this
              exact tellT
            intro j hj K3 hK3 hE3 hR3
            by_cases h : j < O.length
            · obtain ⟨x, hx⟩ := get_ex h
              have hlt : ((j : Int) < (O.length : Int)) := by omega
              have hw2 : IntKind.i64.wrap ((j : Int) + 1) = ((j + 1 : Nat) : Int) := by rw [wrap_ok (by omega)]; omega
              have hbig2 : bigLen (j + 1) 8 := big_ok (by omega) (by omega)
              have hxr := hor x (List.mem_of_getElem? hx)
              have hpj : Pre (addAll ss (O.take j)) N := by rw [hNO]; exact pre_take ss O j
              have hpj1 : Pre (addAll ss (O.take (j + 1))) N := by rw [hNO]; exact pre_take ss O (j + 1)
              have hjl := hpj.len
              rw [addAll_take hx] at hpj1
              have hidx : (addS (addAll ss (O.take j)) x).idxOf x = N.idxOf x := (hpj1.idx (mem_addS.2 (.inr rfl))).symm
              have hlj : (((O.take j).map N.idxOf).map encNt).length = j := by simp; omega
              have hfj : ((O.take j).map N.idxOf).map encNt ++ [[AV.int .i64 ((N.idxOf x : Nat) : Int)]] = ((O.take (j + 1)).map N.idxOf).map encNt := by
                rw [take_succ' hx, List.map_append, List.map_append]; rfl
              simp only [go_sem, simprocAttr, hlt, hx, encL, cg6, rk_get1, rk_get2]
              refine ⟨_, _, ofWK _ _ _ _ _ (addAll ss (O.take j)) x σ _ (by have := hn8 x hxr; omega) (key_apart (n := t.facts.length) (by omega) (fun y hy => hNr y (hpj.mem hy)) hxr) (by omega), ?_⟩
              rw [hidx]
              simp only [go_sem, simprocAttr, cg6, rk_get1, rk_get2, cs6, rk_set1, rk_set2, hlj, hbig2, hfj, hw2]
              refine hK3 _ _ (j + 1) (by omega) (by omega) ?_
              rw [addAll_take hx]
              have := hJS (addS (addAll ss (O.take j)) x) ((O.take (j + 1)).map N.idxOf) (j + 1)
              simp only [List.cons_append, List.nil_append, List.append_assoc] at this ⊢
              refine Ghost.keepL0 (k := 6 + (k + 1 + 3)) _ (by simp; omega) (Nat.le_refl _) ?_ this
              exact tellT
            · have hlt : ¬ ((j : Int) < (O.length : Int)) := by omega
              rw [List.take_of_length_le (by omega), ← hNO]
              have hch1 : AV.slice .unk [[AV.int .i64 n, AV.slice .unk ((O.map N.idxOf).map encNt)]] = chV [(n.toNat, O.map N.idxOf)] := by
                unfold chV
                rw [List.map_singleton, encCo, show ((n.toNat : Nat) : Int) = n by omega]
              have hset : (cs ++ [AV.slice .nil []]).set k (AV.slice .unk [[AV.int .i64 n, AV.slice .unk ((O.map N.idxOf).map encNt)]]) = cs ++ [chV [(n.toNat, O.map N.idxOf)]] := by
                rw [hch1, List.set_append_right _ _ (by omega), hcsl, Nat.sub_self]; rfl
              simp only [go_sem, simprocAttr, hlt, hE3]
              refine Gh.of (Ghost.rewk (σ.length + (6 + (k + 1 + 1))) (xs := [.int .i64 n, .slice (.grow (σ.length + (6 + (k + 1 + 2)))) ((O.map N.idxOf).map encNt)]) (ys := [.int .i64 n, .slice .unk ((O.map N.idxOf).map encNt)]) (by rw [g_get, cg6, rk_get1]; rfl) (.cons (.refl _) (.cons (Wk.unk _ _) .nil))) ?_
              have hkk : k < k + 1 := by omega
              have hkl : k + 1 ≤ (cs ++ [AV.slice .nil []]).length := by simp [hcsl]
              simp only [go_sem, simprocAttr, cg6, cs6, rk_get, rk_set, rk_get1, rk_set1, hset, hkk, hkl]
              have hcf : (CHp t g p N (k + 1)).map chV = cs ++ [chV [(n.toNat, O.map N.idxOf)]] := by rw [hCs, List.map_append, hcs]; rfl
              have hk1N : k + 1 ≤ N.length := by
                have := (pre_addAll O ss).len
                rw [← hNO] at this; omega
              refine ⟨by omega, ?_⟩
              refine hK _ _ (k + 1) (by rw [hN]; exact hk1N) (by omega) ?_
              rw [hN, hw0, hsh, ← hw1, hGs, hcf]
              rw [show (List.replicate (k + 1) AObj.dead ++ [AObj.row (cs ++ [chV [(n.toNat, O.map N.idxOf)]]), AObj.row [.int .i64 n, .slice .unk ((O.map N.idxOf).map encNt)], AObj.grow 1 j]) = (List.replicate (k + 1) AObj.dead ++ [AObj.row (cs ++ [chV [(n.toNat, O.map N.idxOf)]])]) ++ [AObj.row [.int .i64 n, .slice .unk ((O.map N.idxOf).map encNt)], AObj.grow 1 j] by simp]
              refine Ghost.keepL (g := [AObj.row [.int .i64 n, .slice .unk ((O.map N.idxOf).map encNt)], AObj.grow 1 j]) (k := 6 + (k + 1 + 1)) _ (by simp; omega) (Nat.le_refl _) ?_ (hkW (k + 1) (k + 1) N G1 _ (by rw [← hcf]; exact hchV _))
              exact tellT
      · have hlt : ¬ ((k : Int) < ((gK (nxP t g p) t.init k).length : Int)) := by omega
        have hke : k = (gK (nxP t g p) t.init k).length := by omega
        have hwk := wldP_ok hEO hch hpol hri hfl8
        have hsF : ssP t g p = gK (nxP t g p) t.init k := by
          have := gK_stop (nx := nxP t g p) (s0 := t.init) (k := k) (by omega) (2 ^ t.facts.length - k)
          rwa [show k + (2 ^ t.facts.length - k) = 2 ^ t.facts.length by omega] at this
        have hkn : kindN t g p = kindOf (wldP t g p) (shutB t p (wldP t g p).ss) (weakB t (wldP t g p).ss) := rfl
        have hss : (wldP t g p).ss = gK (nxP t g p) t.init k := hsF
        have hgl : GLp t (gK (nxP t g p) t.init k) k = (wldP t g p).gl := by
          unfold GLp wldP; rw [List.take_of_length_le (by omega), ← hsF]
        have hch2 : CHp t g p (gK (nxP t g p) t.init k) k = (wldP t g p).ch := by
          unfold CHp wldP; rw [List.take_of_length_le (by omega), ← hsF]
        rw [hgl, hch2, ← hss, List.take_of_length_le (by rw [hss]; omega)]
        have hkN : k = (wldP t g p).ss.length := by rw [hss]; exact hke
        rw [← hss] at hlt
        generalize wldP t g p = w at hwk hkn hlt hkN
        have hwl := hwk.len
        have hwc := hwk.ch
        have hwg := hwk.gl
        have hIw : ∀ n, IdsO n (.row (encWorld w)) := fun n => idsO_row (idsL_cons .any (idsL_cons (ids_map ids_encL _) (idsL_cons (ids_map ids_encCh _) (idsL_cons (ids_map ids_encB _) idsL_nil))))
        have h4S : ∀ (l : Store), (∀ o ∈ l, ∀ n, IdsO n o) → IdsS (σ ++ (AObj.row (encTask t) :: .map (p.map ofE) :: .map (encW w.ss) :: .row (encWorld w) :: l)).length (σ ++ (AObj.row (encTask t) :: .map (p.map ofE) :: .map (encW w.ss) :: .row (encWorld w) :: l)) := fun l hl => idsS_app _ hσ fun o ho => by
          simp only [List.mem_cons] at ho
          rcases ho with rfl | rfl | rfl | rfl | ho
          · exact idsO_row (ids_encTask t)
          · exact ids_ofE _ _
          · exact idsO_encW _ _
          · exact hIw _
          · exact hl o ho _
        simp only [go_sem, simprocAttr, hlt, hE]
        refine Gh.of (s' := [(14, .ptr (σ.length + 3) 0), (15, .bool (shutB t p w.ss)), (16, .bool (weakB t w.ss))]) (σ' := σ ++ [AObj.row (encTask t), .map (p.map ofE), .map (encW w.ss), .row (encWorld w)]) ?_ ?_
        · refine Ghost.trans (Ghost.freezeRow (σ.length + 3) 2 (w.ch.map encCh) (by simp; rfl) rfl (cs := w.ch.map chV) (by rw [g_get, cg6, rk_get]) (by omega) (by simp; omega) ?_) ?_
          · intro i e he
            rw [List.getElem?_map] at he
            obtain ⟨x, hx, rfl⟩ := Option.map_eq_some_iff.1 he
            refine ⟨rfl, fun j hj => ?_⟩
            obtain rfl : j = 0 := by omega
            rw [Nat.zero_add, Nat.mul_one, Nat.add_zero, List.getElem?_map, hx]; rfl
          · simp only [g_set, cs6, rk_set, List.set_cons_succ, List.set_cons_zero]
            refine Ghost.trans (Ghost.rewk (σ.length + 3) (xs := [.map (σ.length + 2), .slice (.grow (σ.length + 4)) (w.ss.map encL), .slice .unk (w.ch.map encCh), .slice (.grow (σ.length + 5)) (w.gl.map encB)]) (ys := encWorld w) (by simp) (.cons (.any _) (.cons (Wk.unk _ _) (.cons (.refl _) (.cons (Wk.unk _ _) .nil))))) ?_
            simp only [g_set, List.set_cons_succ, List.set_cons_zero]
            refine Ghost.keepL (g := AObj.grow 1 w.ss.length :: AObj.grow 1 w.gl.length :: (List.replicate k AObj.dead ++ [AObj.dead])) (k := 4) [AObj.row (encTask t), .map (p.map ofE), .map (encW w.ss), .row (encWorld w)] rfl (Nat.le_refl _) ?_ (h4S [] (by simp))
            exact tellT
        have hDl := dIter_len w hwk w.ss.length
        have hnok := nearF_ok w (fun _ => true)
        have ret : ∀ v : Int, kindN t g p = v → ∀ (sl : Slots) (L : Store), lk sl 6 = .int .i64 v → lk sl 7 = .int .i64 0 → bodyK [.tmp 6, .tmp 7] σ.length 271 (isR (KindR t g p) σ) .ret sl (σ ++ L) := fun v hv sl L h6 h7 => by
          refine ret_gh2 (v := .int .i64 v) (x := .int .i64 0) (σ' := σ) (Ghost.keep _ (Nat.le_refl _) ⟨⟨by rw [h6]; exact .refl _, .int _ _⟩, ⟨by rw [h7]; exact .refl _, .int _ _⟩, trivial⟩ hσ) rfl (Nat.le_refl _) hσ (.int _ _) (.int _ _) ⟨by rw [hKR, hv], rfl⟩
        clear hE hR hK
        generalize shutB t p w.ss = sb at hkn
        generalize hwb : weakB t w.ss = wb at hkn
        cases sb
        · cases wb
          · simp only [go_sem, simprocAttr]
            exact ret 0 hkn _ _ rfl rfl
          · simp only [go_sem, simprocAttr]
            exact ret 1 hkn _ _ rfl rfl
        · simp only [go_sem, simprocAttr]
          refine (dist_spec w (σ.length + 3) _ (by simp) hwk).is ?_
          unfold kindOf at hkn
          generalize dIter w w.ss.length = far at hDl hkn
          simp only [go_sem, simprocAttr]
          refine (contI_spec far (-1) .fresh _ (by omega)).is ?_
          cases hcn : far.contains (-1)
          · rw [hcn] at hkn
            simp only [go_sem, simprocAttr]
            exact ret 3 hkn _ _ rfl rfl
          · rw [hcn] at hkn
            simp only [if_true] at hkn
            simp only [go_sem, simprocAttr, encWorld, aMkslice]
            refine ⟨Int.le_refl _, by omega, by omega, ?_⟩
            rw [rep_ab]
            have h5S : ∀ F : List Bool, IdsS (σ ++ [AObj.row (encTask t), .map (p.map ofE), .map (encW w.ss), .row (encWorld w), .row (F.map ab)]).length (σ ++ [AObj.row (encTask t), .map (p.map ofE), .map (encW w.ss), .row (encWorld w), .row (F.map ab)]) := fun F => h4S [.row (F.map ab)] (by intro o ho n; rw [List.mem_singleton] at ho; subst ho; exact ids_ab _)
            refine Gh.of (s' := [(14, .ptr (σ.length + 3) 0), (16, .bool wb), (26, .ref (σ.length + 4) 1 0 w.ss.length)]) (σ' := σ ++ [AObj.row (encTask t), .map (p.map ofE), .map (encW w.ss), .row (encWorld w), .row ((lst w.ss.length fun _ => false).map ab)]) (ghL0 (h5S _)) ?_
            simp only [go_sem, simprocAttr]
            refine wpc_while (fun (i : Nat) => [(14, .ptr (σ.length + 3) 0), (16, .bool wb), (26, .ref (σ.length + 4) 1 0 w.ss.length), (238, .int .i64 w.ss.length), (239, .int .i64 (i : Nat))])
              (fun i => σ ++ [AObj.row (encTask t), .map (p.map ofE), .map (encW w.ss), .row (encWorld w), .row ((lst w.ss.length (split (fun _ => true) (fun _ => false) i)).map ab)]) (fun i => i ≤ w.ss.length) (fun i => w.ss.length - i) 0 (Nat.zero_le _) ?_ ?_
            · rw [lst_zero]; exact ghL0 (h5S _)
            intro i hi K hK hE hR
            by_cases h : i < w.ss.length
            · have hlt : ((i : Int) < (w.ss.length : Int)) := by omega
              have hw1 : IntKind.i64.wrap ((i : Int) + 1) = ((i + 1 : Nat) : Int) := by rw [wrap_ok (by omega)]; omega
              have s1 := lst_set (N := w.ss.length) (fun _ => true) (fun _ => false) h
              have l1 : (lst w.ss.length (split (fun _ => true) (fun _ => false) i)).length = w.ss.length := lst_len _ _
              generalize lst w.ss.length (split (fun _ => true) (fun _ => false) i) = F1 at s1 l1
              have q1 : i + 1 ≤ F1.length := by omega
              simp only [go_sem, simprocAttr, hlt, h, q1, set_ab16, s1]
              refine hK _ _ (i + 1) (by omega) (by omega) ?_
              rw [hw1]
              exact ghL0 (h5S _)
            have hlt : ¬ ((i : Int) < (w.ss.length : Int)) := by omega
            rw [lst_full _ _ (by omega)]
            simp only [go_sem, simprocAttr, hlt, hE]
            refine (near_spec w (fun _ => true) (σ.length + 3) (σ.length + 4) _ (by simp) (by simp) hwk).is ?_
            simp only [go_sem, simprocAttr]
            clear hK hE hR hi h hlt
            refine wpc_while (fun (i : Nat) => [(14, .ptr (σ.length + 3) 0), (16, .bool wb), (28, .slice .fresh ((lst w.ss.length (nearF w fun _ => true)).map Ahl.encI)), (250, .int .i64 w.ss.length), (251, .int .i64 (i : Nat))])
              (fun i => σ ++ [AObj.row (encTask t), .map (p.map ofE), .map (encW w.ss), .row (encWorld w)]) (fun i => i ≤ w.ss.length ∧ ∀ j, j < i → (!goalB w j && decide (nearF w (fun _ => true) j < 0)) = false) (fun i => w.ss.length - i) 0 ⟨Nat.zero_le _, fun j hj => absurd hj (by omega)⟩ ?_ ?_
            · refine Ghost.keepL (g := [AObj.row ((lst w.ss.length fun _ => true).map ab)]) (k := 4) [AObj.row (encTask t), .map (p.map ofE), .map (encW w.ss), .row (encWorld w)] rfl (Nat.le_refl _) ?_ (h4S [] (by simp))
              exact tellT
            rintro i ⟨hi, hno⟩ K hK hE hR
            by_cases h : i < w.ss.length
            · obtain ⟨b, hb⟩ := get_ex (show i < w.gl.length by omega)
              have hgb : goalB w i = b := by unfold goalB; rw [List.getD_eq_getElem?_getD, hb]; rfl
              have hlt : ((i : Int) < (w.ss.length : Int)) := by omega
              have hw1 : IntKind.i64.wrap ((i : Int) + 1) = ((i + 1 : Nat) : Int) := by rw [wrap_ok (by omega)]; omega
              have hn := lst_get (nearF w fun _ => true) h
              have next : (!goalB w i && decide (nearF w (fun _ => true) i < 0)) = false → ∀ j, j < i + 1 → (!goalB w j && decide (nearF w (fun _ => true) j < 0)) = false := fun q j hj => by
                rcases Nat.lt_or_ge j i with r | r
                · exact hno j r
                · have : j = i := by omega
                  subst this; exact q
              have bad : (!goalB w i && decide (nearF w (fun _ => true) i < 0)) = true → badB w = true := fun q => by
                unfold badB; exact List.any_eq_true.2 ⟨i, List.mem_range.2 h, q⟩
              rw [hgb] at next bad
              cases b
              · generalize nearF w (fun _ => true) i = v at hn next bad
                by_cases hv : v < 0
                · rw [bad (by rw [decide_eq_true hv]; rfl)] at hkn
                  simp only [if_true] at hkn
                  cases wb
                  · simp only [go_sem, simprocAttr, hlt, encWorld, hb, encB, hn, Ahl.encI, hv, hR]
                    exact ret 0 hkn _ _ rfl rfl
                  · simp only [go_sem, simprocAttr, hlt, encWorld, hb, encB, hn, Ahl.encI, hv, hR]
                    exact ret 1 hkn _ _ rfl rfl
                · simp only [go_sem, simprocAttr, hlt, encWorld, hb, encB, hn, Ahl.encI, hv]
                  refine hK _ _ (i + 1) ⟨by omega, next (by rw [decide_eq_false hv]; rfl)⟩ (by omega) ?_
                  rw [hw1]
                  exact ghL0 (h4S [] (by simp))
              · simp only [go_sem, simprocAttr, hlt, encWorld, hb, encB]
                refine hK _ _ (i + 1) ⟨by omega, next rfl⟩ (by omega) ?_
                rw [hw1]
                exact ghL0 (h4S [] (by simp))
            · have hlt : ¬ ((i : Int) < (w.ss.length : Int)) := by omega
              have hbd : badB w = false := by
                unfold badB
                rw [Bool.eq_false_iff]; intro q
                obtain ⟨j, hj, hq⟩ := List.any_eq_true.1 q
                rw [hno j (by have := List.mem_range.1 hj; omega)] at hq; simp at hq
              rw [hbd] at hkn
              simp only [go_sem, simprocAttr, hlt, hE]
              exact ret 2 hkn _ _ rfl rfl
end Go.Proofs.YtjmmldkailblmaaGreat
namespace Go.Proofs.YtjmmldkailblmaaGreat
open Go.Ahl
def lenS (g : List (List Int)) : Nat := (g.map List.length).sum
def few16B (t : FTask) (g : List (List Int)) : Bool := decide (g.length + lenS g ≤ 300) && (fewT 300 t && (decide (t.facts.length ≤ 7) || !(validB t)))
theorem lenS_take {g : List (List Int)} {i : Nat} {l : List Int} (h : g[i]? = some l) : lenS (g.take (i + 1)) = lenS (g.take i) + l.length := by
  unfold lenS; rw [take_succ' h, List.map_append, List.sum_append]; simp
theorem lenS_le (g : List (List Int)) (i : Nat) : lenS (g.take i) ≤ lenS g := by
  have : lenS g = lenS (g.take i) + lenS (g.drop i) := by
    unfold lenS; rw [← List.sum_append, ← List.map_append, List.take_append_drop]
  omega
def c_few16 : CCode := .seq (.ops [⟨some 2, .box (.tmp 0), none, []⟩, ⟨some 4, .move (.lit (.bool false)), none, []⟩]) (.seq (.ops [⟨some 7, .move (.tmp 1), none, []⟩, ⟨some 8, .blen 1 (.tmp 7), none, []⟩, ⟨some 5, .move (.tmp 8), none, []⟩]) (.seq (.seq (.ops [⟨some 6, .move (.lit (.int .i64 0)), none, []⟩]) (.block 0 (.loop (.seq (.seq (.ops [⟨some 9, .move (.tmp 6), none, []⟩, ⟨some 10, .move (.tmp 1), none, []⟩, ⟨some 11, .blen 1 (.tmp 10), none, []⟩, ⟨some 12, .bin .lss .none (.tmp 9) (.tmp 11), none, []⟩, ⟨some 13, .move (.tmp 12), none, []⟩, ⟨some 14, .move (.tmp 5), some (some 13, true), []⟩, ⟨some 15, .bin .leq .none (.tmp 14) (.lit (.int .i64 300)), some (some 13, true), []⟩, ⟨some 16, .pick (.tmp 13) (.tmp 15) (.lit (.bool false)), none, []⟩]) (.cond (.tmp 16) .skip (.exit 0))) (.seq (.block 1 (.ops [⟨some 19, .move (.tmp 5), none, []⟩, ⟨some 20, .move (.tmp 1), none, []⟩, ⟨some 21, .move (.tmp 6), none, []⟩, ⟨some 22, .iaddr 1 (.tmp 20) (.tmp 21), none, []⟩, ⟨some 23, .load none (.tmp 22), none, []⟩, ⟨some 24, .blen 1 (.tmp 23), none, []⟩, ⟨some 25, .bin .add .none (.tmp 19) (.tmp 24), none, []⟩, ⟨some 5, .move (.tmp 25), none, []⟩])) (.ops [⟨some 17, .move (.tmp 6), none, []⟩, ⟨some 18, .bin .add .none (.tmp 17) (.lit (.int .i64 1)), none, []⟩, ⟨some 6, .move (.tmp 18), none, []⟩])))))) (.seq (.ops [⟨some 26, .move (.tmp 5), none, []⟩, ⟨some 27, .bin .leq .none (.tmp 26) (.lit (.int .i64 300)), none, []⟩, ⟨some 28, .move (.tmp 27), none, []⟩, ⟨some 29, .load (some 4) (.tmp 2), some (some 28, true), []⟩, ⟨some 30, .call (.lit (.func 35 [])) [.tmp 29, .lit (.int .i64 300)], some (some 28, true), []⟩, ⟨some 31, .pick (.tmp 28) (.tmp 30) (.lit (.bool false)), none, []⟩, ⟨some 32, .move (.tmp 31), none, []⟩, ⟨some 33, .faddr 0 (.tmp 2), some (some 32, true), []⟩, ⟨some 34, .load none (.tmp 33), some (some 32, true), []⟩, ⟨some 35, .blen 1 (.tmp 34), some (some 32, true), []⟩, ⟨some 36, .bin .leq .none (.tmp 35) (.lit (.int .i64 7)), some (some 32, true), []⟩, ⟨some 37, .move (.tmp 36), some (some 32, true), []⟩, ⟨some 38, .load (some 4) (.tmp 2), some (some 37, false), []⟩, ⟨some 39, .call (.lit (.func 12 [])) [.tmp 38], some (some 37, false), []⟩, ⟨some 40, .un .not (.tmp 39), some (some 37, false), []⟩, ⟨some 41, .pick (.tmp 37) (.lit (.bool true)) (.tmp 40), some (some 32, true), []⟩, ⟨some 42, .pick (.tmp 32) (.tmp 41) (.lit (.bool false)), none, []⟩, ⟨some 4, .move (.tmp 42), none, []⟩]) .ret)))
set_option maxRecDepth 20000 in
theorem few16_spec (t : FTask) (g : List (List Int)) (tok : Tok) (σ : Store) (ht : TB t) (hg : g.length ≤ 140737488355328 ∧ ∀ l ∈ g, l.length ≤ 140737488355328) :
    ACalls Tryz.prog 8 [.agg (encTask t), .slice tok (g.map encL)] σ (isR (.bool (few16B t g)) σ) := by
  refine ACalls.intro (rs := [(.tmp 4)]) (by kernel_rfl) { own := [], ghosts := [] } Tryz.func8 (c := Tryz.f8.body.getD .skip) (by kernel_rfl) (by decide) (by rw [show Tryz.f8.ntmps = 43 by kernel_rfl]; exact Nat.le_of_ble_eq_true rfl) (by kernel_rfl) ?_
  intro hσ hids
  rw [show comp Tryz.prog { own := [], ghosts := [] } (Tryz.f8.body.getD .skip) = c_few16 by kernel_rfl, show Tryz.f8.ntmps = 43 by kernel_rfl]
  unfold c_few16
  have hil : Ids σ.length (.slice tok (g.map encL)) := hids _ (by simp)
  have hσ1 := ids_grow hσ (ids_encTask t)
  have hg1 := hg.1
  simp only [go_sem, simprocAttr]
  refine wpc_while (fun (i : Nat) => [(1, .slice tok (g.map encL)), (2, .ptr σ.length 0), (5, .int .i64 ((g.length + lenS (g.take i) : Nat) : Int)), (6, .int .i64 (i : Nat))]) (fun _ => σ ++ [.row (encTask t)]) (fun i => i ≤ g.length ∧ g.length + lenS (g.take i) ≤ 300 + 140737488355328) (fun i => g.length - i) 0 ⟨Nat.zero_le _, by simp [lenS]; omega⟩ ?_ ?_
  · exact ghL0 hσ1
  rintro i ⟨hi, hsz⟩ K hK hE hR
  have fin : ∀ v : Bool, few16B t g = v → ∀ sl, lk sl 4 = .bool v → bodyK [.tmp 4] σ.length 43 (isR (.bool (few16B t g)) σ) .ret sl (σ ++ [.row (encTask t)]) := fun v hv sl h4 => by
    refine ret_gh (v := .bool v) (σ' := σ) (Ghost.keep _ (Nat.le_refl _) ⟨⟨by rw [h4]; exact .refl _, .bool _⟩, trivial⟩ hσ) (Nat.le_refl _) hσ (.bool _) ⟨by rw [hv], rfl⟩
  have done : (i = g.length ∨ 300 < g.length + lenS (g.take i)) → ∀ sl, K (.exit 0) sl (σ ++ [.row (encTask t)]) ∨ True := fun _ _ => .inr trivial
  by_cases h : i < g.length
  · obtain ⟨l, hx⟩ := get_ex h
    have hll := hg.2 l (List.mem_of_getElem? hx)
    have hlt : ((i : Int) < (g.length : Int)) := by omega
    have hw1 : IntKind.i64.wrap ((i : Int) + 1) = ((i + 1 : Nat) : Int) := by rw [wrap_ok (by omega)]; omega
    by_cases h2 : ((g.length + lenS (g.take i) : Nat) : Int) ≤ 300
    · have hw2 : IntKind.i64.wrap (((g.length + lenS (g.take i) : Nat) : Int) + (l.length : Int)) = ((g.length + lenS (g.take (i + 1)) : Nat) : Int) := by rw [wrap_ok (by omega), lenS_take hx]; omega
      simp only [go_sem, simprocAttr, hlt, h2, hx, encL]
      refine hK _ _ (i + 1) ⟨by omega, by rw [lenS_take hx]; omega⟩ (by omega) ?_
      rw [hw1, hw2]
      exact ghL0 hσ1
    · have hf : few16B t g = false := by
        have := lenS_le g i
        unfold few16B; rw [decide_eq_false (by omega)]; rfl
      simp only [go_sem, simprocAttr, hlt, h2, hE]
      exact fin false hf _ rfl
  · have hlt : ¬ ((i : Int) < (g.length : Int)) := by omega
    have htk : g.take i = g := List.take_of_length_le (by omega)
    rw [htk] at hsz ⊢
    by_cases h2 : ((g.length + lenS g : Nat) : Int) ≤ 300
    · have hd : decide (g.length + lenS g ≤ 300) = true := decide_eq_true (by omega)
      simp only [go_sem, simprocAttr, hlt, h2, hE, encTask]
      refine (few01_spec t 300 _ ht (by omega)).is ?_
      cases h3 : fewT 300 t
      · simp only [go_sem, simprocAttr]
        exact fin false (by unfold few16B; rw [hd, h3]; rfl) _ rfl
      by_cases h4 : (t.facts.length : Int) ≤ 7
      · simp only [go_sem, simprocAttr, h4]
        exact fin true (by unfold few16B; rw [hd, h3, decide_eq_true (by omega : t.facts.length ≤ 7)]; rfl) _ rfl
      · simp only [go_sem, simprocAttr, h4]
        refine (is01_spec t _ ht).is ?_
        simp only [go_sem, simprocAttr]
        exact fin _ (by unfold few16B; rw [hd, h3, decide_eq_false (by omega : ¬ t.facts.length ≤ 7)]; rfl) _ rfl
    · have hf : few16B t g = false := by unfold few16B; rw [decide_eq_false (by omega)]; rfl
      simp only [go_sem, simprocAttr, hlt, h2, hE]
      exact fin false hf _ rfl
def c_fault16 : CCode := .seq (.ops [⟨some 3, .box (.tmp 0), none, []⟩, ⟨some 6, .move (.lit (.int .i64 0)), none, []⟩]) (.seq (.block 0 (.seq (.ops [⟨some 8, .load (some 4) (.tmp 3), none, []⟩, ⟨some 9, .call (.lit (.func 12 [])) [.tmp 8], none, []⟩, ⟨some 10, .un .not (.tmp 9), none, []⟩, ⟨some 7, .move (.tmp 10), none, []⟩]) (.cond (.tmp 7) (.seq (.ops [⟨some 6, .move (.lit (.int .i64 10)), none, []⟩]) .ret) (.seq (.ops [⟨some 12, .load (some 4) (.tmp 3), none, []⟩, ⟨some 13, .move (.tmp 2), none, []⟩, ⟨some 14, .call (.lit (.func 49 [])) [.tmp 12, .tmp 13], none, []⟩, ⟨some 15, .un .not (.tmp 14), none, []⟩, ⟨some 11, .move (.tmp 15), none, []⟩]) (.cond (.tmp 11) (.seq (.ops [⟨some 6, .move (.lit (.int .i64 20)), none, []⟩]) .ret) (.seq (.ops [⟨some 17, .load (some 4) (.tmp 3), none, []⟩, ⟨some 18, .move (.tmp 1), none, []⟩, ⟨some 19, .call (.lit (.func 50 [])) [.tmp 17, .tmp 18], none, []⟩, ⟨some 20, .un .not (.tmp 19), none, []⟩, ⟨some 16, .move (.tmp 20), none, []⟩]) (.cond (.tmp 16) (.seq (.ops [⟨some 6, .move (.lit (.int .i64 160)), none, []⟩]) .ret) .skip))))))) (.seq (.ops [⟨some 6, .move (.lit (.int .i64 0)), none, []⟩]) .ret))
set_option maxRecDepth 20000 in
theorem fault16_spec (t : FTask) (g : List (List Int)) (s : List Int) (tok tok' : Tok) (σ : Store) (ht : TB t) (hg : LB g) (hs : s.length ≤ 140737488355328) :
    ACalls Tryz.prog 13 [.agg (encTask t), .slice tok (g.map encL), .slice tok' (s.map Ahl.encI)] σ (isR (.int .i64 (givE t g s)) σ) := by
  refine ACalls.intro (rs := [(.tmp 6)]) (by kernel_rfl) { own := [], ghosts := [] } Tryz.func13 (c := Tryz.f13.body.getD .skip) (by kernel_rfl) (by decide) (by rw [show Tryz.f13.ntmps = 21 by kernel_rfl]; exact Nat.le_of_ble_eq_true rfl) (by kernel_rfl) ?_
  intro hσ hids
  rw [show comp Tryz.prog { own := [], ghosts := [] } (Tryz.f13.body.getD .skip) = c_fault16 by kernel_rfl, show Tryz.f13.ntmps = 21 by kernel_rfl]
  unfold c_fault16
  have hil : Ids σ.length (.slice tok (g.map encL)) := hids _ (by simp)
  have his : Ids σ.length (.slice tok' (s.map Ahl.encI)) := hids _ (by simp)
  simp only [go_sem, simprocAttr, encTask]
  refine (is01_spec t _ ht).is ?_
  cases h1 : validB t
  · simp only [go_sem, simprocAttr]
    first | exact rtk (.int .i64 10) ⟨by unfold givE stE; rw [h1]; rfl, rfl⟩ | exact rtk0 (.int .i64 10) ⟨by unfold givE stE; rw [h1]; rfl, rfl⟩
  simp only [go_sem, simprocAttr, encTask]
  refine (state02_spec t s tok' _ hs).is ?_
  cases h2 : risingB t.facts.length (-1) s
  · simp only [go_sem, simprocAttr]
    first | exact rtk (.int .i64 20) ⟨by unfold givE stE; rw [h1, h2]; rfl, rfl⟩ | exact rtk0 (.int .i64 20) ⟨by unfold givE stE; rw [h1, h2]; rfl, rfl⟩
  simp only [go_sem, simprocAttr, encTask]
  refine (is16_spec t g tok _ ht hg).is ?_
  cases h3 : choicesB t g
  · simp only [go_sem, simprocAttr]
    first | exact rtk (.int .i64 160) ⟨by unfold givE stE; rw [h1, h2, h3]; rfl, rfl⟩ | exact rtk0 (.int .i64 160) ⟨by unfold givE stE; rw [h1, h2, h3]; rfl, rfl⟩
  · simp only [go_sem, simprocAttr]
    first | exact rtk (.int .i64 0) ⟨by unfold givE stE; rw [h1, h2, h3]; rfl, rfl⟩ | exact rtk0 (.int .i64 0) ⟨by unfold givE stE; rw [h1, h2, h3]; rfl, rfl⟩
def d_same16_0 : List COp := [⟨some 16, .move (.tmp 0), none, []⟩, ⟨some 17, .move (.tmp 5), none, []⟩, ⟨some 18, .iaddr 1 (.tmp 16) (.tmp 17), none, [0, 1]⟩, ⟨some 19, .load none (.tmp 18), none, [2]⟩, ⟨some 20, .move (.tmp 1), none, []⟩, ⟨some 21, .move (.tmp 5), none, []⟩, ⟨some 22, .iaddr 1 (.tmp 20) (.tmp 21), none, [4, 5]⟩, ⟨some 23, .load none (.tmp 22), none, [6]⟩, ⟨some 24, .call (.lit (.func 23 [])) [.tmp 19, .tmp 23], none, [3, 7]⟩, ⟨some 25, .un .not (.tmp 24), none, [8]⟩]
theorem dr_same16_0 (P : Program) (nt n0 : Nat) (Q : Post) (s : Slots) (σ : Store) : wpc P nt n0 (.draw d_same16_0) Q s σ = aOpsD P nt [⟨some 16, .move (.tmp 0), none, []⟩, ⟨some 17, .move (.tmp 5), none, []⟩, ⟨some 18, .iaddr 1 (.tmp 16) (.tmp 17), none, [0, 1]⟩, ⟨some 19, .load none (.tmp 18), none, [2]⟩, ⟨some 20, .move (.tmp 1), none, []⟩, ⟨some 21, .move (.tmp 5), none, []⟩, ⟨some 22, .iaddr 1 (.tmp 20) (.tmp 21), none, [4, 5]⟩, ⟨some 23, .load none (.tmp 22), none, [6]⟩, ⟨some 24, .call (.lit (.func 23 [])) [.tmp 19, .tmp 23], none, [3, 7]⟩, ⟨some 25, .un .not (.tmp 24), none, [8]⟩] (Q .normal) s σ := wpc_draw _ (by decide)
attribute [local go_sem] dr_same16_0
def c_same16 : CCode := .seq (.ops [⟨some 4, .move (.lit (.bool false)), none, []⟩]) (.seq (.seq (.ops [⟨some 6, .move (.tmp 0), none, []⟩, ⟨some 7, .blen 1 (.tmp 6), none, []⟩, ⟨some 8, .move (.tmp 1), none, []⟩, ⟨some 9, .blen 1 (.tmp 8), none, []⟩, ⟨some 10, .bin .neq .none (.tmp 7) (.tmp 9), none, []⟩]) (.cond (.tmp 10) (.seq (.ops [⟨some 4, .move (.lit (.bool false)), none, []⟩]) .ret) .skip)) (.seq (.seq (.ops [⟨some 11, .move (.tmp 0), none, []⟩, ⟨some 12, .blen 1 (.tmp 11), none, []⟩, ⟨some 13, .move (.lit (.int .i64 0)), none, []⟩]) (.block 0 (.loop (.seq (.ops [⟨some 14, .bin .lss .none (.tmp 13) (.tmp 12), none, []⟩]) (.seq (.cond (.tmp 14) .skip (.exit 0)) (.seq (.block 1 (.seq (.ops [⟨some 15, .move (.tmp 13), none, []⟩, ⟨some 5, .move (.tmp 15), none, []⟩]) (.seq (.draw d_same16_0) (.cond (.tmp 25) (.seq (.ops [⟨some 4, .move (.lit (.bool false)), none, []⟩]) .ret) .skip)))) (.ops [⟨some 26, .bin .add .none (.tmp 13) (.lit (.int .i64 1)), none, []⟩, ⟨some 13, .move (.tmp 26), none, []⟩]))))))) (.seq (.ops [⟨some 4, .move (.lit (.bool true)), none, []⟩]) .ret)))
set_option maxRecDepth 20000 in
theorem same16_spec (a b : List (List Int)) (tok tok' : Tok) (σ : Store) (ha : LB a) (hb : LB b) :
    ACalls Tryz.prog 22 [.slice tok (a.map encL), .slice tok' (b.map encL)] σ (isR (.bool (decide (a = b))) σ) := by
  refine ACalls.intro (rs := [(.tmp 4)]) (by kernel_rfl) { own := [], ghosts := [] } Tryz.func22 (c := Tryz.f22.body.getD .skip) (by kernel_rfl) (by decide) (by rw [show Tryz.f22.ntmps = 27 by kernel_rfl]; exact Nat.le_of_ble_eq_true rfl) (by kernel_rfl) ?_
  intro hσ hids
  rw [show comp Tryz.prog { own := [], ghosts := [] } (Tryz.f22.body.getD .skip) = c_same16 by kernel_rfl, show Tryz.f22.ntmps = 27 by kernel_rfl]
  unfold c_same16
  have hia : Ids σ.length (.slice tok (a.map encL)) := hids _ (by simp)
  have hib : Ids σ.length (.slice tok' (b.map encL)) := hids _ (by simp)
  have ha1 := ha.1
  have hb1 := hb.1
  by_cases hl : a.length = b.length
  · have hn : ((a.length : Int) != (b.length : Int)) = false := by simp [hl]
    simp only [go_sem, simprocAttr, hn]
    refine wpc_while (fun (i : Nat) => [(0, .slice tok (a.map encL)), (1, .slice tok' (b.map encL)), (12, .int .i64 a.length), (13, .int .i64 (i : Nat))]) (fun _ => σ) (fun i => i ≤ a.length ∧ a.take i = b.take i) (fun i => a.length - i) 0 ⟨Nat.zero_le _, rfl⟩ (by (try dsimp only); first | exact ghk | exact ghk0) ?_
    rintro i ⟨hi, hv⟩ K hK hE hR
    by_cases h : i < a.length
    · obtain ⟨x, hx⟩ := get_ex h; have hlt : ((i : Int) < (a.length : Int)) := (by omega); have hw : IntKind.i64.wrap ((i : Int) + 1) = ((i + 1 : Nat) : Int) := (by rw [wrap_ok (by omega)]; omega)
      obtain ⟨y, hy⟩ := get_ex (show i < b.length by omega)
      simp only [go_sem, simprocAttr, hlt, hx, hy, encL]
      refine ⟨_, sameInts_spec x y .unk .unk _ (by have := ha.2 x (List.mem_of_getElem? hx); omega) (by have := hb.2 y (List.mem_of_getElem? hy); omega), ?_⟩
      by_cases e : x = y
      · rw [decide_eq_true e]
        simp only [go_sem, simprocAttr]
        refine hK _ _ (i + 1) (⟨by omega, by rw [take_succ' hx, take_succ' hy, hv, e]⟩) (by first | omega | (simp only []; omega) | (simp; omega)) ?_; (try dsimp only); (try simp only [ hw]); first | exact ghk | exact ghk0
      · rw [decide_eq_false e]
        simp only [go_sem, simprocAttr, hR]
        first | exact rtk (.bool false) ⟨by rw [decide_eq_false (fun q => e (by rw [q, hy] at hx; injection hx with hx; exact hx.symm))], rfl⟩ | exact rtk0 (.bool false) ⟨by rw [decide_eq_false (fun q => e (by rw [q, hy] at hx; injection hx with hx; exact hx.symm))], rfl⟩
    · have hlt : ¬ ((i : Int) < (a.length : Int)) := by omega
      rw [List.take_of_length_le (by omega), List.take_of_length_le (by omega)] at hv
      simp only [go_sem, simprocAttr, hlt, hE]
      first | exact rtk (.bool true) ⟨by rw [decide_eq_true hv], rfl⟩ | exact rtk0 (.bool true) ⟨by rw [decide_eq_true hv], rfl⟩
  · have hn : ((a.length : Int) != (b.length : Int)) = true := by simp; omega
    simp only [go_sem, simprocAttr, hn]
    first | exact rtk (.bool false) ⟨by rw [decide_eq_false (fun q => hl (by rw [q]))], rfl⟩ | exact rtk0 (.bool false) ⟨by rw [decide_eq_false (fun q => hl (by rw [q]))], rfl⟩
end Go.Proofs.YtjmmldkailblmaaGreat
namespace Go.Proofs.YtjmmldkailblmaaGreat
open Go.Ahl
def t16 : FTask := ⟨[bys [97], bys [98]], [0], [⟨1, false⟩], [⟨bys [120], 0, [⟨0, false⟩], [⟨[], ⟨1, false⟩⟩, ⟨[], ⟨0, true⟩⟩]⟩, ⟨bys [121], 0, [⟨0, false⟩], []⟩]⟩
theorem t16_PB : PB t16 := ⟨⟨by decide, by decide, by decide, by decide, by decide, by decide, by decide, by decide, by decide⟩, by decide⟩
theorem t16_d1 : DistR t16 [[0, 1]] [0] = .tuple [.int .i64 0, .int .i64 4] := by kernel_rfl
theorem t16_d2 : DistR t16 [[0]] [0] = .tuple [.int .i64 1, .int .i64 0] := by kernel_rfl
theorem t16_k : KindR t16 [[0, 1]] [([0], 0)] = .tuple [.int .i64 2, .int .i64 0] := by kernel_rfl
theorem t16_a : askE t16 [[1, 0]] = 160 := by kernel_rfl
theorem t16_a1 : askE t16 [[0, 1]] = 0 := by kernel_rfl
theorem t16_a2 : askE t16 [[0]] = 0 := by kernel_rfl
theorem t16_n : (wldF t16 [[0, 1]] t16.init).ss.length = 2 := by kernel_rfl
theorem t16_c1 : cIter (wldF t16 [[0, 1]] t16.init) 1 0 = true := by kernel_rfl
theorem t16_c2 : cIter (wldF t16 [[0, 1]] t16.init) 2 0 = true := by kernel_rfl
theorem t16_c3 : cIter (wldF t16 [[0, 1]] t16.init) 3 0 = true := by kernel_rfl
def e16 (k : Nat) : List FEnt := outE (wldF t16 [[0, 1]] t16.init) (lst (wldF t16 [[0, 1]] t16.init).ss.length (nearF (wldF t16 [[0, 1]] t16.init) (cIter (wldF t16 [[0, 1]] t16.init) k))) (bfs (wldF t16 [[0, 1]] t16.init) (lst (wldF t16 [[0, 1]] t16.init).ss.length (nearF (wldF t16 [[0, 1]] t16.init) (cIter (wldF t16 [[0, 1]] t16.init) k))) (wldF t16 [[0, 1]] t16.init).ss.length)
theorem t16_e0 : e16 0 = [([0], 0)] := by kernel_rfl
theorem t16_e1 : e16 1 = [([0], 0)] := by kernel_rfl
theorem t16_e2 : e16 2 = [([0], 0)] := by kernel_rfl
theorem t16_e (k : Nat) (h : k ≤ 2) : e16 k = [([0], 0)] := by
  obtain rfl | rfl | rfl : k = 0 ∨ k = 1 ∨ k = 2 := by omega
  · exact t16_e0
  · exact t16_e1
  · exact t16_e2
def s16 : List FEnt := outE (wldF t16 [[0]] t16.init) (strongC (wldF t16 [[0]] t16.init)) (bfs (wldF t16 [[0]] t16.init) (strongC (wldF t16 [[0]] t16.init)) (wldF t16 [[0]] t16.init).ss.length)
theorem t16_s : s16 = [([0], 0)] := by kernel_rfl
theorem t16_o1 : dOf (wldF t16 [[0]] t16.init) = 1 := by kernel_rfl
theorem t16_o : ¬ dOf (wldF t16 [[0]] t16.init) < 0 := by rw [t16_o1]; decide
theorem t16_cyc {r : AV} (h : CycP t16 [[0, 1]] r) : r = .tuple [.slice .fresh [vE ([0], 0)], .int .i64 0] := by
  unfold CycP at h
  rw [if_pos t16_a1] at h
  rcases h with ⟨k, hk, hc, _⟩ | ⟨k, hk, _, _, r0, ⟨E, hE, _, hr⟩, h⟩
  · have hk : k ≤ 2 := by rw [t16_n] at hk; exact hk
    obtain rfl | rfl | rfl : k = 0 ∨ k = 1 ∨ k = 2 := by omega
    · rw [t16_c1] at hc; simp at hc
    · rw [t16_c2] at hc; simp at hc
    · rw [t16_c3] at hc; simp at hc
  · have hk : k ≤ 2 := by rw [t16_n] at hk; exact hk
    have hE : E.Perm (e16 k) := hE
    rw [t16_e k hk] at hE
    rw [List.perm_singleton] at hE
    subst hE
    rw [h, hr]; rfl
theorem t16_str {r : AV} (h : StrongP t16 [[0]] r) : r = .tuple [.slice .fresh [vE ([0], 0)], .int .i64 0] := by
  unfold StrongP at h
  rw [if_pos t16_a2, if_neg t16_o] at h
  obtain ⟨r0, ⟨E, hE, _, hr⟩, h⟩ := h
  have hE : E.Perm s16 := hE
  rw [t16_s] at hE
  rw [List.perm_singleton] at hE
  subst hE
  rw [h, hr]; rfl
theorem LB_small {g : List (List Int)} (h : g.length ≤ 1000 ∧ ∀ l ∈ g, l.length ≤ 1000) : LB g := ⟨by have := h.1; omega, fun l hl => by have := h.2 l hl; omega⟩
def c_awake16 : CCode := .seq (.ops [⟨some 0, .move (.lit (.bool false)), none, []⟩]) (.seq (.ops [⟨some 13, .bslice 1 [.lit (.str (bys [97])), .lit (.str (bys [98]))] false, none, []⟩, ⟨some 14, .bslice 1 [.lit (.int .i64 0)] false, none, []⟩, ⟨some 15, .build [.int .i64 0, .bool false] [(0, 1, .lit (.int .i64 1))], none, []⟩, ⟨some 16, .bslice 2 [.tmp 15] false, none, []⟩, ⟨some 17, .build [.int .i64 0, .bool false] [(0, 1, .lit (.int .i64 0))], none, []⟩, ⟨some 18, .bslice 2 [.tmp 17] false, none, []⟩, ⟨some 19, .build [.int .i64 0, .bool false] [(0, 1, .lit (.int .i64 1))], none, []⟩, ⟨some 20, .build [.slice .nil [], .int .i64 0, .bool false] [(1, 2, .tmp 19)], none, []⟩, ⟨some 21, .build [.int .i64 0, .bool false] [(0, 1, .lit (.int .i64 0)), (1, 1, .lit (.bool true))], none, []⟩, ⟨some 22, .build [.slice .nil [], .int .i64 0, .bool false] [(1, 2, .tmp 21)], none, []⟩, ⟨some 23, .bslice 3 [.tmp 20, .tmp 22] false, none, []⟩, ⟨some 24, .build [.str (bys []), .int .i64 0, .slice .nil [], .slice .nil []] [(0, 1, .lit (.str (bys [120]))), (2, 1, .tmp 18), (3, 1, .tmp 23)], none, []⟩, ⟨some 25, .build [.int .i64 0, .bool false] [(0, 1, .lit (.int .i64 0))], none, []⟩, ⟨some 26, .bslice 2 [.tmp 25] false, none, []⟩, ⟨some 27, .build [.str (bys []), .int .i64 0, .slice .nil [], .slice .nil []] [(0, 1, .lit (.str (bys [121]))), (2, 1, .tmp 26)], none, []⟩, ⟨some 28, .bslice 4 [.tmp 24, .tmp 27] false, none, []⟩, ⟨some 29, .build [.slice .nil [], .slice .nil [], .slice .nil [], .slice .nil []] [(0, 1, .tmp 13), (1, 1, .tmp 14), (2, 1, .tmp 16), (3, 1, .tmp 28)], none, []⟩, ⟨some 1, .alloc (.agg [.slice .nil [], .slice .nil [], .slice .nil [], .slice .nil []]), none, []⟩, ⟨none, .store 4 (.tmp 1) (.tmp 29), none, []⟩]) (.seq (.ops [⟨some 30, .bslice 1 [.lit (.int .i64 0), .lit (.int .i64 1)] false, none, []⟩, ⟨some 31, .bslice 1 [.tmp 30] false, none, []⟩, ⟨some 2, .move (.tmp 31), none, []⟩]) (.seq (.ops [⟨some 33, .load (some 4) (.tmp 1), none, []⟩, ⟨some 34, .move (.tmp 2), none, []⟩, ⟨some 35, .faddr 1 (.tmp 1), none, []⟩, ⟨some 36, .load none (.tmp 35), none, []⟩, ⟨some 37, .call (.lit (.func 17 [])) [.tmp 33, .tmp 34, .tmp 36], none, []⟩, ⟨some 32, .move (.tmp 37), none, []⟩, ⟨some 38, .extract (.tmp 32) 0, none, []⟩, ⟨some 39, .extract (.tmp 32) 1, none, []⟩, ⟨some 3, .move (.tmp 38), none, []⟩, ⟨some 4, .move (.tmp 39), none, []⟩]) (.seq (.ops [⟨some 41, .load (some 4) (.tmp 1), none, []⟩, ⟨some 42, .move (.tmp 2), none, []⟩, ⟨some 43, .call (.lit (.func 24 [])) [.tmp 41, .tmp 42], none, []⟩, ⟨some 40, .move (.tmp 43), none, []⟩, ⟨some 44, .extract (.tmp 40) 0, none, []⟩, ⟨some 45, .extract (.tmp 40) 1, none, []⟩, ⟨some 5, .move (.tmp 44), none, []⟩, ⟨some 6, .move (.tmp 45), none, []⟩]) (.seq (.ops [⟨some 47, .load (some 4) (.tmp 1), none, []⟩, ⟨some 48, .move (.tmp 2), none, []⟩, ⟨some 49, .move (.tmp 5), none, []⟩, ⟨some 50, .call (.lit (.func 11 [])) [.tmp 47, .tmp 48, .tmp 49], none, []⟩, ⟨some 46, .move (.tmp 50), none, []⟩, ⟨some 51, .extract (.tmp 46) 0, none, []⟩, ⟨some 52, .extract (.tmp 46) 1, none, []⟩, ⟨some 7, .move (.tmp 51), none, []⟩, ⟨some 8, .move (.tmp 52), none, []⟩]) (.seq (.ops [⟨some 54, .load (some 4) (.tmp 1), none, []⟩, ⟨some 55, .bslice 1 [.lit (.int .i64 0)] false, none, []⟩, ⟨some 56, .bslice 1 [.tmp 55] false, none, []⟩, ⟨some 57, .faddr 1 (.tmp 1), none, []⟩, ⟨some 58, .load none (.tmp 57), none, []⟩, ⟨some 59, .call (.lit (.func 17 [])) [.tmp 54, .tmp 56, .tmp 58], none, []⟩, ⟨some 53, .move (.tmp 59), none, []⟩, ⟨some 60, .extract (.tmp 53) 0, none, []⟩, ⟨some 61, .extract (.tmp 53) 1, none, []⟩, ⟨some 9, .move (.tmp 60), none, []⟩, ⟨some 10, .move (.tmp 61), none, []⟩]) (.seq (.ops [⟨some 63, .load (some 4) (.tmp 1), none, []⟩, ⟨some 64, .bslice 1 [.lit (.int .i64 0)] false, none, []⟩, ⟨some 65, .bslice 1 [.tmp 64] false, none, []⟩, ⟨some 66, .call (.lit (.func 18 [])) [.tmp 63, .tmp 65], none, []⟩, ⟨some 62, .move (.tmp 66), none, []⟩, ⟨some 67, .extract (.tmp 62) 0, none, []⟩, ⟨some 68, .extract (.tmp 62) 1, none, []⟩, ⟨some 11, .move (.tmp 67), none, []⟩, ⟨some 12, .move (.tmp 68), none, []⟩]) (.seq (.ops [⟨some 69, .move (.tmp 4), none, []⟩, ⟨some 70, .bin .eql .none (.tmp 69) (.lit (.int .i64 4)), none, []⟩, ⟨some 71, .move (.tmp 70), none, []⟩, ⟨some 72, .move (.tmp 6), some (some 71, true), []⟩, ⟨some 73, .bin .eql .none (.tmp 72) (.lit (.int .i64 0)), some (some 71, true), []⟩, ⟨some 74, .pick (.tmp 71) (.tmp 73) (.lit (.bool false)), none, []⟩, ⟨some 75, .move (.tmp 74), none, []⟩, ⟨some 76, .move (.tmp 5), some (some 75, true), []⟩, ⟨some 77, .blen 1 (.tmp 76), some (some 75, true), []⟩, ⟨some 78, .bin .eql .none (.tmp 77) (.lit (.int .i64 1)), some (some 75, true), []⟩, ⟨some 79, .pick (.tmp 75) (.tmp 78) (.lit (.bool false)), none, []⟩, ⟨some 80, .move (.tmp 79), none, []⟩, ⟨some 81, .move (.tmp 7), some (some 80, true), []⟩, ⟨some 82, .bin .eql .none (.tmp 81) (.lit (.int .i64 2)), some (some 80, true), []⟩, ⟨some 83, .pick (.tmp 80) (.tmp 82) (.lit (.bool false)), none, []⟩, ⟨some 84, .move (.tmp 83), none, []⟩, ⟨some 85, .move (.tmp 8), some (some 84, true), []⟩, ⟨some 86, .bin .eql .none (.tmp 85) (.lit (.int .i64 0)), some (some 84, true), []⟩, ⟨some 87, .pick (.tmp 84) (.tmp 86) (.lit (.bool false)), none, []⟩, ⟨some 88, .move (.tmp 87), none, []⟩, ⟨some 89, .move (.tmp 9), some (some 88, true), []⟩, ⟨some 90, .bin .eql .none (.tmp 89) (.lit (.int .i64 1)), some (some 88, true), []⟩, ⟨some 91, .pick (.tmp 88) (.tmp 90) (.lit (.bool false)), none, []⟩, ⟨some 92, .move (.tmp 91), none, []⟩, ⟨some 93, .move (.tmp 10), some (some 92, true), []⟩, ⟨some 94, .bin .eql .none (.tmp 93) (.lit (.int .i64 0)), some (some 92, true), []⟩, ⟨some 95, .pick (.tmp 92) (.tmp 94) (.lit (.bool false)), none, []⟩, ⟨some 96, .move (.tmp 95), none, []⟩, ⟨some 97, .move (.tmp 11), some (some 96, true), []⟩, ⟨some 98, .blen 1 (.tmp 97), some (some 96, true), []⟩, ⟨some 99, .bin .eql .none (.tmp 98) (.lit (.int .i64 1)), some (some 96, true), []⟩, ⟨some 100, .pick (.tmp 96) (.tmp 99) (.lit (.bool false)), none, []⟩, ⟨some 101, .move (.tmp 100), none, []⟩, ⟨some 102, .move (.tmp 12), some (some 101, true), []⟩, ⟨some 103, .bin .eql .none (.tmp 102) (.lit (.int .i64 0)), some (some 101, true), []⟩, ⟨some 104, .pick (.tmp 101) (.tmp 103) (.lit (.bool false)), none, []⟩, ⟨some 105, .move (.tmp 104), none, []⟩, ⟨some 106, .load (some 4) (.tmp 1), some (some 105, true), []⟩, ⟨some 107, .bslice 1 [.lit (.int .i64 1), .lit (.int .i64 0)] false, some (some 105, true), []⟩, ⟨some 108, .bslice 1 [.tmp 107] false, some (some 105, true), []⟩, ⟨some 109, .call (.lit (.func 27 [])) [.tmp 106, .tmp 108], some (some 105, true), []⟩, ⟨some 110, .bin .eql .none (.tmp 109) (.lit (.int .i64 160)), some (some 105, true), []⟩, ⟨some 111, .pick (.tmp 105) (.tmp 110) (.lit (.bool false)), none, []⟩, ⟨some 0, .move (.tmp 111), none, []⟩]) .ret))))))))
set_option maxRecDepth 20000 in
set_option maxHeartbeats 2000000 in
theorem awake16_spec (σ : Store) : ACalls Tryz.prog 10 [] σ (isR (.bool true) σ) := by
  refine ACalls.intro (rs := [(.tmp 0)]) (by kernel_rfl) { own := [], ghosts := [] } Tryz.func10 (c := Tryz.f10.body.getD .skip) (by kernel_rfl) (by decide) (by rw [show Tryz.f10.ntmps = 112 by kernel_rfl]; exact Nat.le_of_ble_eq_true rfl) (by kernel_rfl) ?_
  intro hσ hids
  rw [show comp Tryz.prog { own := [], ghosts := [] } (Tryz.f10.body.getD .skip) = c_awake16 by kernel_rfl, show Tryz.f10.ntmps = 112 by kernel_rfl]
  unfold c_awake16
  simp only [go_sem, simprocAttr]
  have e1 := fun σ => pDist_spec t16 [[0, 1]] [0] .unk σ t16_PB (LB_small (by decide)) (by decide) (fun _ => by decide)
  rw [t16_d1] at e1
  refine ACalls.is (ACalls.wk (e1 _) ?_) ?_
  · repeat (first | exact Wk.refl _ | exact WkL.nil | exact WkLL.nil | exact WkL.refl _ | refine Wk.agg ?_ | refine Wk.sl _ ?_ | refine WkL.cons ?_ ?_ | refine WkLL.cons ?_ ?_)
  have e2 := fun tok σ => pCyc_spec t16 [[0, 1]] tok σ t16_PB (LB_small (by decide)) (fun _ => by decide)
  simp only [go_sem, simprocAttr]
  refine ACalls.mono (ACalls.wk (e2 .unk _) ?_) ?_
  · repeat (first | exact Wk.refl _ | exact WkL.nil | exact WkLL.nil | exact WkL.refl _ | refine Wk.agg ?_ | refine Wk.sl _ ?_ | refine WkL.cons ?_ ?_ | refine WkLL.cons ?_ ?_)
  rintro r _ ⟨rfl, hr⟩
  rw [t16_cyc hr]
  simp only [go_sem, simprocAttr]
  have e3 := fun σ => pKind_spec t16 [[0, 1]] [([0], 0)] .unk .unk σ t16_PB (LB_small (by decide)) (fun _ => by decide) (by decide) (by decide)
  rw [t16_k] at e3
  refine ACalls.is (ACalls.wk (e3 _) ?_) ?_
  · repeat (first | exact Wk.refl _ | exact WkL.nil | exact WkLL.nil | exact WkL.refl _ | refine Wk.agg ?_ | refine Wk.sl _ ?_ | refine WkL.cons ?_ ?_ | refine WkLL.cons ?_ ?_)
  simp only [go_sem, simprocAttr]
  have e4 := fun σ => pDist_spec t16 [[0]] [0] .unk σ t16_PB (LB_small (by decide)) (by decide) (fun _ => by decide)
  rw [t16_d2] at e4
  refine ACalls.is (ACalls.wk (e4 _) ?_) ?_
  · repeat (first | exact Wk.refl _ | exact WkL.nil | exact WkLL.nil | exact WkL.refl _ | refine Wk.agg ?_ | refine Wk.sl _ ?_ | refine WkL.cons ?_ ?_ | refine WkLL.cons ?_ ?_)
  simp only [go_sem, simprocAttr]
  have e5 := fun tok σ => pStrong_spec t16 [[0]] tok σ t16_PB (LB_small (by decide)) (fun _ => by decide)
  refine ACalls.mono (ACalls.wk (e5 .unk _) ?_) ?_
  · repeat (first | exact Wk.refl _ | exact WkL.nil | exact WkLL.nil | exact WkL.refl _ | refine Wk.agg ?_ | refine Wk.sl _ ?_ | refine WkL.cons ?_ ?_ | refine WkLL.cons ?_ ?_)
  rintro r _ ⟨rfl, hr⟩
  rw [t16_str hr]
  have e6 := fun σ => pcheck_spec t16 [[1, 0]] .unk σ t16_PB.tb (LB_small (by decide))
  rw [t16_a] at e6
  have h4 : ((4 : Int) == 4) = true := rfl
  have h0 : ((0 : Int) == 0) = true := rfl
  have h1 : (((1 : Nat) : Int) == 1) = true := rfl
  have h11 : ((1 : Int) == 1) = true := rfl
  have h2 : ((2 : Int) == 2) = true := rfl
  simp only [go_sem, simprocAttr, h4, h0, h1, h11, h2]
  refine ACalls.is (ACalls.wk (e6 _) ?_) ?_
  · repeat (first | exact Wk.refl _ | exact WkL.nil | exact WkLL.nil | exact WkL.refl _ | refine Wk.agg ?_ | refine Wk.sl _ ?_ | refine WkL.cons ?_ ?_ | refine WkLL.cons ?_ ?_)
  have h160 : ((160 : Int) == 160) = true := rfl
  simp only [go_sem, simprocAttr, h160]
  first | exact rtk (.bool true) ⟨rfl, rfl⟩ | exact rtk0 (.bool true) ⟨rfl, rfl⟩
theorem few16_facts {t : FTask} {g : List (List Int)} (h : few16B t g = true) : taskSize t ≤ 300 ∧ (g.length ≤ 300 ∧ ∀ l ∈ g, l.length ≤ 300) ∧ (validB t = true → t.facts.length ≤ 7) := by
  unfold few16B fewT at h
  simp only [Bool.and_eq_true, decide_eq_true_eq, Bool.or_eq_true, Bool.not_eq_true'] at h
  obtain ⟨h0, ⟨h1, _⟩, h3⟩ := h
  refine ⟨h1, ⟨by omega, fun l hl => ?_⟩, fun hv => by rcases h3 with h3 | h3; exact h3; rw [hv] at h3; simp at h3⟩
  obtain ⟨i, hi⟩ := List.getElem?_of_mem hl
  have := lenS_take hi
  have := lenS_le g (i + 1)
  omega
theorem few16_LB {g : List (List Int)} (h : g.length ≤ 300 ∧ ∀ l ∈ g, l.length ≤ 300) : LB g := ⟨by have := h.1; omega, fun l hl => by have := h.2 l hl; omega⟩
theorem few16_PB {t : FTask} (ht : TB t) (h : taskSize t ≤ 300) : PB t := ⟨ht, by unfold taskSize at h; omega⟩
theorem give_init {t : FTask} (g : List (List Int)) (h : validB t = true) : givE t g t.init = askE t g := by
  unfold givE stE askE
  rw [h, valid_init16 h]; simp
theorem give_ten {t : FTask} {g : List (List Int)} {s : List Int} : givE t g s = 10 ↔ validB t = false := by
  unfold givE stE
  cases h : validB t
  · simp
  · cases h2 : risingB t.facts.length (-1) s
    · simp
    · cases h3 : choicesB t g <;> simp
theorem le_sum16 {l : List Nat} {x : Nat} (h : x ∈ l) : x ≤ l.sum := by
  induction l with
  | nil => simp at h
  | cons y l ih =>
    rw [List.sum_cons]
    rcases List.mem_cons.1 h with rfl | h
    · omega
    · have := ih h; omega
theorem whens16 {t : FTask} (h : taskSize t ≤ 300) : ∀ a ∈ t.actions, ∀ e ∈ a.effects, e.when_.length ≤ 1048576 := by
  intro a ha e he
  unfold taskSize at h
  have h1 := le_sum16 (List.mem_map_of_mem (f := actSize) ha)
  have h2 := le_sum16 (List.mem_map_of_mem (f := fun e : FEff => e.when_.length) he)
  unfold actSize whenSize at h1
  unfold actSize whenSize at h
  omega
end Go.Proofs.YtjmmldkailblmaaGreat
