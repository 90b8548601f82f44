/- Contracts of the given program's functions, and an abstract layer over the model; no condition. -/
import Derived.Test.YtbnhijapbnfohaaBase4
set_option linter.unusedVariables false
set_option linter.unusedSimpArgs false
namespace Go.Proofs.Ytbnhijapbnfohaa
open Go.Ahl
def ab (b : Bool) : AV := .bool b
def genB (n : Nat) (p : Nat → Bool) : List Bool := (List.range n).map p
theorem genB_len (n : Nat) (p : Nat → Bool) : (genB n p).length = n := by simp [genB]
theorem genB_get {n : Nat} {p : Nat → Bool} {k : Nat} (h : k < n) : (genB n p)[k]? = some (p k) := by
  rw [genB, List.getElem?_map, List.getElem?_range h]; rfl
theorem genB_cong {n : Nat} {p q : Nat → Bool} (h : ∀ i, i < n → p i = q i) : genB n p = genB n q := by
  unfold genB
  exact List.map_congr_left fun i hi => h i (List.mem_range.1 hi)
theorem genB_set (n : Nat) (p : Nat → Bool) (k : Nat) (v : Bool) : (genB n p).set k v = genB n (fun i => if i = k then v else p i) := by
  apply List.ext_getElem?
  intro i
  by_cases hi : i < n
  · rw [genB_get hi]
    by_cases hk : k = i
    · subst hk
      rw [List.getElem?_set_self (by rw [genB_len]; exact hi), if_pos rfl]
    · rw [List.getElem?_set_ne hk, genB_get hi, if_neg (Ne.symm hk)]
  · rw [List.getElem?_eq_none (by rw [List.length_set, genB_len]; omega), List.getElem?_eq_none (by rw [genB_len]; omega)]
theorem bset (w : List Bool) (k : Nat) (b : Bool) : (w.map ab).set k (.bool b) = (w.set k b).map ab := by rw [List.map_set]; rfl
theorem rep_ab (n : Nat) : (List.replicate n [AV.bool false]).flatten = (genB n fun _ => false).map ab := by
  unfold genB
  induction n with
  | zero => rfl
  | succ n ih =>
    rw [List.replicate_succ', List.flatten_concat, ih, List.range_succ, List.map_append, List.map_append]; rfl
theorem ids_ab {n : Nat} (w : List Bool) : IdsO n (.row (w.map ab)) := idsO_row (by intro x hx; obtain ⟨y, _, rfl⟩ := List.mem_map.1 hx; exact .bool _)
def c_bits : CCode := .seq (.ops [⟨some 4, .move (.lit (.slice .nil [])), none, []⟩]) (.seq (.ops [⟨some 8, .move (.tmp 0), none, []⟩, ⟨some 9, .mkslice 1 1 [.bool false] (.tmp 8) (.tmp 8) true, none, []⟩, ⟨some 5, .move (.tmp 9), none, []⟩]) (.seq (.seq (.ops [⟨some 10, .move (.tmp 1), none, []⟩, ⟨some 11, .blen 1 (.tmp 10), none, []⟩, ⟨some 12, .move (.lit (.int .i64 0)), none, []⟩]) (.block 0 (.loop (.seq (.ops [⟨some 13, .bin .lss .none (.tmp 12) (.tmp 11), none, []⟩]) (.seq (.cond (.tmp 13) .skip (.exit 0)) (.seq (.block 1 (.seq (.ops [⟨some 14, .iaddr 1 (.tmp 10) (.tmp 12), none, []⟩, ⟨some 15, .load none (.tmp 14), none, []⟩, ⟨some 7, .move (.tmp 15), none, []⟩]) (.ops [⟨some 16, .move (.tmp 5), none, []⟩, ⟨some 17, .move (.tmp 7), none, []⟩, ⟨some 18, .iaddr 1 (.tmp 16) (.tmp 17), none, []⟩, ⟨none, .store 1 (.tmp 18) (.lit (.bool true)), none, []⟩]))) (.ops [⟨some 19, .bin .add .none (.tmp 12) (.lit (.int .i64 1)), none, []⟩, ⟨some 12, .move (.tmp 19), none, []⟩]))))))) (.seq (.ops [⟨some 20, .move (.tmp 5), none, []⟩, ⟨some 4, .move (.tmp 20), none, []⟩]) .ret)))
set_option maxRecDepth 20000 in
theorem bits_spec (n : Nat) (s : List Int) (tok : Tok) (σ : Store) (hn : n ≤ 1048576) (hs : ∀ x ∈ s, 0 ≤ x ∧ x < n) (hl : s.length ≤ 1048576) :
    ACalls Try.prog 43 [.int .i64 n, .slice tok (s.map Ahl.encI)] σ (fun r σ' => r = .ref σ.length 1 0 n ∧ σ' = σ ++ [.row ((genB n fun i => s.contains (i : Int)).map ab)]) := by
  refine ACalls.intro (rs := [(.tmp 4)]) (by kernel_rfl) { own := [(0, 1), (1, 1), (2, 1), (3, 1)], ghosts := [] } Try.func43 (c := Try.f43.body.getD .skip) (by kernel_rfl) (by decide) (by rw [show Try.f43.ntmps = 21 by kernel_rfl]; exact Nat.le_of_ble_eq_true rfl) (by kernel_rfl) ?_
  intro hσ hids
  rw [show comp Try.prog { own := [(0, 1), (1, 1), (2, 1), (3, 1)], ghosts := [] } (Try.f43.body.getD .skip) = c_bits by kernel_rfl, show Try.f43.ntmps = 21 by kernel_rfl]
  unfold c_bits
  have hil : Ids σ.length (.slice tok (s.map Ahl.encI)) := hids _ (by simp)
  have hs1 : ∀ w : List Bool, IdsS (σ ++ [AObj.row (w.map ab)]).length (σ ++ [AObj.row (w.map ab)]) := fun w => idsS_push hσ (ids_ab w)
  simp only [go_sem, Int.reduceToNat, Int.reduceLE, Int.reduceLT, Nat.reduceBEq, Nat.reduceLT, Nat.reduceAdd, Nat.reduceLeDiff, aMkslice, rep_ab]
  refine ⟨Int.le_refl _, by omega, by omega, ?_⟩
  refine wpc_while (fun (i : Nat) => [(5, .ref σ.length 1 0 n), (10, .slice tok (s.map Ahl.encI)), (11, .int .i64 s.length), (12, .int .i64 i)]) (fun i => σ ++ [.row ((genB n fun k => (s.take i).contains (k : Int)).map ab)]) (fun i => i ≤ s.length) (fun i => s.length - i) 0 (Nat.zero_le _) (by (try dsimp only); simp only [List.take_zero, List.contains_nil]; first | exact ghL (hs1 _) | exact ghL0 (hs1 _)) ?_
  intro i hi K hK hE hR
  by_cases h : i < s.length
  · obtain ⟨x, hx⟩ := get_ex h; have hlt : ((i : Int) < (s.length : Int)) := (by omega); have hw : IntKind.i64.wrap ((i : Int) + 1) = ((i + 1 : Nat) : Int) := (by rw [wrap_ok (by omega)]; omega)
    obtain ⟨x0, x1⟩ := hs x (List.mem_of_getElem? hx)
    have x2 : x.toNat < n := by omega
    have x3 : x.toNat + 1 ≤ n := by omega
    simp only [go_sem, Int.reduceToNat, Int.reduceLE, Int.reduceLT, Nat.reduceBEq, Nat.reduceLT, Nat.reduceAdd, Nat.reduceLeDiff, hlt, hx, Ahl.encI, x0, x2, genB_len, x3, bset, genB_set]
    have hc : (genB n fun k => (s.take (i + 1)).contains (k : Int)) = genB n (fun k => if k = x.toNat then true else (s.take i).contains (k : Int)) := genB_cong fun k hk => by
      rw [take_succ' hx, List.contains_eq_mem, List.contains_eq_mem]
      by_cases e : k = x.toNat
      · rw [if_pos e]; simp; right; omega
      · rw [if_neg e]
        apply decide_eq_decide.2
        rw [List.mem_append, List.mem_singleton]
        constructor
        · rintro (h | h)
          · exact h
          · omega
        · exact .inl
    refine hK _ _ (i + 1) (by omega) (by omega) ?_
    (try dsimp only); simp only [hw, hc]; first | exact ghL (hs1 _) | exact ghL0 (hs1 _)
  · have hlt : ¬ ((i : Int) < (s.length : Int)) := by omega
    simp only [go_sem, Int.reduceToNat, Int.reduceLE, Int.reduceLT, Nat.reduceBEq, Nat.reduceLT, Nat.reduceAdd, Nat.reduceLeDiff, hlt, hE]
    rw [List.take_of_length_le (by omega)]
    exact ret_gh (v := .ref σ.length 1 0 n) (σ' := σ ++ [.row ((genB n fun i => s.contains (i : Int)).map ab)]) (by first | exact ghL (hs1 _) | exact ghL0 (hs1 _)) (by simp) (hs1 _) (.ref _ _ _ _ (by simp)) ⟨rfl, rfl⟩
/-- The places that are true, counted from k. -/
def listB : Nat → List Bool → List Int
  | _, [] => []
  | k, b :: r => if b then (k : Int) :: listB (k + 1) r else listB (k + 1) r
def c_listed : CCode := .seq (.ops [⟨some 2, .move (.lit (.slice .nil [])), none, []⟩]) (.seq (.ops [⟨some 3, .move (.lit (.slice .nil [])), none, []⟩]) (.seq (.seq (.ops [⟨some 6, .move (.tmp 0), none, []⟩, ⟨some 7, .blen 1 (.tmp 6), none, []⟩, ⟨some 8, .move (.lit (.int .i64 0)), none, []⟩]) (.block 0 (.loop (.seq (.ops [⟨some 9, .bin .lss .none (.tmp 8) (.tmp 7), none, []⟩]) (.seq (.cond (.tmp 9) .skip (.exit 0)) (.seq (.block 1 (.seq (.ops [⟨some 10, .move (.tmp 8), none, []⟩, ⟨some 11, .iaddr 1 (.tmp 6) (.tmp 8), none, []⟩, ⟨some 12, .load none (.tmp 11), none, []⟩, ⟨some 4, .move (.tmp 10), none, []⟩, ⟨some 5, .move (.tmp 12), none, []⟩]) (.seq (.ops [⟨some 13, .move (.tmp 5), none, []⟩]) (.cond (.tmp 13) (.ops [⟨some 14, .move (.tmp 3), none, []⟩, ⟨some 15, .move (.tmp 4), none, []⟩, ⟨some 16, .bslice 1 [.tmp 15] false, none, []⟩, ⟨some 17, .bappend 1 8 (.tmp 14) (.tmp 16) false, none, []⟩, ⟨some 3, .move (.tmp 17), none, []⟩]) .skip)))) (.ops [⟨some 18, .bin .add .none (.tmp 8) (.lit (.int .i64 1)), none, []⟩, ⟨some 8, .move (.tmp 18), none, []⟩]))))))) (.seq (.ops [⟨some 19, .move (.tmp 3), none, []⟩, ⟨some 2, .move (.tmp 19), none, []⟩]) .ret)))
set_option maxRecDepth 20000 in
theorem listed_spec (id : Nat) (w : List Bool) (σ : Store) (hid : σ[id]? = some (.row (w.map ab))) (hl : w.length ≤ 1048576) :
    ACalls Try.prog 44 [.ref id 1 0 w.length] σ (isR (.slice .unk ((listB 0 w).map Ahl.encI)) σ) := by
  refine ACalls.intro (rs := [(.tmp 2)]) (by kernel_rfl) { own := [], ghosts := [] } Try.func44 (c := Try.f44.body.getD .skip) (by kernel_rfl) (by decide) (by rw [show Try.f44.ntmps = 20 by kernel_rfl]; exact Nat.le_of_ble_eq_true rfl) (by kernel_rfl) ?_
  intro hσ hids
  rw [show comp Try.prog { own := [], ghosts := [] } (Try.f44.body.getD .skip) = c_listed by kernel_rfl, show Try.f44.ntmps = 20 by kernel_rfl]
  unfold c_listed
  have hs1 : ∀ k : Nat, IdsS (σ ++ [AObj.grow 1 k]).length (σ ++ [AObj.grow 1 k]) := fun k => idsS_push hσ trivial
  have iid := lt_of_get hid
  have hid' : ∀ l, (σ ++ l)[id]? = some (.row (w.map ab)) := fun l => by rw [List.getElem?_append_left iid]; exact hid
  simp only [go_sem, Int.reduceToNat, Int.reduceLE, Int.reduceLT, Nat.reduceBEq, Nat.reduceLT, Nat.reduceAdd, Nat.reduceLeDiff]
  refine wpc_while (fun (q : Nat × List Int) => [(3, .slice (.grow σ.length) (q.2.map Ahl.encI)), (6, .ref id 1 0 w.length), (7, .int .i64 w.length), (8, .int .i64 q.1)]) (fun q => σ ++ [.grow 1 q.2.length])
    (fun q => q.1 ≤ w.length ∧ q.2.length ≤ q.1 ∧ q.2 ++ listB q.1 (w.drop q.1) = listB 0 w) (fun q => w.length - q.1) (0, []) ⟨Nat.zero_le _, Nat.le_refl _, rfl⟩ (by first | exact .begin0 3 1 _ (Nat.le_refl _) tellT hσ | exact .begin 3 1 _ (Nat.le_refl _) tellT hσ) ?_
  rintro ⟨i, out⟩ ⟨hi, ho, hv⟩ K hK hE hR
  dsimp only at hi ho hv ⊢
  by_cases h : i < w.length
  · obtain ⟨b, hx⟩ := get_ex h; have hlt : ((i : Int) < (w.length : Int)) := (by omega); have hw : IntKind.i64.wrap ((i : Int) + 1) = ((i + 1 : Nat) : Int) := (by rw [wrap_ok (by omega)]; omega)
    have hb1 : bigLen (out.length + 1) 8 := big_ok (by omega) (by omega)
    rw [drop_cons hx, listB] at hv
    cases b
    · rw [if_neg (by simp)] at hv
      simp only [go_sem, Int.reduceToNat, Int.reduceLE, Int.reduceLT, Nat.reduceBEq, Nat.reduceLT, Nat.reduceAdd, Nat.reduceLeDiff, hlt, h, hid', hx, ab]
      refine hK _ _ (i + 1, out) ⟨by simp only []; omega, by simp only []; omega, hv⟩ (by simp only []; omega) ?_
      (try dsimp only); simp only [hw]; first | exact ghL (hs1 _) | exact ghL0 (hs1 _)
    · rw [if_pos rfl] at hv
      simp only [go_sem, Int.reduceToNat, Int.reduceLE, Int.reduceLT, Nat.reduceBEq, Nat.reduceLT, Nat.reduceAdd, Nat.reduceLeDiff, hlt, h, hid', hx, ab, hb1]
      have hc : out.map Ahl.encI ++ [[AV.int .i64 i]] = (out ++ [(i : Int)]).map Ahl.encI := by simp [Ahl.encI]
      refine hK _ _ (i + 1, out ++ [(i : Int)]) ⟨by simp only []; omega, by simp only []; simp; omega, by simp only []; rw [← hv]; simp⟩ (by simp only []; omega) ?_
      (try dsimp only); simp only [hw, hc, List.length_append, List.length_singleton]; exact ghL (l := [.grow 1 (out.length + 1)]) (hs1 _)
  · have hlt : ¬ ((i : Int) < (w.length : Int)) := by omega
    rw [drop_len h, listB, List.append_nil] at hv
    simp only [go_sem, Int.reduceToNat, Int.reduceLE, Int.reduceLT, Nat.reduceBEq, Nat.reduceLT, Nat.reduceAdd, Nat.reduceLeDiff, hlt, hE]
    first | exact rtk (.slice .unk (out.map Ahl.encI)) ⟨by rw [hv], rfl⟩ | exact rtk0 (.slice .unk (out.map Ahl.encI)) ⟨by rw [hv], rfl⟩
/-- Does an effect of this sign on fact i happen? -/
def hits (s : List Int) (neg : Bool) (es : List FEff) (i : Nat) : Bool := es.any fun e => (e.lit.neg == neg) && ((e.lit.fact == (i : Int)) && condHolds s e.when_)
theorem hits_succ {s : List Int} {neg : Bool} {es : List FEff} {j : Nat} {e : FEff} (h : es[j]? = some e) (i : Nat) : hits s neg (es.take (j + 1)) i = (hits s neg (es.take j) i || ((e.lit.neg == neg) && ((e.lit.fact == (i : Int)) && condHolds s e.when_))) := by
  rw [hits, take_succ' h, List.any_append]; simp [hits]
/-- The bits after an action. -/
def afterB (n : Nat) (s : List Int) (a : FAct) : List Bool := genB n fun i => hits s false a.effects i || (s.contains (i : Int) && !hits s true a.effects i)
def afterL (n : Nat) (s : List Int) (a : FAct) : List Int := listB 0 (afterB n s a)
def c_after : CCode := .seq (.ops [⟨some 3, .box (.tmp 0), none, []⟩, ⟨some 6, .move (.lit (.slice .nil [])), none, []⟩]) (.seq (.ops [⟨some 12, .faddr 0 (.tmp 3), none, []⟩, ⟨some 13, .load none (.tmp 12), none, []⟩, ⟨some 14, .blen 1 (.tmp 13), none, []⟩, ⟨some 15, .move (.tmp 1), none, []⟩, ⟨some 16, .call (.lit (.func 43 [])) [.tmp 14, .tmp 15], none, []⟩, ⟨some 7, .move (.tmp 16), none, []⟩]) (.seq (.seq (.ops [⟨some 17, .faddr 3 (.tmp 3), none, []⟩, ⟨some 18, .load none (.tmp 17), none, []⟩, ⟨some 19, .move (.tmp 2), none, []⟩, ⟨some 20, .iaddr 4 (.tmp 18) (.tmp 19), none, []⟩, ⟨some 21, .faddr 3 (.tmp 20), none, []⟩, ⟨some 22, .load none (.tmp 21), none, []⟩, ⟨some 23, .blen 1 (.tmp 22), none, []⟩, ⟨some 24, .move (.lit (.int .i64 0)), none, []⟩]) (.block 0 (.loop (.seq (.ops [⟨some 25, .bin .lss .none (.tmp 24) (.tmp 23), none, []⟩]) (.seq (.cond (.tmp 25) .skip (.exit 0)) (.seq (.block 1 (.seq (.ops [⟨some 26, .iaddr 3 (.tmp 22) (.tmp 24), none, []⟩, ⟨some 27, .load (some 3) (.tmp 26), none, []⟩, ⟨some 9, .alloc (.agg [.slice .nil [], .int .i64 0, .bool false]), none, []⟩, ⟨none, .store 3 (.tmp 9) (.tmp 27), none, []⟩]) (.seq (.ops [⟨some 28, .faddr 1 (.tmp 9), none, []⟩, ⟨some 29, .faddr 1 (.tmp 28), none, []⟩, ⟨some 30, .load none (.tmp 29), none, []⟩, ⟨some 31, .move (.tmp 30), none, []⟩, ⟨some 32, .move (.tmp 1), some (some 31, true), []⟩, ⟨some 33, .faddr 0 (.tmp 9), some (some 31, true), []⟩, ⟨some 34, .load none (.tmp 33), some (some 31, true), []⟩, ⟨some 35, .call (.lit (.func 17 [])) [.tmp 32, .tmp 34], some (some 31, true), []⟩, ⟨some 36, .pick (.tmp 31) (.tmp 35) (.lit (.bool false)), none, []⟩]) (.cond (.tmp 36) (.ops [⟨some 37, .move (.tmp 7), none, []⟩, ⟨some 38, .faddr 1 (.tmp 9), none, []⟩, ⟨some 39, .faddr 0 (.tmp 38), none, []⟩, ⟨some 40, .load none (.tmp 39), none, []⟩, ⟨some 41, .iaddr 1 (.tmp 37) (.tmp 40), none, []⟩, ⟨none, .store 1 (.tmp 41) (.lit (.bool false)), none, []⟩]) .skip)))) (.ops [⟨some 42, .bin .add .none (.tmp 24) (.lit (.int .i64 1)), none, []⟩, ⟨some 24, .move (.tmp 42), none, []⟩]))))))) (.seq (.seq (.ops [⟨some 43, .faddr 3 (.tmp 3), none, []⟩, ⟨some 44, .load none (.tmp 43), none, []⟩, ⟨some 45, .move (.tmp 2), none, []⟩, ⟨some 46, .iaddr 4 (.tmp 44) (.tmp 45), none, []⟩, ⟨some 47, .faddr 3 (.tmp 46), none, []⟩, ⟨some 48, .load none (.tmp 47), none, []⟩, ⟨some 49, .blen 1 (.tmp 48), none, []⟩, ⟨some 50, .move (.lit (.int .i64 0)), none, []⟩]) (.block 2 (.loop (.seq (.ops [⟨some 51, .bin .lss .none (.tmp 50) (.tmp 49), none, []⟩]) (.seq (.cond (.tmp 51) .skip (.exit 2)) (.seq (.block 3 (.seq (.ops [⟨some 52, .iaddr 3 (.tmp 48) (.tmp 50), none, []⟩, ⟨some 53, .load (some 3) (.tmp 52), none, []⟩, ⟨some 11, .alloc (.agg [.slice .nil [], .int .i64 0, .bool false]), none, []⟩, ⟨none, .store 3 (.tmp 11) (.tmp 53), none, []⟩]) (.seq (.ops [⟨some 54, .faddr 1 (.tmp 11), none, []⟩, ⟨some 55, .faddr 1 (.tmp 54), none, []⟩, ⟨some 56, .load none (.tmp 55), none, []⟩, ⟨some 57, .un .not (.tmp 56), none, []⟩, ⟨some 58, .move (.tmp 57), none, []⟩, ⟨some 59, .move (.tmp 1), some (some 58, true), []⟩, ⟨some 60, .faddr 0 (.tmp 11), some (some 58, true), []⟩, ⟨some 61, .load none (.tmp 60), some (some 58, true), []⟩, ⟨some 62, .call (.lit (.func 17 [])) [.tmp 59, .tmp 61], some (some 58, true), []⟩, ⟨some 63, .pick (.tmp 58) (.tmp 62) (.lit (.bool false)), none, []⟩]) (.cond (.tmp 63) (.ops [⟨some 64, .move (.tmp 7), none, []⟩, ⟨some 65, .faddr 1 (.tmp 11), none, []⟩, ⟨some 66, .faddr 0 (.tmp 65), none, []⟩, ⟨some 67, .load none (.tmp 66), none, []⟩, ⟨some 68, .iaddr 1 (.tmp 64) (.tmp 67), none, []⟩, ⟨none, .store 1 (.tmp 68) (.lit (.bool true)), none, []⟩]) .skip)))) (.ops [⟨some 69, .bin .add .none (.tmp 50) (.lit (.int .i64 1)), none, []⟩, ⟨some 50, .move (.tmp 69), none, []⟩]))))))) (.seq (.ops [⟨some 70, .move (.tmp 7), none, []⟩, ⟨some 71, .call (.lit (.func 44 [])) [.tmp 70], none, []⟩, ⟨some 6, .move (.tmp 71), none, []⟩]) .ret))))
set_option maxRecDepth 20000 in
set_option maxHeartbeats 1000000 in
theorem after_spec (t : FTask) (s : List Int) (k : Int) (a : FAct) (tok : Tok) (σ : Store) (hn : t.facts.length ≤ 1048576) (hs : ∀ x ∈ s, 0 ≤ x ∧ x < (t.facts.length : Int)) (hl : s.length ≤ 1048576) (hk : 0 ≤ k) (ha : t.actions[k.toNat]? = some a)
    (hae : a.effects.length ≤ 1048576) (he : ∀ e ∈ a.effects, e.when_.length ≤ 1048576 ∧ 0 ≤ e.lit.fact ∧ e.lit.fact < (t.facts.length : Int)) :
    ACalls Try.prog 18 [.agg (encTask t), .slice tok (s.map Ahl.encI), .int .i64 k] σ (isR (.slice .unk ((afterL t.facts.length s a).map Ahl.encI)) σ) := by
  refine ACalls.intro (rs := [(.tmp 6)]) (by kernel_rfl) { own := [], ghosts := [] } Try.func18 (c := Try.f18.body.getD .skip) (by kernel_rfl) (by decide) (by rw [show Try.f18.ntmps = 72 by kernel_rfl]; exact Nat.le_of_ble_eq_true rfl) (by kernel_rfl) ?_
  intro hσ hids
  rw [show comp Try.prog { own := [], ghosts := [] } (Try.f18.body.getD .skip) = c_after by kernel_rfl, show Try.f18.ntmps = 72 by kernel_rfl]
  unfold c_after
  have hil : Ids σ.length (.slice tok (s.map Ahl.encI)) := hids _ (by simp)
  have hs1 : ∀ w : List Bool, IdsS (σ ++ [AObj.row (encTask t), .row (w.map ab)]).length (σ ++ [AObj.row (encTask t), .row (w.map ab)]) := fun w => idsS_app _ hσ (by
    intro o ho
    simp only [List.mem_cons, List.not_mem_nil, or_false] at ho
    rcases ho with rfl | rfl
    · exact idsO_row (ids_encTask t)
    · exact ids_ab w)
  simp only [go_sem, Int.reduceToNat, Int.reduceLE, Int.reduceLT, Nat.reduceBEq, Nat.reduceLT, Nat.reduceAdd, Nat.reduceLeDiff, encTask]
  refine (bits_spec t.facts.length s tok _ hn hs hl).mono ?_
  rintro _ _ ⟨rfl, rfl⟩
  generalize hN : t.facts.length = n at *
  simp only [go_sem, Int.reduceToNat, Int.reduceLE, Int.reduceLT, Nat.reduceBEq, Nat.reduceLT, Nat.reduceAdd, Nat.reduceLeDiff, encTask, hk, ha, encA]
  refine wpc_while (fun (j : Nat) => [(1, .slice tok (s.map Ahl.encI)), (2, .int .i64 k), (3, .ptr σ.length 0), (7, .ref (σ.length + 1) 1 0 n), (22, .slice .unk (a.effects.map encE)), (23, .int .i64 a.effects.length), (24, .int .i64 j)])
    (fun j => σ ++ [.row (encTask t), .row ((genB n fun i => s.contains (i : Int) && !hits s true (a.effects.take j) i).map ab)]) (fun j => j ≤ a.effects.length) (fun j => a.effects.length - j) 0 (Nat.zero_le _) (by (try dsimp only); simp only [List.take_zero, hits, List.any_nil, Bool.not_false, Bool.and_true]; first | exact ghL (hs1 _) | exact ghL0 (hs1 _)) ?_
  intro j hj0 K hK hE hR
  by_cases hj : j < a.effects.length
  · obtain ⟨e, hxj⟩ := get_ex hj; have hltj : ((j : Int) < (a.effects.length : Int)) := (by omega); have hwj : IntKind.i64.wrap ((j : Int) + 1) = ((j + 1 : Nat) : Int) := (by rw [wrap_ok (by omega)]; omega)
    obtain ⟨e1, e2, e3⟩ := he e (List.mem_of_getElem? hxj)
    have e4 : e.lit.fact.toNat < n := by omega
    have e5 : e.lit.fact.toNat + 1 ≤ n := by omega
    cases hng : e.lit.neg
    · simp only [go_sem, Int.reduceToNat, Int.reduceLE, Int.reduceLT, Nat.reduceBEq, Nat.reduceLT, Nat.reduceAdd, Nat.reduceLeDiff, hltj, hxj, encE, hng]
      have hc : (genB n fun i => s.contains (i : Int) && !hits s true (a.effects.take (j + 1)) i) = genB n fun i => s.contains (i : Int) && !hits s true (a.effects.take j) i := genB_cong fun i hi => by
        rw [hits_succ hxj, hng]; simp
      refine hK _ _ (j + 1) (by omega) (by omega) ?_
      (try dsimp only); simp only [hwj, hc]; first | exact ghL (hs1 _) | exact ghL0 (hs1 _)
    · simp only [go_sem, Int.reduceToNat, Int.reduceLE, Int.reduceLT, Nat.reduceBEq, Nat.reduceLT, Nat.reduceAdd, Nat.reduceLeDiff, hltj, hxj, encE, hng]
      refine (holds02_spec s e.when_ tok .unk _ (by omega) (by omega)).is ?_
      cases hh : condHolds s e.when_
      · simp only [go_sem, Int.reduceToNat, Int.reduceLE, Int.reduceLT, Nat.reduceBEq, Nat.reduceLT, Nat.reduceAdd, Nat.reduceLeDiff]
        have hc : (genB n fun i => s.contains (i : Int) && !hits s true (a.effects.take (j + 1)) i) = genB n fun i => s.contains (i : Int) && !hits s true (a.effects.take j) i := genB_cong fun i hi => by
          rw [hits_succ hxj, hng, hh]; simp
        refine hK _ _ (j + 1) (by omega) (by omega) ?_
        (try dsimp only); simp only [hwj, hc]; first | exact ghL (hs1 _) | exact ghL0 (hs1 _)
      · simp only [go_sem, Int.reduceToNat, Int.reduceLE, Int.reduceLT, Nat.reduceBEq, Nat.reduceLT, Nat.reduceAdd, Nat.reduceLeDiff, e2, e4, genB_len, e5, bset, genB_set]
        have hc : (genB n fun i => s.contains (i : Int) && !hits s true (a.effects.take (j + 1)) i) = genB n (fun i => if i = e.lit.fact.toNat then false else s.contains (i : Int) && !hits s true (a.effects.take j) i) := genB_cong fun i hi => by
          rw [hits_succ hxj, hng, hh]
          by_cases q : i = e.lit.fact.toNat
          · have : (e.lit.fact == (i : Int)) = true := by simp; omega
            rw [if_pos q, this]; simp
          · have : (e.lit.fact == (i : Int)) = false := by simp; omega
            rw [if_neg q, this]; simp
        refine hK _ _ (j + 1) (by omega) (by omega) ?_
        (try dsimp only); simp only [hwj, hc]; first | exact ghL (hs1 _) | exact ghL0 (hs1 _)
  · have hltj : ¬ ((j : Int) < (a.effects.length : Int)) := by omega
    have hje : j = a.effects.length := by omega
    subst hje
    simp only [go_sem, Int.reduceToNat, Int.reduceLE, Int.reduceLT, Nat.reduceBEq, Nat.reduceLT, Nat.reduceAdd, Nat.reduceLeDiff, hltj, hE, hk, ha, encA, encTask]
    clear hK hE hR
    refine wpc_while (fun (j : Nat) => [(1, .slice tok (s.map Ahl.encI)), (7, .ref (σ.length + 1) 1 0 n), (48, .slice .unk (a.effects.map encE)), (49, .int .i64 a.effects.length), (50, .int .i64 j)])
      (fun j => σ ++ [.row (encTask t), .row ((genB n fun i => hits s false (a.effects.take j) i || (s.contains (i : Int) && !hits s true a.effects i)).map ab)]) (fun j => j ≤ a.effects.length) (fun j => a.effects.length - j) 0 (Nat.zero_le _) (by (try dsimp only); simp only [List.take_zero, List.take_length]; have hz : ∀ i, hits s false [] i = false := (fun i => rfl); simp only [hz, Bool.false_or]; first | exact ghL (hs1 _) | exact ghL0 (hs1 _)) ?_
    intro j hj0 K hK hE hR
    by_cases hj : j < a.effects.length
    · obtain ⟨e, hxj⟩ := get_ex hj; have hltj : ((j : Int) < (a.effects.length : Int)) := (by omega); have hwj : IntKind.i64.wrap ((j : Int) + 1) = ((j + 1 : Nat) : Int) := (by rw [wrap_ok (by omega)]; omega)
      obtain ⟨e1, e2, e3⟩ := he e (List.mem_of_getElem? hxj)
      have e4 : e.lit.fact.toNat < n := by omega
      have e5 : e.lit.fact.toNat + 1 ≤ n := by omega
      cases hng : e.lit.neg
      · simp only [go_sem, Int.reduceToNat, Int.reduceLE, Int.reduceLT, Nat.reduceBEq, Nat.reduceLT, Nat.reduceAdd, Nat.reduceLeDiff, hltj, hxj, encE, hng]
        refine (holds02_spec s e.when_ tok .unk _ (by omega) (by omega)).is ?_
        cases hh : condHolds s e.when_
        · simp only [go_sem, Int.reduceToNat, Int.reduceLE, Int.reduceLT, Nat.reduceBEq, Nat.reduceLT, Nat.reduceAdd, Nat.reduceLeDiff]
          have hc : (genB n fun i => hits s false (a.effects.take (j + 1)) i || (s.contains (i : Int) && !hits s true a.effects i)) = genB n fun i => hits s false (a.effects.take j) i || (s.contains (i : Int) && !hits s true a.effects i) := genB_cong fun i hi => by
            rw [hits_succ hxj, hng, hh]; simp
          refine hK _ _ (j + 1) (by omega) (by omega) ?_
          (try dsimp only); simp only [hwj, hc]; first | exact ghL (hs1 _) | exact ghL0 (hs1 _)
        · simp only [go_sem, Int.reduceToNat, Int.reduceLE, Int.reduceLT, Nat.reduceBEq, Nat.reduceLT, Nat.reduceAdd, Nat.reduceLeDiff, e2, e4, genB_len, e5, bset, genB_set]
          have hc : (genB n fun i => hits s false (a.effects.take (j + 1)) i || (s.contains (i : Int) && !hits s true a.effects i)) = genB n (fun i => if i = e.lit.fact.toNat then true else hits s false (a.effects.take j) i || (s.contains (i : Int) && !hits s true a.effects i)) := genB_cong fun i hi => by
            rw [hits_succ hxj, hng, hh]
            by_cases q : i = e.lit.fact.toNat
            · have : (e.lit.fact == (i : Int)) = true := by simp; omega
              rw [if_pos q, this]; simp
            · have : (e.lit.fact == (i : Int)) = false := by simp; omega
              rw [if_neg q, this]; simp
          refine hK _ _ (j + 1) (by omega) (by omega) ?_
          (try dsimp only); simp only [hwj, hc]; first | exact ghL (hs1 _) | exact ghL0 (hs1 _)
      · simp only [go_sem, Int.reduceToNat, Int.reduceLE, Int.reduceLT, Nat.reduceBEq, Nat.reduceLT, Nat.reduceAdd, Nat.reduceLeDiff, hltj, hxj, encE, hng]
        have hc : (genB n fun i => hits s false (a.effects.take (j + 1)) i || (s.contains (i : Int) && !hits s true a.effects i)) = genB n fun i => hits s false (a.effects.take j) i || (s.contains (i : Int) && !hits s true a.effects i) := genB_cong fun i hi => by
          rw [hits_succ hxj, hng]; simp
        refine hK _ _ (j + 1) (by omega) (by omega) ?_
        (try dsimp only); simp only [hwj, hc]; first | exact ghL (hs1 _) | exact ghL0 (hs1 _)
    · have hltj : ¬ ((j : Int) < (a.effects.length : Int)) := by omega
      have hje : j = a.effects.length := by omega
      subst hje
      rw [List.take_length]
      simp only [go_sem, Int.reduceToNat, Int.reduceLE, Int.reduceLT, Nat.reduceBEq, Nat.reduceLT, Nat.reduceAdd, Nat.reduceLeDiff, hltj, hE]
      have hL := listed_spec (σ.length + 1) (afterB n s a) (σ ++ [.row (encTask t), .row ((afterB n s a).map ab)]) (by rw [g_get]; rfl) (by rw [afterB, genB_len]; exact hn)
      rw [afterB, genB_len] at hL
      refine ACalls.is hL ?_
      simp only [go_sem, Int.reduceToNat, Int.reduceLE, Int.reduceLT, Nat.reduceBEq, Nat.reduceLT, Nat.reduceAdd, Nat.reduceLeDiff]
      first | exact rtk (.slice .unk ((afterL n s a).map Ahl.encI)) ⟨rfl, rfl⟩ | exact rtk0 (.slice .unk ((afterL n s a).map Ahl.encI)) ⟨rfl, rfl⟩
end Go.Proofs.Ytbnhijapbnfohaa
namespace Go.Proofs.Ytbnhijapbnfohaa
open Go.Ahl
/-! ### What the operations mean -/
def formT (a : Int → Bool) (f : List (List FLit)) : Bool := f.any (termT a)
theorem formHolds_T (s : List Int) (f : List (List FLit)) : formHolds s f = formT (fun i => s.contains i) f := rfl
theorem termT_cons (a : Int → Bool) (x : FLit) (l : List FLit) : termT a (x :: l) = (litT a x && termT a l) := rfl
theorem formT_cons (a : Int → Bool) (x : List FLit) (l : List (List FLit)) : formT a (x :: l) = (termT a x || formT a l) := rfl
theorem formT_app (a : Int → Bool) (f g : List (List FLit)) : formT a (f ++ g) = (formT a f || formT a g) := by simp [formT]
theorem litT_flip (a : Int → Bool) (x : FLit) : litT a ⟨x.fact, !x.neg⟩ = !litT a x := by unfold litT; cases x.neg <;> cases a x.fact <;> rfl
theorem mergeF_T (a : Int → Bool) : ∀ (k : Nat) (l m : List FLit), l.length + m.length ≤ k → ((mergeF k l m).map (termT a)).getD false = (termT a l && termT a m)
  | 0, [], [], _ => rfl
  | 0, _ :: _, _, h => by simp at h
  | 0, [], _ :: _, h => by simp at h
  | k + 1, [], [], _ => rfl
  | k + 1, x :: l, [], h => by
    have ih := mergeF_T a k l [] (by simp at h ⊢; omega)
    rw [mergeF, termT_cons]
    cases hc : mergeF k l [] with
    | none => rw [hc] at ih; rw [Bool.and_assoc, ← ih]; simp
    | some c => rw [hc] at ih; rw [Bool.and_assoc, ← ih]; rfl
  | k + 1, [], y :: m, h => by
    have ih := mergeF_T a k [] m (by simp at h ⊢; omega)
    rw [mergeF, termT_cons]
    cases hc : mergeF k [] m with
    | none => rw [hc] at ih; rw [← Bool.and_assoc, Bool.and_comm (termT a []), Bool.and_assoc, ← ih]; simp
    | some c => rw [hc] at ih; rw [← Bool.and_assoc, Bool.and_comm (termT a []), Bool.and_assoc, ← ih]; rfl
  | k + 1, x :: l, y :: m, h => by
    simp only [List.length_cons] at h
    rw [mergeF]
    split
    · have ih := mergeF_T a k l (y :: m) (by simp only [List.length_cons]; omega)
      rw [termT_cons (l := l), Bool.and_assoc, ← ih]
      cases hc : mergeF k l (y :: m) with
      | none => simp
      | some c => simp [termT_cons]
    split
    · have ih := mergeF_T a k (x :: l) m (by simp only [List.length_cons]; omega)
      rw [termT_cons (l := m), ← Bool.and_assoc, Bool.and_comm (termT a (x :: l)), Bool.and_assoc, ← ih]
      cases hc : mergeF k (x :: l) m with
      | none => simp
      | some c => simp [termT_cons]
    rename_i h1 h2
    have hf : x.fact = y.fact := by omega
    split
    · rename_i h3
      have hxy : x = y := by cases x; cases y; simp_all
      subst hxy
      have ih := mergeF_T a k l m (by omega)
      rw [termT_cons, termT_cons]
      have e : (litT a x && termT a l && (litT a x && termT a m)) = (litT a x && (termT a l && termT a m)) := by cases litT a x <;> simp
      rw [e, ← ih]
      cases hc : mergeF k l m with
      | none => simp
      | some c => simp [termT_cons]
    · rename_i h3
      rw [termT_cons, termT_cons]
      have e : (litT a x && litT a y) = false := by
        unfold litT; rw [hf]
        cases h4 : x.neg <;> cases h5 : y.neg <;> rw [h4, h5] at h3 <;> simp at h3 ⊢
      have e2 : (litT a x && termT a l && (litT a y && termT a m)) = ((litT a x && litT a y) && (termT a l && termT a m)) := by
        cases litT a x <;> cases litT a y <;> simp
      rw [e2, e]; rfl
theorem bothL_T (a : Int → Bool) (l m : List FLit) : ((bothL l m).map (termT a)).getD false = (termT a l && termT a m) := mergeF_T a _ l m (Nat.le_refl _)
theorem within_T {a : Int → Bool} {l m : List FLit} (h : withinB l m = true) (k : termT a m = true) : termT a l = true :=
  List.all_eq_true.2 fun x hx => List.all_eq_true.1 k x (withinB_iff.1 h x hx)
theorem redLoop_T (a : Int → Bool) : ∀ (l out : List (List FLit)), formT a (redLoop out l) = (formT a out || formT a l)
  | [], out => by simp [redLoop, formT]
  | x :: l, out => by
    rw [redLoop, formT_cons]
    split
    · rename_i h
      rw [redLoop_T a l out]
      obtain ⟨y, hy, hw⟩ := List.any_eq_true.1 h
      cases hx : termT a x
      · simp
      · have : formT a out = true := List.any_eq_true.2 ⟨y, hy, within_T hw hx⟩
        rw [this]; simp
    · rw [redLoop_T a l (out ++ [x]), formT_app, formT_cons]; simp [formT, Bool.or_assoc]
theorem reducedL_T (a : Int → Bool) (f : List (List FLit)) : formT a (reducedL f) = formT a f := by
  rw [reducedL, redLoop_T]
  have : formT a (sortO f) = formT a f := (sortO_perm f).any_eq
  rw [this]; simp [formT]
theorem filterMap_T (a : Int → Bool) (l : List FLit) : ∀ g : List (List FLit), formT a (g.filterMap fun b => bothL l b) = (termT a l && formT a g)
  | [] => by simp [formT]
  | m :: g => by
    have h := bothL_T a l m
    rw [List.filterMap_cons]
    cases hc : bothL l m with
    | none => rw [hc] at h; simp at h; simp only []; rw [filterMap_T a l g, formT_cons]; cases h1 : termT a l <;> simp_all
    | some c => rw [hc] at h; simp at h; simp only []; rw [formT_cons, filterMap_T a l g, formT_cons, h, Bool.and_or_distrib_left]
theorem prodL_T (a : Int → Bool) : ∀ f g : List (List FLit), formT a (prodL f g) = (formT a f && formT a g)
  | [], g => by simp [prodL, formT]
  | l :: f, g => by rw [prodL_cons, formT_app, filterMap_T, prodL_T a f g, formT_cons, Bool.and_or_distrib_right]
theorem bothF_red {f g h : List (List FLit)} (e : bothF f g = some h) : h = reducedL (prodL (bigL f g).1 (bigL f g).2) := by
  unfold bothF at e; split at e
  · simp at e
  · injection e with e; exact e.symm
theorem bothF_T (a : Int → Bool) {f g h : List (List FLit)} (e : bothF f g = some h) : formT a h = (formT a f && formT a g) := by
  rw [bothF_red e, reducedL_T, prodL_T]
  unfold bigL; split
  · rw [reducedL_T, reducedL_T]
  · rfl
theorem negL_T (a : Int → Bool) : ∀ l : List FLit, formT a (negL l) = !termT a l
  | [] => rfl
  | x :: l => by
    have : negL (x :: l) = [⟨x.fact, !x.neg⟩] :: negL l := rfl
    rw [this, formT_cons, negL_T a l, termT_cons, termT_cons, litT_flip]
    simp [termT]
theorem negFrom_T (a : Int → Bool) : ∀ (f out h : List (List FLit)), negFrom out f = some h → formT a h = (formT a out && !formT a f)
  | [], out, h, e => by simp [negFrom] at e; subst e; simp [formT]
  | l :: f, out, h, e => by
    rw [negFrom] at e
    cases h1 : bothF out (negL l) with
    | none => rw [h1] at e; simp at e
    | some o =>
      rw [h1] at e; simp only at e
      split at e
      · rw [negFrom_T a f o h e, bothF_T a h1, negL_T, formT_cons, Bool.not_or, Bool.and_assoc]
      · simp at e
theorem negF_T (a : Int → Bool) {f h : List (List FLit)} (e : negF f = some h) : formT a h = !formT a f := by
  rw [negFrom_T a f [[]] h e]; simp [formT, termT]
/-- The assignment after an action. -/
def afterA (a : Int → Bool) (c : FAct) (i : Int) : Bool := formT a (whenL ⟨i, false⟩ false c.effects) || (a i && !formT a (whenL ⟨i, false⟩ true c.effects))
theorem whenL_fact (x : FLit) (b : Bool) (neg : Bool) (es : List FEff) : whenL ⟨x.fact, b⟩ neg es = whenL x neg es := rfl
theorem one_T (a : Int → Bool) (x : FLit) : formT a [[x]] = litT a x := by simp [formT, termT]
theorem beforeF_T (a : Int → Bool) {c : FAct} {x : FLit} {h : List (List FLit)} (e : beforeF c x = some h) : formT a h = litT (afterA a c) x := by
  have hl : litT (afterA a c) x = ((formT a (whenL x false c.effects) || (a x.fact && !formT a (whenL x true c.effects))) != x.neg) := rfl
  rw [hl]
  have ho : litT a x = (a x.fact != x.neg) := rfl
  unfold beforeF at e
  split at e
  · rename_i hn
    rw [hn] at ho ⊢
    cases h1 : negF (whenL x false c.effects) with
    | none => rw [h1] at e; simp at e
    | some kept =>
      rw [h1] at e; simp only at e
      cases h2 : bothF kept (reducedL (whenL x true c.effects ++ [[x]])) with
      | none => rw [h2] at e; simp at e
      | some k =>
        rw [h2] at e; simp only at e
        split at e
        · injection e with e; subst e
          rw [bothF_T a h2, negF_T a h1, reducedL_T, formT_app, one_T, ho]
          cases formT a (whenL x false c.effects) <;> cases formT a (whenL x true c.effects) <;> cases a x.fact <;> rfl
        · simp at e
  · rename_i hn
    have hn : x.neg = false := by simpa using hn
    rw [hn] at ho ⊢
    cases h1 : negF (whenL x true c.effects) with
    | none => rw [h1] at e; simp at e
    | some kept =>
      rw [h1] at e; simp only at e
      cases h2 : bothF kept [[x]] with
      | none => rw [h2] at e; simp at e
      | some k =>
        rw [h2] at e; simp only at e
        split at e
        · injection e with e; subst e
          rw [reducedL_T, formT_app, bothF_T a h2, negF_T a h1, one_T, ho]
          cases formT a (whenL x false c.effects) <;> cases formT a (whenL x true c.effects) <;> cases a x.fact <;> rfl
        · simp at e
theorem backTerm_T (a : Int → Bool) {c : FAct} : ∀ (l : List FLit) (g h : List (List FLit)), backTerm c g l = some h → formT a h = (formT a g && termT (afterA a c) l)
  | [], g, h, e => by simp [backTerm] at e; subst e; simp [termT]
  | x :: l, g, h, e => by
    rw [backTerm] at e
    cases h1 : beforeF c x with
    | none => rw [h1] at e; simp at e
    | some b =>
      rw [h1] at e; simp only at e
      cases h2 : bothF g b with
      | none => rw [h2] at e; simp at e
      | some k =>
        rw [h2] at e; simp only at e
        split at e
        · rw [backTerm_T a l k h e, bothF_T a h2, beforeF_T a h1, termT_cons, Bool.and_assoc]
        · simp at e
theorem backFrom_T (a : Int → Bool) {c : FAct} : ∀ (f out h : List (List FLit)), backFrom c out f = some h → formT a h = (formT a out || (termT a c.pre && formT (afterA a c) f))
  | [], out, h, e => by
    rw [backFrom] at e
    split at e
    · injection e with e; subst e; rw [reducedL_T]; simp [formT]
    · simp at e
  | l :: f, out, h, e => by
    rw [backFrom] at e
    cases h1 : backTerm c [c.pre] l with
    | none => rw [h1] at e; simp at e
    | some g =>
      rw [h1] at e; simp only at e
      split at e
      · simp at e
      · have h2 := backTerm_T a l _ _ h1
        have h3 : formT a [c.pre] = termT a c.pre := by simp [formT]
        rw [backFrom_T a f _ h e, formT_app, h2, h3, formT_cons, Bool.and_or_distrib_left, Bool.or_assoc]
theorem backF_T (a : Int → Bool) {c : FAct} {f h : List (List FLit)} (e : backF c f = some h) : formT a h = (termT a c.pre && formT (afterA a c) f) := by
  rw [backFrom_T a f [] h e]; simp [formT]
theorem aheadF_T (a : Int → Bool) {n : Int} (hn : n ≤ 400) {c : FAct} (hc : AV_ n c) {f h : List (List FLit)} (e : aheadF c f = some h) : formT a h = (!termT a c.pre || (termT a c.pre && formT (afterA a c) f)) := by
  unfold aheadF at e
  cases h1 : backF c f with
  | none => rw [h1] at e; simp at e
  | some g =>
    rw [h1] at e; simp only at e
    split at e
    · injection e with e; subst e
      obtain ⟨k, hk⟩ := neg_one hn hc.pre
      rw [hk, Option.getD_some, reducedL_T, formT_app, negF_T a hk, backF_T a h1]
      simp [formT]
    · simp at e
/-! ### Reduced form -/
theorem reducedL_idem {n : Int} {f : List (List FLit)} (hf : vF n f) : reducedL (reducedL f) = reducedL f :=
  strict_unique (reducedL_strict _) (reducedL_strict _) fun x => by
    rw [reducedL_minimal (reducedL_V hf)]
    constructor
    · exact fun h => h.1
    · intro h
      exact ⟨h, fun m hm hw => ((reducedL_minimal hf x).1 h).2 m (reducedL_mem hm) hw⟩
/-- A formula of n facts in reduced form. -/
def RedF (n : Int) (h : List (List FLit)) : Prop := ∃ k, vF n k ∧ h = reducedL k
theorem RedF.V {n : Int} {h : List (List FLit)} (r : RedF n h) : vF n h := by obtain ⟨k, hk, rfl⟩ := r; exact reducedL_V hk
theorem RedF.good {n : Int} {h : List (List FLit)} (r : RedF n h) (hl : h.length ≤ 400) : goodB n h = true := by
  have hv := r.V
  obtain ⟨k, hk, rfl⟩ := r
  rw [goodB, isForm, refRed_eq hv, reducedL_idem hk]
  have : formB n (reducedL k) = true := List.all_eq_true.2 fun l hl => hv l hl
  rw [this]; simp [hl]
theorem bothF_R {n : Int} {f g h : List (List FLit)} (e : bothF f g = some h) (hf : vF n f) (hg : vF n g) : RedF n h := by
  refine ⟨_, ?_, bothF_red e⟩
  refine prodL_V ?_ ?_
  · unfold bigL; split
    · exact reducedL_V hf
    · exact hf
  · unfold bigL; split
    · exact reducedL_V hg
    · exact hg
theorem negFrom_R {n : Int} : ∀ {f out h : List (List FLit)}, negFrom out f = some h → RedF n out → vF n f → RedF n h
  | [], out, h, e, ho, _ => by simp [negFrom] at e; subst e; exact ho
  | l :: f, out, h, e, ho, hf => by
    rw [negFrom] at e
    cases h1 : bothF out (negL l) with
    | none => rw [h1] at e; simp at e
    | some o =>
      rw [h1] at e; simp only at e
      split at e
      · exact negFrom_R e (bothF_R h1 ho.V (negL_V (hf l List.mem_cons_self))) (fun m hm => hf m (List.mem_cons_of_mem _ hm))
      · simp at e
theorem empty_R (n : Int) : RedF n [[]] := ⟨[[]], by intro l hl; rw [List.mem_singleton.1 hl]; rfl, rfl⟩
theorem negF_R {n : Int} {f h : List (List FLit)} (e : negF f = some h) (hf : vF n f) : RedF n h := negFrom_R e (empty_R n) hf
theorem backFrom_R {n : Int} {c : FAct} (hc : AV_ n c) : ∀ {f out h : List (List FLit)}, backFrom c out f = some h → vF n out → vF n f → RedF n h
  | [], out, h, e, ho, _ => by
    rw [backFrom] at e
    split at e
    · injection e with e; exact ⟨out, ho, e.symm⟩
    · simp at e
  | l :: f, out, h, e, ho, hf => by
    rw [backFrom] at e
    cases h1 : backTerm c [c.pre] l with
    | none => rw [h1] at e; simp at e
    | some g =>
      rw [h1] at e; simp only at e
      split at e
      · simp at e
      · have hl := hf l List.mem_cons_self
        exact backFrom_R hc e (append_V ho (backTerm_V hc (fun x hx => lit_V hl hx) (one_V hc.pre) h1)) (fun m hm => hf m (List.mem_cons_of_mem _ hm))
theorem backF_R {n : Int} {c : FAct} (hc : AV_ n c) {f h : List (List FLit)} (e : backF c f = some h) (hf : vF n f) : RedF n h := backFrom_R hc e (by intro l hl; simp at hl) hf
theorem aheadF_R {n : Int} (hn : n ≤ 400) {c : FAct} (hc : AV_ n c) {f h : List (List FLit)} (e : aheadF c f = some h) (hf : vF n f) : RedF n h ∧ h.length ≤ 400 := by
  unfold aheadF at e
  cases h1 : backF c f with
  | none => rw [h1] at e; simp at e
  | some g =>
    rw [h1] at e; simp only at e
    split at e
    · injection e with e; subst e
      obtain ⟨k, hk⟩ := neg_one hn hc.pre
      refine ⟨⟨_, ?_, rfl⟩, ‹_›⟩
      rw [hk]
      exact append_V (negF_V (one_V hc.pre) hk) (backF_V hc hf h1).1
    · simp at e
end Go.Proofs.Ytbnhijapbnfohaa
namespace Go.Proofs.Ytbnhijapbnfohaa
open Go.Ahl
/-! ### Of four facts there are 81 conditions -/
def enumC : Nat → Int → List (List FLit)
  | 0, _ => [[]]
  | k + 1, m => enumC k (m + 1) ++ ((enumC k (m + 1)).map (⟨m, false⟩ :: ·) ++ (enumC k (m + 1)).map (⟨m, true⟩ :: ·))
theorem enumC_len : ∀ (k : Nat) (m : Int), (enumC k m).length = 3 ^ k
  | 0, m => rfl
  | k + 1, m => by
    rw [enumC, List.length_append, List.length_append, List.length_map, List.length_map, enumC_len k, Nat.pow_succ]; omega
theorem enumC_mem {n : Int} : ∀ (k : Nat) (p : Int) (l : List FLit), condB n p l = true → n - (p + 1) ≤ k → l ∈ enumC k (p + 1)
  | 0, p, l, h, hk => by
    cases l with
    | nil => simp [enumC]
    | cons x l => have := condB_cons h; omega
  | k + 1, p, l, h, hk => by
    rw [enumC, List.mem_append, List.mem_append]
    cases l with
    | nil =>
      left
      exact enumC_mem (n := n) k (p + 1) [] rfl (by omega)
    | cons x l =>
      obtain ⟨h1, h2, h3⟩ := condB_cons h
      by_cases e : x.fact = p + 1
      · right
        rw [e] at h3
        have := enumC_mem k (p + 1) l h3 (by omega)
        obtain ⟨xf, xn⟩ := x
        dsimp only at e
        subst e
        cases xn
        · left; exact List.mem_map.2 ⟨l, this, rfl⟩
        · right; exact List.mem_map.2 ⟨l, this, rfl⟩
      · left
        exact enumC_mem k (p + 1) (x :: l) (condB_mk (by omega) h2 h3) (by omega)
theorem strict_len : ∀ (l m : List (List FLit)), l.Pairwise ltO → (∀ x ∈ l, x ∈ m) → l.length ≤ m.length
  | [], m, _, _ => by simp
  | x :: l, m, hp, h => by
    rw [List.pairwise_cons] at hp
    have hx := h x List.mem_cons_self
    have := strict_len l (m.erase x) hp.2 (fun y hy => by
      refine (List.mem_erase_of_ne ?_).2 (h y (List.mem_cons_of_mem _ hy))
      rintro rfl
      exact ltO_irrefl _ (hp.1 _ hy))
    rw [List.length_erase_of_mem hx] at this
    have hpos : 0 < m.length := List.length_pos_of_mem hx
    rw [List.length_cons]; omega
theorem small_len {n : Int} (hn : n ≤ 4) {f : List (List FLit)} (hf : vF n f) : (reducedL f).length ≤ 81 := by
  have h := strict_len (reducedL f) (enumC 4 (-1 + 1)) (reducedL_strict f) (fun x hx => enumC_mem 4 (-1) x (reducedL_V hf x hx) (by omega))
  rw [enumC_len] at h; exact h
theorem small_R {n : Int} (hn : n ≤ 4) {h : List (List FLit)} (r : RedF n h) : h.length ≤ 81 := by obtain ⟨k, hk, rfl⟩ := r; exact small_len hn hk
theorem small_both {n : Int} (hn : n ≤ 4) {f g : List (List FLit)} (hf : vF n f) (hg : vF n g) : ∃ h, bothF f g = some h ∧ h.length ≤ 81 := by
  have : ¬ 40000 < (bigL f g).1.length * (bigL f g).2.length := by
    unfold bigL
    split
    · have h1 := small_len hn hf
      have h2 := small_len hn hg
      have := Nat.mul_le_mul h1 h2
      dsimp only; omega
    · dsimp only; assumption
  refine ⟨reducedL (prodL (bigL f g).1 (bigL f g).2), by rw [bothF, if_neg this], ?_⟩
  have e : bothF f g = some (reducedL (prodL (bigL f g).1 (bigL f g).2)) := by rw [bothF, if_neg this]
  exact small_R hn (bothF_R e hf hg)
theorem small_negFrom {n : Int} (hn : n ≤ 4) : ∀ {f out : List (List FLit)}, vF n f → vF n out → ∃ h, negFrom out f = some h
  | [], out, _, _ => ⟨out, rfl⟩
  | l :: f, out, hf, ho => by
    obtain ⟨o, h1, h2⟩ := small_both hn ho (negL_V (hf l List.mem_cons_self))
    rw [negFrom, h1]
    simp only
    rw [if_pos (by omega)]
    exact small_negFrom hn (fun m hm => hf m (List.mem_cons_of_mem _ hm)) (bothF_V h1 ho (negL_V (hf l List.mem_cons_self)))
theorem small_neg {n : Int} (hn : n ≤ 4) {f : List (List FLit)} (hf : vF n f) : ∃ h, negF f = some h := small_negFrom hn hf (empty_R n).V
theorem small_before {n : Int} (hn : n ≤ 4) {c : FAct} (hc : AV_ n c) {x : FLit} (hx : cV n [x]) : ∃ h, beforeF c x = some h := by
  have v1 := whenL_V (x := x) (neg := false) hc.whens
  have v2 := whenL_V (x := x) (neg := true) hc.whens
  unfold beforeF
  split
  · obtain ⟨k, hk⟩ := small_neg hn v1
    rw [hk]; simp only
    obtain ⟨h, h1, h2⟩ := small_both hn (negF_V v1 hk) (reducedL_V (append_V v2 (one_V hx)))
    rw [h1]; simp only
    rw [if_pos (by omega)]; exact ⟨h, rfl⟩
  · obtain ⟨k, hk⟩ := small_neg hn v2
    rw [hk]; simp only
    obtain ⟨h, h1, h2⟩ := small_both hn (negF_V v2 hk) (one_V hx)
    rw [h1]; simp only
    rw [if_pos (by omega)]; exact ⟨_, rfl⟩
theorem small_backTerm {n : Int} (hn : n ≤ 4) {c : FAct} (hc : AV_ n c) : ∀ {l : List FLit} {g : List (List FLit)}, (∀ x ∈ l, cV n [x]) → vF n g → g.length ≤ 81 → ∃ h, backTerm c g l = some h ∧ h.length ≤ 81
  | [], g, _, hg, hl => ⟨g, rfl, hl⟩
  | x :: l, g, hx, hg, hl => by
    obtain ⟨b, h1⟩ := small_before hn hc (hx x List.mem_cons_self)
    have hb := beforeF_V hc (hx x List.mem_cons_self) h1
    obtain ⟨k, h2, h3⟩ := small_both hn hg hb
    rw [backTerm, h1]; simp only
    rw [h2]; simp only
    rw [if_pos (by omega)]
    exact small_backTerm hn hc (fun y hy => hx y (List.mem_cons_of_mem _ hy)) (bothF_V h2 hg hb) h3
theorem small_backFrom {n : Int} (hn : n ≤ 4) {c : FAct} (hc : AV_ n c) : ∀ {f out : List (List FLit)}, vF n f → vF n out → out.length + f.length * 81 ≤ 40000 → ∃ h, backFrom c out f = some h
  | [], out, _, ho, hl => by
    have := small_len hn ho
    exact ⟨_, by rw [backFrom, if_pos (by omega)]⟩
  | l :: f, out, hf, ho, hl => by
    have hlv := hf l List.mem_cons_self
    obtain ⟨g, h1, h2⟩ := small_backTerm hn hc (l := l) (g := [c.pre]) (fun x hx => lit_V hlv hx) (one_V hc.pre) (by simp)
    have hg := backTerm_V hc (fun x hx => lit_V hlv hx) (one_V hc.pre) h1
    rw [List.length_cons] at hl
    rw [backFrom, h1]; simp only
    rw [if_neg (by omega)]
    exact small_backFrom hn hc (fun m hm => hf m (List.mem_cons_of_mem _ hm)) (append_V ho hg) (by rw [List.length_append]; omega)
theorem small_back {n : Int} (hn : n ≤ 4) {c : FAct} (hc : AV_ n c) {f : List (List FLit)} (hf : vF n f) (hl : f.length ≤ 400) : ∃ h, backF c f = some h := small_backFrom hn hc hf (by intro l hl; simp at hl) (by simp; omega)
theorem small_ahead {n : Int} (hn : n ≤ 4) {c : FAct} (hc : AV_ n c) {f : List (List FLit)} (hf : vF n f) (hl : f.length ≤ 400) : ∃ h, aheadF c f = some h := by
  obtain ⟨g, hg⟩ := small_back hn hc hf hl
  obtain ⟨k, hk⟩ := neg_one (by omega) hc.pre
  have := small_len hn (append_V (negF_V (one_V hc.pre) hk) (backF_V hc hf hg).1)
  unfold aheadF
  rw [hg, hk]; simp only [Option.getD_some]
  rw [if_pos (by omega)]; exact ⟨_, rfl⟩
/-! ### The state after an action -/
theorem listB_mem : ∀ (w : List Bool) (k : Nat) (x : Int), x ∈ listB k w ↔ ∃ j : Nat, x = ((k + j : Nat) : Int) ∧ w[j]? = some true
  | [], k, x => by simp [listB]
  | b :: w, k, x => by
    have ih := listB_mem w (k + 1) x
    have key : x ∈ listB (k + 1) w ↔ ∃ j : Nat, x = ((k + (j + 1) : Nat) : Int) ∧ (b :: w)[j + 1]? = some true := by
      rw [ih]
      constructor
      · rintro ⟨j, h1, h2⟩; exact ⟨j, by rw [h1]; omega, by simpa using h2⟩
      · rintro ⟨j, h1, h2⟩; exact ⟨j, by rw [h1]; omega, by simpa using h2⟩
    rw [listB]
    split
    · rename_i hb
      rw [List.mem_cons, key]
      constructor
      · rintro (rfl | ⟨j, h1, h2⟩)
        · exact ⟨0, by simp, by simp [hb]⟩
        · exact ⟨j + 1, h1, h2⟩
      · rintro ⟨j, h1, h2⟩
        cases j with
        | zero => left; simpa using h1
        | succ j => right; exact ⟨j, h1, h2⟩
    · rename_i hb
      rw [key]
      constructor
      · rintro ⟨j, h1, h2⟩; exact ⟨j + 1, h1, h2⟩
      · rintro ⟨j, h1, h2⟩
        cases j with
        | zero => simp at h2; exact absurd h2 hb
        | succ j => exact ⟨j, h1, h2⟩
theorem listB_rising (n : Int) : ∀ (w : List Bool) (k : Nat) (p : Int), p < k → (k : Int) + w.length ≤ n → risingB n p (listB k w) = true
  | [], k, p, h, hn => rfl
  | b :: w, k, p, h, hn => by
    rw [List.length_cons] at hn
    rw [listB]
    split
    · rw [risingB, Bool.and_eq_true, Bool.and_eq_true]
      exact ⟨⟨by simpa using h, by simp; omega⟩, listB_rising n w (k + 1) k (by omega) (by omega)⟩
    · exact listB_rising n w (k + 1) p (by omega) (by omega)
theorem hits_T (s : List Int) (neg : Bool) (es : List FEff) (i : Nat) : hits s neg es i = formT (fun i => s.contains i) (whenL ⟨(i : Int), false⟩ neg es) := by
  unfold hits formT whenL
  rw [List.any_map, List.any_filter]
  congr 1
  funext e
  simp only [Function.comp]
  have : condHolds s e.when_ = termT (fun i => s.contains i) e.when_ := rfl
  rw [this]
  cases (e.lit.neg == neg) <;> cases (e.lit.fact == (i : Int)) <;> simp
theorem afterL_contains {n : Nat} (s : List Int) (c : FAct) {i : Int} (h0 : 0 ≤ i) (h1 : i < n) : (afterL n s c).contains i = afterA (fun i => s.contains i) c i := by
  obtain ⟨k, rfl⟩ : ∃ k : Nat, i = (k : Int) := ⟨i.toNat, by omega⟩
  rw [List.contains_eq_mem]
  have hk : k < n := by omega
  have hg : (afterB n s c)[k]? = some (afterA (fun i => s.contains i) c (k : Int)) := by
    rw [afterB, genB_get hk, hits_T, hits_T]; rfl
  have : ((k : Int) ∈ afterL n s c) ↔ afterA (fun i => s.contains i) c (k : Int) = true := by
    rw [afterL, listB_mem]
    constructor
    · rintro ⟨j, h1, h2⟩
      have : j = k := by omega
      subst this
      rw [hg] at h2; injection h2
    · intro h
      exact ⟨k, by simp, by rw [hg, h]⟩
  cases hq : afterA (fun i => s.contains i) c (k : Int)
  · exact decide_eq_false (fun h => by have := this.1 h; rw [hq] at this; exact absurd this (by simp))
  · exact decide_eq_true (this.2 hq)
theorem afterL_T {n : Nat} (s : List Int) (c : FAct) {f : List (List FLit)} (hf : vF n f) : formHolds (afterL n s c) f = formT (afterA (fun i => s.contains i) c) f := by
  rw [formHolds_T]
  induction f with
  | nil => rfl
  | cons l f ih =>
    rw [formT_cons, formT_cons, ih (fun m hm => hf m (List.mem_cons_of_mem _ hm))]
    congr 1
    have hl := (cond_apart (hf l List.mem_cons_self)).1
    clear ih hf
    induction l with
    | nil => rfl
    | cons x l ih =>
      rw [termT_cons, termT_cons, ih (fun y hy => hl y (List.mem_cons_of_mem _ hy))]
      congr 1
      have hx := hl x List.mem_cons_self
      unfold litT
      show ((afterL n s c).contains x.fact != x.neg) = _
      rw [afterL_contains s c (by omega) hx.2]
theorem afterL_len {n : Nat} (s : List Int) (c : FAct) : (afterL n s c).length ≤ n := by
  have h := listB_rising n (afterB n s c) 0 (-1) (by omega) (by rw [afterB, genB_len]; omega)
  rcases risingB_len _ _ h with h | h
  · rw [afterL, h]; simp
  · rw [afterL]; omega
end Go.Proofs.Ytbnhijapbnfohaa
namespace Go.Proofs.Ytbnhijapbnfohaa
open Go.Ahl
theorem fineE_fault (t : FTask) : ∀ fs : List (List (List FLit)), fs ≠ [] → fineE t fs = if validB t then (if fs.all (isForm t.facts.length) then 0 else 70) else 10
  | [], h => absurd rfl h
  | [f], _ => by
    rw [fineE]; unfold checkE
    cases h1 : validB t <;> cases h2 : isForm t.facts.length f <;> simp [h2, fineE]
  | f :: g :: r, _ => by
    rw [fineE, fineE_fault t (g :: r) (by simp), List.all_cons (a := f)]; unfold checkE
    cases h1 : validB t <;> cases h2 : isForm t.facts.length f <;> simp [h2]
theorem fewB_size {t : FTask} {fs : List (List (List FLit))} (h : fewB t fs = true) : taskSize t ≤ 400 ∧ (fs.map formSize).sum ≤ 2400 := by
  rw [fewB, fewT, Bool.and_eq_true, Bool.and_eq_true, decide_eq_true_eq, decide_eq_true_eq] at h
  exact ⟨h.1.1, h.2⟩
/-! ### What a call that makes a formula comes back with -/
def outF (o : Option (List (List FLit))) : List (List FLit) := o.getD []
def outT (o : Option (List (List FLit))) : Tok := match o with | none => .nil | some _ => .unk
def outE (o : Option (List (List FLit))) : Int := match o with | none => 2 | some _ => 0
theorem retF_out (o : Option (List (List FLit))) : retF 0 o = .tuple [.slice (outT o) ((outF o).map encC), .int .i64 (outE o)] := by cases o <;> rfl
theorem vF_size {n : Int} (hn : n ≤ 1000000) {h : List (List FLit)} (hv : vF n h) (hl : h.length ≤ 400) : FB h ∧ FB (refRed h) ∧ h.length ≤ 1073741824 ∧ ∀ l ∈ h, l.length ≤ 1073741824 := by
  have h1 : ∀ l, cV n l → l.length ≤ 1000000 := fun l hl => by rcases condB_len hl with h | h; simp [h]; omega
  refine ⟨⟨by omega, fun l hl => by have := h1 l (hv l hl); omega⟩, ?_, by omega, fun l hl => by have := h1 l (hv l hl); omega⟩
  rw [refRed_eq hv]
  exact ⟨by have := reducedL_len h; omega, fun l hl => by have := h1 l (reducedL_V hv l hl); omega⟩
/-- A formula that was returned is as it should be, or there is none and that is permitted. -/
structure OutOk (n : Int) (o : Option (List (List FLit))) (large : Bool) : Prop where
  red : ∀ h, o = some h → RedF n h ∧ h.length ≤ 400
  none_ : o = none → large = true
theorem OutOk.size {n : Int} {o : Option (List (List FLit))} {large : Bool} (h : OutOk n o large) (hn : n ≤ 1000000) : FB (outF o) ∧ FB (refRed (outF o)) ∧ (outF o).length ≤ 1073741824 ∧ ∀ l ∈ outF o, l.length ≤ 1073741824 := by
  cases o with
  | none => exact vF_size hn (h := []) (by intro l hl; simp at hl) (by simp)
  | some k => exact vF_size hn (h.red k rfl).1.V (h.red k rfl).2
theorem OutOk.res {n : Int} {o : Option (List (List FLit))} {large : Bool} (h : OutOk n o large) : (if outE o = 0 then goodB n (outF o) else (decide (outE o = 2) && large && decide ((outF o).length = 0))) = true := by
  cases o with
  | none => rw [h.none_ rfl]; rfl
  | some k => rw [if_pos (show outE (some k) = 0 from rfl)]; exact (h.red k rfl).1.good (h.red k rfl).2
theorem risingB_mem {n : Int} : ∀ {s : List Int} {p : Int}, risingB n p s = true → ∀ x ∈ s, p < x ∧ x < n
  | [], p, h, x, hx => by simp at hx
  | y :: s, p, h, x, hx => by
    rw [risingB, Bool.and_eq_true, Bool.and_eq_true, decide_eq_true_eq, decide_eq_true_eq] at h
    rcases List.mem_cons.1 hx with rfl | hx
    · exact h.1
    · have := risingB_mem h.2 x hx; omega
theorem statesOf_len {n : Nat} {l : List (List Int)} (hl : l.length ≤ 60) : (statesOf n l).length ≤ 1048576 := by
  unfold statesOf
  split
  · rw [statesL_len]
    have : (2 : Nat) ^ n ≤ 2 ^ 8 := Nat.pow_le_pow_right (by omega) (by omega)
    omega
  · have := List.length_filter_le (risingB n (-1)) l; omega
end Go.Proofs.Ytbnhijapbnfohaa
