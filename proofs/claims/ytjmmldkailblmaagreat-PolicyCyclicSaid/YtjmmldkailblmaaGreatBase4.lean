/- Contracts of the given program's functions, and an abstract layer over the model; no condition. -/
import Derived.Test.YtjmmldkailblmaaGreatBase3
set_option maxRecDepth 20000
set_option linter.unusedVariables false
set_option linter.unusedSimpArgs false
namespace Go.Proofs.YtjmmldkailblmaaGreat
open Go.Ahl
def ab (b : Bool) : AV := .bool b
def genB (n : Nat) (p : Nat → Bool) : List Bool := (List.range n).map p
theorem genB_len (n : Nat) (p : Nat → Bool) : (genB n p).length = n := by simp [genB]
theorem genB_get {n : Nat} {p : Nat → Bool} {k : Nat} (h : k < n) : (genB n p)[k]? = some (p k) := by
 rw [genB, List.getElem?_map, List.getElem?_range h]; rfl
theorem genB_cong {n : Nat} {p q : Nat → Bool} (h : ∀ i, i < n → p i = q i) : genB n p = genB n q := by
 unfold genB
 exact List.map_congr_left fun i hi => h i (List.mem_range.1 hi)
theorem genB_set (n : Nat) (p : Nat → Bool) (k : Nat) (v : Bool) : (genB n p).set k v = genB n (fun i => if i = k then v else p i) := by
 apply List.ext_getElem?
 intro i
 by_cases hi : i < n
 ·rw [genB_get hi]
  by_cases hk : k = i
  ·subst hk
   rw [List.getElem?_set_self (by rw [genB_len]; exact hi), if_pos rfl]
  ·rw [List.getElem?_set_ne hk, genB_get hi, if_neg (Ne.symm hk)]
 ·rw [List.getElem?_eq_none (by rw [List.length_set, genB_len]; omega), List.getElem?_eq_none (by rw [genB_len]; omega)]
theorem bset (w : List Bool) (k : Nat) (b : Bool) : (w.map ab).set k (.bool b) = (w.set k b).map ab := by rw [List.map_set]; rfl
theorem rep_ab (n : Nat) : (List.replicate n [AV.bool false]).flatten = (genB n fun _ => false).map ab := by
 unfold genB
 induction n with
 | zero => rfl
 | succ n ih =>
  rw [List.replicate_succ', List.flatten_concat, ih, List.range_succ, List.map_append, List.map_append]; rfl
theorem ids_ab {n : Nat} (w : List Bool) : IdsO n (.row (w.map ab)) := idsO_row (by intro x hx; obtain ⟨y, _, rfl⟩ := List.mem_map.1 hx; exact .bool _)
def c_bits : CCode := .seq (.ops [oS 4 (.move (.lit (.slice .nil [])))]) (.seq (.ops [oS 8 (.move (.tmp 0)), oS 9 (.mkslice 1 1 [.bool false] (.tmp 8) (.tmp 8) true), oS 5 (.move (.tmp 9))]) (.seq (.seq (.ops [oS 10 (.move (.tmp 1)), oS 11 (.blen 1 (.tmp 10)), oS 12 (.move (.lit (.int .i64 0)))]) (.block 0 (.loop (.seq (.ops [oS 13 (.bin .lss .none (.tmp 12) (.tmp 11))]) (.seq (.cond (.tmp 13) .skip (.exit 0)) (.seq (.block 1 (.seq (.ops [oS 14 (.iaddr 1 (.tmp 10) (.tmp 12)), oS 15 (.load none (.tmp 14)), oS 7 (.move (.tmp 15))]) (.ops [oS 16 (.move (.tmp 5)), oS 17 (.move (.tmp 7)), oS 18 (.iaddr 1 (.tmp 16) (.tmp 17)), oN (.store 1 (.tmp 18) (.lit (.bool true)))]))) (.ops [oS 19 (.bin .add .none (.tmp 12) (.lit (.int .i64 1))), oS 12 (.move (.tmp 19))]))))))) (.seq (.ops [oS 20 (.move (.tmp 5)), oS 4 (.move (.tmp 20))]) .ret)))
theorem bits_spec (n : Nat) (s : List Int) (tok : Tok) (σ : Store) (hn : n ≤ 1048576) (hs : ∀ x ∈ s, 0 ≤ x ∧ x < n) (hl : s.length ≤ 1048576) :
  ACalls Tryz.prog 97 [.int .i64 n, .slice tok (s.map Ahl.encI)] σ (fun r σ' => r = .ref σ.length 1 0 n ∧ σ' = σ ++ [.row ((genB n fun i => s.contains (i : Int)).map ab)]) := by
 refine ACalls.intro (rs := [(.tmp 4)]) (by kernel_rfl) { own := [(0, 1), (1, 1), (2, 1), (3, 1)], ghosts := [] } Tryz.func97 (c := Tryz.f97.body.getD .skip) (by kernel_rfl) (by decide) (by rw [show Tryz.f97.ntmps = 21 by kernel_rfl]; exact Nat.le_of_ble_eq_true rfl) (by kernel_rfl) ?_
 intro hσ hids
 rw [show comp Tryz.prog { own := [(0, 1), (1, 1), (2, 1), (3, 1)], ghosts := [] } (Tryz.f97.body.getD .skip) = c_bits by kernel_rfl, show Tryz.f97.ntmps = 21 by kernel_rfl]
 unfold c_bits
 have hil : Ids σ.length (.slice tok (s.map Ahl.encI)) := hids _ (by simp)
 have hs1 : ∀ w : List Bool, IdsS (σ ++ [AObj.row (w.map ab)]).length (σ ++ [AObj.row (w.map ab)]) := fun w => idsS_push hσ (ids_ab w)
 simp only [go_sem, simprocAttr, aMkslice, rep_ab]
 refine ⟨Int.le_refl _, by omega, by omega, ?_⟩
 refine wpc_while (fun (i : Nat) => [(5, .ref σ.length 1 0 n), (10, .slice tok (s.map Ahl.encI)), (11, .int .i64 s.length), (12, .int .i64 i)]) (fun i => σ ++ [.row ((genB n fun k => (s.take i).contains (k : Int)).map ab)]) (fun i => i ≤ s.length) (fun i => s.length - i) 0 (Nat.zero_le _) (by (try dsimp only); simp only [List.take_zero, List.contains_nil]; first | exact ghL (hs1 _) | exact ghL0 (hs1 _)) ?_
 intro i hi K hK hE hR
 by_cases h : i < s.length
 ·obtain ⟨x, hx⟩ := get_ex h; have hlt : ((i : Int) < (s.length : Int)) := (by omega); have hw := wrapS (i := i) (by omega)
  obtain ⟨x0, x1⟩ := hs x (List.mem_of_getElem? hx)
  have x2 : x.toNat < n := by omega
  have x3 : x.toNat + 1 ≤ n := by omega
  simp only [go_sem, simprocAttr, hlt, hx, Ahl.encI, x0, x2, genB_len, x3, bset, genB_set]
  have hc : (genB n fun k => (s.take (i + 1)).contains (k : Int)) = genB n (fun k => if k = x.toNat then true else (s.take i).contains (k : Int)) := genB_cong fun k hk => by
   rw [take_succ' hx, List.contains_eq_mem, List.contains_eq_mem]
   by_cases e : k = x.toNat
   ·rw [if_pos e]; simp; right; omega
   ·rw [if_neg e]
    apply decide_eq_decide.2
    rw [List.mem_append, List.mem_singleton]
    constructor
    ·rintro (h | h)
     ·exact h
     ·omega
    ·exact .inl
  refine hK _ _ (i + 1) (by omega) (by omega) ?_
  (try dsimp only); simp only [hw, hc]; first | exact ghL (hs1 _) | exact ghL0 (hs1 _)
 ·have hlt : ¬ ((i : Int) < (s.length : Int)) := by omega
  simp only [go_sem, simprocAttr, hlt, hE]
  rw [List.take_of_length_le (by omega)]
  exact ret_gh (v := .ref σ.length 1 0 n) (σ' := σ ++ [.row ((genB n fun i => s.contains (i : Int)).map ab)]) (by first | exact ghL (hs1 _) | exact ghL0 (hs1 _)) (by simp) (hs1 _) (.ref _ _ _ _ (by simp)) ⟨rfl, rfl⟩
def listB : Nat → List Bool → List Int
 | _, [] => []
 | k, b :: r => if b then (k : Int) :: listB (k + 1) r else listB (k + 1) r
def c_listed : CCode := .seq (.ops [oS 2 (.move (.lit (.slice .nil [])))]) (.seq (.ops [oS 3 (.move (.lit (.slice .nil [])))]) (.seq (.seq (.ops [oS 6 (.move (.tmp 0)), oS 7 (.blen 1 (.tmp 6)), oS 8 (.move (.lit (.int .i64 0)))]) (.block 0 (.loop (.seq (.ops [oS 9 (.bin .lss .none (.tmp 8) (.tmp 7))]) (.seq (.cond (.tmp 9) .skip (.exit 0)) (.seq (.block 1 (.seq (.ops [oS 10 (.move (.tmp 8)), oS 11 (.iaddr 1 (.tmp 6) (.tmp 8)), oS 12 (.load none (.tmp 11)), oS 4 (.move (.tmp 10)), oS 5 (.move (.tmp 12))]) (.seq (.ops [oS 13 (.move (.tmp 5))]) (.cond (.tmp 13) (.ops [oS 14 (.move (.tmp 3)), oS 15 (.move (.tmp 4)), oS 16 (.bslice 1 [.tmp 15] false), oS 17 (.bappend 1 8 (.tmp 14) (.tmp 16) false), oS 3 (.move (.tmp 17))]) .skip)))) (.ops [oS 18 (.bin .add .none (.tmp 8) (.lit (.int .i64 1))), oS 8 (.move (.tmp 18))]))))))) (.seq (.ops [oS 19 (.move (.tmp 3)), oS 2 (.move (.tmp 19))]) .ret)))
theorem listed_spec (id : Nat) (w : List Bool) (σ : Store) (hid : σ[id]? = some (.row (w.map ab))) (hl : w.length ≤ 1048576) :
  ACalls Tryz.prog 98 [.ref id 1 0 w.length] σ (isR (.slice .unk ((listB 0 w).map Ahl.encI)) σ) := by
 refine ACalls.intro (rs := [(.tmp 2)]) (by kernel_rfl) { own := [], ghosts := [] } Tryz.func98 (c := Tryz.f98.body.getD .skip) (by kernel_rfl) (by decide) (by rw [show Tryz.f98.ntmps = 20 by kernel_rfl]; exact Nat.le_of_ble_eq_true rfl) (by kernel_rfl) ?_
 intro hσ hids
 rw [show comp Tryz.prog { own := [], ghosts := [] } (Tryz.f98.body.getD .skip) = c_listed by kernel_rfl, show Tryz.f98.ntmps = 20 by kernel_rfl]
 unfold c_listed
 have hs1 : ∀ k : Nat, IdsS (σ ++ [AObj.grow 1 k]).length (σ ++ [AObj.grow 1 k]) := fun k => idsS_push hσ trivial
 have iid := lt_of_get hid
 have hid' : ∀ l, (σ ++ l)[id]? = some (.row (w.map ab)) := fun l => by rw [List.getElem?_append_left iid]; exact hid
 simp only [go_sem, simprocAttr]
 refine wpc_while (fun (q : Nat × List Int) => [(3, .slice (.grow σ.length) (q.2.map Ahl.encI)), (6, .ref id 1 0 w.length), (7, .int .i64 w.length), (8, .int .i64 q.1)]) (fun q => σ ++ [.grow 1 q.2.length])
  (fun q => q.1 ≤ w.length ∧ q.2.length ≤ q.1 ∧ q.2 ++ listB q.1 (w.drop q.1) = listB 0 w) (fun q => w.length - q.1) (0, []) ⟨Nat.zero_le _, Nat.le_refl _, rfl⟩ (by first | exact .begin0 3 1 _ (Nat.le_refl _) tellT hσ | exact .begin 3 1 _ (Nat.le_refl _) tellT hσ) ?_
 rintro ⟨i, out⟩ ⟨hi, ho, hv⟩ K hK hE hR
 dsimp only at hi ho hv ⊢
 by_cases h : i < w.length
 ·obtain ⟨b, hx⟩ := get_ex h; have hlt : ((i : Int) < (w.length : Int)) := (by omega); have hw := wrapS (i := i) (by omega)
  have hb1 : bigLen (out.length + 1) 8 := big_ok (by omega) (by omega)
  rw [drop_cons hx, listB] at hv
  cases b
  ·rw [if_neg (by simp)] at hv
   simp only [go_sem, simprocAttr, hlt, h, hid', hx, ab]
   refine hK _ _ (i + 1, out) ⟨by simp only []; omega, by simp only []; omega, hv⟩ (by simp only []; omega) ?_
   (try dsimp only); simp only [hw]; first | exact ghL (hs1 _) | exact ghL0 (hs1 _)
  ·rw [if_pos rfl] at hv
   simp only [go_sem, simprocAttr, hlt, h, hid', hx, ab, hb1]
   have hc : out.map Ahl.encI ++ [[AV.int .i64 i]] = (out ++ [(i : Int)]).map Ahl.encI := by simp [Ahl.encI]
   refine hK _ _ (i + 1, out ++ [(i : Int)]) ⟨by simp only []; omega, by simp only []; simp; omega, by simp only []; rw [← hv]; simp⟩ (by simp only []; omega) ?_
   (try dsimp only); simp only [hw, hc, List.length_append, List.length_singleton]; exact ghL (l := [.grow 1 (out.length + 1)]) (hs1 _)
 ·have hlt : ¬ ((i : Int) < (w.length : Int)) := by omega
  rw [drop_len h, listB, List.append_nil] at hv
  simp only [go_sem, simprocAttr, hlt, hE]
  exact rt (.slice .unk (out.map Ahl.encI)) ⟨by rw [hv], rfl⟩
def hits (s : List Int) (neg : Bool) (es : List FEff) (i : Nat) : Bool := es.any fun e => (e.lit.neg == neg) && ((e.lit.fact == (i : Int)) && condHolds s e.when_)
theorem hits_succ {s : List Int} {neg : Bool} {es : List FEff} {j : Nat} {e : FEff} (h : es[j]? = some e) (i : Nat) : hits s neg (es.take (j + 1)) i = (hits s neg (es.take j) i || ((e.lit.neg == neg) && ((e.lit.fact == (i : Int)) && condHolds s e.when_))) := by
 rw [hits, take_succ' h, List.any_append]; simp [hits]
def afterB (n : Nat) (s : List Int) (a : FAct) : List Bool := genB n fun i => hits s false a.effects i || (s.contains (i : Int) && !hits s true a.effects i)
def afterL (n : Nat) (s : List Int) (a : FAct) : List Int := listB 0 (afterB n s a)
def c_after : CCode := .seq (.ops [oS 3 (.box (.tmp 0)), oS 6 (.move (.lit (.slice .nil [])))]) (.seq (.ops [oS 12 (.faddr 0 (.tmp 3)), oS 13 (.load none (.tmp 12)), oS 14 (.blen 1 (.tmp 13)), oS 15 (.move (.tmp 1)), oS 16 (.call (.lit (.func 97 [])) [.tmp 14, .tmp 15]), oS 7 (.move (.tmp 16))]) (.seq (.seq (.ops [oS 17 (.faddr 3 (.tmp 3)), oS 18 (.load none (.tmp 17)), oS 19 (.move (.tmp 2)), oS 20 (.iaddr 4 (.tmp 18) (.tmp 19)), oS 21 (.faddr 3 (.tmp 20)), oS 22 (.load none (.tmp 21)), oS 23 (.blen 1 (.tmp 22)), oS 24 (.move (.lit (.int .i64 0)))]) (.block 0 (.loop (.seq (.ops [oS 25 (.bin .lss .none (.tmp 24) (.tmp 23))]) (.seq (.cond (.tmp 25) .skip (.exit 0)) (.seq (.block 1 (.seq (.ops [oS 26 (.iaddr 3 (.tmp 22) (.tmp 24)), oS 27 (.load (some 3) (.tmp 26)), oS 9 (.alloc (.agg [.slice .nil [], .int .i64 0, .bool false])), oN (.store 3 (.tmp 9) (.tmp 27))]) (.seq (.ops [oS 28 (.faddr 1 (.tmp 9)), oS 29 (.faddr 1 (.tmp 28)), oS 30 (.load none (.tmp 29)), oS 31 (.move (.tmp 30)), oG 32 31 true (.move (.tmp 1)), oG 33 31 true (.faddr 0 (.tmp 9)), oG 34 31 true (.load none (.tmp 33)), oG 35 31 true (.call (.lit (.func 51 [])) [.tmp 32, .tmp 34]), oS 36 (.pick (.tmp 31) (.tmp 35) (.lit (.bool false)))]) (.cond (.tmp 36) (.ops [oS 37 (.move (.tmp 7)), oS 38 (.faddr 1 (.tmp 9)), oS 39 (.faddr 0 (.tmp 38)), oS 40 (.load none (.tmp 39)), oS 41 (.iaddr 1 (.tmp 37) (.tmp 40)), oN (.store 1 (.tmp 41) (.lit (.bool false)))]) .skip)))) (.ops [oS 42 (.bin .add .none (.tmp 24) (.lit (.int .i64 1))), oS 24 (.move (.tmp 42))]))))))) (.seq (.seq (.ops [oS 43 (.faddr 3 (.tmp 3)), oS 44 (.load none (.tmp 43)), oS 45 (.move (.tmp 2)), oS 46 (.iaddr 4 (.tmp 44) (.tmp 45)), oS 47 (.faddr 3 (.tmp 46)), oS 48 (.load none (.tmp 47)), oS 49 (.blen 1 (.tmp 48)), oS 50 (.move (.lit (.int .i64 0)))]) (.block 2 (.loop (.seq (.ops [oS 51 (.bin .lss .none (.tmp 50) (.tmp 49))]) (.seq (.cond (.tmp 51) .skip (.exit 2)) (.seq (.block 3 (.seq (.ops [oS 52 (.iaddr 3 (.tmp 48) (.tmp 50)), oS 53 (.load (some 3) (.tmp 52)), oS 11 (.alloc (.agg [.slice .nil [], .int .i64 0, .bool false])), oN (.store 3 (.tmp 11) (.tmp 53))]) (.seq (.ops [oS 54 (.faddr 1 (.tmp 11)), oS 55 (.faddr 1 (.tmp 54)), oS 56 (.load none (.tmp 55)), oS 57 (.un .not (.tmp 56)), oS 58 (.move (.tmp 57)), oG 59 58 true (.move (.tmp 1)), oG 60 58 true (.faddr 0 (.tmp 11)), oG 61 58 true (.load none (.tmp 60)), oG 62 58 true (.call (.lit (.func 51 [])) [.tmp 59, .tmp 61]), oS 63 (.pick (.tmp 58) (.tmp 62) (.lit (.bool false)))]) (.cond (.tmp 63) (.ops [oS 64 (.move (.tmp 7)), oS 65 (.faddr 1 (.tmp 11)), oS 66 (.faddr 0 (.tmp 65)), oS 67 (.load none (.tmp 66)), oS 68 (.iaddr 1 (.tmp 64) (.tmp 67)), oN (.store 1 (.tmp 68) (.lit (.bool true)))]) .skip)))) (.ops [oS 69 (.bin .add .none (.tmp 50) (.lit (.int .i64 1))), oS 50 (.move (.tmp 69))]))))))) (.seq (.ops [oS 70 (.move (.tmp 7)), oS 71 (.call (.lit (.func 98 [])) [.tmp 70]), oS 6 (.move (.tmp 71))]) .ret))))
set_option maxHeartbeats 1000000 in
theorem after_spec (t : FTask) (s : List Int) (k : Int) (a : FAct) (tok : Tok) (σ : Store) (hn : t.facts.length ≤ 1048576) (hs : ∀ x ∈ s, 0 ≤ x ∧ x < (t.facts.length : Int)) (hl : s.length ≤ 1048576) (hk : 0 ≤ k) (ha : t.actions[k.toNat]? = some a)
  (hae : a.effects.length ≤ 1048576) (he : ∀ e ∈ a.effects, e.when_.length ≤ 1048576 ∧ 0 ≤ e.lit.fact ∧ e.lit.fact < (t.facts.length : Int)) :
  ACalls Tryz.prog 66 [.agg (encTask t), .slice tok (s.map Ahl.encI), .int .i64 k] σ (isR (.slice .unk ((afterL t.facts.length s a).map Ahl.encI)) σ) := by
 refine ACalls.intro (rs := [(.tmp 6)]) (by kernel_rfl) { own := [], ghosts := [] } Tryz.func66 (c := Tryz.f66.body.getD .skip) (by kernel_rfl) (by decide) (by rw [show Tryz.f66.ntmps = 72 by kernel_rfl]; exact Nat.le_of_ble_eq_true rfl) (by kernel_rfl) ?_
 intro hσ hids
 rw [show comp Tryz.prog { own := [], ghosts := [] } (Tryz.f66.body.getD .skip) = c_after by kernel_rfl, show Tryz.f66.ntmps = 72 by kernel_rfl]
 unfold c_after
 have hil : Ids σ.length (.slice tok (s.map Ahl.encI)) := hids _ (by simp)
 have hs1 : ∀ w : List Bool, IdsS (σ ++ [AObj.row (encTask t), .row (w.map ab)]).length (σ ++ [AObj.row (encTask t), .row (w.map ab)]) := fun w => idsS_app _ hσ (by
  intro o ho
  simp only [List.mem_cons, List.not_mem_nil, or_false] at ho
  rcases ho with rfl | rfl
  ·exact idsO_row (ids_encTask t)
  ·exact ids_ab w)
 simp only [go_sem, simprocAttr, encTask]
 refine (bits_spec t.facts.length s tok _ hn hs hl).mono ?_
 rintro _ _ ⟨rfl, rfl⟩
 generalize hN : t.facts.length = n at *
 simp only [go_sem, simprocAttr, encTask, hk, ha, encA]
 refine wpc_while (fun (j : Nat) => [(1, .slice tok (s.map Ahl.encI)), (2, .int .i64 k), (3, .ptr σ.length 0), (7, .ref (σ.length + 1) 1 0 n), (22, .slice .unk (a.effects.map encE)), (23, .int .i64 a.effects.length), (24, .int .i64 j)])
  (fun j => σ ++ [.row (encTask t), .row ((genB n fun i => s.contains (i : Int) && !hits s true (a.effects.take j) i).map ab)]) (fun j => j ≤ a.effects.length) (fun j => a.effects.length - j) 0 (Nat.zero_le _) (by (try dsimp only); simp only [List.take_zero, hits, List.any_nil, Bool.not_false, Bool.and_true]; first | exact ghL (hs1 _) | exact ghL0 (hs1 _)) ?_
 intro j hj0 K hK hE hR
 by_cases hj : j < a.effects.length
 ·obtain ⟨e, hxj⟩ := get_ex hj; have hltj : ((j : Int) < (a.effects.length : Int)) := (by omega); have hwj := wrapS (i := j) (by omega)
  obtain ⟨e1, e2, e3⟩ := he e (List.mem_of_getElem? hxj)
  have e4 : e.lit.fact.toNat < n := by omega
  have e5 : e.lit.fact.toNat + 1 ≤ n := by omega
  cases hng : e.lit.neg
  ·simp only [go_sem, simprocAttr, hltj, hxj, encE, hng]
   have hc : (genB n fun i => s.contains (i : Int) && !hits s true (a.effects.take (j + 1)) i) = genB n fun i => s.contains (i : Int) && !hits s true (a.effects.take j) i := genB_cong fun i hi => by
    rw [hits_succ hxj, hng]; simp
   refine hK _ _ (j + 1) (by omega) (by omega) ?_
   (try dsimp only); simp only [hwj, hc]; first | exact ghL (hs1 _) | exact ghL0 (hs1 _)
  ·simp only [go_sem, simprocAttr, hltj, hxj, encE, hng]
   refine (holds02_spec s e.when_ tok .unk _ (by omega) (by omega)).is ?_
   cases hh : condHolds s e.when_
   ·simp only [go_sem, simprocAttr]
    have hc : (genB n fun i => s.contains (i : Int) && !hits s true (a.effects.take (j + 1)) i) = genB n fun i => s.contains (i : Int) && !hits s true (a.effects.take j) i := genB_cong fun i hi => by
     rw [hits_succ hxj, hng, hh]; simp
    refine hK _ _ (j + 1) (by omega) (by omega) ?_
    (try dsimp only); simp only [hwj, hc]; first | exact ghL (hs1 _) | exact ghL0 (hs1 _)
   ·simp only [go_sem, simprocAttr, e2, e4, genB_len, e5, bset, genB_set]
    have hc : (genB n fun i => s.contains (i : Int) && !hits s true (a.effects.take (j + 1)) i) = genB n (fun i => if i = e.lit.fact.toNat then false else s.contains (i : Int) && !hits s true (a.effects.take j) i) := genB_cong fun i hi => by
     rw [hits_succ hxj, hng, hh]
     by_cases q : i = e.lit.fact.toNat
     ·have : (e.lit.fact == (i : Int)) = true := by simp; omega
      rw [if_pos q, this]; simp
     ·have : (e.lit.fact == (i : Int)) = false := by simp; omega
      rw [if_neg q, this]; simp
    refine hK _ _ (j + 1) (by omega) (by omega) ?_
    (try dsimp only); simp only [hwj, hc]; first | exact ghL (hs1 _) | exact ghL0 (hs1 _)
 ·have hltj : ¬ ((j : Int) < (a.effects.length : Int)) := by omega
  have hje : j = a.effects.length := by omega
  subst hje
  simp only [go_sem, simprocAttr, hltj, hE, hk, ha, encA, encTask]
  clear hK hE hR
  refine wpc_while (fun (j : Nat) => [(1, .slice tok (s.map Ahl.encI)), (7, .ref (σ.length + 1) 1 0 n), (48, .slice .unk (a.effects.map encE)), (49, .int .i64 a.effects.length), (50, .int .i64 j)])
   (fun j => σ ++ [.row (encTask t), .row ((genB n fun i => hits s false (a.effects.take j) i || (s.contains (i : Int) && !hits s true a.effects i)).map ab)]) (fun j => j ≤ a.effects.length) (fun j => a.effects.length - j) 0 (Nat.zero_le _) (by (try dsimp only); simp only [List.take_zero, List.take_length]; have hz : ∀ i, hits s false [] i = false := (fun i => rfl); simp only [hz, Bool.false_or]; first | exact ghL (hs1 _) | exact ghL0 (hs1 _)) ?_
  intro j hj0 K hK hE hR
  by_cases hj : j < a.effects.length
  ·obtain ⟨e, hxj⟩ := get_ex hj; have hltj : ((j : Int) < (a.effects.length : Int)) := (by omega); have hwj := wrapS (i := j) (by omega)
   obtain ⟨e1, e2, e3⟩ := he e (List.mem_of_getElem? hxj)
   have e4 : e.lit.fact.toNat < n := by omega
   have e5 : e.lit.fact.toNat + 1 ≤ n := by omega
   cases hng : e.lit.neg
   ·simp only [go_sem, simprocAttr, hltj, hxj, encE, hng]
    refine (holds02_spec s e.when_ tok .unk _ (by omega) (by omega)).is ?_
    cases hh : condHolds s e.when_
    ·simp only [go_sem, simprocAttr]
     have hc : (genB n fun i => hits s false (a.effects.take (j + 1)) i || (s.contains (i : Int) && !hits s true a.effects i)) = genB n fun i => hits s false (a.effects.take j) i || (s.contains (i : Int) && !hits s true a.effects i) := genB_cong fun i hi => by
      rw [hits_succ hxj, hng, hh]; simp
     refine hK _ _ (j + 1) (by omega) (by omega) ?_
     (try dsimp only); simp only [hwj, hc]; first | exact ghL (hs1 _) | exact ghL0 (hs1 _)
    ·simp only [go_sem, simprocAttr, e2, e4, genB_len, e5, bset, genB_set]
     have hc : (genB n fun i => hits s false (a.effects.take (j + 1)) i || (s.contains (i : Int) && !hits s true a.effects i)) = genB n (fun i => if i = e.lit.fact.toNat then true else hits s false (a.effects.take j) i || (s.contains (i : Int) && !hits s true a.effects i)) := genB_cong fun i hi => by
      rw [hits_succ hxj, hng, hh]
      by_cases q : i = e.lit.fact.toNat
      ·have : (e.lit.fact == (i : Int)) = true := by simp; omega
       rw [if_pos q, this]; simp
      ·have : (e.lit.fact == (i : Int)) = false := by simp; omega
       rw [if_neg q, this]; simp
     refine hK _ _ (j + 1) (by omega) (by omega) ?_
     (try dsimp only); simp only [hwj, hc]; first | exact ghL (hs1 _) | exact ghL0 (hs1 _)
   ·simp only [go_sem, simprocAttr, hltj, hxj, encE, hng]
    have hc : (genB n fun i => hits s false (a.effects.take (j + 1)) i || (s.contains (i : Int) && !hits s true a.effects i)) = genB n fun i => hits s false (a.effects.take j) i || (s.contains (i : Int) && !hits s true a.effects i) := genB_cong fun i hi => by
     rw [hits_succ hxj, hng]; simp
    refine hK _ _ (j + 1) (by omega) (by omega) ?_
    (try dsimp only); simp only [hwj, hc]; first | exact ghL (hs1 _) | exact ghL0 (hs1 _)
  ·have hltj : ¬ ((j : Int) < (a.effects.length : Int)) := by omega
   have hje : j = a.effects.length := by omega
   subst hje
   rw [List.take_length]
   simp only [go_sem, simprocAttr, hltj, hE]
   have hL := listed_spec (σ.length + 1) (afterB n s a) (σ ++ [.row (encTask t), .row ((afterB n s a).map ab)]) (by rw [g_get]; rfl) (by rw [afterB, genB_len]; exact hn)
   rw [afterB, genB_len] at hL
   refine ACalls.is hL ?_
   simp only [go_sem, simprocAttr]
   exact rt (.slice .unk ((afterL n s a).map Ahl.encI)) ⟨rfl, rfl⟩
theorem risingB_len {n : Int} : ∀ (s : List Int) (p : Int), risingB n p s = true → s = [] ∨ (s.length : Int) + p < n
 | [], p, h => .inl rfl
 | x :: s, p, h => by
  rw [risingB, Bool.and_eq_true, Bool.and_eq_true, decide_eq_true_eq, decide_eq_true_eq] at h
  right
  rcases risingB_len s x h.2 with rfl | k
  ·simp; omega
  ·rw [List.length_cons]; omega
def valAt (w : List Int) (i : Int) : Int := (w[i.toNat]?).getD 0
def litV (w : List Int) (x : FLit) : Int := if x.neg then -valAt w x.fact else valAt w x.fact
def Tri (w : List Int) : Prop := ∀ y ∈ w, y = -1 ∨ y = 0 ∨ y = 1
def opens (w : List Int) : Nat := (w.filter (fun y => y == 0)).length
def Comp (w : List Int) (a : Int → Bool) : Prop := ∀ (i : Nat) y, w[i]? = some y → (y = 1 → a i = true) ∧ (y = -1 → a i = false)
def litT (a : Int → Bool) (x : FLit) : Bool := a x.fact != x.neg
def termT (a : Int → Bool) (l : List FLit) : Bool := l.all (litT a)
def ExtW (w w' : List Int) : Prop := w'.length = w.length ∧ ∀ (i : Nat) y, w[i]? = some y → y ≠ 0 → w'[i]? = some y
def sgn (x : FLit) : Int := if x.neg then -1 else 1
def inR (n : Nat) (x : FLit) : Prop := 0 ≤ x.fact ∧ x.fact < n
theorem ExtW.refl (w : List Int) : ExtW w w := ⟨rfl, fun _ _ h _ => h⟩
theorem ExtW.trans {a b c : List Int} (h : ExtW a b) (k : ExtW b c) : ExtW a c := ⟨k.1.trans h.1, fun i y e n => k.2 i y (h.2 i y e n) n⟩
theorem valAt_get {w : List Int} {x : FLit} (h : inR w.length x) : w[x.fact.toNat]? = some (valAt w x.fact) := by
 unfold valAt
 have : x.fact.toNat < w.length := by have := h.1; have := h.2; omega
 rw [List.getElem?_eq_getElem this]; rfl
theorem valAt_tri {w : List Int} (hw : Tri w) (i : Int) : valAt w i = -1 ∨ valAt w i = 0 ∨ valAt w i = 1 := by
 unfold valAt
 cases h : w[i.toNat]? with
 | none => exact .inr (.inl rfl)
 | some y => exact hw y (List.mem_of_getElem? h)
theorem litV_tri {w : List Int} (hw : Tri w) (x : FLit) : litV w x = -1 ∨ litV w x = 0 ∨ litV w x = 1 := by
 unfold litV
 rcases valAt_tri hw x.fact with h | h | h <;> rw [h] <;> split <;> simp
theorem sgn_ne (x : FLit) : sgn x = 1 ∨ sgn x = -1 := by unfold sgn; split <;> simp
theorem tri_set {w : List Int} (hw : Tri w) (i : Nat) {s : Int} (hs : s = -1 ∨ s = 0 ∨ s = 1) : Tri (w.set i s) := by
 intro y hy
 rcases List.mem_or_eq_of_mem_set hy with h | h
 ·exact hw y h
 ·subst h; exact hs
theorem opens_set {w : List Int} {i : Nat} (h : w[i]? = some 0) {s : Int} (hs : s ≠ 0) : opens (w.set i s) + 1 = opens w := by
 induction w generalizing i with
 | nil => simp at h
 | cons y w ih =>
  cases i with
  | zero =>
   simp at h; subst h
   have hs' : (s == 0) = false := by simpa using hs
   simp [opens, hs']
  | succ i =>
   simp at h
   have := ih h
   simp only [opens, List.set_cons_succ, List.filter_cons] at this ⊢
   split <;> (try simp only [List.length_cons]) <;> omega
theorem ext_set {w : List Int} {i : Nat} (h : w[i]? = some 0) (s : Int) : ExtW w (w.set i s) := by
 refine ⟨by simp, fun j y e n => ?_⟩
 by_cases hj : i = j
 ·subst hj; rw [h] at e; injection e with e; exact absurd e.symm n
 ·rw [List.getElem?_set_ne hj]; exact e
theorem comp_set {w : List Int} {a : Int → Bool} {x : FLit} (hx : inR w.length x) (h : Comp w a) (ht : litT a x = true) : Comp (w.set x.fact.toNat (sgn x)) a := by
 intro i y e
 rcases Go.Ahl.get_set e with ⟨rfl, rfl⟩ | ⟨_, e⟩
 ·have h3 : ((x.fact.toNat : Nat) : Int) = x.fact := by have := hx.1; omega
  rw [h3]
  unfold litT at ht
  unfold sgn
  cases hn : x.neg <;> rw [hn] at ht <;> simp at ht ⊢ <;> exact ht
 ·exact h i y e
theorem comp_neg {w : List Int} {a : Int → Bool} {x : FLit} (hx : inR w.length x) (h : Comp w a) (ht : litT a x = false) : Comp (w.set x.fact.toNat (-sgn x)) a := by
 intro i y e
 rcases Go.Ahl.get_set e with ⟨rfl, rfl⟩ | ⟨_, e⟩
 ·have h3 : ((x.fact.toNat : Nat) : Int) = x.fact := by have := hx.1; omega
  rw [h3]
  unfold litT at ht
  unfold sgn
  cases hn : x.neg <;> rw [hn] at ht <;> simp at ht ⊢ <;> exact ht
 ·exact h i y e
theorem comp_lit {w : List Int} {a : Int → Bool} {x : FLit} (hx : inR w.length x) (h : Comp w a) : (litV w x = 1 → litT a x = true) ∧ (litV w x = -1 → litT a x = false) := by
 have h3 : ((x.fact.toNat : Nat) : Int) = x.fact := by have := hx.1; omega
 have h4 := h _ _ (valAt_get hx)
 rw [h3] at h4
 unfold litV litT
 cases hn : x.neg
 ·simp only [Bool.false_eq_true, if_false, Bool.bne_false]; exact h4
 ·simp only [if_true, Bool.bne_true, Bool.not_eq_true', Bool.not_eq_false']
  exact ⟨fun e => h4.2 (by omega), fun e => h4.1 (by omega)⟩
def liveT (w : List Int) (l : List FLit) : Bool := !(l.any fun x => decide (litV w x < 0))
structure SPost (g : List (List FLit)) (w : List Int) (left : Int) (b : Bool) (w' : List Int) (left' : Int) : Prop where
 tri : Tri w'
 ext : ExtW w w'
 lo : left - (2 ^ opens w : Nat) ≤ left'
 hi : left' ≤ left
 yes : b = true → ∀ l ∈ g, ∃ x ∈ l, litV w' x < 0
 no : b = false → w' = w ∧ ∀ a, Comp w a → ∃ l ∈ g, termT a l = true
structure SLoop (g : List (List FLit)) (l : List FLit) (w0 : List Int) (left0 : Int) (j : Nat) (set : List Int) (w : List Int) (left : Int) : Prop where
 jl : j ≤ l.length
 tri : Tri w
 ext : ExtW w0 w
 ops : opens w + set.length = opens w0
 lo : left0 - 1 - (2 ^ opens w0 : Nat) + (2 ^ opens w : Nat) ≤ left
 hi : left ≤ left0
 old : ∀ f ∈ set, 0 ≤ f ∧ f < w0.length ∧ w0[f.toNat]? = some 0
 back : ∀ (i : Nat) y, w[i]? = some y → (∀ f ∈ set, f.toNat ≠ i) → w0[i]? = some y
 rest : ∀ x ∈ l.drop j, ∀ f ∈ set, f ≠ x.fact
 all : ∀ a, Comp w0 a → (∀ t ∈ g, termT a t = false) → Comp w a ∧ ∀ x ∈ l.take j, litT a x = true
theorem SLoop.begin {g : List (List FLit)} {l : List FLit} {w : List Int} {left : Int} (ht : Tri w) : SLoop g l w left 0 [] w (left - 1) where
 jl := Nat.zero_le _
 tri := ht
 ext := .refl _
 ops := rfl
 lo := by omega
 hi := by omega
 old := by simp
 back := fun i y e _ => e
 rest := by simp
 all := fun a hc _ => ⟨hc, by simp⟩
theorem liveT_nn {w : List Int} {l : List FLit} (h : liveT w l = true) {x : FLit} (hx : x ∈ l) : 0 ≤ litV w x := by
 unfold liveT at h
 simp only [Bool.not_eq_true', List.any_eq_false, decide_eq_true_eq] at h
 have := h x hx; omega
theorem SLoop.skip {g : List (List FLit)} {l : List FLit} {w0 : List Int} {left0 : Int} {j : Nat} {set w : List Int} {left : Int} (h : SLoop g l w0 left0 j set w left) {x : FLit} (hx : l[j]? = some x) (hr : inR w0.length x)
  (hl : liveT w0 l = true) (hv : litV w x ≠ 0) : SLoop g l w0 left0 (j + 1) set w left where
 jl := lt_of_get hx
 tri := h.tri
 ext := h.ext
 ops := h.ops
 lo := h.lo
 hi := h.hi
 old := h.old
 back := h.back
 rest := fun y hy => h.rest y (by rw [drop_cons hx]; exact List.mem_cons_of_mem _ hy)
 all := by
  intro a hc hg
  obtain ⟨h1, h2⟩ := h.all a hc hg
  refine ⟨h1, fun y hy => ?_⟩
  rw [take_succ' hx] at hy
  rcases List.mem_append.1 hy with hy | hy
  ·exact h2 y hy
  ·rw [List.mem_singleton] at hy; subst hy
   have hr' : inR w.length y := ⟨hr.1, by rw [h.ext.1]; exact hr.2⟩
   have hn := liveT_nn hl (List.mem_of_getElem? hx)
   have hno : ∀ f ∈ set, f.toNat ≠ y.fact.toNat := by
    intro f hf e
    have h3 := h.rest y (by rw [drop_cons hx]; exact List.mem_cons_self) f hf
    have h4 := (h.old f hf).1
    have := hr.1; omega
   have h5 := h.back _ _ (valAt_get hr') hno
   have h6 : valAt w0 y.fact = valAt w y.fact := by unfold valAt at h5 ⊢; rw [h5]; rfl
   have h7 : litV w0 y = litV w y := by unfold litV; rw [h6]
   rcases litV_tri h.tri y with h8 | h8 | h8
   ·omega
   ·exact absurd h8 hv
   ·exact (comp_lit hr' h1).1 h8
theorem cond_apart {n : Int} : ∀ {l : List FLit} {p : Int}, condB n p l = true → (∀ x ∈ l, p < x.fact ∧ x.fact < n) ∧ ∀ (j : Nat) x, l[j]? = some x → ∀ y ∈ l.drop (j + 1), x.fact ≠ y.fact
 | [], p, h => ⟨by simp, by simp⟩
 | z :: l, p, h => by
  rw [condB, Bool.and_eq_true, Bool.and_eq_true, decide_eq_true_eq, decide_eq_true_eq] at h
  obtain ⟨⟨h1, h2⟩, h3⟩ := h
  obtain ⟨h4, h5⟩ := cond_apart h3
  refine ⟨fun x hx => ?_, fun j x hx y hy => ?_⟩
  ·rcases List.mem_cons.1 hx with rfl | hx
   ·exact ⟨h1, h2⟩
   ·have := h4 x hx; omega
  ·cases j with
   | zero => simp at hx hy; subst hx; have := h4 y hy; omega
   | succ j => simp at hx hy; exact h5 j x hx y hy
theorem SLoop.step {g : List (List FLit)} {l : List FLit} {w0 : List Int} {left0 : Int} {j : Nat} {set w : List Int} {left : Int} (h : SLoop g l w0 left0 j set w left) {x : FLit} (hx : l[j]? = some x) (hr : inR w0.length x)
  {n : Int} (hc : condB n (-1) l = true) (hv : litV w x = 0) {w' : List Int} {left' : Int} (hp : SPost g (w.set x.fact.toNat (-sgn x)) left false w' left') :
  SLoop g l w0 left0 (j + 1) (set ++ [x.fact]) (w'.set x.fact.toNat (sgn x)) left' := by
 have hr' : inR w.length x := ⟨hr.1, by rw [h.ext.1]; exact hr.2⟩
 have hk : x.fact.toNat < w.length := by have := hr'.1; have := hr'.2; omega
 have h0 : valAt w x.fact = 0 := by unfold litV at hv; split at hv <;> omega
 have hg0 : w[x.fact.toNat]? = some 0 := by rw [valAt_get hr', h0]
 have hs := sgn_ne x
 obtain ⟨rfl, hno⟩ := hp.no rfl
 rw [List.set_set]
 have ho1 := opens_set (s := -sgn x) hg0 (by omega)
 have ho2 := opens_set (s := sgn x) hg0 (by omega)
 have hpow : (2 : Nat) ^ opens w = 2 ^ opens (w.set x.fact.toNat (sgn x)) + 2 ^ opens (w.set x.fact.toNat (sgn x)) := by
  rw [← ho2, Nat.pow_succ]; omega
 have hpe : opens (w.set x.fact.toNat (-sgn x)) = opens (w.set x.fact.toNat (sgn x)) := by omega
 have hlo := hp.lo
 rw [hpe] at hlo
 refine ⟨lt_of_get hx, tri_set h.tri _ (by omega), h.ext.trans (ext_set hg0 _), by rw [List.length_append, List.length_singleton]; have := h.ops; omega, ?_, by have := hp.hi; have := h.hi; omega, ?_, ?_, ?_, ?_⟩
 ·have := h.lo; omega
 ·intro f hf
  rcases List.mem_append.1 hf with hf | hf
  ·exact h.old f hf
  ·rw [List.mem_singleton] at hf; subst hf
   refine ⟨hr.1, hr.2, ?_⟩
   refine h.back _ _ hg0 (fun f hf e => ?_)
   have h3 := h.rest x (by rw [drop_cons hx]; exact List.mem_cons_self) f hf
   have h4 := (h.old f hf).1
   have := hr.1; omega
 ·intro i y e hf
  rcases Go.Ahl.get_set e with ⟨rfl, _⟩ | ⟨hne, e⟩
  ·exact absurd rfl (hf x.fact (by simp))
  ·exact h.back i y e (fun f hq => hf f (List.mem_append_left _ hq))
 ·intro y hy f hf
  rcases List.mem_append.1 hf with hf | hf
  ·exact h.rest y (by rw [drop_cons hx]; exact List.mem_cons_of_mem _ hy) f hf
  ·rw [List.mem_singleton] at hf; subst hf
   exact (cond_apart hc).2 j x hx y hy
 ·intro a hca hga
  obtain ⟨h1, h2⟩ := h.all a hca hga
  have htx : litT a x = true := by
   cases hq : litT a x with
   | true => rfl
   | false =>
    obtain ⟨t, ht, e⟩ := hno a (comp_neg hr' h1 hq)
    rw [hga t ht] at e; exact absurd e (by simp)
  refine ⟨comp_set hr' h1 htx, fun y hy => ?_⟩
  rw [take_succ' hx] at hy
  rcases List.mem_append.1 hy with hy | hy
  ·exact h2 y hy
  ·rw [List.mem_singleton] at hy; subst hy; exact htx
theorem SLoop.ahead {g : List (List FLit)} {l : List FLit} {w0 : List Int} {left0 : Int} {j : Nat} {set w : List Int} {left : Int} (h : SLoop g l w0 left0 j set w left) {x : FLit} (hr : inR w0.length x) (hv : litV w x = 0) (h0 : ((2 ^ opens w0 : Nat) : Int) ≤ left0) :
  Tri (w.set x.fact.toNat (-sgn x)) ∧ opens (w.set x.fact.toNat (-sgn x)) < opens w0 ∧ ((2 ^ opens (w.set x.fact.toNat (-sgn x)) : Nat) : Int) ≤ left ∧ (w.set x.fact.toNat (-sgn x)).length = w0.length := by
 have hr' : inR w.length x := ⟨hr.1, by rw [h.ext.1]; exact hr.2⟩
 have hg0 : valAt w x.fact = 0 := by unfold litV at hv; split at hv <;> omega
 have hg0 : w[x.fact.toNat]? = some 0 := by rw [valAt_get hr', hg0]
 have hs := sgn_ne x
 have ho1 := opens_set (s := -sgn x) hg0 (by omega)
 have hpow : (2 : Nat) ^ opens w = 2 ^ opens (w.set x.fact.toNat (-sgn x)) + 2 ^ opens (w.set x.fact.toNat (-sgn x)) := by
  rw [← ho1, Nat.pow_succ]; omega
 have hpp : 0 < 2 ^ opens (w.set x.fact.toNat (-sgn x)) := Nat.pow_pos (by omega)
 refine ⟨tri_set h.tri _ (by omega), by have := h.ops; omega, by have := h.lo; omega, by rw [List.length_set]; exact h.ext.1⟩
theorem SLoop.done {g : List (List FLit)} {l : List FLit} {w0 : List Int} {left0 : Int} {set w : List Int} {left : Int} (h : SLoop g l w0 left0 l.length set w left) (hl : l ∈ g) (ht : Tri w0) : SPost g w0 left0 false w0 left := by
 refine ⟨ht, .refl _, ?_, h.hi, by simp, fun _ => ⟨rfl, fun a hc => ?_⟩⟩
 ·have := h.lo
  have hpp : 0 < 2 ^ opens w := Nat.pow_pos (by omega)
  omega
 ·by_cases hg : ∀ t ∈ g, termT a t = false
  ·refine ⟨l, hl, ?_⟩
   have h2 := (h.all a hc hg).2
   rw [List.take_length] at h2
   exact List.all_eq_true.2 h2
  ·have ⟨t, hq⟩ := Classical.not_forall.1 hg
   have ⟨h3, h4⟩ := Classical.not_imp.1 hq
   exact ⟨t, h3, by simpa using h4⟩
theorem reducedL_idem {n : Int} {f : List (List FLit)} (hf : vF n f) : reducedL (reducedL f) = reducedL f :=
 strict_unique (reducedL_strict _) (reducedL_strict _) fun x => by
  rw [reducedL_minimal (reducedL_V hf)]
  constructor
  ·exact fun h => h.1
  ·intro h
   exact ⟨h, fun m hm hw => ((reducedL_minimal hf x).1 h).2 m (reducedL_mem hm) hw⟩
def RedF (n : Int) (h : List (List FLit)) : Prop := ∃ k, vF n k ∧ h = reducedL k
theorem RedF.V {n : Int} {h : List (List FLit)} (r : RedF n h) : vF n h := by obtain ⟨k, hk, rfl⟩ := r; exact reducedL_V hk
theorem RedF.good {n : Int} {h : List (List FLit)} (r : RedF n h) (hl : h.length ≤ 400) : goodB n h = true := by
 have hv := r.V
 obtain ⟨k, hk, rfl⟩ := r
 rw [goodB, isForm, refRed_eq hv, reducedL_idem hk]
 have : formB n (reducedL k) = true := List.all_eq_true.2 fun l hl => hv l hl
 rw [this]; simp [hl]
theorem listB_mem : ∀ (w : List Bool) (k : Nat) (x : Int), x ∈ listB k w ↔ ∃ j : Nat, x = ((k + j : Nat) : Int) ∧ w[j]? = some true
 | [], k, x => by simp [listB]
 | b :: w, k, x => by
  have ih := listB_mem w (k + 1) x
  have key : x ∈ listB (k + 1) w ↔ ∃ j : Nat, x = ((k + (j + 1) : Nat) : Int) ∧ (b :: w)[j + 1]? = some true := by
   rw [ih]
   constructor
   ·rintro ⟨j, h1, h2⟩; exact ⟨j, by rw [h1]; omega, by simpa using h2⟩
   ·rintro ⟨j, h1, h2⟩; exact ⟨j, by rw [h1]; omega, by simpa using h2⟩
  rw [listB]
  split
  ·rename_i hb
   rw [List.mem_cons, key]
   constructor
   ·rintro (rfl | ⟨j, h1, h2⟩)
    ·exact ⟨0, by simp, by simp [hb]⟩
    ·exact ⟨j + 1, h1, h2⟩
   ·rintro ⟨j, h1, h2⟩
    cases j with
    | zero => left; simpa using h1
    | succ j => right; exact ⟨j, h1, h2⟩
  ·rename_i hb
   rw [key]
   constructor
   ·rintro ⟨j, h1, h2⟩; exact ⟨j + 1, h1, h2⟩
   ·rintro ⟨j, h1, h2⟩
    cases j with
    | zero => simp at h2; exact absurd h2 hb
    | succ j => exact ⟨j, h1, h2⟩
theorem listB_rising (n : Int) : ∀ (w : List Bool) (k : Nat) (p : Int), p < k → (k : Int) + w.length ≤ n → risingB n p (listB k w) = true
 | [], k, p, h, hn => rfl
 | b :: w, k, p, h, hn => by
  rw [List.length_cons] at hn
  rw [listB]
  split
  ·rw [risingB, Bool.and_eq_true, Bool.and_eq_true]
   exact ⟨⟨by simpa using h, by simp; omega⟩, listB_rising n w (k + 1) k (by omega) (by omega)⟩
  ·exact listB_rising n w (k + 1) p (by omega) (by omega)
theorem afterL_len {n : Nat} (s : List Int) (c : FAct) : (afterL n s c).length ≤ n := by
 have h := listB_rising n (afterB n s c) 0 (-1) (by omega) (by rw [afterB, genB_len]; omega)
 rcases risingB_len _ _ h with h | h
 ·rw [afterL, h]; simp
 ·rw [afterL]; omega
theorem foldI_mem (p : FEff → Bool) (x : Int) : ∀ (es : List FEff) (l : List Int), x ∈ es.foldl (fun l e => if p e then insI l e.lit.fact else l) l ↔ x ∈ l ∨ ∃ e ∈ es, p e = true ∧ e.lit.fact = x
 | [], l => by simp
 | e :: es, l => by
  rw [List.foldl_cons, foldI_mem p x es]
  constructor
  ·rintro (h | ⟨e', he, h⟩)
   ·split at h
    ·rcases insI_mem.1 h with h | rfl
     ·exact .inl h
     ·exact .inr ⟨e, List.mem_cons_self, ‹_›, rfl⟩
    ·exact .inl h
   ·exact .inr ⟨e', List.mem_cons_of_mem _ he, h⟩
  ·rintro (h | ⟨e', he, h1, h2⟩)
   ·left; split
    ·exact insI_mem.2 (.inl h)
    ·exact h
   ·rcases List.mem_cons.1 he with rfl | he
    ·left; rw [if_pos h1]; exact insI_mem.2 (.inr h2.symm)
    ·exact .inr ⟨e', he, h1, h2⟩
theorem foldI_nodup (p : FEff → Bool) : ∀ (es : List FEff) (l : List Int), l.Nodup → (es.foldl (fun l e => if p e then insI l e.lit.fact else l) l).Nodup
 | [], l, h => h
 | e :: es, l, h => by
  rw [List.foldl_cons]
  refine foldI_nodup p es _ ?_
  split
  ·exact insI_nodup h
  ·exact h
theorem hits_iff (s : List Int) (neg : Bool) (es : List FEff) (i : Nat) : hits s neg es i = true ↔ ∃ e ∈ es, condHolds s e.when_ = true ∧ e.lit.neg = neg ∧ e.lit.fact = (i : Int) := by
 unfold hits
 rw [List.any_eq_true]
 constructor
 ·rintro ⟨e, he, h⟩
  simp only [Bool.and_eq_true, beq_iff_eq] at h
  exact ⟨e, he, h.2.2, h.1, h.2.1⟩
 ·rintro ⟨e, he, h1, h2, h3⟩
  exact ⟨e, he, by simp [h1, h2, h3]⟩
theorem addOf_mem {s : List Int} {es : List FEff} {i : Nat} : (i : Int) ∈ addOf s es ↔ hits s false es i = true := by
 rw [hits_iff, addOf, foldI_mem]
 simp only [List.not_mem_nil, false_or, Bool.and_eq_true, Bool.not_eq_true']
 constructor
 ·rintro ⟨e, h, ⟨h1, h2⟩, h3⟩; exact ⟨e, h, h1, h2, h3⟩
 ·rintro ⟨e, h, h1, h2, h3⟩; exact ⟨e, h, ⟨h1, h2⟩, h3⟩
theorem dropOf_mem {s : List Int} {es : List FEff} {i : Nat} : (i : Int) ∈ dropOf s es ↔ hits s true es i = true := by
 rw [hits_iff, dropOf, foldI_mem]
 simp only [List.not_mem_nil, false_or, Bool.and_eq_true]
 constructor
 ·rintro ⟨e, h, ⟨h1, h2⟩, h3⟩; exact ⟨e, h, h1, h2, h3⟩
 ·rintro ⟨e, h, h1, h2, h3⟩; exact ⟨e, h, ⟨h1, h2⟩, h3⟩
theorem afterL_rising (n : Nat) (s : List Int) (a : FAct) : risingB n (-1) (afterL n s a) = true := listB_rising n (afterB n s a) 0 (-1) (by omega) (by rw [afterB, genB_len]; omega)
theorem afterL_mem {n : Nat} {s : List Int} {a : FAct} {i : Nat} : (i : Int) ∈ afterL n s a ↔ i < n ∧ (hits s false a.effects i = true ∨ ((i : Int) ∈ s ∧ ¬ hits s true a.effects i = true)) := by
 rw [afterL, listB_mem]
 constructor
 ·rintro ⟨j, h1, h2⟩
  obtain rfl : j = i := by omega
  have hl := lt_of_get h2
  rw [afterB, genB_len] at hl
  rw [afterB, genB_get hl] at h2
  simp only [Option.some.injEq, Bool.or_eq_true, Bool.and_eq_true, Bool.not_eq_true'] at h2
  refine ⟨hl, ?_⟩
  rcases h2 with h2 | ⟨h2, h3⟩
  ·exact .inl h2
  ·exact .inr ⟨List.contains_iff_mem.1 h2, by rw [h3]; simp⟩
 ·rintro ⟨h1, h2⟩
  refine ⟨i, by simp, ?_⟩
  rw [afterB, genB_get h1]
  simp only [Option.some.injEq, Bool.or_eq_true, Bool.and_eq_true, Bool.not_eq_true']
  rcases h2 with h2 | ⟨h2, h3⟩
  ·exact .inl h2
  ·exact .inr ⟨List.contains_iff_mem.2 h2, by simpa using h3⟩
theorem afterS_eq {n : Nat} {s : List Int} {a : FAct} (hs : risingB n (-1) s = true) (he : ∀ e ∈ a.effects, 0 ≤ e.lit.fact ∧ e.lit.fact < n) : afterS s a.effects = afterL n s a := by
 obtain ⟨hp, hb⟩ := rising_pw hs
 have hadd : ∀ x ∈ addOf s a.effects, 0 ≤ x ∧ x < n := by
  intro x hx
  rw [addOf, foldI_mem] at hx
  rcases hx with hx | ⟨e, h, _, rfl⟩
  ·simp at hx
  ·exact he e h
 have hr := rising_pw (afterL_rising n s a)
 refine sortI_eq ?_ (hr.1.imp (fun h => by omega))
 have hnd : (s.filter (stayS s a.effects) ++ (addOf s a.effects).filter fun x => !(s.contains x)).Nodup := by
  rw [List.nodup_append]
  refine ⟨(hp.imp (fun h => by omega)).filter _, (foldI_nodup _ _ _ .nil).filter _, ?_⟩
  rintro x hx _ hy rfl
  have h1 := (List.mem_filter.1 hx).1
  have h2 := (List.mem_filter.1 hy).2
  rw [List.contains_iff_mem.2 h1] at h2; simp at h2
 rw [List.perm_ext_iff_of_nodup (hr.1.imp (fun h => by omega)) hnd]
 intro x
 have hx0 : (x ∈ afterL n s a → 0 ≤ x) := fun h => by have := (hr.2 x h).1; omega
 by_cases h0 : 0 ≤ x
 ·obtain ⟨i, rfl⟩ : ∃ i : Nat, x = (i : Int) := ⟨x.toNat, by omega⟩
  rw [afterL_mem, List.mem_append, List.mem_filter, List.mem_filter, ← addOf_mem, ← dropOf_mem]
  have hst : stayS s a.effects (i : Int) = true ↔ ¬ (i : Int) ∈ dropOf s a.effects ∨ (i : Int) ∈ addOf s a.effects := by
   unfold stayS; simp
  rw [hst]
  have hsb : (i : Int) ∈ s → i < n := fun h => by have := (hb _ h).2; omega
  have hab : (i : Int) ∈ addOf s a.effects → i < n := fun h => by have := (hadd _ h).2; omega
  have hc : (!(s.contains (i : Int))) = true ↔ ¬ (i : Int) ∈ s := by simp
  rw [hc]
  constructor
  ·rintro ⟨h1, h2 | ⟨h2, h3⟩⟩
   ·by_cases h4 : (i : Int) ∈ s
    ·exact .inl ⟨h4, .inr h2⟩
    ·exact .inr ⟨h2, h4⟩
   ·exact .inl ⟨h2, .inl h3⟩
  ·rintro (⟨h1, h2⟩ | ⟨h1, h2⟩)
   ·refine ⟨hsb h1, ?_⟩
    by_cases h3 : (i : Int) ∈ addOf s a.effects
    ·exact .inl h3
    ·exact .inr ⟨h1, h2.resolve_right h3⟩
   ·exact ⟨hab h1, .inl h1⟩
 ·constructor
  ·intro h; exact absurd (hx0 h) h0
  ·intro h
   rcases List.mem_append.1 h with h | h
   ·have := (hb x (List.mem_filter.1 h).1).1; omega
   ·have := (hadd x (List.mem_filter.1 h).1).1; omega
section
variable {α : Type} (ini : α → Bool) (K : List α → α → Bool)
end
end Go.Proofs.YtjmmldkailblmaaGreat
namespace Go.Proofs.YtjmmldkailblmaaGreat
open Go.Ahl
section
variable (L : Int → Int → Bool)
def bkLoop (rec : List Int → List Int → List Int → List (List Int)) (g : List Int) : List Int → List Int → List (List Int)
 | [], _ => []
 | x :: r, tried => rec (g ++ [x]) (r.filter (L x)) (tried.filter (L x)) ++ bkLoop rec g r (tried ++ [x])
def bkHead (g may tried : List Int) : List (List Int) := if may.length = 0 ∧ tried.length = 0 ∧ 1 < g.length then [Ahl.sortI g] else []
def bk : Nat → List Int → List Int → List Int → List (List Int)
 | 0, _, _, _ => []
 | f + 1, g, may, tried => bkHead g may tried ++ bkLoop L (bk f) g may tried
structure BK (n : Int) (g may tried : List Int) : Prop where
 gn : g.Nodup
 gr : ∀ v ∈ g, 0 ≤ v ∧ v < n
 gc : ∀ a ∈ g, ∀ b ∈ g, a ≠ b → L a b = true
 com : ∀ v, (v ∈ may ∨ v ∈ tried) ↔ (0 ≤ v ∧ v < n ∧ v ∉ g ∧ ∀ a ∈ g, L v a = true)
 mn : may.Nodup
 dis : ∀ v ∈ may, v ∉ tried
variable {L}
theorem BK.step (hsym : ∀ a b, L a b = L b a) (hirr : ∀ a, L a a = false) {n : Int} {g r tried : List Int} {x : Int} (h : BK L n g (x :: r) tried) : BK L n (g ++ [x]) (r.filter (L x)) (tried.filter (L x)) := by
 obtain ⟨hx0, hxn, hxg, hxa⟩ := (h.com x).1 (.inl List.mem_cons_self)
 have hnd := List.nodup_cons.1 h.mn
 refine ⟨?_, ?_, ?_, ?_, hnd.2.filter _, ?_⟩
 ·rw [List.nodup_append]
  refine ⟨h.gn, by simp, fun a ha b hb => ?_⟩
  simp only [List.mem_singleton] at hb; subst hb
  rintro rfl; exact hxg ha
 ·intro v hv
  rcases List.mem_append.1 hv with hv | hv
  ·exact h.gr v hv
  ·simp only [List.mem_singleton] at hv; subst hv; exact ⟨hx0, hxn⟩
 ·intro a ha b hb hab
  simp only [List.mem_append, List.mem_singleton] at ha hb
  rcases ha with ha | rfl <;> rcases hb with hb | rfl
  ·exact h.gc a ha b hb hab
  ·rw [hsym]; exact hxa a ha
  ·exact hxa b hb
  ·exact absurd rfl hab
 ·intro v
  rw [List.mem_filter, List.mem_filter]
  constructor
  ·intro hv
   have hL : L x v = true := by rcases hv with hv | hv <;> exact hv.2
   have hvm : v ∈ x :: r ∨ v ∈ tried := by
    rcases hv with hv | hv
    ·exact .inl (List.mem_cons_of_mem _ hv.1)
    ·exact .inr hv.1
   obtain ⟨h1, h2, h3, h4⟩ := (h.com v).1 hvm
   have hvx : v ≠ x := by rintro rfl; rw [hirr] at hL; simp at hL
   refine ⟨h1, h2, by simp [h3, hvx], ?_⟩
   intro a ha
   rcases List.mem_append.1 ha with ha | ha
   ·exact h4 a ha
   ·simp only [List.mem_singleton] at ha; subst ha; rw [hsym]; exact hL
  ·rintro ⟨h1, h2, h3, h4⟩
   simp only [List.mem_append, List.mem_singleton, not_or] at h3
   have hL : L x v = true := by rw [hsym]; exact h4 x (by simp)
   rcases (h.com v).2 ⟨h1, h2, h3.1, fun a ha => h4 a (List.mem_append_left _ ha)⟩ with hv | hv
   ·rcases List.mem_cons.1 hv with rfl | hv
    ·exact absurd rfl h3.2
    ·exact .inl ⟨hv, hL⟩
   ·exact .inr ⟨hv, hL⟩
 ·intro v hv hv'
  exact h.dis v (List.mem_cons_of_mem _ (List.mem_filter.1 hv).1) (List.mem_filter.1 hv').1
theorem BK.next {n : Int} {g r tried : List Int} {x : Int} (h : BK L n g (x :: r) tried) : BK L n g r (tried ++ [x]) := by
 have hnd := List.nodup_cons.1 h.mn
 refine ⟨h.gn, h.gr, h.gc, fun v => ?_, hnd.2, fun v hv hv' => ?_⟩
 ·rw [← h.com v]
  simp only [List.mem_cons, List.mem_append, List.not_mem_nil, or_false]
  constructor
  ·rintro (h | h | h)
   ·exact .inl (.inr h)
   ·exact .inr h
   ·exact .inl (.inl h)
  ·rintro ((h | h) | h)
   ·exact .inr (.inr h)
   ·exact .inl h
   ·exact .inr (.inl h)
 ·rcases List.mem_append.1 hv' with h' | h'
  ·exact h.dis v (List.mem_cons_of_mem _ hv) h'
  ·simp only [List.mem_singleton] at h'; subst h'; exact hnd.1 hv
end
def cmpInts : List Int → List Int → Int
 | [], [] => 0
 | [], _ :: _ => -1
 | _ :: _, [] => 1
 | a :: l, b :: r => if a < b then -1 else if b < a then 1 else cmpInts l r
theorem cmpInts_refl : ∀ a, cmpInts a a = 0
 | [] => rfl
 | x :: l => by rw [cmpInts, if_neg (by omega), if_neg (by omega), cmpInts_refl l]
theorem cmpInts_anti : ∀ {a b : List Int}, cmpInts a b = 0 → a = b
 | [], [], _ => rfl
 | [], _ :: _, h => by simp [cmpInts] at h
 | _ :: _, [], h => by simp [cmpInts] at h
 | x :: l, y :: r, h => by
  rw [cmpInts] at h
  split at h
  ·omega
  ·split at h
   ·omega
   ·rw [cmpInts_anti h]; congr 1; omega
theorem cmpInts_swap : ∀ {a b : List Int}, cmpInts a b < 0 ↔ 0 < cmpInts b a
 | [], [] => by simp [cmpInts]
 | [], _ :: _ => by simp [cmpInts]
 | _ :: _, [] => by simp [cmpInts]
 | x :: l, y :: r => by
  rw [cmpInts, cmpInts]
  by_cases h1 : x < y
  ·rw [if_pos h1, if_neg (by omega), if_pos h1]; omega
  ·rw [if_neg h1]
   by_cases h2 : y < x
   ·rw [if_pos h2, if_pos h2]; omega
   ·rw [if_neg h2, if_neg h2, if_neg h1]; exact cmpInts_swap
theorem cmpInts_trans : ∀ {a b c : List Int}, cmpInts a b < 0 → cmpInts b c < 0 → cmpInts a c < 0
 | [], [], _, h, _ => by simp [cmpInts] at h
 | [], _ :: _, [], _, k => by simp [cmpInts] at k
 | [], _ :: _, _ :: _, _, _ => by simp [cmpInts]
 | _ :: _, [], _, h, _ => by simp [cmpInts] at h
 | _ :: _, _ :: _, [], _, k => by simp [cmpInts] at k
 | x :: l, y :: r, z :: t, h, k => by
  rw [cmpInts] at h k ⊢
  by_cases h1 : x < y
  ·by_cases k1 : y < z
   ·rw [if_pos (by omega)]; omega
   ·rw [if_neg k1] at k
    by_cases k2 : z < y
    ·rw [if_pos k2] at k; omega
    ·rw [if_pos (by omega)]; omega
  ·rw [if_neg h1] at h
   by_cases h2 : y < x
   ·rw [if_pos h2] at h; omega
   ·rw [if_neg h2] at h
    by_cases k1 : y < z
    ·rw [if_pos (by omega)]; omega
    ·rw [if_neg k1] at k
     by_cases k2 : z < y
     ·rw [if_pos k2] at k; omega
     ·rw [if_neg k2] at k
      rw [if_neg (by omega), if_neg (by omega)]; exact cmpInts_trans h k
def ltL (a b : List Int) : Prop := cmpInts a b < 0
theorem ltL_irrefl (a : List Int) : ¬ ltL a a := by unfold ltL; rw [cmpInts_refl]; omega
theorem ltL_unique : ∀ {a b : List (List Int)}, a.Pairwise ltL → b.Pairwise ltL → (∀ x, x ∈ a ↔ x ∈ b) → a = b
 | [], [], _, _, _ => rfl
 | [], y :: b, _, _, h => by have := (h y).2 List.mem_cons_self; simp at this
 | x :: a, [], _, _, h => by have := (h x).1 List.mem_cons_self; simp at this
 | x :: a, y :: b, ha, hb, h => by
  obtain ⟨ha1, ha2⟩ := List.pairwise_cons.1 ha
  obtain ⟨hb1, hb2⟩ := List.pairwise_cons.1 hb
  have hxy : x = y := by
   rcases List.mem_cons.1 ((h x).1 List.mem_cons_self) with e | e
   ·exact e
   ·rcases List.mem_cons.1 ((h y).2 List.mem_cons_self) with e' | e'
    ·exact e'.symm
    ·exact absurd (cmpInts_trans (hb1 x e) (ha1 y e')) (ltL_irrefl y)
  subst hxy
  rw [ltL_unique ha2 hb2 fun z => ?_]
  constructor
  ·intro hz
   rcases List.mem_cons.1 ((h z).1 (List.mem_cons_of_mem _ hz)) with rfl | e
   ·exact absurd (ha1 z hz) (ltL_irrefl z)
   ·exact e
  ·intro hz
   rcases List.mem_cons.1 ((h z).2 (List.mem_cons_of_mem _ hz)) with rfl | e
   ·exact absurd (hb1 z hz) (ltL_irrefl z)
   ·exact e
def insAt (l : List (List Int)) (s : List Int) : Nat := (l.takeWhile fun x => decide (cmpInts x s < 0)).length
def insL (l : List (List Int)) (s : List Int) : List (List Int) := l.take (insAt l s) ++ [s] ++ l.drop (insAt l s)
theorem insL_mem {l : List (List Int)} {s x : List Int} : x ∈ insL l s ↔ x ∈ l ∨ x = s := by
 unfold insL
 rw [List.mem_append, List.mem_append, List.mem_singleton]
 constructor
 ·rintro ((h | h) | h)
  ·exact .inl (List.mem_of_mem_take h)
  ·exact .inr h
  ·exact .inl (List.mem_of_mem_drop h)
 ·rintro (h | h)
  ·rw [← List.take_append_drop (insAt l s) l, List.mem_append] at h
   rcases h with h | h
   ·exact .inl (.inl h)
   ·exact .inr h
  ·exact .inl (.inr h)
theorem insL_cons (x : List Int) (l : List (List Int)) (s : List Int) : insL (x :: l) s = if cmpInts x s < 0 then x :: insL l s else s :: x :: l := by
 unfold insL insAt
 rw [List.takeWhile_cons]
 by_cases h : cmpInts x s < 0
 ·simp [h]
 ·simp [h]
theorem insL_strict : ∀ {l : List (List Int)} {s : List Int}, l.Pairwise ltL → s ∉ l → (insL l s).Pairwise ltL
 | [], s, _, _ => by simp [insL, insAt]
 | x :: l, s, h, hs => by
  obtain ⟨h1, h2⟩ := List.pairwise_cons.1 h
  rw [insL_cons]
  have hsx : s ≠ x := fun e => hs (by rw [e]; exact List.mem_cons_self)
  split
  ·rename_i hx
   refine List.pairwise_cons.2 ⟨fun y hy => ?_, insL_strict h2 (fun q => hs (List.mem_cons_of_mem _ q))⟩
   rcases insL_mem.1 hy with hy | rfl
   ·exact h1 y hy
   ·exact hx
  ·rename_i hx
   have hlt : cmpInts s x < 0 := by
    rcases Int.lt_trichotomy (cmpInts x s) 0 with q | q | q
    ·exact absurd q hx
    ·exact absurd (cmpInts_anti q).symm hsx
    ·exact cmpInts_swap.2 q
   refine List.pairwise_cons.2 ⟨fun y hy => ?_, h⟩
   rcases List.mem_cons.1 hy with rfl | hy
   ·exact hlt
   ·exact cmpInts_trans hlt (h1 y hy)
theorem statesL_all : ∀ (n : Nat) (s : List Int), s.Pairwise (· < ·) → (∀ v ∈ s, 0 ≤ v ∧ v < n) → s ∈ statesL n
 | 0, s, _, h => by
  cases s with
  | nil => simp [statesL]
  | cons x s => have := h x List.mem_cons_self; omega
 | n + 1, s, hp, h => by
  rw [statesL, List.mem_append, List.mem_map]
  by_cases hn : (n : Int) ∈ s
  ·right
   have hne : s ≠ [] := by rintro rfl; simp at hn
   have hlast : s.getLast hne = (n : Int) := by
    have e := List.dropLast_concat_getLast hne
    rw [← e] at hn hp
    rcases List.mem_append.1 hn with q | q
    ·have h1 := (List.pairwise_append.1 hp).2.2 _ q _ (by simp : s.getLast hne ∈ [s.getLast hne])
     have h2 := (h _ (List.getLast_mem hne)).2
     omega
    ·simp only [List.mem_singleton] at q; exact q.symm
   have e := List.dropLast_concat_getLast hne
   rw [hlast] at e
   refine ⟨s.dropLast, statesL_all n _ ?_ ?_, e⟩
   ·rw [← e] at hp; exact (List.pairwise_append.1 hp).1
   ·intro v hv
    have h1 := h v ((List.dropLast_sublist _).subset hv)
    rw [← e] at hp
    have := (List.pairwise_append.1 hp).2.2 v hv (n : Int) (by simp)
    omega
  ·left
   refine statesL_all n s hp fun v hv => ?_
   have := h v hv
   have : v ≠ (n : Int) := by rintro rfl; exact hn hv
   omega
end Go.Proofs.YtjmmldkailblmaaGreat
namespace Go.Proofs
open Go.Shelf Go.RowKit Go.Lib Go.Sort
def YtjmmldkailblmaaGreat.laysLL_ren : Go.Shelf.Ren := ⟨fun | 6 => 75 | 15 => 106 | 14 => 105 | 28 => 124 | 29 => 125 | 20 => 116 | 21 => 117 | 22 => 118 | 23 => 119 | 24 => 120 | 25 => 121 | 26 => 122 | 27 => 123 | 46 => 145 | 47 => 146 | 48 => 147 | 49 => 148 | 50 => 149 | 57 => 157 | n => n, fun | 22 => 28 | 24 => 23 | 25 => 80 | 3 => 3 | 39 => 142 | 0 => 0 | 53 => 158 | 55 => 160 | 4 => 4 | 46 => 152 | 45 => 151 | 50 => 92 | 5 => 5 | 9 => 9 | 66 => 172 | 70 => 176 | 76 => 182 | 77 => 183 | n => n, fun | n => n⟩
theorem YtjmmldkailblmaaGreat.laysLL : Go.Proofs.SlLaysF.n6 Tryz.prog YtjmmldkailblmaaGreat.laysLL_ren := {
 mixed := by kernel_rfl
 f6 := ⟨Tryz.f75.name, by decide, Tryz.func75.trans (congrArg some (by kernel_rfl))⟩
 f14 := ⟨Tryz.f105.name, by decide, Tryz.func105.trans (congrArg some (by kernel_rfl))⟩
 f15 := Tryz.func106.trans (congrArg some (by kernel_rfl))
 f20 := ⟨Tryz.f116.name, by decide, Tryz.func116.trans (congrArg some (by kernel_rfl))⟩
 f21 := ⟨Tryz.f117.name, by decide, Tryz.func117.trans (congrArg some (by kernel_rfl))⟩
 f22 := ⟨Tryz.f118.name, by decide, Tryz.func118.trans (congrArg some (by kernel_rfl))⟩
 f23 := ⟨Tryz.f119.name, by decide, Tryz.func119.trans (congrArg some (by kernel_rfl))⟩
 f24 := ⟨Tryz.f120.name, by decide, Tryz.func120.trans (congrArg some (by kernel_rfl))⟩
 f25 := ⟨Tryz.f121.name, by decide, Tryz.func121.trans (congrArg some (by kernel_rfl))⟩
 f26 := ⟨Tryz.f122.name, by decide, Tryz.func122.trans (congrArg some (by kernel_rfl))⟩
 f27 := ⟨Tryz.f123.name, by decide, Tryz.func123.trans (congrArg some (by kernel_rfl))⟩
 f28 := Tryz.func124.trans (congrArg some (by kernel_rfl))
 f29 := Tryz.func125.trans (congrArg some (by kernel_rfl))
 f46 := ⟨Tryz.f145.name, by decide, Tryz.func145.trans (congrArg some (by kernel_rfl))⟩
 f47 := Tryz.func146.trans (congrArg some (by kernel_rfl))
 f48 := Tryz.func147.trans (congrArg some (by kernel_rfl))
 f49 := ⟨Tryz.f148.name, by decide, Tryz.func148.trans (congrArg some (by kernel_rfl))⟩
 f50 := ⟨Tryz.f149.name, by decide, Tryz.func149.trans (congrArg some (by kernel_rfl))⟩
 f57 := ⟨Tryz.f157.name, by decide, Tryz.func157.trans (congrArg some (by kernel_rfl))⟩
 t0 := Tryz.underlying0
 a0 := Tryz.isAgg0
 z0 := Tryz.sizeOf0
 v0 := Tryz.zeroValue0
 t3 := Tryz.underlying3
 a3 := Tryz.isAgg3
 z3 := Tryz.sizeOf3
 v3 := Tryz.zeroValue3
 t4 := Tryz.underlying4
 a4 := Tryz.isAgg4
 z4 := Tryz.sizeOf4
 v4 := Tryz.zeroValue4
 t5 := Tryz.underlying5
 a5 := Tryz.isAgg5
 z5 := Tryz.sizeOf5
 v5 := Tryz.zeroValue5
 t9 := Tryz.underlying9
 a9 := Tryz.isAgg9
 z9 := Tryz.sizeOf9
 v9 := Tryz.zeroValue9
 t22 := Tryz.underlying28
 a22 := Tryz.isAgg28
 z22 := Tryz.sizeOf28
 v22 := Tryz.zeroValue28
 a24 := Tryz.isAgg23
 z24 := Tryz.sizeOf23
 t25 := Tryz.underlying80
 a25 := Tryz.isAgg80
 z25 := Tryz.sizeOf80
 v25 := Tryz.zeroValue80
 t39 := Tryz.underlying142
 a39 := Tryz.isAgg142
 z39 := Tryz.sizeOf142
 v39 := Tryz.zeroValue142
 t45 := Tryz.underlying151
 a45 := Tryz.isAgg151
 z45 := Tryz.sizeOf151
 v45 := Tryz.zeroValue151
 t46 := Tryz.underlying152
 a46 := Tryz.isAgg152
 z46 := Tryz.sizeOf152
 v46 := Tryz.zeroValue152
 t50 := Tryz.underlying92
 a50 := Tryz.isAgg92
 z50 := Tryz.sizeOf92
 v50 := Tryz.zeroValue92
 t53 := Tryz.underlying158
 a53 := Tryz.isAgg158
 z53 := Tryz.sizeOf158
 v53 := Tryz.zeroValue158
 t55 := Tryz.underlying160
 a55 := Tryz.isAgg160
 z55 := Tryz.sizeOf160
 v55 := Tryz.zeroValue160
 t66 := Tryz.underlying172
 a66 := Tryz.isAgg172
 z66 := Tryz.sizeOf172
 v66 := Tryz.zeroValue172
 t70 := Tryz.underlying176
 a70 := Tryz.isAgg176
 z70 := Tryz.sizeOf176
 v70 := Tryz.zeroValue176
 t76 := Tryz.underlying182
 a76 := Tryz.isAgg182
 z76 := Tryz.sizeOf182
 v76 := Tryz.zeroValue182
 t77 := Tryz.underlying183
 a77 := Tryz.isAgg183
 z77 := Tryz.sizeOf183
 v77 := Tryz.zeroValue183 }
end Go.Proofs
namespace Go.Proofs.YtjmmldkailblmaaGreat
open Go.Ahl
def c_cmpI : CCode := .seq (.ops [oS 4 (.move (.lit (.int .i64 0)))]) (.seq (.ops [oS 7 (.move (.tmp 0)), oS 8 (.call (.lit (.func 103 [])) [.tmp 7]), oS 5 (.move (.tmp 8))]) (.seq (.ops [oS 9 (.move (.tmp 1)), oS 10 (.call (.lit (.func 103 [])) [.tmp 9]), oS 6 (.move (.tmp 10))]) (.seq (.seq (.ops [oS 11 (.move (.tmp 5))]) (.cond (.tmp 11) (.seq (.seq (.ops [oS 12 (.move (.tmp 6))]) (.cond (.tmp 12) (.seq (.ops [oS 4 (.move (.lit (.int .i64 0)))]) .ret) .skip)) (.seq (.ops [oS 4 (.move (.lit (.int .i64 (-1))))]) .ret)) .skip)) (.seq (.seq (.ops [oS 13 (.move (.tmp 6))]) (.cond (.tmp 13) (.seq (.ops [oS 4 (.move (.lit (.int .i64 1)))]) .ret) .skip)) (.seq (.seq (.ops [oS 14 (.move (.tmp 0)), oS 15 (.move (.tmp 1)), oS 16 (.bin .lss .none (.tmp 14) (.tmp 15))]) (.cond (.tmp 16) (.seq (.ops [oS 4 (.move (.lit (.int .i64 (-1))))]) .ret) .skip)) (.seq (.seq (.ops [oS 17 (.move (.tmp 0)), oS 18 (.move (.tmp 1)), oS 19 (.bin .gtr .none (.tmp 17) (.tmp 18))]) (.cond (.tmp 19) (.seq (.ops [oS 4 (.move (.lit (.int .i64 1)))]) .ret) .skip)) (.seq (.ops [oS 4 (.move (.lit (.int .i64 0)))]) .ret)))))))
theorem cmpI_spec (x y : Int) (σ : Store) : ACalls Tryz.prog 73 [.int .i64 x, .int .i64 y] σ (isR (.int .i64 (if x < y then -1 else if y < x then 1 else 0)) σ) := by
 refine ACalls.intro (rs := [(.tmp 4)]) (by kernel_rfl) { own := [], ghosts := [] } Tryz.func73 (c := Tryz.f73.body.getD .skip) (by kernel_rfl) (by decide) (by rw [show Tryz.f73.ntmps = 20 by kernel_rfl]; exact Nat.le_of_ble_eq_true rfl) (by kernel_rfl) ?_
 intro hσ hids
 rw [show comp Tryz.prog { own := [], ghosts := [] } (Tryz.f73.body.getD .skip) = c_cmpI by kernel_rfl, show Tryz.f73.ntmps = 20 by kernel_rfl]
 unfold c_cmpI
 simp only [go_sem, simprocAttr]
 refine (cNaN_spec x σ).is ?_
 simp only [go_sem, simprocAttr]
 refine (cNaN_spec y σ).is ?_
 simp only [go_sem, simprocAttr]
 by_cases h1 : x < y
 ·simp only [go_sem, simprocAttr, h1]
  exact rt (.int .i64 (-1)) ⟨rfl, rfl⟩
 ·by_cases h2 : x > y
  ·simp only [go_sem, simprocAttr, h1, h2]
   exact rt (.int .i64 1) ⟨rfl, rfl⟩
  ·simp only [go_sem, simprocAttr, h1, h2]
   exact rt (.int .i64 0) ⟨rfl, rfl⟩
def c_slCmp : CCode := .seq (.ops [oS 4 (.move (.lit (.int .i64 0)))]) (.seq (.seq (.ops [oS 9 (.move (.tmp 0)), oS 10 (.blen 1 (.tmp 9)), oS 11 (.move (.lit (.int .i64 0)))]) (.block 0 (.loop (.seq (.ops [oS 12 (.bin .lss .none (.tmp 11) (.tmp 10))]) (.seq (.cond (.tmp 12) .skip (.exit 0)) (.seq (.block 1 (.seq (.ops [oS 13 (.move (.tmp 11)), oS 14 (.iaddr 1 (.tmp 9) (.tmp 11)), oS 15 (.load none (.tmp 14)), oS 5 (.move (.tmp 13)), oS 6 (.move (.tmp 15))]) (.seq (.seq (.ops [oS 16 (.move (.tmp 5)), oS 17 (.move (.tmp 1)), oS 18 (.blen 1 (.tmp 17)), oS 19 (.bin .geq .none (.tmp 16) (.tmp 18))]) (.cond (.tmp 19) (.seq (.ops [oS 4 (.move (.lit (.int .i64 1)))]) .ret) .skip)) (.seq (.ops [oS 20 (.move (.tmp 1)), oS 21 (.move (.tmp 5)), oS 22 (.iaddr 1 (.tmp 20) (.tmp 21)), oS 23 (.load none (.tmp 22)), oS 7 (.move (.tmp 23))]) (.seq (.ops [oS 24 (.move (.tmp 6)), oS 25 (.move (.tmp 7)), oS 26 (.call (.lit (.func 73 [])) [.tmp 24, .tmp 25]), oS 8 (.move (.tmp 26))]) (.seq (.ops [oS 27 (.move (.tmp 8)), oS 28 (.bin .neq .none (.tmp 27) (.lit (.int .i64 0)))]) (.cond (.tmp 28) (.seq (.ops [oS 29 (.move (.tmp 8)), oS 4 (.move (.tmp 29))]) .ret) .skip))))))) (.ops [oS 30 (.bin .add .none (.tmp 11) (.lit (.int .i64 1))), oS 11 (.move (.tmp 30))]))))))) (.seq (.seq (.ops [oS 31 (.move (.tmp 0)), oS 32 (.blen 1 (.tmp 31)), oS 33 (.move (.tmp 1)), oS 34 (.blen 1 (.tmp 33)), oS 35 (.bin .lss .none (.tmp 32) (.tmp 34))]) (.cond (.tmp 35) (.seq (.ops [oS 4 (.move (.lit (.int .i64 (-1))))]) .ret) .skip)) (.seq (.ops [oS 4 (.move (.lit (.int .i64 0)))]) .ret)))
theorem slCmp_spec (l m : List Int) (tok tok' : Tok) (σ : Store) (hl : l.length ≤ 140737488355328) (hm : m.length ≤ 140737488355328) :
  ACalls Tryz.prog 38 [.slice tok (l.map Ahl.encI), .slice tok' (m.map Ahl.encI)] σ (isR (.int .i64 (cmpInts l m)) σ) := by
 refine ACalls.intro (rs := [(.tmp 4)]) (by kernel_rfl) { own := [], ghosts := [] } Tryz.func38 (c := Tryz.f38.body.getD .skip) (by kernel_rfl) (by decide) (by rw [show Tryz.f38.ntmps = 36 by kernel_rfl]; exact Nat.le_of_ble_eq_true rfl) (by kernel_rfl) ?_
 intro hσ hids
 rw [show comp Tryz.prog { own := [], ghosts := [] } (Tryz.f38.body.getD .skip) = c_slCmp by kernel_rfl, show Tryz.f38.ntmps = 36 by kernel_rfl]
 unfold c_slCmp
 have hil : Ids σ.length (.slice tok (l.map Ahl.encI)) := hids _ (by simp)
 have him : Ids σ.length (.slice tok' (m.map Ahl.encI)) := hids _ (by simp)
 simp only [go_sem, simprocAttr]
 refine wpc_while (fun (i : Nat) => [(0, .slice tok (l.map Ahl.encI)), (1, .slice tok' (m.map Ahl.encI)), (9, .slice tok (l.map Ahl.encI)), (10, .int .i64 l.length), (11, .int .i64 i)]) (fun _ => σ) (fun i => i ≤ l.length ∧ i ≤ m.length ∧ cmpInts l m = cmpInts (l.drop i) (m.drop i)) (fun i => l.length - i) 0 ⟨Nat.zero_le _, Nat.zero_le _, rfl⟩ (by (try dsimp only); exact ghA) ?_
 rintro i ⟨hi, hi2, hv⟩ K hK hE hR
 by_cases h : i < l.length
 ·obtain ⟨x, hx⟩ := get_ex h; have hlt : ((i : Int) < (l.length : Int)) := (by omega); have hw := wrapS (i := i) (by omega)
  by_cases h2 : i < m.length
  ·obtain ⟨y, hy⟩ := get_ex h2
   have hge : ¬ ((i : Int) ≥ (m.length : Int)) := by omega
   rw [drop_cons hx, drop_cons hy, cmpInts] at hv
   simp only [go_sem, simprocAttr, hlt, hge, hx, hy, Ahl.encI]
   refine (cmpI_spec x y σ).is ?_
   by_cases h3 : x < y
   ·rw [if_pos h3] at hv ⊢
    have hne : ((-1 : Int) != 0) = true := rfl
    simp only [go_sem, simprocAttr, hne, hR]
    exact rt (.int .i64 (-1)) ⟨by rw [hv], rfl⟩
   ·by_cases h4 : y < x
    ·rw [if_neg h3, if_pos h4] at hv ⊢
     have hne : ((1 : Int) != 0) = true := rfl
     simp only [go_sem, simprocAttr, hne, hR]
     exact rt (.int .i64 1) ⟨by rw [hv], rfl⟩
    ·rw [if_neg h3, if_neg h4] at hv ⊢
     have hne : ((0 : Int) != 0) = false := rfl
     simp only [go_sem, simprocAttr, hne]
     refine hK _ _ (i + 1) (⟨by omega, by omega, hv⟩) om ?_; (try dsimp only); (try simp only [ hw]); exact ghA
  ·have hge : ((i : Int) ≥ (m.length : Int)) := by omega
   rw [drop_cons hx, drop_len h2] at hv
   simp only [go_sem, simprocAttr, hlt, hge, hx, hR, Ahl.encI]
   exact rt (.int .i64 1) ⟨by rw [hv]; rfl, rfl⟩
 ·have hlt : ¬ ((i : Int) < (l.length : Int)) := by omega
  rw [drop_len h] at hv
  by_cases h2 : (l.length : Int) < (m.length : Int)
  ·obtain ⟨y, hy⟩ := get_ex (show i < m.length by omega)
   rw [drop_cons hy] at hv
   simp only [go_sem, simprocAttr, hlt, hE, h2]
   exact rt (.int .i64 (-1)) ⟨by rw [hv]; rfl, rfl⟩
  ·rw [drop_len (show ¬ i < m.length by omega)] at hv
   simp only [go_sem, simprocAttr, hlt, hE, h2]
   exact rt (.int .i64 0) ⟨by rw [hv]; rfl, rfl⟩
theorem cmpInts_total {a b : List Int} (h : ¬ cmpInts a b < 0) : cmpInts b a < 0 ∨ a = b := by
 rcases Int.lt_trichotomy (cmpInts a b) 0 with q | q | q
 ·exact absurd q h
 ·exact .inr (cmpInts_anti q)
 ·exact .inl (cmpInts_swap.2 q)
end Go.Proofs.YtjmmldkailblmaaGreat
namespace Go.Ahl
theorem own_row (l : Loc) (a b : List AV) : own l (.row a) = own l (.row b) := by cases l <;> rfl
theorem ACalls.to {P : Program} {f : FuncId} {args : List AV} {σ τ : Store} {v : AV} {K : Cont} (h : ACalls P f args σ (isR v τ)) (k : K v τ) : ACalls P f args σ K :=
 h.mono fun r σ' hr => by obtain ⟨rfl, rfl⟩ := hr; exact k
theorem ACalls.ghost {P : Program} {f : FuncId} {args : List AV} {σ τ τ' : Store} {a b : AV} (h : ACalls P f args σ (isR a τ)) (hg : IdsS σ.length σ → Ghost σ.length 1 [(0, a)] τ [(0, b)] τ') : ACalls P f args σ (isR b τ') := by
 intro m loc w vs hs ha
 have key : ∀ v w', ARet loc m w (isR a τ) v w' → ARet loc m w (isR b τ') v w' := by
  rintro v w' ⟨r, σ', m', loc', ⟨rfl, rfl⟩, h2, h3, h4⟩
  have hn : σ.length ≤ loc'.length := by
   have := h4.len (Nat.le_refl _)
   rw [← hs.len]; exact this
  obtain ⟨m2, loc2, g1, g2, g3⟩ := hg hs.ids m' loc' w' #[v] hn h3 ⟨rfl, fun i => by
   cases i with
   | zero => exact h2
   | succ i => exact .any _⟩
  refine ⟨b, τ', m2, loc2, ⟨rfl, rfl⟩, g2.rel 0, g1, ?_⟩
  rw [← hs.len] at g3
  exact h4.trans g3
 rcases h m loc w vs hs ha with ⟨fn, h1, h2, h3, h4⟩ | ⟨v, w', h1, h2⟩
 ·exact .inl ⟨fn, h1, h2, h3, h4.mono fun e w' ⟨v, e1, e2⟩ => ⟨v, e1, key _ _ e2⟩⟩
 ·exact .inr ⟨v, w', h1, key _ _ h2⟩
end Go.Ahl
namespace Go.Ahl
theorem SRel.still {m : Mem} {loc : List Loc} {σ : Store} {w : World} (hS : SRel m loc σ w) {id b : Nat} {cells : List AV} (h1 : loc[id]? = some (.blk b)) (hs : σ[id]? = some (.row cells)) :
  ∃ (m' : Mem) (arr : Array Value) (ty : TypeId), SRel m' loc (σ.set id .dead) w ∧ m.le m' ∧ w.heap[b]? = some (.cells arr ty (0, 0)) ∧ m'.bs b = some arr.size ∧ cells.length ≤ arr.size ∧
   (∀ (j : Nat) x v, cells[j]? = some x → arr[j]? = some v → Rel m' loc x v) ∧ (∀ o, m'.im b o = if o < cells.length then arr[o]? else none) ∧ m'.wk = m.wk := by
 obtain ⟨arr, ty, g1, g2, g3, g4, g5⟩ := hS.obj id _ _ h1 hs
 let m' : Mem := ⟨fun k o => if k = b then (if o < cells.length then arr[o]? else none) else m.im k o, m.bs, m.mp, m.wk, m.base⟩
 have hle : m.le m' := ⟨fun k o v e => by
  show (if k = b then _ else _) = _
  by_cases hk : k = b
  ·subst hk; rw [g5] at e; simp at e
  ·rw [if_neg hk]; exact e, fun _ _ e => e, fun _ _ e => e, fun _ _ _ e => e, rfl⟩
 have hfz : ∀ k o v, Names loc k ∨ w.heap.size ≤ k → m'.im k o = some v → w.frozen? ⟨k, o, none⟩ = false := by
  intro k o v hk e
  have e : (if k = b then (if o < cells.length then arr[o]? else none) else m.im k o) = some v := e
  by_cases hkb : k = b
  ·subst hkb; simp [World.frozen?, g1]
  ·rw [if_neg hkb] at e
   rcases hk with hk | hk
   ·exact hS.ok.fz k o v (hS.ok.own k hk) e
   ·have := hS.im_lt e; omega
 have hS' : SRel m' loc (σ.set id .dead) w := by
  refine ⟨by simp [hS.len], ?_, hS.bs, ?_, (hS.die id).inj, hS.lt, hS.mp, (hS.die id).mpo, hS.ok.to rfl (Nat.le_refl _) (fun _ e => .inl e) rfl (fun k o _ hk => if_neg (fun q => hk ⟨id, .inl (by rw [q]; exact h1)⟩)) (fun _ _ _ => rfl) hfz⟩
  ·intro k o v e
   have e : (if k = b then (if o < cells.length then arr[o]? else none) else m.im k o) = some v := e
   by_cases hk : k = b
   ·subst hk
    rw [if_pos rfl] at e
    split at e
    ·simp [World.cell?, g1, e]
    ·simp at e
   ·rw [if_neg hk] at e; exact hS.im k o v e
  ·intro i l o e1 e2
   rcases get_set e2 with ⟨rfl, rfl⟩ | ⟨hne, e2⟩
   ·cases l <;> trivial
   ·have ho := hS.obj i l o e1 e2
    have hnb : own l o ≠ some b := fun q => hne (hS.inj i id l _ o _ b e1 h1 e2 hs q rfl).symm
    cases o with
    | dead => cases l <;> trivial
    | loop L =>
     cases l with
     | blk k =>
      obtain ⟨r, q1, q2, q3, q4, q5, q6, q7⟩ := ho
      exact ⟨r, q1, q2, q3, q4, q5, q6, ⟨q7.size, fun i => (q7.rel i).mono hle (.refl _ _)⟩⟩
     | nowhere => exact ho.elim
     | tok sz f => exact ho.elim
    | iter es seen =>
     cases l with
     | blk k =>
      rcases ho with ⟨q1, q2⟩ | ⟨q, en, c, sa, st, q1, q2, q3, q4⟩
      ·exact .inl ⟨q1, q2⟩
      ·exact .inr ⟨q, en, c, sa, st, q1, q2, ⟨q3.len, fun i k x e a1 a2 => ⟨(q3.key i k x e a1 a2).1.mono hle (.refl _ _), (q3.key i k x e a1 a2).2.mono hle (.refl _ _)⟩, q3.born, q3.apart⟩, q4⟩
     | nowhere => exact ho.elim
     | tok sz f => exact ho.elim
    | map es =>
     cases l with
     | blk k =>
      obtain ⟨en, c, q1, q2⟩ := ho
      exact ⟨en, c, q1, ⟨q2.len, fun i k x e a1 a2 => ⟨(q2.key i k x e a1 a2).1.mono hle (.refl _ _), (q2.key i k x e a1 a2).2.mono hle (.refl _ _)⟩, q2.born, q2.apart⟩⟩
     | nowhere => exact ho.elim
     | tok sz f => exact ho.elim
    | row cs =>
     cases l with
     | blk k =>
      obtain ⟨arr2, t2, q1, q2, q3, q4, q5⟩ := ho
      refine ⟨arr2, t2, q1, q2, q3, fun j x v a1 a2 => (q4 j x v a1 a2).mono hle (.refl _ _), fun o => ?_⟩
      show (if k = b then _ else _) = _
      rw [if_neg (fun q => hnb (by subst q; rfl))]; exact q5 o
     | nowhere => exact ho
     | tok sz f => exact ho.elim
    | vec sz k cs =>
     cases l with
     | tok sz' f =>
      obtain ⟨q0, q1, q2, q3⟩ := ho
      refine ⟨q0, q1, q2, ?_⟩
      rcases q3 with q3 | ⟨bb, arr2, t2, a1, a2, a3, a4, a5, a6⟩
      ·exact .inl q3
      ·refine .inr ⟨bb, arr2, t2, a1, a2, a3, a4, fun j x v e1 e2 => (a5 j x v e1 e2).mono hle (.refl _ _), fun o => ?_⟩
       show (if bb = b then _ else _) = _
       rw [if_neg (fun q => hnb (by subst q; simp [own, a1]))]; exact a6 o
     | nowhere => exact ho.elim
     | blk k => exact ho.elim
    | grow sz k =>
     cases l with
     | tok sz' f =>
      obtain ⟨q1, q2, q3⟩ := ho
      refine ⟨q1, q2, ?_⟩
      rcases q3 with q3 | ⟨bb, arr2, t2, a1, a2, a3, a4⟩
      ·exact .inl q3
      ·refine .inr ⟨bb, arr2, t2, a1, a2, a3, fun o ho => ?_⟩
       show (if bb = b then _ else _) = _
       rw [if_neg (fun q => hnb (by subst q; simp [own, a1]))]; exact a4 o ho
     | nowhere => exact ho.elim
     | blk k => exact ho.elim
 exact ⟨m', arr, ty, hS', hle, g1, g2, g3, fun j x v e1 e2 => (g4 j x v e1 e2).mono hle (.refl _ _), fun o => by show (if b = b then _ else _) = _; rw [if_pos rfl], rfl⟩
theorem SRel.right {m : Mem} {loc : List Loc} {σ : Store} {w : World} (h : SRel m loc σ w) (n0 sz len : Nat) {b i0 : Nat} {arr : Array Value} {ty : TypeId} (hl : loc[i0]? = some (.blk b)) (h1 : w.heap[b]? = some (.cells arr ty (0, 0))) (h2 : m.bs b = some arr.size)
  (h3 : ∀ o, sz * len ≤ o → m.im b o = none) (hno : ∀ (i : Nat) l o, loc[i]? = some l → σ[i]? = some o → own l o ≠ some b) :
  SRel m (loc ++ [.tok sz fun k => if k = len then some (some b) else none]) (σ ++ [.grow sz len]) w ∧ Ext n0 m loc w m (loc ++ [.tok sz fun k => if k = len then some (some b) else none]) w := by
 have hfl : (fun k => if k = len then some (some b) else none : Nat → Option (Option Nat)) len = some (some b) := by simp
 have hown : ∀ b', own (.tok sz fun k => if k = len then some (some b) else none) (.grow sz len) = some b' → b' = b := by
  intro b' e; simp [own] at e; exact e.symm
 have hnam : ∀ b', Names (loc ++ [.tok sz fun k => if k = len then some (some b) else none]) b' → Names loc b' := by
  intro b' e
  rcases e.app with e | e | ⟨sz', f, k, e, hk⟩
  ·exact e
  ·simp at e
  ·injection e with e1 e2
   subst e2
   simp only at hk
   split at hk
   ·simp at hk; subst hk; exact ⟨i0, .inl hl⟩
   ·simp at hk
 refine ⟨⟨by simp [h.len], h.im, h.bs, ?_, ?_, fun b' e => h.lt b' (hnam b' e), h.mp, ?_, h.ok.names hnam⟩, ⟨rfl, rfl, rfl, Nat.le_refl _, Nat.le_refl _, .refl m, .app _ _ _, fun b' e => .inl (hnam b' e), fun _ _ _ _ => rfl, fun _ _ _ e => .inl e⟩⟩
 ·intro i l o e1 e2
  rcases get_app e1 with e1 | ⟨hi, e1⟩
  ·rcases get_app e2 with e2 | ⟨hi2, e2⟩
   ·exact (h.obj i l o e1 e2).mono (.refl m) (.app _ _ _) (fun _ _ => rfl) (fun _ _ _ => rfl)
   ·have := lt_of_get e1; have := h.len; omega
  ·rcases get_app e2 with e2 | ⟨hi2, e2⟩
   ·have := lt_of_get e2; have := h.len; omega
   ·subst e1; subst e2
    exact ⟨rfl, fun k hk => by show (if k = len then some (some b) else none) = none; rw [if_neg (by omega)], .inr ⟨b, arr, ty, hfl, h1, h2, h3⟩⟩
 ·intro i j l1 l2 o1 o2 b' e1 e2 e3 e4 w1 w2
  rcases get_app e1 with f1 | ⟨hi, f1⟩ <;> rcases get_app e2 with f2 | ⟨hj, f2⟩
  ·rcases get_app e3 with f3 | ⟨hi3, f3⟩
   ·rcases get_app e4 with f4 | ⟨hi4, f4⟩
    ·exact h.inj i j l1 l2 o1 o2 b' f1 f2 f3 f4 w1 w2
    ·have := lt_of_get f2; have := h.len; omega
   ·have := lt_of_get f1; have := h.len; omega
  ·rcases get_app e3 with f3 | ⟨hi3, f3⟩
   ·rcases get_app e4 with f4 | ⟨hi4, f4⟩
    ·have := lt_of_get f4; have := h.len; omega
    ·subst f2; subst f4
     have := hown _ w2; subst this
     exact absurd w1 (hno i l1 o1 f1 f3)
   ·have := lt_of_get f1; have := h.len; omega
  ·rcases get_app e4 with f4 | ⟨hi4, f4⟩
   ·rcases get_app e3 with f3 | ⟨hi3, f3⟩
    ·have := lt_of_get f3; have := h.len; omega
    ·subst f1; subst f3
     have := hown _ w1; subst this
     exact absurd w2 (hno j l2 o2 f2 f4)
   ·have := lt_of_get f2; have := h.len; omega
  ·omega
 ·intro i l o b' e1 e2 w1
  rcases get_app e1 with e1 | ⟨hi, e1⟩
  ·rcases get_app e2 with e2 | ⟨hi2, e2⟩
   ·exact h.mpo i l o b' e1 e2 w1
   ·have := lt_of_get e1; have := h.len; omega
  ·rcases get_app e2 with e2 | ⟨hi2, e2⟩
   ·have := lt_of_get e2; have := h.len; omega
   ·subst e1; subst e2
    have := hown _ w1; subst this
    cases hq : m.mp b' with
    | none => rfl
    | some e => have := h.mp b' e hq; rw [h1] at this; simp at this
end Go.Ahl
namespace Go.Ahl
end Go.Ahl
namespace Go.Ahl
end Go.Ahl
namespace Go.Ahl
end Go.Ahl
namespace Go.Ahl
end Go.Ahl
namespace Go.Ahl
section
variable {m : Mem} {loc : List Loc} {σ : Store} {w : World}
theorem SRel.place (h : SRel m loc σ w) (n0 : Nat) (l : Loc) (o : AObj) (hnm : ∀ b, (l = .blk b ∨ ∃ sz g k, l = .tok sz g ∧ g k = some (some b)) → Names loc b)
  (ho : ObjRel m (loc ++ [l]) w l o) (hno : ∀ b, own l o = some b → (∀ (i : Nat) l' o', loc[i]? = some l' → σ[i]? = some o' → own l' o' ≠ some b) ∧ m.mp b = none) :
  SRel m (loc ++ [l]) (σ ++ [o]) w ∧ Ext n0 m loc w m (loc ++ [l]) w := by
 have hnam : ∀ b, Names (loc ++ [l]) b → Names loc b := by
  intro b e
  rcases e.app with e | e | e
  ·exact e
  ·exact hnm b (.inl e)
  ·exact hnm b (.inr e)
 refine ⟨⟨by simp [h.len], h.im, h.bs, ?_, ?_, fun b' e => h.lt b' (hnam b' e), h.mp, ?_, h.ok.names hnam⟩, ⟨rfl, rfl, rfl, Nat.le_refl _, Nat.le_refl _, .refl m, .app _ _ _, fun b' e => .inl (hnam b' e), fun _ _ _ _ => rfl, fun _ _ _ e => .inl e⟩⟩
 ·intro i l' o' e1 e2
  rcases get_app e1 with f1 | ⟨hi, f1⟩
  ·rcases get_app e2 with f2 | ⟨hi2, f2⟩
   ·exact (h.obj i l' o' f1 f2).mono (.refl m) (.app _ _ _) (fun _ _ => rfl) (fun _ _ _ => rfl)
   ·have := lt_of_get f1; have := h.len; omega
  ·rcases get_app e2 with f2 | ⟨hi2, f2⟩
   ·have := lt_of_get f2; have := h.len; omega
   ·subst f1; subst f2; exact ho
 ·intro i j l1 l2 o1 o2 b e1 e2 e3 e4 w1 w2
  have hl := h.len
  rcases get_app e1 with f1 | ⟨hi, f1⟩ <;> rcases get_app e2 with f2 | ⟨hj, f2⟩ <;> rcases get_app e3 with f3 | ⟨hi3, f3⟩ <;> rcases get_app e4 with f4 | ⟨hi4, f4⟩
  ·exact h.inj i j l1 l2 o1 o2 b f1 f2 f3 f4 w1 w2
  ·have := lt_of_get f2; omega
  ·have := lt_of_get f1; omega
  ·have := lt_of_get f1; omega
  ·have := lt_of_get f4; omega
  ·subst f2; subst f4; exact absurd w1 ((hno b w2).1 i l1 o1 f1 f3)
  ·have := lt_of_get f1; omega
  ·have := lt_of_get f1; omega
  ·have := lt_of_get f3; omega
  ·have := lt_of_get f2; omega
  ·subst f1; subst f3; exact absurd w2 ((hno b w1).1 j l2 o2 f2 f4)
  ·have := lt_of_get f2; omega
  ·omega
  ·omega
  ·omega
  ·omega
 ·intro i l' o' b e1 e2 w1
  rcases get_app e1 with f1 | ⟨hi, f1⟩
  ·rcases get_app e2 with f2 | ⟨hi2, f2⟩
   ·exact h.mpo i l' o' b f1 f2 w1
   ·have := lt_of_get f1; have := h.len; omega
  ·rcases get_app e2 with f2 | ⟨hi2, f2⟩
   ·have := lt_of_get f2; have := h.len; omega
   ·subst f1; subst f2; exact (hno b w1).2
end
end Go.Ahl
namespace Go.Ahl
def kindV : Value → Option Kind
 | .int k _ => some (.int k)
 | .string _ => some .str
 | .bool _ => some .bool
 | _ => none
theorem kindV_is {v : Value} {K : Kind} (h : kindV v = some K) : K.is v := by
 cases v <;> simp [kindV] at h <;> subst h <;> exact ⟨_, rfl⟩
inductive Wkn : AV → AV → Prop where
 | int (k : IntKind) (n : Int) : Wkn (.int k n) (.cell (.int k))
 | str (s : ByteArray) : Wkn (.str s) (.cell .str)
 | bool (b : Bool) : Wkn (.bool b) (.cell .bool)
 | nil : Wkn (.slice .nil []) (.wslice [])
 | slice (es es' : List (List AV)) (hl : es.length = es'.length) (hle : ∀ (i : Nat) e e', es[i]? = some e → es'[i]? = some e' → e.length = e'.length)
   (h : ∀ (i : Nat) e e', es[i]? = some e → es'[i]? = some e' → ∀ (j : Nat) x y, e[j]? = some x → e'[j]? = some y → Wkn x y) : Wkn (.slice .fresh es) (.wslice es')
def Mem.weaken (m m1 : Mem) (n : Nat) : Mem where
 im b o := if b < n then m.im b o else (m1.im b o).bind fun v => if (kindV v).isSome then none else some v
 bs := m.bs
 mp := m.mp
 base := m.base
 wk b o := if b < n then m.wk b o else (m1.im b o).bind kindV
theorem get_both {α β : Type} {l : List α} {l' : List β} {i : Nat} {y : β} (h : l.length = l'.length) (e : l'[i]? = some y) : ∃ x, l[i]? = some x :=
 ⟨l[i]'(by rw [h]; exact lt_of_get e), List.getElem?_eq_getElem _⟩
theorem Wkn.rel {m m1 : Mem} {loc loc1 : List Loc} {n : Nat} (hb : m1.base = n) (hl0 : 0 < loc.length) {a b : AV} (h : Wkn a b) : ∀ {v : Value}, Rel m1 loc1 a v →
  Rel (m.weaken m1 n) loc b v ∧ (∀ K, b = .cell K → kindV v = some K) ∧ (b.isCell = false → kindV v = none) := by
 induction h with
 | int k i => intro v hr; cases hr; exact ⟨.cell _ _ ⟨_, rfl⟩, by rintro K e; injection e with e; subst e; rfl, by simp [AV.isCell]⟩
 | str s => intro v hr; cases hr; exact ⟨.cell _ _ ⟨_, rfl⟩, by rintro K e; injection e with e; subst e; rfl, by simp [AV.isCell]⟩
 | bool b => intro v hr; cases hr; exact ⟨.cell _ _ ⟨_, rfl⟩, by rintro K e; injection e with e; subst e; rfl, by simp [AV.isCell]⟩
 | nil =>
  intro v hr
  cases hr with
  | slice _ _ a cap sz b o f hcap htok hsz ha hc hr =>
   exact ⟨.wslice [] a cap 0 0 0 (fun _ _ => undef) hl0 hcap (by simp) (fun h => absurd rfl h) (by simp) (by simp) (by simp), by simp, fun _ => rfl⟩
 | slice es es' hl hle h ih =>
  intro v hr
  cases hr with
  | slice _ _ a cap sz b o f hcap htok hsz ha hc hr =>
   refine ⟨?_, by simp, fun _ => rfl⟩
   rw [hl]
   have hne : es' ≠ [] → es ≠ [] := fun q q' => by subst q'; exact q (List.length_eq_zero_iff.1 hl.symm)
   have hn : ∀ (i : Nat) e', es'[i]? = some e' → ¬ b < n := fun i e' he => by
    have hi := lt_of_get he
    have hq : es ≠ [] := by intro q; subst q; simp at hl; omega
    have := htok (by omega) b o (ha hq)
    omega
   have hcell : ∀ (i : Nat) e', es'[i]? = some e' → ∀ (j : Nat) y, e'[j]? = some y → ∃ x e, es[i]? = some e ∧ e[j]? = some x ∧ m1.im b (o + (i * sz + j)) = some (f i j) := fun i e' he j y hy => by
    obtain ⟨e, he1⟩ := get_both hl he
    obtain ⟨x, hx⟩ := get_both (hle i e e' he1 he) hy
    exact ⟨x, e, he1, hx, hc i (lt_of_get he1) j (by rw [← hsz e (List.mem_of_getElem? he1)]; exact lt_of_get hx)⟩
   refine .wslice es' a cap sz b o f hl0 (by omega) (fun e' he' => ?_) (fun q => ha (hne q)) (fun i e' he j K hK => ?_) (fun i e' he j y hy hyc => ?_) (fun i e' he j y hy hyc => ?_)
   ·obtain ⟨i, hi, rfl⟩ := List.mem_iff_getElem.1 he'
    obtain ⟨e, he1⟩ := get_both hl (List.getElem?_eq_getElem hi)
    rw [← hle i e _ he1 (List.getElem?_eq_getElem hi)]; exact hsz e (List.mem_of_getElem? he1)
   ·obtain ⟨x, e, h1, h2, h3⟩ := hcell i e' he j _ hK
    obtain ⟨_, q, _⟩ := ih i e e' h1 he j x _ h2 hK (hr i e h1 j x h2)
    simp only [Mem.weaken]; rw [if_neg (hn i e' he), h3]; exact q K rfl
   ·obtain ⟨x, e, h1, h2, h3⟩ := hcell i e' he j _ hy
    obtain ⟨_, _, q⟩ := ih i e e' h1 he j x _ h2 hy (hr i e h1 j x h2)
    simp only [Mem.weaken]; rw [if_neg (hn i e' he), h3]; simp [q hyc]
   ·obtain ⟨x, e, h1, h2, h3⟩ := hcell i e' he j _ hy
    exact (ih i e e' h1 he j x _ h2 hy (hr i e h1 j x h2)).1
def Unf (a : AV) : Prop := ∀ m v n, Rel m [] a v → Rel { m with base := n } [] a v
def UnfL (l : List AV) : Prop := ∀ x ∈ l, Unf x
theorem Unf.int (k : IntKind) (n : Int) : Unf (.int k n) := fun m v n h => by cases h; exact .int _ _
theorem Unf.str (s : ByteArray) : Unf (.str s) := fun m v n h => by cases h; exact .str _
theorem Unf.bool (b : Bool) : Unf (.bool b) := fun m v n h => by cases h; exact .bool _
theorem Unf.slice {t : Tok} (ht : t = .unk ∨ t = .nil ∨ t = .zero) {es : List (List AV)} (h : ∀ e ∈ es, UnfL e) : Unf (.slice t es) := fun m v n hr => by
 cases hr with
 | slice _ _ a cap sz b o f hcap htok hsz ha hc hr =>
  refine .slice t es a cap sz b o f hcap ?_ hsz ha hc (fun i e he j x hx => h e (List.mem_of_getElem? he) x (List.mem_of_getElem? hx) m _ n (hr i e he j x hx))
  rcases ht with rfl | rfl | rfl <;> exact htok
theorem Unf.map {α : Type} {enc : α → List AV} (h : ∀ x, UnfL (enc x)) (l : List α) : Unf (.slice .unk (l.map enc)) :=
 .slice (.inl rfl) fun e he => by obtain ⟨x, _, rfl⟩ := List.mem_map.1 he; exact h x
theorem Unf.nil : Unf (.slice .nil []) := .slice (.inr (.inl rfl)) (by simp)
theorem Unf.agg {l : List AV} (h : UnfL l) : Unf (.agg l) := fun m v n hr => by
 cases hr with
 | agg _ vs hlen hr => exact .agg _ vs hlen fun j x v e1 e2 => h x (List.mem_of_getElem? e1) m v n (hr j x v e1 e2)
theorem UnfL.nil : UnfL [] := fun x h => by simp at h
theorem UnfL.cons {x : AV} {l : List AV} (h : Unf x) (k : UnfL l) : UnfL (x :: l) := fun y hy => by
 rcases List.mem_cons.1 hy with rfl | hy
 ·exact h
 ·exact k y hy
theorem UnfL.app {l k : List AV} (h : UnfL l) (h' : UnfL k) : UnfL (l ++ k) := fun y hy => by
 rcases List.mem_append.1 hy with hy | hy
 ·exact h y hy
 ·exact h' y hy
def AV.flat : AV → Bool
 | .int .. | .bool _ | .str _ => true
 | _ => false
def Wkn1 (x y : AV) : Prop := Wkn x y ∨ (x = y ∧ x.flat = true)
def WknT (a b : AV) : Prop := Wkn1 a b ∨ ∃ xs ys, a = .tuple xs ∧ b = .tuple ys ∧ xs.length = ys.length ∧ ∀ (j : Nat) x y, xs[j]? = some x → ys[j]? = some y → Wkn1 x y
theorem Wkn1.rel {m m1 : Mem} {loc loc1 : List Loc} {n : Nat} (hb : m1.base = n) (hl0 : 0 < loc.length) {a b : AV} (h : Wkn1 a b) {v : Value} (hr : Rel m1 loc1 a v) : Rel (m.weaken m1 n) loc b v := by
 rcases h with h | ⟨rfl, h⟩
 ·exact (h.rel hb hl0 hr).1
 ·cases hr <;> simp [AV.flat] at h <;> constructor
theorem WknT.rel {m m1 : Mem} {loc loc1 : List Loc} {n : Nat} (hb : m1.base = n) (hl0 : 0 < loc.length) {a b : AV} (h : WknT a b) {v : Value} (hr : Rel m1 loc1 a v) : Rel (m.weaken m1 n) loc b v := by
 rcases h with h | ⟨xs, ys, rfl, rfl, hl, h⟩
 ·exact h.rel hb hl0 hr
 ·cases hr with
  | tuple _ vs hlen hr =>
   refine .tuple ys vs (by omega) fun j y v e1 e2 => ?_
   obtain ⟨x, hx⟩ := get_both hl e1
   exact (h j x y hx e1).rel hb hl0 (hr j x v hx e2)
theorem ACalls.weak {P : Program} {f : FuncId} {args : List AV} {R : Cont} {Q : AV → Prop} (h : ACalls P f args [] R) (hab : ∀ r σ', R r σ' → ∃ b, WknT r b ∧ Q b) (hi : ∀ x ∈ args, Ids 0 x) (hu : UnfL args) (σ : Store) :
  ACalls P f args σ (fun r σ' => Q r ∧ σ' = σ ++ [.dead]) := by
 intro m loc w vs hs ha
 let m0 : Mem := { m.strip with base := w.heap.size }
 have hS0 : SRel m0 [] [] w := by
  have h1 := (srel_base hs).strip fun _ _ q => q.strip
  exact ⟨h1.len, h1.im, h1.bs, by intro i l o e; simp at e, by intro i j l l' o o' b e; simp at e, h1.lt, h1.mp, by intro i l o b e; simp at e,
   ⟨Nat.le_refl _, by rintro b ⟨i, e | ⟨_, _, _, e, _⟩⟩ <;> simp at e, fun b o K e => by simp [m0, Mem.strip] at e, fun b o v q e => by
    have := hs.im_lt (b := b) (o := o) (v := v) e
    have q : w.heap.size ≤ b := q
    omega⟩⟩
 have hA : ArgsRel m0 [] args vs := by
  refine ⟨ha.1, fun j x v e1 e2 => ?_⟩
  have h1 := (ha.2 j x v e1 e2).take (n := 0) (hi x (List.mem_of_getElem? e1))
  rw [List.take_zero] at h1
  exact hu x (List.mem_of_getElem? e1) _ _ _ h1.strip
 have key : ∀ v w', ARet [] m0 w R v w' → ARet loc m w (fun r σ' => Q r ∧ σ' = σ ++ [.dead]) v w' := by
  rintro v w' ⟨r, σ', m1, loc1, hR, hrel, hsr, hext⟩
  obtain ⟨b, hb1, hb2⟩ := hab r σ' hR
  have hbase : m1.base = w.heap.size := hext.mem.base
  have hfr : ∀ k, k < w.heap.size → w'.heap[k]? = w.heap[k]? := fun k hk => hext.frame k hk (by rintro ⟨i, e | ⟨_, _, _, e, _⟩⟩ <;> simp at e) (fun _ => rfl)
  let m2 := m.weaken m1 w.heap.size
  have him : ∀ k o, k < w.heap.size → m2.im k o = m.im k o := fun k o hk => if_pos hk
  have hwk : ∀ k o, k < w.heap.size → m2.wk k o = m.wk k o := fun k o hk => if_pos hk
  have hwlt : ∀ k o K, m.wk k o = some K → k < w.heap.size := fun k o K e => by
   obtain ⟨_, _, arr, t, fz, v, h3, _⟩ := hs.ok.wk k o K e
   exact lt_of_heap h3
  have hle : m.le m2 := ⟨fun k o v e => by rw [him k o (hs.im_lt e)]; exact e, fun _ _ e => e, fun _ _ e => e, fun k o K e => by rw [hwk k o (hwlt k o K e)]; exact e, rfl⟩
  have hnew : ∀ k o v, ¬ k < w.heap.size → m2.im k o = some v → m1.im k o = some v := fun k o v hk e => by
   simp only [m2, Mem.weaken] at e
   rw [if_neg hk] at e
   cases e1 : m1.im k o with
   | none => rw [e1] at e; simp at e
   | some u =>
    rw [e1] at e; simp only [Option.bind_some] at e
    split at e
    ·simp at e
    ·exact e
  have hS2 : SRel m2 loc σ w' := by
   refine ⟨hs.len, ?_, ?_, ?_, hs.inj, fun b e => Nat.lt_of_lt_of_le (hs.lt b e) hext.size, ?_, hs.mpo, ?_⟩
   ·intro k o v e
    by_cases hk : k < w.heap.size
    ·rw [him k o hk] at e
     have := hs.im k o v e
     simpa [World.cell?, hfr k hk] using this
    ·exact hsr.im k o v (hnew k o v hk e)
   ·intro k n e
    rw [hfr k (hs.bs_lt (b := k) (n := n) e)]; exact hs.bs k n e
   ·intro i l o e1 e2
    exact (hs.obj i l o e1 e2).mono hle (.refl _ _) (fun k e => hfr k (hs.lt k (own_names e1 e))) (fun k off e => him k off (hs.lt k (own_names e1 e)))
   ·intro k e q
    rw [hfr k (hs.mp_lt (b := k) (e := e) q)]; exact hs.mp k e q
   ·refine ⟨Nat.le_trans hs.ok.low hext.size, hs.ok.own, fun k o K e => ?_, fun k o v q e => ?_⟩
    ·by_cases hk : k < w.heap.size
     ·rw [hwk k o hk] at e
      obtain ⟨h1, h2, arr, t, fz, v, h3, h4, h5, h6⟩ := hs.ok.wk k o K e
      exact ⟨h1, by rw [him k o hk]; exact h2, arr, t, fz, v, by rw [hfr k hk]; exact h3, h4, h5, by rw [frozen_same (hfr k hk)]; exact h6⟩
     ·simp only [m2, Mem.weaken] at e
      rw [if_neg hk] at e
      cases e1 : m1.im k o with
      | none => rw [e1] at e; simp at e
      | some u =>
       rw [e1] at e; simp only [Option.bind_some] at e
       have hc := hsr.im k o u e1
       refine ⟨fun q => hk (hs.lt k q), ?_, ?_⟩
       ·simp only [m2, Mem.weaken]; rw [if_neg hk, e1]; simp [e]
       ·have hz := hsr.ok.fz k o u (by rw [hbase]; omega) e1
        unfold World.cell? at hc
        split at hc
        ·rename_i arr t fz hh
         simp at hc
         exact ⟨arr, t, fz, u, hh, hc, kindV_is e, hz⟩
        ·simp at hc
    ·by_cases hk : k < w.heap.size
     ·rw [him k o hk] at e
      rw [frozen_same (hfr k hk)]; exact hs.ok.fz k o v q e
     ·exact hsr.ok.fz k o v (by rw [hbase]; omega) (hnew k o v hk e)
  have hE2 : Ext loc.length m loc w m2 loc w' := ⟨hext.os, hext.tape, hext.output, hext.drawn, hext.size, hle, .refl _ _, fun _ e => .inl e, fun k hk _ _ => hfr k hk, fun k o K e => by
   by_cases hk : k < w.heap.size
   ·rw [hwk k o hk] at e; exact .inl e
   ·exact .inr (by omega)⟩
  obtain ⟨g1, g2⟩ := hS2.ghost loc.length .nowhere .dead (by rintro b (e | ⟨_, _, _, e, _⟩) <;> simp at e) (by intro b; simp [own]) trivial
  exact ⟨b, _, m2, _, ⟨hb2, rfl⟩, hb1.rel hbase (by simp) hrel, g1, hE2.trans g2⟩
 rcases h m0 [] w vs hS0 hA with ⟨fn, h1, h2, h3, h4⟩ | ⟨v, w', h1, h2⟩
 ·exact .inl ⟨fn, h1, h2, h3, h4.mono fun e w' ⟨v, e1, e2⟩ => ⟨v, e1, key _ _ e2⟩⟩
 ·exact .inr ⟨v, w', h1, key _ _ h2⟩
theorem Wkn.map {α : Type} {enc enc' : α → List AV} (hl : ∀ x, (enc x).length = (enc' x).length) (h : ∀ x (j : Nat) a b, (enc x)[j]? = some a → (enc' x)[j]? = some b → Wkn a b) (l : List α) :
  Wkn (.slice .fresh (l.map enc)) (.wslice (l.map enc')) := by
 have hx : ∀ (i : Nat) e e', (l.map enc)[i]? = some e → (l.map enc')[i]? = some e' → ∃ x, e = enc x ∧ e' = enc' x := by
  intro i e e' h1 h2
  rw [List.getElem?_map] at h1 h2
  cases q : l[i]? with
  | none => rw [q] at h1; simp at h1
  | some x => rw [q] at h1 h2; simp at h1 h2; exact ⟨x, h1.symm, h2.symm⟩
 refine .slice _ _ (by simp) (fun i e e' h1 h2 => ?_) (fun i e e' h1 h2 j x y h3 h4 => ?_)
 ·obtain ⟨x, rfl, rfl⟩ := hx i e e' h1 h2; exact hl x
 ·obtain ⟨z, rfl, rfl⟩ := hx i e e' h1 h2; exact h z j x y h3 h4
theorem WknT.of {a b : AV} (h : Wkn a b) : WknT a b := .inl (.inl h)
theorem WknT.tuple {xs ys : List AV} (hl : xs.length = ys.length) (h : ∀ (j : Nat) x y, xs[j]? = some x → ys[j]? = some y → Wkn1 x y) : WknT (.tuple xs) (.tuple ys) := .inr ⟨xs, ys, rfl, rfl, hl, h⟩
theorem WknT.two {a b c d : AV} (h : Wkn1 a c) (k : Wkn1 b d) : WknT (.tuple [a, b]) (.tuple [c, d]) := .tuple rfl fun j x y h1 h2 => by
 match j with
 | 0 => simp at h1 h2; subst h1; subst h2; exact h
 | 1 => simp at h1 h2; subst h1; subst h2; exact k
 | j + 2 => simp at h1
theorem Wkn1.flat {a : AV} (h : a.flat = true) : Wkn1 a a := .inr ⟨rfl, h⟩
end Go.Ahl
namespace Go.Ahl
theorem SRel.rewk {m : Mem} {loc : List Loc} {σ : Store} {w : World} (h : SRel m loc σ w) (id : Nat) {xs ys : List AV} (hs : σ[id]? = some (.row xs)) (hw : WkL xs ys) : SRel m loc (σ.set id (.row ys)) w where
 len := by simp [h.len]
 im := h.im
 bs := h.bs
 obj := by
  intro i l o h1 h2
  rcases get_set h2 with ⟨rfl, rfl⟩ | ⟨_, h2⟩
  ·have := h.obj _ l _ h1 hs
   cases l with
   | nowhere =>
    have e : xs = [] := this
    subst e
    cases hw
    exact rfl
   | tok sz f => exact this.elim
   | blk b =>
    obtain ⟨arr, t, h1, h2, h3, h4, h5⟩ := this
    refine ⟨arr, t, h1, h2, by rw [← hw.len]; exact h3, fun j z v e1 e2 => ?_, h5⟩
    obtain ⟨x, q1, q2⟩ := hw.get j z e1
    exact q2 _ _ _ (h4 j x v q1 e2)
  ·exact h.obj i l o h1 h2
 inj := by
  intro i j l l' o o' b h1 h2 h3 h4 w1 w2
  have fix : ∀ {i : Nat} {l : Loc} {o : AObj}, (σ.set id (.row ys))[i]? = some o → own l o = some b → ∃ o2, σ[i]? = some o2 ∧ own l o2 = some b := by
   intro i l o h3 w1
   rcases get_set h3 with ⟨rfl, rfl⟩ | ⟨_, h3⟩
   ·exact ⟨_, hs, by rw [own_row l xs ys]; exact w1⟩
   ·exact ⟨_, h3, w1⟩
  obtain ⟨o2, q1, q2⟩ := fix h3 w1
  obtain ⟨o3, q3, q4⟩ := fix h4 w2
  exact h.inj i j l l' o2 o3 b h1 h2 q1 q3 q2 q4
 lt := h.lt
 mp := h.mp
 mpo := by
  intro i l o b h1 h2 w1
  rcases get_set h2 with ⟨rfl, rfl⟩ | ⟨_, h2⟩
  ·exact h.mpo _ l _ b h1 hs (by rw [own_row l xs ys]; exact w1)
  ·exact h.mpo i l o b h1 h2 w1
 ok := h.ok
theorem Ghost.rewk {n0 nt : Nat} {s : Slots} {σ : Store} (id : Nat) {xs ys : List AV} (hs : σ[id]? = some (.row xs)) (hw : WkL xs ys) : Ghost n0 nt s σ s (σ.set id (.row ys)) :=
 fun m loc w t _ h1 h2 => ⟨m, loc, h1.rewk id hs hw, h2, .refl _ _ _ _⟩
theorem Ghost.tokRow {n0 nt : Nat} {s : Slots} {σ : Store} (id off sz : Nat) {cells : List AV} (hs : σ[id]? = some (.row cells)) (hx : cells[off]? = some (.slice .nil [])) :
  Ghost n0 nt s σ s ((σ ++ [AObj.grow sz 0]).set id (AObj.row (cells.set off (AV.slice (.grow σ.length) [])))) := by
 intro m loc w tm hl hS hr
 obtain ⟨g1, g2⟩ := hS.tok0 n0 sz
 have hid := lt_of_get hs
 have hid2 : id < loc.length := by rw [hS.len]; exact hid
 have hs' : (σ ++ [AObj.grow sz 0])[id]? = some (.row cells) := by rw [List.getElem?_append_left hid]; exact hs
 have hloc : (loc ++ [.tok sz Ahl.tok0])[id]? = some (loc[id]) := by rw [List.getElem?_append_left hid2]; exact List.getElem?_eq_getElem hid2
 have hobj := g1.obj id _ _ hloc hs'
 generalize loc[id] = l at hloc hobj
 cases l with
 | blk b =>
  obtain ⟨arr, t, e1, e2, e3, e4, e5⟩ := hobj
  have key := g1.turn n0 (m' := m) (w' := w) (l' := .blk b) (.row (cells.set off (.slice (.grow σ.length) []))) hloc hs' (.refl m) (.refl _) (fun _ _ _ => rfl) (Nat.le_refl _) (fun _ _ _ _ => rfl) ?_ ?_ ?_ (fun b' q => .inl q) ?_ rfl rfl rfl (Nat.le_refl _)
  ·rw [set_same hloc] at key
   exact ⟨m, _, key.1, ⟨hr.size, fun i => (hr.rel i).mono (.refl m) (.app _ _ _)⟩, g2.trans key.2⟩
  ·intro k off v hk e'
   refine ⟨g1.im k off v e', g1.ok.fz k off v ?_ e'⟩
   rcases hk with hk | hk
   ·exact g1.ok.own k (own_names hloc hk)
   ·exact Nat.le_trans g1.ok.low hk
  ·intro k n hn
   obtain ⟨arr', t', fz, q1, q2⟩ := g1.bs k n hn
   exact .inr ⟨arr', t', fz, q1, q2⟩
  ·rintro b' ⟨sz', f, k, q, _⟩; simp at q
  ·rw [set_same hloc]
   refine ⟨arr, t, e1, e2, by simpa using e3, ?_, e5⟩
   intro j x v hj hv
   rcases get_set hj with ⟨rfl, rfl⟩ | ⟨_, hj⟩
   ·have h1 := e4 off (.slice .nil []) v hx hv
    cases h1 with
    | slice _ _ ad cap sz' bb o f hcap htok =>
     obtain ⟨h1, h2⟩ := htok
     subst h1; subst h2
     exact rel_tok0 sz none hS
   ·exact e4 j x v hj hv
 | nowhere => have e : cells = [] := hobj; subst e; simp at hx
 | tok _ _ => exact hobj.elim
theorem Ghost.beginT {nt : Nat} {s : Slots} {σ : Store} (l : Store) (t sz : Nat) (r : Slots) (h1 : TellW s (σ.length + l.length) ((t, .slice .nil []) :: r)) (h2 : IdsS (σ ++ l).length (σ ++ l)) :
  Ghost σ.length nt s (σ ++ l) ((t, .slice (.grow (σ.length + l.length)) []) :: r) (σ ++ (l ++ [.grow sz 0])) := by
 have := Ghost.begin0 (nt := nt) (n0 := σ.length) (σ := σ ++ l) t sz r (by simp) (by rw [List.length_append]; exact h1) h2
 rw [List.length_append, List.append_assoc] at this
 exact this
end Go.Ahl
namespace Go.Ahl
theorem AYld.is {P : Program} {id : Nat} {args : List AV} {σ σ' : Store} {v : AV} {K : Cont} (h : AYld P id args σ (isR v σ')) (k : K v σ') : AYld P id args σ K :=
 h.mono fun _ _ e => by rw [e.1, e.2]; exact k
def yldC (P : Program) (args : List AV) (σ : Store) (K : Cont) : AV → Prop
 | .yld id => AYld P id args σ K
 | _ => False
theorem i_callY (P : Program) (s : Slots) (σ : Store) (K : Cont) (f : Opd) (args : List Opd) : aI P (.callY f args) s σ K = yldC P (evs s args) σ K (aev s f) := by
 simp only [aI]; cases aev s f <;> rfl
theorem yldC_yld (P : Program) (args : List AV) (σ : Store) (K : Cont) (id : Nat) : yldC P args σ K (.yld id) = AYld P id args σ K := rfl
theorem putAll_cons (s : Slots) (p : Nat) (ps : List Nat) (x : AV) (xs : List AV) : putAll s (p :: ps) (x :: xs) = putAll ((p, x) :: s) ps xs := rfl
theorem putAll_nil (s : Slots) (xs : List AV) : putAll s [] xs = s := by cases xs <;> rfl
attribute [go_sem] i_callY yldC_yld putAll_cons putAll_nil
section
variable {P : Program} {nt n0 : Nat} {Q : Post} {s : Slots} {σ : Store}
end
end Go.Ahl
namespace Go.Ahl
section
variable {P : Program} {nt n0 : Nat} {Q : Post} {s : Slots} {σ : Store}
end
end Go.Ahl
namespace Go.Ahl
theorem ret_cN2 {nt t u id n : Nat} {s : Slots} {σ S : Store} {R : Cont} {c0 cells : List AV} {x : AV} (h1 : lk s t = .ptr id 0) (h2 : S[id]? = some (.row c0)) (hid : σ.length ≤ id) (hw : WkL c0 cells) (hn : cells.length = n) (h3 : lk s u = x)
  (ht : S.take σ.length = σ) (hσ : IdsS σ.length σ) (iv : Ids σ.length (.agg cells)) (ix : Ids σ.length x) (h : R (.tuple [.agg cells, x]) σ) : bodyK [.cell (some n) t, .tmp u] σ.length nt R .ret s S := by
 refine ⟨s, S.set id (.row cells), Ghost.rewk id h2 hw, ?_⟩
 simp only [aRes, h1, h3]
 rw [e_loadN_ptr, List.getElem?_set_self (lt_of_get h2), rowK_some]
 refine ⟨by omega, ?_⟩
 rw [List.drop_zero, ← hn, List.take_length]
 refine ⟨σ.length, Nat.le_refl _, ?_⟩
 rw [List.take_set_of_le hid, ht]
 exact ⟨hσ, .tuple _ (fun j y hy => by match j, hy with | 0, hy => simp at hy; subst hy; exact iv | 1, hy => simp at hy; subst hy; exact ix), h⟩
end Go.Ahl
namespace Go.Ahl
theorem idsS_put' {n : Nat} {σ : Store} (h : IdsS n σ) (i : Nat) {o : AObj} (ho : IdsO n o) : IdsS n (σ.set i o) := by
 intro j x e
 rcases get_set e with ⟨_, rfl⟩ | ⟨_, e⟩
 ·exact ho
 ·exact h j x e
end Go.Ahl
namespace Go.Proofs.YtjmmldkailblmaaGreat
open Go.Ahl
def byteOf (f : Int) : UInt8 := UInt8.ofNat (IntKind.u8.wrap f).toNat
theorem wrap_u8 (f : Int) : 0 ≤ IntKind.u8.wrap f ∧ IntKind.u8.wrap f < 256 := by
 unfold IntKind.wrap
 simp only [IntKind.bits, IntKind.signed, Bool.false_and, Bool.false_eq_true, if_false]
 exact ⟨Int.emod_nonneg _ (by decide), Int.emod_lt_of_pos _ (by decide)⟩
theorem byteOf_nat (f : Int) : ((byteOf f).toNat : Int) = IntKind.u8.wrap f := by
 obtain ⟨h1, h2⟩ := wrap_u8 f
 unfold byteOf
 have : (UInt8.ofNat (IntKind.u8.wrap f).toNat).toNat = (IntKind.u8.wrap f).toNat := by
  rw [UInt8.toNat_ofNat']
  exact Nat.mod_eq_of_lt (by omega)
 rw [this]; omega
def encB8 (f : Int) : List AV := encU8 (byteOf f)
instance : IdE encB8 := ⟨fun _ _ => idsL_cons (.int _ _) idsL_nil⟩
def keyP (s : List Int) : ByteArray := ⟨⟨s.map byteOf⟩⟩
def c_key : CCode := .seq (.ops [oS 2 (.move (.lit (.str (bys []))))]) (.seq (.ops [oS 3 (.move (.lit (.slice .nil [])))]) (.seq (.seq (.ops [oS 6 (.move (.tmp 0)), oS 7 (.blen 1 (.tmp 6)), oS 8 (.move (.lit (.int .i64 0)))]) (.block 0 (.loop (.seq (.ops [oS 9 (.bin .lss .none (.tmp 8) (.tmp 7))]) (.seq (.cond (.tmp 9) .skip (.exit 0)) (.seq (.block 1 (.seq (.ops [oS 10 (.iaddr 1 (.tmp 6) (.tmp 8)), oS 11 (.load none (.tmp 10)), oS 5 (.move (.tmp 11))]) (.ops [oS 12 (.move (.tmp 3)), oS 13 (.move (.tmp 5)), oS 14 (.conv .u8 (.tmp 13)), oS 15 (.bslice 1 [.tmp 14] false), oS 16 (.bappend 1 1 (.tmp 12) (.tmp 15) false), oS 3 (.move (.tmp 16))]))) (.ops [oS 17 (.bin .add .none (.tmp 8) (.lit (.int .i64 1))), oS 8 (.move (.tmp 17))]))))))) (.seq (.ops [oS 18 (.move (.tmp 3)), oS 19 (.bstr (.tmp 18)), oS 2 (.move (.tmp 19))]) .ret)))
theorem key_spec (s : List Int) (tok : Tok) (σ : Store) (hs : s.length ≤ 1000000) : ACalls Tryz.prog 41 [.slice tok (s.map Ahl.encI)] σ (isR (.str (keyP s)) σ) := by
 refine ACalls.intro (rs := [(.tmp 2)]) (by kernel_rfl) { own := [], ghosts := [] } Tryz.func41 (c := Tryz.f41.body.getD .skip) (by kernel_rfl) (by decide) (by rw [show Tryz.f41.ntmps = 20 by kernel_rfl]; exact Nat.le_of_ble_eq_true rfl) (by kernel_rfl) ?_
 intro hσ hids
 rw [show comp Tryz.prog { own := [], ghosts := [] } (Tryz.f41.body.getD .skip) = c_key by kernel_rfl, show Tryz.f41.ntmps = 20 by kernel_rfl]
 unfold c_key
 have hil : Ids σ.length (.slice tok (s.map Ahl.encI)) := hids _ (by simp)
 have hs1 : ∀ k : Nat, IdsS (σ ++ [AObj.grow 1 k]).length (σ ++ [AObj.grow 1 k]) := fun k => idsS_push hσ trivial
 simp only [go_sem, simprocAttr]
 refine wpc_while (fun (i : Nat) => [(3, .slice (.grow σ.length) ((s.take i).map encB8)), (6, .slice tok (s.map Ahl.encI)), (7, .int .i64 s.length), (8, .int .i64 (i : Nat))]) (fun i => σ ++ [.grow 1 i]) (fun i => i ≤ s.length) (fun i => s.length - i) 0 (Nat.zero_le _) (Ghost.begin0 3 1 _ (Nat.le_refl _) tellT hσ) ?_
 intro i hi K hK hE hR
 have hlt' : (s.take i).length = i := List.length_take_of_le hi
 by_cases h : i < s.length
 ·obtain ⟨f, hx⟩ := get_ex h; have hlt : ((i : Int) < (s.length : Int)) := (by omega); have hw := wrapS (i := i) (by omega)
  have hb : bigLen (i + 1) 1 := big_ok (by omega) (by omega)
  simp only [go_sem, simprocAttr, hlt, hx, Ahl.encI, hb, List.length_take, Nat.min_eq_left hi]
  refine hK _ _ (i + 1) (by omega) (by omega) ?_
  have e : ((s.take i).map encB8) ++ [[.int .u8 (IntKind.u8.wrap f)]] = (s.take (i + 1)).map encB8 := by
   rw [take_succ' hx, List.map_append, ← byteOf_nat]; rfl
  simp only [e, hw]
  exact ghL (hs1 _)
 ·have hlt : ¬ ((i : Int) < (s.length : Int)) := by omega
  have e : ((s.take i).map encB8) = (s.map byteOf).map encU8 := by rw [List.take_of_length_le (by omega), List.map_map]; rfl
  simp only [go_sem, simprocAttr, hlt, hE, e]
  exact rt (.str (keyP s)) ⟨rfl, rfl⟩
def encFrom : Nat → List (List Int) → List (AV × AV)
 | _, [] => []
 | k, s :: r => (.str (keyP s), .int .i64 (k : Nat)) :: encFrom (k + 1) r
def encW (ss : List (List Int)) : List (AV × AV) := encFrom 0 ss
theorem encFrom_app : ∀ (k : Nat) (l m : List (List Int)), encFrom k (l ++ m) = encFrom k l ++ encFrom (k + l.length) m
 | k, [], m => by simp [encFrom]
 | k, s :: l, m => by rw [List.cons_append, encFrom, encFrom, encFrom_app (k + 1) l m, List.length_cons, List.cons_append, Nat.add_assoc, Nat.add_comm 1]
theorem encW_snoc (ss : List (List Int)) (x : List Int) : encW (ss ++ [x]) = encW ss ++ [(.str (keyP x), .int .i64 (ss.length : Nat))] := by
 unfold encW; rw [encFrom_app, Nat.zero_add]; rfl
def Apart (ss : List (List Int)) (x : List Int) : Prop := ∀ y ∈ ss, keyP y = keyP x → y = x
theorem find_key (x : List Int) : ∀ (ss : List (List Int)) (k j : Nat), Apart ss x →
  aFind (.str (keyP x)) (encFrom k ss) j = some (if x ∈ ss then some (j + ss.idxOf x, .int .i64 ((k + ss.idxOf x : Nat) : Int)) else none)
 | [], k, j, _ => by simp [encFrom, aFind]
 | s :: r, k, j, h => by
  rw [encFrom, aFind]
  by_cases e : s = x
  ·subst e
   have : keyEq (.str (keyP s)) (.str (keyP s)) = some true := by simp [keyEq]
   rw [this]
   simp
  ·have hk : ¬ keyP s = keyP x := fun q => e (h s List.mem_cons_self q)
   have : keyEq (.str (keyP x)) (.str (keyP s)) = some false := by
    simp only [keyEq, Option.some.injEq, beq_eq_false_iff_ne, ne_eq]
    exact fun q => hk q.symm
   rw [this]
   simp only
   rw [find_key x r (k + 1) (j + 1) (fun y hy => h y (List.mem_cons_of_mem _ hy))]
   have hxs : x ≠ s := fun q => e q.symm
   by_cases hm : x ∈ r
   ·rw [if_pos hm, if_pos (List.mem_cons_of_mem _ hm), List.idxOf_cons, show (s == x) = false by simpa using e]
    simp only [cond_false, Nat.add_comm, Nat.add_left_comm, Nat.add_assoc]
   ·rw [if_neg hm, if_neg (by simp [hxs, hm])]
def addS (ss : List (List Int)) (x : List Int) : List (List Int) := if x ∈ ss then ss else ss ++ [x]
theorem addS_in {ss : List (List Int)} {x : List Int} (h : x ∈ ss) : addS ss x = ss := if_pos h
theorem addS_out {ss : List (List Int)} {x : List Int} (h : x ∉ ss) : addS ss x = ss ++ [x] := if_neg h
theorem pos_new {ss : List (List Int)} {x : List Int} (h : x ∉ ss) : (ss ++ [x]).idxOf x = ss.length := by
 rw [List.idxOf_append, if_neg h]; simp
theorem ids_encFrom (n : Nat) : ∀ (k : Nat) (ss : List (List Int)), ∀ (j : Nat) a b, (encFrom k ss)[j]? = some (a, b) → Ids n a ∧ Ids n b
 | _, [], j, a, b, h => by simp [encFrom] at h
 | k, s :: r, j, a, b, h => by
  rw [encFrom] at h
  cases j with
  | zero => simp at h; obtain ⟨rfl, rfl⟩ := h; exact ⟨.str _, .int _ _⟩
  | succ j => exact ids_encFrom n (k + 1) r j a b (by simpa using h)
theorem idsO_encW (n : Nat) (ss : List (List Int)) : IdsO n (.map (encW ss)) := ids_encFrom n 0 ss
def e_ofN_0 : List COp := [oS 21 (.move (.tmp 0)), oA 22 (.nilck (.tmp 21)) [0], oA 23 (.faddr 0 (.tmp 22)) [1], oA 24 (.load none (.tmp 23)) [2], oS 25 (.move (.tmp 5)), oS 26 (.move (.tmp 0)), oA 27 (.nilck (.tmp 26)) [5], oA 28 (.faddr 1 (.tmp 27)) [6], oA 29 (.load none (.tmp 28)) [7], oA 30 (.blen 1 (.tmp 29)) [8], ⟨none, .mapup true (.tmp 24) (.tmp 25) (.tmp 30), none, [3, 4, 9, 0, 1, 2, 3, 4, 5, 6, 7, 8, 9]⟩]
def d_ofN_0 : List COp := e_ofN_0
theorem dr_ofN_0 (P : Program) (nt n0 : Nat) (Q : Post) (s : Slots) (σ : Store) : wpc P nt n0 (.draw d_ofN_0) Q s σ = aOpsD P nt e_ofN_0 (Q .normal) s σ := wpc_draw _ (by decide)
attribute [local go_sem] dr_ofN_0 e_ofN_0
def c_ofN : CCode := .seq (.ops [oS 4 (.move (.lit (.int .i64 0)))]) (.seq (.ops [oS 8 (.move (.tmp 1)), oS 9 (.call (.lit (.func 41 [])) [.tmp 8]), oS 5 (.move (.tmp 9))]) (.seq (.seq (.ops [oS 11 (.move (.tmp 0)), oS 12 (.nilck (.tmp 11)), oS 13 (.faddr 0 (.tmp 12)), oS 14 (.load none (.tmp 13)), oS 15 (.move (.tmp 5)), oS 16 (.lookup true (.int .i64 0) (.tmp 14) (.tmp 15) true), oS 10 (.move (.tmp 16)), oS 17 (.extract (.tmp 10) 0), oS 18 (.extract (.tmp 10) 1), oS 6 (.move (.tmp 17)), oS 7 (.move (.tmp 18))]) (.seq (.ops [oS 19 (.move (.tmp 7))]) (.cond (.tmp 19) (.seq (.ops [oS 20 (.move (.tmp 6)), oS 4 (.move (.tmp 20))]) .ret) .skip))) (.seq (.draw d_ofN_0) (.seq (.ops [oS 31 (.move (.tmp 0)), oS 32 (.move (.tmp 0)), oS 33 (.nilck (.tmp 32)), oS 34 (.faddr 1 (.tmp 33)), oS 35 (.load none (.tmp 34)), oS 36 (.move (.tmp 1)), oS 37 (.bsliceC 1 [.tmp 36]), oS 38 (.bappend 1 24 (.tmp 35) (.tmp 37) false), oS 39 (.nilck (.tmp 31)), oS 40 (.faddr 1 (.tmp 39)), oN (.store 1 (.tmp 40) (.tmp 38))]) (.seq (.ops [oS 41 (.move (.tmp 0)), oS 42 (.nilck (.tmp 41)), oS 43 (.faddr 1 (.tmp 42)), oS 44 (.load none (.tmp 43)), oS 45 (.blen 1 (.tmp 44)), oS 46 (.bin .sub .none (.tmp 45) (.lit (.int .i64 1))), oS 4 (.move (.tmp 46))]) .ret)))))
theorem ofN_spec (ss : List (List Int)) (x : List Int) (M G W : Nat) (rest : List AV) (σ : Store) (hx : x.length ≤ 1000000) (hap : Apart ss x) (hl : ss.length ≤ 1000000)
  (hM : σ[M]? = some (.map (encW ss))) (hG : σ[G]? = some (.grow 1 ss.length)) (hW : σ[W]? = some (.row (.map M :: .slice (.grow G) (ss.map encL) :: rest))) (hMG : M ≠ G) (hMW : M ≠ W) (hGW : G ≠ W) :
  ACalls Tryz.prog 42 [.ptr W 0, .slice .unk (x.map Ahl.encI)] σ (isR (.int .i64 (((addS ss x).idxOf x : Nat) : Int)) (if x ∈ ss then σ else ((σ.set M (.map (encW (ss ++ [x])))).set G (.grow 1 (ss.length + 1))).set W (.row (.map M :: .slice (.grow G) ((ss ++ [x]).map encL) :: rest)))) := by
 refine ACalls.intro (rs := [(.tmp 4)]) (by kernel_rfl) { own := [], ghosts := [], cold := [(6, 6)] } Tryz.func42 (c := Tryz.f42.body.getD .skip) (by kernel_rfl) (by decide) (by rw [show Tryz.f42.ntmps = 47 by kernel_rfl]; exact Nat.le_of_ble_eq_true rfl) (by kernel_rfl) ?_
 intro hσ hids
 rw [show comp Tryz.prog { own := [], ghosts := [], cold := [(6, 6)] } (Tryz.f42.body.getD .skip) = c_ofN by kernel_rfl, show Tryz.f42.ntmps = 47 by kernel_rfl]
 unfold c_ofN
 have hWl := lt_of_get hW
 have hGl := lt_of_get hG
 have hMl := lt_of_get hM
 have hfk := find_key x ss 0 0 hap
 rw [show encFrom 0 ss = encW ss from rfl] at hfk
 simp only [go_sem, simprocAttr]
 refine (key_spec x .unk _ hx).is ?_
 by_cases hm : x ∈ ss
 ·rw [if_pos hm] at hfk
  rw [if_pos hm, addS_in hm]
  simp only [Nat.zero_add] at hfk
  simp only [go_sem, simprocAttr, hW, hM, hfk]
  first | exact rtw (v := .int .i64 _) wkS ⟨rfl, rfl⟩ | exact rtw0 (v := .int .i64 _) wkS ⟨rfl, rfl⟩
 ·rw [if_neg hm] at hfk
  rw [if_neg hm, addS_out hm, pos_new hm]
  have hW1 : (σ.set M (.map (encW ss ++ [(.str (keyP x), .int .i64 (ss.length : Nat))])))[W]? = some (.row (.map M :: .slice (.grow G) (ss.map encL) :: rest)) := by rw [List.getElem?_set_ne hMW]; exact hW
  have hG1 : (σ.set M (.map (encW ss ++ [(.str (keyP x), .int .i64 (ss.length : Nat))])))[G]? = some (.grow 1 ss.length) := by rw [List.getElem?_set_ne hMG]; exact hG
  have hbig : bigLen (ss.length + 1) 24 := big_ok (by omega) (by omega)
  simp only [go_sem, simprocAttr, hW, hM, hfk, hW1, hG1, hbig]
  have hW2 : ((σ.set M (.map (encW ss ++ [(.str (keyP x), .int .i64 (ss.length : Nat))]))).set G (.grow 1 (ss.length + 1)))[W]? = some (.row (.map M :: .slice (.grow G) (ss.map encL) :: rest)) := by rw [List.getElem?_set_ne hGW]; exact hW1
  have e1 : ss.map encL ++ [[.slice .unk (x.map Ahl.encI)]] = (ss ++ [x]).map encL := by rw [List.map_append]; rfl
  have hW3 : ∀ c, (((σ.set M (.map (encW ss ++ [(.str (keyP x), .int .i64 (ss.length : Nat))]))).set G (.grow 1 (ss.length + 1))).set W (.row c))[W]? = some (.row c) := fun c => by rw [List.getElem?_set_self (by simpa using hWl)]
  simp only [go_sem, simprocAttr, hW2, hW3, e1]
  rw [encW_snoc]
  have hwr : IntKind.i64.wrap ((((ss ++ [x]).length : Nat) : Int) - 1) = (ss.length : Nat) := by rw [List.length_append, List.length_singleton, wrap_ok (by omega)]; omega
  have hWo : IdsO σ.length (.row (.map M :: .slice (.grow G) (ss.map encL) :: rest)) := hσ W _ hW
  have hids : IdsS (((σ.set M (.map (encW ss ++ [(.str (keyP x), .int .i64 (ss.length : Nat))]))).set G (.grow 1 (ss.length + 1))).set W (.row (.map M :: .slice (.grow G) ((ss ++ [x]).map encL) :: rest))).length (((σ.set M (.map (encW ss ++ [(.str (keyP x), .int .i64 (ss.length : Nat))]))).set G (.grow 1 (ss.length + 1))).set W (.row (.map M :: .slice (.grow G) ((ss ++ [x]).map encL) :: rest))) := by
   simp only [List.length_set]
   refine idsS_put' (idsS_put' (idsS_put' hσ _ ?_) _ (show IdsO _ (.grow 1 (ss.length + 1)) from trivial)) _ ?_
   ·rw [← encW_snoc]; exact idsO_encW _ _
   ·intro j y hj
    match j, hj with
    | 0, hj => simp at hj; subst hj; exact .map _ hMl
    | 1, hj => simp only [List.getElem?_cons_succ, List.getElem?_cons_zero, Option.some.injEq] at hj; subst hj; exact ids_grow_map ids_encL hGl
    | j + 2, hj => exact hWo (j + 2) y (by simpa using hj)
  exact ret_gh (v := .int .i64 (ss.length : Nat)) (Ghost.keep0 (s' := [(4, .int .i64 (ss.length : Nat))]) (by simp) ⟨⟨by simp only [lk, beq_self_eq_true, cond_true]; rw [List.length_append, List.length_singleton] at hwr; rw [hwr]; exact .refl _, .int _ _⟩, trivial⟩ hids) (by simp) hids (.int _ _) ⟨rfl, rfl⟩
structure SB (t : FTask) : Prop where
 acts : t.actions.length ≤ 1000000
 pre : ∀ a ∈ t.actions, a.pre.length ≤ 140737488355328
 effs : ∀ a ∈ t.actions, a.effects.length ≤ 1000000
 whens : ∀ a ∈ t.actions, ∀ e ∈ a.effects, e.when_.length ≤ 140737488355328
def c_cloneI : CCode := .seq (.ops [oS 2 (.move (.lit (.slice .nil [])))]) (.seq (.seq (.ops [oS 3 (.move (.tmp 0)), oS 4 (.bin .eql .slice (.tmp 3) (.lit (.slice .nil [])))]) (.cond (.tmp 4) (.seq (.ops [oS 2 (.move (.lit (.slice .nil [])))]) .ret) .skip)) (.seq (.ops [oS 5 (.bslice 1 [] false), oS 6 (.move (.tmp 0)), oS 7 (.bappend 1 8 (.tmp 5) (.tmp 6) false), oS 2 (.move (.tmp 7))]) .ret))
theorem cloneI_specF (f : List Int) (tok : Tok) (σ : Store) (hf : f.length ≤ 1073741824) :
  ACalls Tryz.prog 93 [.slice tok (f.map Ahl.encI)] σ (isR (.slice .fresh (f.map Ahl.encI)) σ) := by
 refine ACalls.intro (rs := [(.tmp 2)]) (by kernel_rfl) { own := [], ghosts := [] } Tryz.func93 (c := Tryz.f93.body.getD .skip) (by kernel_rfl) (by decide) (by rw [show Tryz.f93.ntmps = 8 by kernel_rfl]; exact Nat.le_of_ble_eq_true rfl) (by kernel_rfl) ?_
 intro hσ hids
 rw [show comp Tryz.prog { own := [], ghosts := [] } (Tryz.f93.body.getD .skip) = c_cloneI by kernel_rfl, show Tryz.f93.ntmps = 8 by kernel_rfl]
 unfold c_cloneI
 have hbig : bigLen f.length 8 := big_ok (by omega) (by omega)
 simp only [go_sem, simprocAttr]
 intro b hb _
 cases b
 ·have hall : ∀ x ∈ f, (Ahl.encI x).length = 1 ∧ (Ahl.encI x).all AV.one = true := fun x _ => ⟨rfl, rfl⟩
  simp only [go_sem, simprocAttr, hbig]
  refine ⟨hall, ?_⟩
  exact rt (.slice .fresh (f.map Ahl.encI)) ⟨rfl, rfl⟩
 ·have hl0 : f = [] := by
   cases f with
   | nil => rfl
   | cons x l => exact absurd (hb (by simp)) (by simp)
  subst hl0
  simp only [go_sem, simprocAttr]
  exact rt (.slice .fresh []) ⟨rfl, rfl⟩
def c_idxS : CCode := .seq (.ops [oS 4 (.move (.lit (.int .i64 0)))]) (.seq (.seq (.ops [oS 6 (.move (.tmp 0)), oS 7 (.blen 1 (.tmp 6)), oS 8 (.move (.lit (.int .i64 0)))]) (.block 0 (.loop (.seq (.ops [oS 9 (.bin .lss .none (.tmp 8) (.tmp 7))]) (.seq (.cond (.tmp 9) .skip (.exit 0)) (.seq (.block 1 (.seq (.ops [oS 10 (.move (.tmp 8)), oS 5 (.move (.tmp 10))]) (.seq (.ops [oS 11 (.move (.tmp 1)), oS 12 (.move (.tmp 0)), oS 13 (.move (.tmp 5)), oS 14 (.iaddr 1 (.tmp 12) (.tmp 13)), oS 15 (.load none (.tmp 14)), oS 16 (.call (.tmp 11) [.tmp 15])]) (.cond (.tmp 16) (.seq (.ops [oS 17 (.move (.tmp 5)), oS 4 (.move (.tmp 17))]) .ret) .skip)))) (.ops [oS 18 (.bin .add .none (.tmp 8) (.lit (.int .i64 1))), oS 8 (.move (.tmp 18))]))))))) (.seq (.ops [oS 4 (.move (.lit (.int .i64 (-1))))]) .ret))
theorem idxS_spec (l : List Int) (g : FuncId) (cap : List AV) (p : Int → Bool) (tok : Tok) (σ : Store) (hl : l.length ≤ 140737488355328)
  (hp : ∀ x ∈ l, ACalls Tryz.prog g (.int .i64 x :: cap) σ (isR (.bool (p x)) σ)) :
  ACalls Tryz.prog 92 [.slice tok (l.map Ahl.encI), .func g cap] σ (isR (.int .i64 (idxFrom p 0 l)) σ) := by
 refine ACalls.intro (rs := [(.tmp 4)]) (by kernel_rfl) { own := [], ghosts := [] } Tryz.func92 (c := Tryz.f92.body.getD .skip) (by kernel_rfl) (by decide) (by rw [show Tryz.f92.ntmps = 19 by kernel_rfl]; exact Nat.le_of_ble_eq_true rfl) (by kernel_rfl) ?_
 intro hσ hids
 rw [show comp Tryz.prog { own := [], ghosts := [] } (Tryz.f92.body.getD .skip) = c_idxS by kernel_rfl, show Tryz.f92.ntmps = 19 by kernel_rfl]
 unfold c_idxS
 have hil : Ids σ.length (.slice tok (l.map Ahl.encI)) := hids _ (by simp)
 have hif : Ids σ.length (.func g cap) := hids _ (by simp)
 simp only [go_sem, simprocAttr]
 refine wpc_while (fun i => [(0, .slice tok (l.map Ahl.encI)), (1, .func g cap), (7, .int .i64 l.length), (8, .int .i64 (i : Nat))]) (fun _ => σ) (fun i => i ≤ l.length ∧ idxFrom p 0 l = idxFrom p i (l.drop i)) (fun i => l.length - i) 0 ⟨Nat.zero_le _, rfl⟩ (by (try dsimp only); exact ghA) ?_
 rintro i ⟨hi, hv⟩ K hK hE hR
 by_cases h : i < l.length
 ·obtain ⟨y, hx⟩ := get_ex h; have hlt : ((i : Int) < (l.length : Int)) := (by omega); have hw := wrapS (i := i) (by omega)
  rw [drop_cons hx, idxFrom] at hv
  simp only [go_sem, simprocAttr, hlt, hx, Ahl.encI]
  refine (hp y (List.mem_of_getElem? hx)).is ?_
  cases h1 : p y
  ·simp only [go_sem, simprocAttr]
   rw [h1, if_neg (by simp)] at hv
   refine hK _ _ (i + 1) (⟨by omega, by rw [hv]; norm_cast⟩) om ?_; (try dsimp only); (try simp only [ hw]); exact ghA
  ·rw [h1, if_pos rfl] at hv
   simp only [go_sem, simprocAttr, hR]
   exact rt (.int .i64 i) ⟨by rw [hv], rfl⟩
 ·have hlt : ¬ ((i : Int) < (l.length : Int)) := by omega
  rw [drop_len h, idxFrom] at hv
  simp only [go_sem, simprocAttr, hlt, hE]
  exact rt (.int .i64 (-1)) ⟨by rw [hv], rfl⟩
def c_contS : CCode := .seq (.ops [oS 4 (.move (.lit (.bool false)))]) (.seq (.ops [oS 5 (.move (.tmp 0)), oS 6 (.move (.tmp 1)), oS 7 (.call (.lit (.func 92 [])) [.tmp 5, .tmp 6]), oS 8 (.bin .geq .none (.tmp 7) (.lit (.int .i64 0))), oS 4 (.move (.tmp 8))]) .ret)
theorem contS_spec (l : List Int) (g : FuncId) (cap : List AV) (p : Int → Bool) (tok : Tok) (σ : Store) (hl : l.length ≤ 140737488355328)
  (hp : ∀ x ∈ l, ACalls Tryz.prog g (.int .i64 x :: cap) σ (isR (.bool (p x)) σ)) :
  ACalls Tryz.prog 59 [.slice tok (l.map Ahl.encI), .func g cap] σ (isR (.bool (l.any p)) σ) := by
 refine ACalls.intro (rs := [(.tmp 4)]) (by kernel_rfl) { own := [], ghosts := [] } Tryz.func59 (c := Tryz.f59.body.getD .skip) (by kernel_rfl) (by decide) (by rw [show Tryz.f59.ntmps = 9 by kernel_rfl]; exact Nat.le_of_ble_eq_true rfl) (by kernel_rfl) ?_
 intro hσ hids
 rw [show comp Tryz.prog { own := [], ghosts := [] } (Tryz.f59.body.getD .skip) = c_contS by kernel_rfl, show Tryz.f59.ntmps = 9 by kernel_rfl]
 unfold c_contS
 simp only [go_sem, simprocAttr]
 refine (idxS_spec l g cap p tok σ hl hp).is ?_
 simp only [go_sem, simprocAttr, idxFrom_ge p l 0 (Int.le_refl _)]
 first | exact rtw (v := .bool _) wkS ⟨rfl, rfl⟩ | exact rtw0 (v := .bool _) wkS ⟨rfl, rfl⟩
structure EOk (t : FTask) : Prop where
 rng : ∀ a ∈ t.actions, ∀ e ∈ a.effects, 0 ≤ e.lit.fact ∧ e.lit.fact < (t.facts.length : Int)
theorem rising_len {n : Nat} : ∀ {s : List Int} {p : Int}, risingB n p s = true → -1 ≤ p → p + s.length < n ∨ s = []
 | [], _, _, _ => .inr rfl
 | x :: s, p, h, hp => by
  rw [risingB, Bool.and_eq_true, Bool.and_eq_true] at h
  have h1 : p < x := of_decide_eq_true h.1.1
  have h2 : x < n := of_decide_eq_true h.1.2
  refine .inl ?_
  rw [List.length_cons]
  rcases rising_len h.2 (by omega) with q | q
  ·push_cast; omega
  ·subst q; simp; omega
theorem dec_drop {α : Type} [DecidableEq α] {l m : List α} {i : Nat} {x y : α} (hx : l[i]? = some x) (hy : m[i]? = some y) : decide (l.drop i = m.drop i) = (decide (x = y) && decide (l.drop (i + 1) = m.drop (i + 1))) := by
 rw [drop_cons hx, drop_cons hy, dec_cons]
def e_eqInts_0 : List COp := [oS 16 (.move (.tmp 0)), oS 17 (.move (.tmp 5)), oA 18 (.iaddr 1 (.tmp 16) (.tmp 17)) [0, 1], oA 19 (.load none (.tmp 18)) [2], oS 20 (.move (.tmp 1)), oS 21 (.move (.tmp 5)), oA 22 (.iaddr 1 (.tmp 20) (.tmp 21)) [4, 5], oA 23 (.load none (.tmp 22)) [6], oA 24 (.bin .neq .none (.tmp 19) (.tmp 23)) [3, 7]]
def d_eqInts_0 : List COp := e_eqInts_0
theorem dr_eqInts_0 (P : Program) (nt n0 : Nat) (Q : Post) (s : Slots) (σ : Store) : wpc P nt n0 (.draw d_eqInts_0) Q s σ = aOpsD P nt e_eqInts_0 (Q .normal) s σ := wpc_draw _ (by decide)
attribute [local go_sem] dr_eqInts_0 e_eqInts_0
def c_eqInts : CCode := .seq (.ops [oS 4 (.move (.lit (.bool false)))]) (.seq (.seq (.ops [oS 6 (.move (.tmp 0)), oS 7 (.blen 1 (.tmp 6)), oS 8 (.move (.tmp 1)), oS 9 (.blen 1 (.tmp 8)), oS 10 (.bin .neq .none (.tmp 7) (.tmp 9))]) (.cond (.tmp 10) (.seq (.ops [oS 4 (.move (.lit (.bool false)))]) .ret) .skip)) (.seq (.seq (.ops [oS 11 (.move (.tmp 0)), oS 12 (.blen 1 (.tmp 11)), oS 13 (.move (.lit (.int .i64 0)))]) (.block 0 (.loop (.seq (.ops [oS 14 (.bin .lss .none (.tmp 13) (.tmp 12))]) (.seq (.cond (.tmp 14) .skip (.exit 0)) (.seq (.block 1 (.seq (.ops [oS 15 (.move (.tmp 13)), oS 5 (.move (.tmp 15))]) (.seq (.draw d_eqInts_0) (.cond (.tmp 24) (.seq (.ops [oS 4 (.move (.lit (.bool false)))]) .ret) .skip)))) (.ops [oS 25 (.bin .add .none (.tmp 13) (.lit (.int .i64 1))), oS 13 (.move (.tmp 25))]))))))) (.seq (.ops [oS 4 (.move (.lit (.bool true)))]) .ret)))
theorem eqInts_spec (l m : List Int) (tok tok' : Tok) (σ : Store) (hl : l.length ≤ 140737488355328) (hm : m.length ≤ 140737488355328) :
  ACalls Tryz.prog 78 [.slice tok (l.map Ahl.encI), .slice tok' (m.map Ahl.encI)] σ (isR (.bool (decide (l = m))) σ) := by
 refine ACalls.intro (rs := [(.tmp 4)]) (by kernel_rfl) { own := [], ghosts := [] } Tryz.func78 (c := Tryz.f78.body.getD .skip) (by kernel_rfl) (by decide) (by rw [show Tryz.f78.ntmps = 26 by kernel_rfl]; exact Nat.le_of_ble_eq_true rfl) (by kernel_rfl) ?_
 intro hσ hids
 rw [show comp Tryz.prog { own := [], ghosts := [] } (Tryz.f78.body.getD .skip) = c_eqInts by kernel_rfl, show Tryz.f78.ntmps = 26 by kernel_rfl]
 unfold c_eqInts
 have hil : Ids σ.length (.slice tok (l.map Ahl.encI)) := hids _ (by simp)
 have him : Ids σ.length (.slice tok' (m.map Ahl.encI)) := hids _ (by simp)
 by_cases hlm : l.length = m.length
 ·have h0 : ((l.length : Int) != (m.length : Int)) = false := by simp [hlm]
  simp only [go_sem, simprocAttr, h0]
  refine wpc_while (fun (i : Nat) => [(0, .slice tok (l.map Ahl.encI)), (1, .slice tok' (m.map Ahl.encI)), (12, .int .i64 l.length), (13, .int .i64 (i : Nat))]) (fun _ => σ) (fun i => i ≤ l.length ∧ decide (l = m) = decide (l.drop i = m.drop i)) (fun i => l.length - i) 0 ⟨Nat.zero_le _, rfl⟩ (by (try dsimp only); exact ghA) ?_
  rintro i ⟨hi, hv⟩ K hK hE hR
  by_cases h : i < l.length
  ·obtain ⟨x, hx⟩ := get_ex h; have hlt : ((i : Int) < (l.length : Int)) := (by omega); have hw := wrapS (i := i) (by omega)
   obtain ⟨y, hy⟩ := get_ex (show i < m.length by omega)
   rw [dec_drop hx hy] at hv
   by_cases hxy : x = y
   ·have h1 : (x != y) = false := by simp [hxy]
    rw [decide_eq_true hxy, Bool.true_and] at hv
    simp only [go_sem, simprocAttr, hlt, hx, hy, Ahl.encI, h1]
    refine hK _ _ (i + 1) (⟨by omega, hv⟩) om ?_; (try dsimp only); (try simp only [ hw]); exact ghA
   ·have h1 : (x != y) = true := by simp [hxy]
    rw [decide_eq_false hxy, Bool.false_and] at hv
    simp only [go_sem, simprocAttr, hlt, hx, hy, Ahl.encI, h1, hR]
    exact rt (.bool false) ⟨by rw [hv], rfl⟩
  ·have hlt : ¬ ((i : Int) < (l.length : Int)) := by omega
   rw [drop_len h, drop_len (show ¬ i < m.length by omega)] at hv
   simp only [go_sem, simprocAttr, hlt, hE]
   exact rt (.bool true) ⟨by rw [hv]; simp, rfl⟩
 ·have h0 : ((l.length : Int) != (m.length : Int)) = true := by simp; omega
  have hv : decide (l = m) = false := decide_eq_false fun e => hlm (by rw [e])
  simp only [go_sem, simprocAttr, h0]
  exact rt (.bool false) ⟨by rw [hv], rfl⟩
def e_eqLits_0 : List COp := [oS 16 (.move (.tmp 0)), oS 17 (.move (.tmp 5)), oA 18 (.iaddr 2 (.tmp 16) (.tmp 17)) [0, 1], oA 19 (.load (some 2) (.tmp 18)) [2], oS 20 (.move (.tmp 1)), oS 21 (.move (.tmp 5)), oA 22 (.iaddr 2 (.tmp 20) (.tmp 21)) [4, 5], oA 23 (.load (some 2) (.tmp 22)) [6], oA 24 (.bin .neq (.flat [1, 0]) (.tmp 19) (.tmp 23)) [3, 7]]
def d_eqLits_0 : List COp := e_eqLits_0
theorem dr_eqLits_0 (P : Program) (nt n0 : Nat) (Q : Post) (s : Slots) (σ : Store) : wpc P nt n0 (.draw d_eqLits_0) Q s σ = aOpsD P nt e_eqLits_0 (Q .normal) s σ := wpc_draw _ (by decide)
attribute [local go_sem] dr_eqLits_0 e_eqLits_0
def c_eqLits : CCode := .seq (.ops [oS 4 (.move (.lit (.bool false)))]) (.seq (.seq (.ops [oS 6 (.move (.tmp 0)), oS 7 (.blen 1 (.tmp 6)), oS 8 (.move (.tmp 1)), oS 9 (.blen 1 (.tmp 8)), oS 10 (.bin .neq .none (.tmp 7) (.tmp 9))]) (.cond (.tmp 10) (.seq (.ops [oS 4 (.move (.lit (.bool false)))]) .ret) .skip)) (.seq (.seq (.ops [oS 11 (.move (.tmp 0)), oS 12 (.blen 1 (.tmp 11)), oS 13 (.move (.lit (.int .i64 0)))]) (.block 0 (.loop (.seq (.ops [oS 14 (.bin .lss .none (.tmp 13) (.tmp 12))]) (.seq (.cond (.tmp 14) .skip (.exit 0)) (.seq (.block 1 (.seq (.ops [oS 15 (.move (.tmp 13)), oS 5 (.move (.tmp 15))]) (.seq (.draw d_eqLits_0) (.cond (.tmp 24) (.seq (.ops [oS 4 (.move (.lit (.bool false)))]) .ret) .skip)))) (.ops [oS 25 (.bin .add .none (.tmp 13) (.lit (.int .i64 1))), oS 13 (.move (.tmp 25))]))))))) (.seq (.ops [oS 4 (.move (.lit (.bool true)))]) .ret)))
theorem eqLits_spec (l m : List FLit) (tok tok' : Tok) (σ : Store) (hl : l.length ≤ 140737488355328) (hm : m.length ≤ 140737488355328) :
  ACalls Tryz.prog 102 [.slice tok (l.map encLit), .slice tok' (m.map encLit)] σ (isR (.bool (decide (l = m))) σ) := by
 refine ACalls.intro (rs := [(.tmp 4)]) (by kernel_rfl) { own := [], ghosts := [] } Tryz.func102 (c := Tryz.f102.body.getD .skip) (by kernel_rfl) (by decide) (by rw [show Tryz.f102.ntmps = 26 by kernel_rfl]; exact Nat.le_of_ble_eq_true rfl) (by kernel_rfl) ?_
 intro hσ hids
 rw [show comp Tryz.prog { own := [], ghosts := [] } (Tryz.f102.body.getD .skip) = c_eqLits by kernel_rfl, show Tryz.f102.ntmps = 26 by kernel_rfl]
 unfold c_eqLits
 have hil : Ids σ.length (.slice tok (l.map encLit)) := hids _ (by simp)
 have him : Ids σ.length (.slice tok' (m.map encLit)) := hids _ (by simp)
 by_cases hlm : l.length = m.length
 ·have h0 : ((l.length : Int) != (m.length : Int)) = false := by simp [hlm]
  simp only [go_sem, simprocAttr, h0]
  refine wpc_while (fun (i : Nat) => [(0, .slice tok (l.map encLit)), (1, .slice tok' (m.map encLit)), (12, .int .i64 l.length), (13, .int .i64 (i : Nat))]) (fun _ => σ) (fun i => i ≤ l.length ∧ decide (l = m) = decide (l.drop i = m.drop i)) (fun i => l.length - i) 0 ⟨Nat.zero_le _, rfl⟩ (by (try dsimp only); exact ghA) ?_
  rintro i ⟨hi, hv⟩ K hK hE hR
  by_cases h : i < l.length
  ·obtain ⟨x, hx⟩ := get_ex h; have hlt : ((i : Int) < (l.length : Int)) := (by omega); have hw := wrapS (i := i) (by omega)
   obtain ⟨y, hy⟩ := get_ex (show i < m.length by omega)
   rw [dec_drop hx hy] at hv
   have hf := flat_lit x y
   simp only [encLit] at hf
   by_cases h1 : x = y
   ·rw [decide_eq_true h1] at hf hv
    rw [Bool.true_and] at hv
    simp only [go_sem, simprocAttr, hlt, hx, hy, encLit, hf]
    refine hK _ _ (i + 1) (⟨by omega, hv⟩) om ?_; (try dsimp only); (try simp only [ hw]); exact ghA
   ·rw [decide_eq_false h1] at hf hv
    rw [Bool.false_and] at hv
    simp only [go_sem, simprocAttr, hlt, hx, hy, encLit, hf, hR]
    exact rt (.bool false) ⟨by rw [hv], rfl⟩
  ·have hlt : ¬ ((i : Int) < (l.length : Int)) := by omega
   rw [drop_len h, drop_len (show ¬ i < m.length by omega)] at hv
   simp only [go_sem, simprocAttr, hlt, hE]
   exact rt (.bool true) ⟨by rw [hv]; simp, rfl⟩
 ·have h0 : ((l.length : Int) != (m.length : Int)) = true := by simp; omega
  have hv : decide (l = m) = false := decide_eq_false fun e => hlm (by rw [e])
  simp only [go_sem, simprocAttr, h0]
  exact rt (.bool false) ⟨by rw [hv], rfl⟩
def actZ : FAct := ⟨.empty, 0, [], []⟩
def preOf (t : FTask) (a : Int) : List FLit := (t.actions.getD a.toNat actZ).pre
def sameP (t : FTask) (l : List Int) (a : Int) : Bool := decide (preOf t a = preOf t (l.headD 0))
def groupOk (t : FTask) (l : List Int) : Bool := !l.isEmpty && (risingB t.actions.length (-1) l && l.all (sameP t l))
def choicesB (t : FTask) (g : List (List Int)) : Bool := decide (g.length ≤ 200) && g.all (groupOk t)
def LB (g : List (List Int)) : Prop := g.length ≤ 1000000 ∧ ∀ l ∈ g, l.length ≤ 1000000
theorem preOf_get {t : FTask} {a : Int} {x : FAct} (h : t.actions[a.toNat]? = some x) : preOf t a = x.pre := by
 unfold preOf; rw [List.getD_eq_getElem?_getD, h]; rfl
def e_pvalid1_0 : List COp := [oS 5 (.faddr 3 (.tmp 1)), oA 6 (.load none (.tmp 5)) [0], oS 7 (.move (.tmp 0)), oA 8 (.iaddr 4 (.tmp 6) (.tmp 7)) [1, 2], oA 9 (.faddr 2 (.tmp 8)) [3], oA 10 (.load none (.tmp 9)) [4], oS 11 (.faddr 3 (.tmp 1)), oA 12 (.load none (.tmp 11)) [6], oS 13 (.load none (.tmp 2)), oA 14 (.iaddr 1 (.tmp 13) (.lit (.int .i64 0))) [8], oA 15 (.load none (.tmp 14)) [9], oA 16 (.iaddr 4 (.tmp 12) (.tmp 15)) [7, 10], oA 17 (.faddr 2 (.tmp 16)) [11], oA 18 (.load none (.tmp 17)) [12], oA 19 (.call (.lit (.func 102 [])) [.tmp 10, .tmp 18]) [5, 13], oA 20 (.un .not (.tmp 19)) [14], oA 4 (.move (.tmp 20)) [15, 14, 0, 1, 2, 3, 4, 5, 6, 7, 8, 9, 10, 11, 12, 13, 14, 15]]
def d_pvalid1_0 : List COp := e_pvalid1_0
theorem dr_pvalid1_0 (P : Program) (nt n0 : Nat) (Q : Post) (s : Slots) (σ : Store) : wpc P nt n0 (.draw d_pvalid1_0) Q s σ = aOpsD P nt e_pvalid1_0 (Q .normal) s σ := wpc_draw _ (by decide)
attribute [local go_sem] dr_pvalid1_0 e_pvalid1_0
def c_pvalid1 : CCode := .seq (.ops [oS 4 (.move (.lit (.bool false)))]) (.seq (.draw d_pvalid1_0) .ret)
theorem pvalid1_spec (t : FTask) (l : List Int) (a : Int) (T L : Nat) (σ : Store) (ht : TB t) (hT : σ[T]? = some (.row (encTask t))) (hL : σ[L]? = some (.row [.slice .unk (l.map Ahl.encI)])) (hl : l ≠ []) (hr : ∀ x ∈ l, 0 ≤ x ∧ x < (t.actions.length : Int)) (ha : a ∈ l) :
  ACalls Tryz.prog 101 [.int .i64 a, .ptr T 0, .ptr L 0] σ (isR (.bool (!(sameP t l a))) σ) := by
 refine ACalls.intro (rs := [(.tmp 4)]) (by kernel_rfl) { own := [], ghosts := [] } Tryz.func101 (c := Tryz.f101.body.getD .skip) (by kernel_rfl) (by decide) (by rw [show Tryz.f101.ntmps = 21 by kernel_rfl]; exact Nat.le_of_ble_eq_true rfl) (by kernel_rfl) ?_
 intro hσ hids
 rw [show comp Tryz.prog { own := [], ghosts := [] } (Tryz.f101.body.getD .skip) = c_pvalid1 by kernel_rfl, show Tryz.f101.ntmps = 21 by kernel_rfl]
 unfold c_pvalid1
 have hTl := lt_of_get hT
 have hLl := lt_of_get hL
 obtain ⟨b, r, rfl⟩ : ∃ b r, l = b :: r := by cases l with | nil => exact absurd rfl hl | cons b r => exact ⟨b, r, rfl⟩
 obtain ⟨ha1, ha2⟩ := hr a ha
 obtain ⟨hb1, hb2⟩ := hr b List.mem_cons_self
 obtain ⟨x, hx⟩ : ∃ x, t.actions[a.toNat]? = some x := get_ex (by omega)
 obtain ⟨y, hy⟩ : ∃ y, t.actions[b.toNat]? = some y := get_ex (by omega)
 simp only [go_sem, simprocAttr, hT, hL, hx, hy, ha1, hb1, encTask, encA, Ahl.encI, List.map_cons]
 refine ⟨_, eqLits_spec x.pre y.pre .unk .unk _ (ht.pre x (List.mem_of_getElem? hx)) (ht.pre y (List.mem_of_getElem? hy)), ?_⟩
 simp only [go_sem, simprocAttr]
 have hv : sameP t (b :: r) a = decide (x.pre = y.pre) := by unfold sameP; rw [preOf_get hx, List.headD_cons, preOf_get hy]
 first | exact rtw (v := .bool _) wkS ⟨by rw [hv], rfl⟩ | exact rtw0 (v := .bool _) wkS ⟨by rw [hv], rfl⟩
def c_pvalid : CCode := .seq (.ops [oS 2 (.box (.tmp 0)), oS 4 (.move (.lit (.bool false)))]) (.seq (.seq (.ops [oS 7 (.move (.tmp 1)), oS 8 (.blen 1 (.tmp 7)), oS 9 (.bin .gtr .none (.tmp 8) (.lit (.int .i64 200)))]) (.cond (.tmp 9) (.seq (.ops [oS 4 (.move (.lit (.bool false)))]) .ret) .skip)) (.seq (.seq (.ops [oS 10 (.move (.tmp 1)), oS 11 (.blen 1 (.tmp 10)), oS 12 (.move (.lit (.int .i64 0)))]) (.block 0 (.loop (.seq (.ops [oS 13 (.bin .lss .none (.tmp 12) (.tmp 11))]) (.seq (.cond (.tmp 13) .skip (.exit 0)) (.seq (.block 1 (.seq (.ops [oS 14 (.iaddr 1 (.tmp 10) (.tmp 12)), oS 15 (.load none (.tmp 14)), oS 6 (.alloc (.slice .nil [])), oN (.store 1 (.tmp 6) (.tmp 15))]) (.seq (.seq (.ops [oS 16 (.load none (.tmp 6)), oS 17 (.blen 1 (.tmp 16)), oS 18 (.bin .eql .none (.tmp 17) (.lit (.int .i64 0))), oS 19 (.move (.tmp 18)), oG 20 19 false (.faddr 3 (.tmp 2)), oG 21 19 false (.load none (.tmp 20)), oG 22 19 false (.blen 1 (.tmp 21)), oG 23 19 false (.load none (.tmp 6)), oG 24 19 false (.call (.lit (.func 37 [])) [.tmp 22, .tmp 23]), oG 25 19 false (.un .not (.tmp 24)), oS 26 (.pick (.tmp 19) (.lit (.bool true)) (.tmp 25))]) (.cond (.tmp 26) (.seq (.ops [oS 4 (.move (.lit (.bool false)))]) .ret) .skip)) (.seq (.ops [oS 27 (.load none (.tmp 6)), oS 28 (.mkfunc 101 [.tmp 2, .tmp 6]), oS 29 (.call (.lit (.func 59 [])) [.tmp 27, .tmp 28])]) (.cond (.tmp 29) (.seq (.ops [oS 4 (.move (.lit (.bool false)))]) .ret) .skip))))) (.ops [oS 30 (.bin .add .none (.tmp 12) (.lit (.int .i64 1))), oS 12 (.move (.tmp 30))]))))))) (.seq (.ops [oS 4 (.move (.lit (.bool true)))]) .ret)))
theorem pvalid_spec (t : FTask) (g : List (List Int)) (tok : Tok) (σ : Store) (ht : TB t) (hg : LB g) : ACalls Tryz.prog 72 [.agg (encTask t), .slice tok (g.map encL)] σ (isR (.bool (choicesB t g)) σ) := by
 refine ACalls.intro (rs := [(.tmp 4)]) (by kernel_rfl) { own := [], ghosts := [] } Tryz.func72 (c := Tryz.f72.body.getD .skip) (by kernel_rfl) (by decide) (by rw [show Tryz.f72.ntmps = 31 by kernel_rfl]; exact Nat.le_of_ble_eq_true rfl) (by kernel_rfl) ?_
 intro hσ hids
 rw [show comp Tryz.prog { own := [], ghosts := [] } (Tryz.f72.body.getD .skip) = c_pvalid by kernel_rfl, show Tryz.f72.ntmps = 31 by kernel_rfl]
 unfold c_pvalid
 have hil : Ids σ.length (.slice tok (g.map encL)) := hids _ (by simp)
 have hg1 := hg.1
 have hrow : IdsS (σ ++ [AObj.row (encTask t)]).length (σ ++ [AObj.row (encTask t)]) := idsS_push hσ (idsO_row (ids_encTask t))
 simp only [encTask] at hrow
 by_cases h200 : (g.length : Int) > 200
 ·simp only [go_sem, simprocAttr, h200]
  exact rt (.bool false) ⟨by unfold choicesB; rw [decide_eq_false (by omega)]; rfl, rfl⟩
 simp only [go_sem, simprocAttr, h200, encTask]
 refine wpc_while (fun (i : Nat) => [(2, .ptr σ.length 0), (10, .slice tok (g.map encL)), (11, .int .i64 g.length), (12, .int .i64 (i : Nat))]) (fun _ => σ ++ [.row (encTask t)]) (fun i => i ≤ g.length ∧ choicesB t g = (g.drop i).all (groupOk t)) (fun i => g.length - i) 0 ⟨Nat.zero_le _, by unfold choicesB; rw [decide_eq_true (by omega)]; rfl⟩ (by simp only [encTask]; exact (by (try dsimp only); first | exact ghL (hrow) | exact ghL0 (hrow))) ?_
 rintro i ⟨hi, hv⟩ K hK hE hR
 by_cases h : i < g.length
 ·obtain ⟨l, hx⟩ := get_ex h; have hlt : ((i : Int) < (g.length : Int)) := (by omega); have hw := wrapS (i := i) (by omega)
  have hll := hg.2 l (List.mem_of_getElem? hx)
  rw [drop_cons hx, List.all_cons] at hv
  by_cases hl0 : l = []
  ·subst hl0
   simp only [go_sem, simprocAttr, hlt, hx, encL, encTask, hR, List.map_nil, List.length_nil]
   exact rt (.bool false) ⟨by rw [hv]; rfl, rfl⟩
  ·have hne : ((l.length : Int) == 0) = false := by
    cases l with
    | nil => exact absurd rfl hl0
    | cons a r => simp only [List.length_cons, beq_eq_false_iff_ne, ne_eq]; omega
   have hem : l.isEmpty = false := by cases l with | nil => exact absurd rfl hl0 | cons a r => rfl
   simp only [go_sem, simprocAttr, hlt, hx, encL, encTask, hne]
   refine (rising_spec l t.actions.length .unk _ (by omega)).is ?_
   cases hri : risingB t.actions.length (-1) l
   ·simp only [go_sem, simprocAttr, hR]
    exact rt (.bool false) ⟨by rw [hv]; unfold groupOk; rw [hri, hem]; rfl, rfl⟩
   ·simp only [go_sem, simprocAttr]
    have hrng := fun x hx => (rising_pw hri).2 x hx
    refine (contS_spec l _ _ (fun a => !(sameP t l a)) .unk _ (by omega) (fun a ha => pvalid1_spec t l a σ.length (σ.length + 1) _ ht (by simp [encTask]) (by simp) hl0 (fun x hx => by have := hrng x hx; omega) ha)).is ?_
    have han : (l.any fun a => !(sameP t l a)) = !(l.all (sameP t l)) := by
     induction l with
     | nil => rfl
     | cons a r _ => simp [List.any_cons, List.all_cons, Bool.not_and, List.not_all_eq_any_not]
    have hgo : groupOk t l = l.all (sameP t l) := by unfold groupOk; rw [hri, hem]; rfl
    rw [han]
    cases hal : l.all (sameP t l)
    ·simp only [go_sem, simprocAttr, hR]
     exact rt (.bool false) ⟨by rw [hv, hgo, hal]; rfl, rfl⟩
    ·simp only [go_sem, simprocAttr, encTask]
     rw [hgo, hal, Bool.true_and] at hv
     refine hK _ _ (i + 1) ⟨by omega, hv⟩ (by omega) ?_
     simp only [encTask]
     exact (by (try dsimp only); (try simp only [ hw]); first | exact ghL (hrow) | exact ghL0 (hrow))
 ·have hlt : ¬ ((i : Int) < (g.length : Int)) := by omega
  rw [drop_len h, List.all_nil] at hv
  simp only [go_sem, simprocAttr, hlt, hE]
  exact rt (.bool true) ⟨by rw [hv], rfl⟩
def askE (t : FTask) (g : List (List Int)) : Int := if validB t then (if choicesB t g then 0 else 160) else 10
def givE (t : FTask) (g : List (List Int)) (s : List Int) : Int := if stE t s = 0 then (if choicesB t g then 0 else 160) else stE t s
def c_pgiven : CCode := .seq (.ops [oS 3 (.box (.tmp 0)), oS 6 (.move (.lit (.int .i64 0)))]) (.seq (.seq (.ops [oS 8 (.load (some 4) (.tmp 3)), oS 9 (.move (.tmp 2)), oS 10 (.call (.lit (.func 91 [])) [.tmp 8, .tmp 9]), oS 7 (.move (.tmp 10))]) (.seq (.ops [oS 11 (.move (.tmp 7)), oS 12 (.bin .neq .none (.tmp 11) (.lit (.int .i64 0)))]) (.cond (.tmp 12) (.seq (.ops [oS 13 (.move (.tmp 7)), oS 6 (.move (.tmp 13))]) .ret) .skip))) (.seq (.seq (.ops [oS 14 (.load (some 4) (.tmp 3)), oS 15 (.move (.tmp 1)), oS 16 (.call (.lit (.func 72 [])) [.tmp 14, .tmp 15]), oS 17 (.un .not (.tmp 16))]) (.cond (.tmp 17) (.seq (.ops [oS 6 (.move (.lit (.int .i64 160)))]) .ret) .skip)) (.seq (.ops [oS 6 (.move (.lit (.int .i64 0)))]) .ret)))
theorem pgiven_spec (t : FTask) (g : List (List Int)) (s : List Int) (tok tok' : Tok) (σ : Store) (ht : TB t) (hg : LB g) (hs : s.length ≤ 140737488355328) :
  ACalls Tryz.prog 54 [.agg (encTask t), .slice tok (g.map encL), .slice tok' (s.map Ahl.encI)] σ (isR (.int .i64 (givE t g s)) σ) := by
 refine ACalls.intro (rs := [(.tmp 6)]) (by kernel_rfl) { own := [], ghosts := [] } Tryz.func54 (c := Tryz.f54.body.getD .skip) (by kernel_rfl) (by decide) (by rw [show Tryz.f54.ntmps = 18 by kernel_rfl]; exact Nat.le_of_ble_eq_true rfl) (by kernel_rfl) ?_
 intro hσ hids
 rw [show comp Tryz.prog { own := [], ghosts := [] } (Tryz.f54.body.getD .skip) = c_pgiven by kernel_rfl, show Tryz.f54.ntmps = 18 by kernel_rfl]
 unfold c_pgiven
 have hil : Ids σ.length (.slice tok (g.map encL)) := hids _ (by simp)
 simp only [go_sem, simprocAttr, encTask]
 refine (sFine_spec t s tok' _ ht hs).is ?_
 by_cases h : ¬ stE t s = 0
 ·have h0 : (stE t s != 0) = true := by simpa using h
  simp only [go_sem, simprocAttr, h0]
  exact rt (.int .i64 (stE t s)) ⟨by rw [givE, if_neg h], rfl⟩
 replace h := Decidable.not_not.1 h
 rw [h]
 simp only [go_sem, simprocAttr, encTask]
 refine (pvalid_spec t g tok _ ht hg).is ?_
 cases hc : choicesB t g
 ·simp only [go_sem, simprocAttr]
  exact rt (.int .i64 160) ⟨by rw [givE, if_pos h, hc]; rfl, rfl⟩
 ·simp only [go_sem, simprocAttr]
  exact rt (.int .i64 0) ⟨by rw [givE, if_pos h, hc]; rfl, rfl⟩
def c_pasks : CCode := .seq (.ops [oS 2 (.box (.tmp 0)), oS 4 (.move (.lit (.int .i64 0)))]) (.seq (.block 0 (.seq (.ops [oS 6 (.load (some 4) (.tmp 2)), oS 7 (.call (.lit (.func 71 [])) [.tmp 6]), oS 8 (.un .not (.tmp 7)), oS 5 (.move (.tmp 8))]) (.cond (.tmp 5) (.seq (.ops [oS 4 (.move (.lit (.int .i64 10)))]) .ret) (.seq (.ops [oS 10 (.load (some 4) (.tmp 2)), oS 11 (.move (.tmp 1)), oS 12 (.call (.lit (.func 72 [])) [.tmp 10, .tmp 11]), oS 13 (.un .not (.tmp 12)), oS 9 (.move (.tmp 13))]) (.cond (.tmp 9) (.seq (.ops [oS 4 (.move (.lit (.int .i64 160)))]) .ret) .skip))))) (.seq (.ops [oS 4 (.move (.lit (.int .i64 0)))]) .ret))
theorem pasks_spec (t : FTask) (g : List (List Int)) (tok : Tok) (σ : Store) (ht : TB t) (hg : LB g) :
  ACalls Tryz.prog 36 [.agg (encTask t), .slice tok (g.map encL)] σ (isR (.int .i64 (askE t g)) σ) := by
 refine ACalls.intro (rs := [(.tmp 4)]) (by kernel_rfl) { own := [], ghosts := [] } Tryz.func36 (c := Tryz.f36.body.getD .skip) (by kernel_rfl) (by decide) (by rw [show Tryz.f36.ntmps = 14 by kernel_rfl]; exact Nat.le_of_ble_eq_true rfl) (by kernel_rfl) ?_
 intro hσ hids
 rw [show comp Tryz.prog { own := [], ghosts := [] } (Tryz.f36.body.getD .skip) = c_pasks by kernel_rfl, show Tryz.f36.ntmps = 14 by kernel_rfl]
 unfold c_pasks
 have hil : Ids σ.length (.slice tok (g.map encL)) := hids _ (by simp)
 simp only [go_sem, simprocAttr, encTask]
 refine (valid_spec t _ ht).is ?_
 cases hv : validB t
 ·simp only [go_sem, simprocAttr]
  exact rt (.int .i64 10) ⟨by rw [askE, hv]; rfl, rfl⟩
 simp only [go_sem, simprocAttr, encTask]
 refine (pvalid_spec t g tok _ ht hg).is ?_
 cases hc : choicesB t g
 ·simp only [go_sem, simprocAttr]
  exact rt (.int .i64 160) ⟨by rw [askE, hv, hc]; rfl, rfl⟩
 ·simp only [go_sem, simprocAttr]
  exact rt (.int .i64 0) ⟨by rw [askE, hv, hc]; rfl, rfl⟩
def c_pcheck : CCode := .seq (.ops [oS 2 (.box (.tmp 0)), oS 4 (.move (.lit (.int .i64 0)))]) (.seq (.ops [oS 5 (.load (some 4) (.tmp 2)), oS 6 (.move (.tmp 1)), oS 7 (.call (.lit (.func 36 [])) [.tmp 5, .tmp 6]), oS 4 (.move (.tmp 7))]) .ret)
theorem pcheck_spec (t : FTask) (g : List (List Int)) (tok : Tok) (σ : Store) (ht : TB t) (hg : LB g) :
  ACalls Tryz.prog 27 [.agg (encTask t), .slice tok (g.map encL)] σ (isR (.int .i64 (askE t g)) σ) := by
 refine ACalls.intro (rs := [(.tmp 4)]) (by kernel_rfl) { own := [], ghosts := [] } Tryz.func27 (c := Tryz.f27.body.getD .skip) (by kernel_rfl) (by decide) (by rw [show Tryz.f27.ntmps = 8 by kernel_rfl]; exact Nat.le_of_ble_eq_true rfl) (by kernel_rfl) ?_
 intro hσ hids
 rw [show comp Tryz.prog { own := [], ghosts := [] } (Tryz.f27.body.getD .skip) = c_pcheck by kernel_rfl, show Tryz.f27.ntmps = 8 by kernel_rfl]
 unfold c_pcheck
 have hil : Ids σ.length (.slice tok (g.map encL)) := hids _ (by simp)
 simp only [go_sem, simprocAttr, encTask]
 refine (pasks_spec t g tok _ ht hg).is ?_
 simp only [go_sem, simprocAttr]
 exact rt (.int .i64 (askE t g)) ⟨rfl, rfl⟩
def e_is16_0 : List COp := [oS 35 (.faddr 3 (.tmp 2)), oA 36 (.load none (.tmp 35)) [0], oS 37 (.move (.tmp 8)), oA 38 (.iaddr 4 (.tmp 36) (.tmp 37)) [1, 2], oA 39 (.faddr 2 (.tmp 38)) [3], oA 40 (.load none (.tmp 39)) [4], oS 41 (.faddr 3 (.tmp 2)), oA 42 (.load none (.tmp 41)) [6], oS 43 (.move (.tmp 6)), oA 44 (.iaddr 1 (.tmp 43) (.lit (.int .i64 0))) [8], oA 45 (.load none (.tmp 44)) [9], oA 46 (.iaddr 4 (.tmp 42) (.tmp 45)) [7, 10], oA 47 (.faddr 2 (.tmp 46)) [11], oA 48 (.load none (.tmp 47)) [12], oA 49 (.call (.lit (.func 69 [])) [.tmp 40, .tmp 48]) [5, 13], oA 50 (.un .not (.tmp 49)) [14]]
def d_is16_0 : List COp := e_is16_0
theorem dr_is16_0 (P : Program) (nt n0 : Nat) (Q : Post) (s : Slots) (σ : Store) : wpc P nt n0 (.draw d_is16_0) Q s σ = aOpsD P nt e_is16_0 (Q .normal) s σ := wpc_draw _ (by decide)
attribute [local go_sem] dr_is16_0 e_is16_0
def c_is16 : CCode := .seq (.ops [oS 2 (.box (.tmp 0)), oS 4 (.move (.lit (.bool false)))]) (.seq (.seq (.ops [oS 9 (.move (.tmp 1)), oS 10 (.blen 1 (.tmp 9)), oS 11 (.bin .gtr .none (.tmp 10) (.lit (.int .i64 200)))]) (.cond (.tmp 11) (.seq (.ops [oS 4 (.move (.lit (.bool false)))]) .ret) .skip)) (.seq (.seq (.ops [oS 12 (.move (.tmp 1)), oS 13 (.blen 1 (.tmp 12)), oS 14 (.move (.lit (.int .i64 0)))]) (.block 0 (.loop (.seq (.ops [oS 15 (.bin .lss .none (.tmp 14) (.tmp 13))]) (.seq (.cond (.tmp 15) .skip (.exit 0)) (.seq (.block 1 (.seq (.ops [oS 16 (.iaddr 1 (.tmp 12) (.tmp 14)), oS 17 (.load none (.tmp 16)), oS 6 (.move (.tmp 17))]) (.seq (.seq (.ops [oS 18 (.move (.tmp 6)), oS 19 (.blen 1 (.tmp 18)), oS 20 (.bin .eql .none (.tmp 19) (.lit (.int .i64 0))), oS 21 (.move (.tmp 20)), oG 22 21 false (.move (.tmp 6)), oG 23 21 false (.faddr 3 (.tmp 2)), oG 24 21 false (.load none (.tmp 23)), oG 25 21 false (.blen 1 (.tmp 24)), oG 26 21 false (.call (.lit (.func 47 [])) [.tmp 22, .tmp 25]), oG 27 21 false (.un .not (.tmp 26)), oS 28 (.pick (.tmp 21) (.lit (.bool true)) (.tmp 27))]) (.cond (.tmp 28) (.seq (.ops [oS 4 (.move (.lit (.bool false)))]) .ret) .skip)) (.seq (.ops [oS 29 (.move (.tmp 6)), oS 30 (.blen 1 (.tmp 29)), oS 31 (.move (.lit (.int .i64 0)))]) (.block 2 (.loop (.seq (.ops [oS 32 (.bin .lss .none (.tmp 31) (.tmp 30))]) (.seq (.cond (.tmp 32) .skip (.exit 2)) (.seq (.block 3 (.seq (.ops [oS 33 (.iaddr 1 (.tmp 29) (.tmp 31)), oS 34 (.load none (.tmp 33)), oS 8 (.move (.tmp 34))]) (.seq (.draw d_is16_0) (.cond (.tmp 50) (.seq (.ops [oS 4 (.move (.lit (.bool false)))]) .ret) .skip)))) (.ops [oS 51 (.bin .add .none (.tmp 31) (.lit (.int .i64 1))), oS 31 (.move (.tmp 51))])))))))))) (.ops [oS 52 (.bin .add .none (.tmp 14) (.lit (.int .i64 1))), oS 14 (.move (.tmp 52))]))))))) (.seq (.ops [oS 4 (.move (.lit (.bool true)))]) .ret)))
theorem is16_spec (t : FTask) (g : List (List Int)) (tok : Tok) (σ : Store) (ht : TB t) (hg : LB g) : ACalls Tryz.prog 50 [.agg (encTask t), .slice tok (g.map encL)] σ (isR (.bool (choicesB t g)) σ) := by
 refine ACalls.intro (rs := [(.tmp 4)]) (by kernel_rfl) { own := [], ghosts := [] } Tryz.func50 (c := Tryz.f50.body.getD .skip) (by kernel_rfl) (by decide) (by rw [show Tryz.f50.ntmps = 53 by kernel_rfl]; exact Nat.le_of_ble_eq_true rfl) (by kernel_rfl) ?_
 intro hσ hids
 rw [show comp Tryz.prog { own := [], ghosts := [] } (Tryz.f50.body.getD .skip) = c_is16 by kernel_rfl, show Tryz.f50.ntmps = 53 by kernel_rfl]
 unfold c_is16
 have hil : Ids σ.length (.slice tok (g.map encL)) := hids _ (by simp)
 have hg1 := hg.1
 have hrow : IdsS (σ ++ [AObj.row (encTask t)]).length (σ ++ [AObj.row (encTask t)]) := idsS_push hσ (idsO_row (ids_encTask t))
 simp only [encTask] at hrow
 by_cases h200 : (g.length : Int) > 200
 ·simp only [go_sem, simprocAttr, h200]
  exact rt (.bool false) ⟨by unfold choicesB; rw [decide_eq_false (by omega)]; rfl, rfl⟩
 simp only [go_sem, simprocAttr, h200, encTask]
 refine wpc_while (fun (i : Nat) => [(2, .ptr σ.length 0), (12, .slice tok (g.map encL)), (13, .int .i64 g.length), (14, .int .i64 (i : Nat))]) (fun _ => σ ++ [.row (encTask t)]) (fun i => i ≤ g.length ∧ choicesB t g = (g.drop i).all (groupOk t)) (fun i => g.length - i) 0 ⟨Nat.zero_le _, by unfold choicesB; rw [decide_eq_true (by omega)]; rfl⟩ (by simp only [encTask]; exact (by (try dsimp only); first | exact ghL (hrow) | exact ghL0 (hrow))) ?_
 rintro i ⟨hi, hv⟩ K hK hE hR
 by_cases h : i < g.length
 ·obtain ⟨l, hx⟩ := get_ex h; have hlt : ((i : Int) < (g.length : Int)) := (by omega); have hw := wrapS (i := i) (by omega)
  have hll := hg.2 l (List.mem_of_getElem? hx)
  rw [drop_cons hx, List.all_cons] at hv
  by_cases hl0 : l = []
  ·subst hl0
   simp only [go_sem, simprocAttr, hlt, hx, encL, encTask, hR, List.map_nil, List.length_nil]
   exact rt (.bool false) ⟨by rw [hv]; rfl, rfl⟩
  ·obtain ⟨b, r, hbr⟩ : ∃ b r, l = b :: r := by cases l with | nil => exact absurd rfl hl0 | cons b r => exact ⟨b, r, rfl⟩
   have hne : ((l.length : Int) == 0) = false := by
    rw [hbr]; simp only [List.length_cons, beq_eq_false_iff_ne, ne_eq]; omega
   have hem : l.isEmpty = false := by rw [hbr]; rfl
   simp only [go_sem, simprocAttr, hlt, hx, encL, encTask, hne]
   refine (rising01_spec l t.actions.length .unk _ (by omega)).is ?_
   cases hri : risingB t.actions.length (-1) l
   ·simp only [go_sem, simprocAttr, hR]
    exact rt (.bool false) ⟨by rw [hv]; unfold groupOk; rw [hri, hem]; rfl, rfl⟩
   ·have hrng := fun x hx => (rising_pw hri).2 x hx
    have hgo : groupOk t l = l.all (sameP t l) := by unfold groupOk; rw [hri, hem]; rfl
    have h0 : l[0]? = some b := by rw [hbr]; rfl
    have hb := hrng b (by rw [hbr]; exact List.mem_cons_self)
    obtain ⟨y, hy⟩ : ∃ y, t.actions[b.toNat]? = some y := get_ex (by omega)
    simp only [go_sem, simprocAttr, encTask]
    refine wpc_while (fun (j : Nat) => [(2, .ptr σ.length 0), (6, .slice .unk (l.map Ahl.encI)), (12, .slice tok (g.map encL)), (13, .int .i64 g.length), (14, .int .i64 (i : Nat)), (29, .slice .unk (l.map Ahl.encI)), (30, .int .i64 l.length), (31, .int .i64 (j : Nat))]) (fun _ => σ ++ [.row (encTask t)]) (fun j => j ≤ l.length ∧ l.all (sameP t l) = (l.drop j).all (sameP t l)) (fun j => l.length - j) 0 ⟨Nat.zero_le _, rfl⟩ (by simp only [encTask]; exact (by (try dsimp only); first | exact ghL (hrow) | exact ghL0 (hrow))) ?_
    rintro j ⟨hj', hv'⟩ K' hK' hE' hR'
    by_cases hj : j < l.length
    ·obtain ⟨a, hxj⟩ := get_ex hj; have hltj : ((j : Int) < (l.length : Int)) := (by omega); have hwj := wrapS (i := j) (by omega)
     have ha := hrng a (List.mem_of_getElem? hxj)
     obtain ⟨x, hxa⟩ : ∃ x, t.actions[a.toNat]? = some x := get_ex (by omega)
     have hsp : sameP t l a = decide (x.pre = y.pre) := by unfold sameP; rw [preOf_get hxa, hbr, List.headD_cons, preOf_get hy]
     rw [drop_cons hxj, List.all_cons, hsp] at hv'
     have ha0 : 0 ≤ a := by omega
     have hb0 : 0 ≤ b := by omega
     simp only [go_sem, simprocAttr, hltj, hxj, h0, hxa, hy, ha0, hb0, Ahl.encI, encA, encTask]
     refine ⟨_, sameLits_spec x.pre y.pre .unk .unk _ (ht.pre x (List.mem_of_getElem? hxa)) (ht.pre y (List.mem_of_getElem? hy)), ?_⟩
     by_cases hxy : x.pre = y.pre
     ·rw [decide_eq_true hxy, Bool.true_and] at hv'
      have hd : decide (x.pre = y.pre) = true := decide_eq_true hxy
      simp only [go_sem, simprocAttr, hd, encTask]
      refine hK' _ _ (j + 1) ⟨by omega, hv'⟩ (by omega) ?_
      simp only [encTask]
      exact (by (try dsimp only); (try simp only [ hwj]); first | exact ghL (hrow) | exact ghL0 (hrow))
     ·rw [decide_eq_false hxy, Bool.false_and] at hv'
      have hd : decide (x.pre = y.pre) = false := decide_eq_false hxy
      simp only [go_sem, simprocAttr, hd, hR', hR]
      exact rt (.bool false) ⟨by rw [hv, hgo, hv']; rfl, rfl⟩
    ·have hltj : ¬ ((j : Int) < (l.length : Int)) := by omega
     rw [drop_len hj, List.all_nil] at hv'
     rw [hgo, hv', Bool.true_and] at hv
     simp only [go_sem, simprocAttr, hltj, hE', encTask]
     refine hK _ _ (i + 1) ⟨by omega, hv⟩ (by omega) ?_
     simp only [encTask]
     exact (by (try dsimp only); (try simp only [ hw]); first | exact ghL (hrow) | exact ghL0 (hrow))
 ·have hlt : ¬ ((i : Int) < (g.length : Int)) := by omega
  rw [drop_len h, List.all_nil] at hv
  simp only [go_sem, simprocAttr, hlt, hE]
  exact rt (.bool true) ⟨by rw [hv], rfl⟩
def appB (t : FTask) (l s : List Int) : Bool := condHolds s (preOf t (l.headD 0))
def e_app16_0 : List COp := [oS 7 (.move (.tmp 2)), oS 8 (.faddr 3 (.tmp 3)), oA 9 (.load none (.tmp 8)) [1], oS 10 (.move (.tmp 1)), oA 11 (.iaddr 1 (.tmp 10) (.lit (.int .i64 0))) [3], oA 12 (.load none (.tmp 11)) [4], oA 13 (.iaddr 4 (.tmp 9) (.tmp 12)) [2, 5], oA 14 (.faddr 2 (.tmp 13)) [6], oA 15 (.load none (.tmp 14)) [7], oA 16 (.call (.lit (.func 51 [])) [.tmp 7, .tmp 15]) [0, 8], oA 6 (.move (.tmp 16)) [9, 9, 0, 1, 2, 3, 4, 5, 6, 7, 8, 9]]
def d_app16_0 : List COp := e_app16_0
theorem dr_app16_0 (P : Program) (nt n0 : Nat) (Q : Post) (s : Slots) (σ : Store) : wpc P nt n0 (.draw d_app16_0) Q s σ = aOpsD P nt e_app16_0 (Q .normal) s σ := wpc_draw _ (by decide)
attribute [local go_sem] dr_app16_0 e_app16_0
def c_app16 : CCode := .seq (.ops [oS 3 (.box (.tmp 0)), oS 6 (.move (.lit (.bool false)))]) (.seq (.draw d_app16_0) .ret)
theorem app16_spec (t : FTask) (l s : List Int) (tok tok' : Tok) (σ : Store) (ht : TB t) (hl : l ≠ []) (hr : ∀ x ∈ l, 0 ≤ x ∧ x < (t.actions.length : Int)) (hs : s.length ≤ 140737488355328) :
  ACalls Tryz.prog 28 [.agg (encTask t), .slice tok (l.map Ahl.encI), .slice tok' (s.map Ahl.encI)] σ (isR (.bool (appB t l s)) σ) := by
 refine ACalls.intro (rs := [(.tmp 6)]) (by kernel_rfl) { own := [], ghosts := [] } Tryz.func28 (c := Tryz.f28.body.getD .skip) (by kernel_rfl) (by decide) (by rw [show Tryz.f28.ntmps = 17 by kernel_rfl]; exact Nat.le_of_ble_eq_true rfl) (by kernel_rfl) ?_
 intro hσ hids
 rw [show comp Tryz.prog { own := [], ghosts := [] } (Tryz.f28.body.getD .skip) = c_app16 by kernel_rfl, show Tryz.f28.ntmps = 17 by kernel_rfl]
 unfold c_app16
 obtain ⟨b, r, rfl⟩ : ∃ b r, l = b :: r := by cases l with | nil => exact absurd rfl hl | cons b r => exact ⟨b, r, rfl⟩
 obtain ⟨hb1, hb2⟩ := hr b List.mem_cons_self
 obtain ⟨y, hy⟩ : ∃ y, t.actions[b.toNat]? = some y := get_ex (by omega)
 simp only [go_sem, simprocAttr, hy, hb1, encTask, encA, Ahl.encI, List.map_cons]
 refine ⟨_, holds02_spec s y.pre tok' .unk _ hs (ht.pre y (List.mem_of_getElem? hy)), ?_⟩
 simp only [go_sem, simprocAttr]
 have hv : appB t (b :: r) s = condHolds s y.pre := by unfold appB; rw [List.headD_cons, preOf_get hy]
 first | exact rtw (v := .bool _) wkS ⟨by rw [hv], rfl⟩ | exact rtw0 (v := .bool _) wkS ⟨by rw [hv], rfl⟩
section
variable {α : Type} [DecidableEq α]
def dd : α → List α → List α
 | _, [] => []
 | p, y :: r => if y = p then dd p r else y :: dd y r
def dedupL : List α → List α
 | [] => []
 | x :: r => x :: dd x r
theorem dd_snoc (y : α) : ∀ (m : List α) (p : α), dd p (m ++ [y]) = dd p m ++ if y = m.getLastD p then [] else [y]
 | [], p => by
  show dd p [y] = [] ++ if y = p then [] else [y]
  rw [dd, List.nil_append]; rfl
 | z :: m, p => by
  rw [List.cons_append, dd, dd, List.getLastD_cons]
  by_cases h : z = p
  ·subst h; rw [if_pos rfl, if_pos rfl, dd_snoc y m z]
  ·rw [if_neg h, if_neg h, dd_snoc y m z, List.cons_append]
theorem dedup_snoc (y z : α) (m : List α) (hz : m.getLast? = some z) : dedupL (m ++ [y]) = dedupL m ++ if y = z then [] else [y] := by
 cases m with
 | nil => simp at hz
 | cons x r =>
  rw [List.cons_append, dedupL, dedupL, dd_snoc, List.cons_append]
  have : r.getLastD x = z := by
   rw [List.getLast?_cons] at hz
   simpa using hz
  rw [this]
theorem dedup_take {l : List α} {k : Nat} {x z : α} (hx : l[k + 1]? = some x) (hz : l[k]? = some z) : dedupL (l.take (k + 2)) = dedupL (l.take (k + 1)) ++ if x = z then [] else [x] := by
 rw [take_succ' hx]
 refine dedup_snoc x z _ ?_
 rw [take_succ' hz]; simp
theorem dd_len : ∀ (m : List α) (p : α), (dd p m).length ≤ m.length
 | [], p => by simp [dd]
 | z :: m, p => by
  rw [dd]
  split
  ·have := dd_len m p; simp; omega
  ·have := dd_len m z; simp; omega
theorem dedup_len : ∀ (l : List α), (dedupL l).length ≤ l.length
 | [] => by simp [dedupL]
 | x :: r => by have := dd_len r x; simp [dedupL]; omega
theorem dd_mem : ∀ (m : List α) (p x : α), x ∈ p :: m ↔ x = p ∨ x ∈ dd p m
 | [], p, x => by simp [dd]
 | z :: m, p, x => by
  rw [dd]
  split
  ·rename_i h; subst h
   have := dd_mem m z x
   simp only [List.mem_cons] at this ⊢
   constructor
   ·rintro (h | h | h)
    ·exact .inl h
    ·exact .inl h
    ·exact this.1 (.inr h)
   ·intro h
    rcases this.2 h with h | h
    ·exact .inl h
    ·exact .inr (.inr h)
  ·have := dd_mem m z x
   simp only [List.mem_cons] at this ⊢
   rw [this]
theorem dedup_mem (l : List α) (x : α) : x ∈ dedupL l ↔ x ∈ l := by
 cases l with
 | nil => simp [dedupL]
 | cons y r => rw [dedupL, List.mem_cons, dd_mem r y x]
end
theorem dd_strict : ∀ (m : List (List Int)) (p : List Int), (p :: m).Pairwise (fun x y => ¬ cmpInts y x < 0) → (dd p m).Pairwise ltL ∧ ∀ x ∈ dd p m, ltL p x
 | [], p, _ => ⟨.nil, by simp [dd]⟩
 | z :: m, p, h => by
  obtain ⟨h1, h2⟩ := List.pairwise_cons.1 h
  rw [dd]
  split
  ·rename_i e; subst e; exact dd_strict m z h2
  ·rename_i e
   obtain ⟨q1, q2⟩ := dd_strict m z h2
   have hpz : ltL p z := by
    rcases cmpInts_total (h1 z List.mem_cons_self) with q | q
    ·exact q
    ·exact absurd q e
   refine ⟨List.pairwise_cons.2 ⟨q2, q1⟩, fun x hx => ?_⟩
   rcases List.mem_cons.1 hx with rfl | hx
   ·exact hpz
   ·exact cmpInts_trans hpz (q2 x hx)
theorem dedup_strict {l : List (List Int)} (h : l.Pairwise (fun x y => ¬ cmpInts y x < 0)) : (dedupL l).Pairwise ltL := by
 cases l with
 | nil => exact .nil
 | cons p m =>
  obtain ⟨q1, q2⟩ := dd_strict m p h
  exact List.pairwise_cons.2 ⟨q2, q1⟩
def vN (l : List Int) : AV := .slice .fresh (l.map Ahl.encI)
def c_pout1 : CCode := .seq (.ops [oS 4 (.move (.lit (.bool false)))]) (.seq (.ops [oS 5 (.move (.tmp 0)), oS 6 (.move (.tmp 1)), oS 7 (.call (.lit (.func 78 [])) [.tmp 5, .tmp 6]), oS 4 (.move (.tmp 7))]) .ret)
theorem pout1_spec (x y : List Int) (tok tok' : Tok) (σ : Store) (hx : x.length ≤ 140737488355328) (hy : y.length ≤ 140737488355328) : ACalls Tryz.prog 77 [.slice tok (x.map Ahl.encI), .slice tok' (y.map Ahl.encI)] σ (isR (.bool (decide (x = y))) σ) := by
 refine ACalls.intro (rs := [(.tmp 4)]) (by kernel_rfl) { own := [], ghosts := [] } Tryz.func77 (c := Tryz.f77.body.getD .skip) (by kernel_rfl) (by decide) (by rw [show Tryz.f77.ntmps = 8 by kernel_rfl]; exact Nat.le_of_ble_eq_true rfl) (by kernel_rfl) ?_
 intro hσ hids
 rw [show comp Tryz.prog { own := [], ghosts := [] } (Tryz.f77.body.getD .skip) = c_pout1 by kernel_rfl, show Tryz.f77.ntmps = 8 by kernel_rfl]
 unfold c_pout1
 simp only [go_sem, simprocAttr]
 refine (eqInts_spec x y tok tok' _ hx hy).is ?_
 simp only [go_sem, simprocAttr]
 first | exact rtw (v := .bool _) wkS ⟨rfl, rfl⟩ | exact rtw0 (v := .bool _) wkS ⟨rfl, rfl⟩
theorem ids_vN (n : Nat) (x : List Int) : Ids n (vN x) := ids_mapf ids_encI x
theorem idsO_rowN (n : Nat) {c : List AV} (h : ∀ x ∈ c, Ids n x) : IdsO n (.row c) := fun j x hj => h x (List.mem_of_getElem? hj)
theorem set_take_snoc {α : Type} {C : List α} {k : Nat} (y : α) (hk : k < C.length) : (C.set k y).take (k + 1) = C.take k ++ [y] := by
 rw [List.take_add_one, List.take_set_of_le (Nat.le_refl _), List.getElem?_set_self hk]; rfl
theorem set_drop_ge {α : Type} {C : List α} {k m : Nat} (y : α) (h : k < m) : (C.set k y).drop m = C.drop m := List.drop_set_of_lt h
theorem setAll_eq : ∀ (xs l : List AV) (k : Nat), k + xs.length ≤ l.length → setAll l k xs = l.take k ++ xs ++ l.drop (k + xs.length)
 | [], l, k, _ => by rw [setAll]; simp
 | x :: xs, l, k, h => by
  simp only [List.length_cons] at h
  rw [setAll, setAll_eq xs (l.set k x) (k + 1) (by simp; omega), set_take_snoc x (by omega), List.drop_set_of_lt (by omega), List.length_cons]
  simp [Nat.add_assoc, Nat.add_comm 1]
theorem flat_rep (n : Nat) (v : AV) : (List.replicate n [v]).flatten = List.replicate n v := by
 induction n with
 | zero => rfl
 | succ n ih => rw [List.replicate_succ, List.flatten_cons, ih, List.replicate_succ]; rfl
def e_compact_0 : List COp := [oS 18 (.move (.tmp 1)), oS 19 (.move (.tmp 0)), oS 20 (.move (.tmp 5)), oA 21 (.iaddr 1 (.tmp 19) (.tmp 20)) [1, 2], oA 22 (.load none (.tmp 21)) [3], oS 23 (.move (.tmp 0)), oS 24 (.move (.tmp 5)), oA 25 (.bin .sub .none (.tmp 24) (.lit (.int .i64 1))) [6], oA 26 (.iaddr 1 (.tmp 23) (.tmp 25)) [5, 7], oA 27 (.load none (.tmp 26)) [8], oA 28 (.call (.tmp 18) [.tmp 22, .tmp 27]) [0, 4, 9]]
def d_compact_0 : List COp := e_compact_0
theorem dr_compact_0 (P : Program) (nt n0 : Nat) (Q : Post) (s : Slots) (σ : Store) : wpc P nt n0 (.draw d_compact_0) Q s σ = aOpsD P nt e_compact_0 (Q .normal) s σ := wpc_draw _ (by decide)
def e_compact_1 : List COp := [oS 38 (.move (.tmp 1)), oS 39 (.move (.tmp 6)), oS 40 (.move (.tmp 7)), oA 41 (.iaddr 1 (.tmp 39) (.tmp 40)) [1, 2], oA 42 (.load none (.tmp 41)) [3], oS 43 (.move (.tmp 6)), oS 44 (.move (.tmp 7)), oA 45 (.bin .sub .none (.tmp 44) (.lit (.int .i64 1))) [6], oA 46 (.iaddr 1 (.tmp 43) (.tmp 45)) [5, 7], oA 47 (.load none (.tmp 46)) [8], oA 48 (.call (.tmp 38) [.tmp 42, .tmp 47]) [0, 4, 9], oA 49 (.un .not (.tmp 48)) [10]]
def d_compact_1 : List COp := e_compact_1
theorem dr_compact_1 (P : Program) (nt n0 : Nat) (Q : Post) (s : Slots) (σ : Store) : wpc P nt n0 (.draw d_compact_1) Q s σ = aOpsD P nt e_compact_1 (Q .normal) s σ := wpc_draw _ (by decide)
attribute [local go_sem] dr_compact_0 e_compact_0 dr_compact_1 e_compact_1
def c_compact : CCode := .seq (.ops [oS 4 (.move (.lit (.slice .nil [])))]) (.seq (.seq (.ops [oS 8 (.move (.tmp 0)), oS 9 (.blen 1 (.tmp 8)), oS 10 (.bin .lss .none (.tmp 9) (.lit (.int .i64 2)))]) (.cond (.tmp 10) (.seq (.ops [oS 11 (.move (.tmp 0)), oS 4 (.move (.tmp 11))]) .ret) .skip)) (.seq (.seq (.ops [oS 5 (.move (.lit (.int .i64 1)))]) (.block 0 (.loop (.seq (.seq (.ops [oS 12 (.move (.tmp 5)), oS 13 (.move (.tmp 0)), oS 14 (.blen 1 (.tmp 13)), oS 15 (.bin .lss .none (.tmp 12) (.tmp 14))]) (.cond (.tmp 15) .skip (.exit 0))) (.seq (.block 1 (.seq (.draw d_compact_0) (.cond (.tmp 28) (.seq (.ops [oS 29 (.move (.tmp 0)), oS 30 (.move (.tmp 5)), oS 31 (.slc 1 (.tmp 29) (some (.tmp 30)) none none), oS 6 (.move (.tmp 31))]) (.seq (.seq (.ops [oS 7 (.move (.lit (.int .i64 1)))]) (.block 2 (.loop (.seq (.seq (.ops [oS 32 (.move (.tmp 7)), oS 33 (.move (.tmp 6)), oS 34 (.blen 1 (.tmp 33)), oS 35 (.bin .lss .none (.tmp 32) (.tmp 34))]) (.cond (.tmp 35) .skip (.exit 2))) (.seq (.block 3 (.seq (.draw d_compact_1) (.cond (.tmp 49) (.seq (.ops [oS 50 (.move (.tmp 0)), oS 51 (.move (.tmp 5)), oS 52 (.move (.tmp 6)), oS 53 (.move (.tmp 7)), oS 54 (.iaddr 1 (.tmp 52) (.tmp 53)), oS 55 (.load none (.tmp 54)), oS 56 (.iaddr 1 (.tmp 50) (.tmp 51)), oN (.store 1 (.tmp 56) (.tmp 55))]) (.ops [oS 57 (.move (.tmp 5)), oS 58 (.bin .add .none (.tmp 57) (.lit (.int .i64 1))), oS 5 (.move (.tmp 58))])) .skip))) (.ops [oS 36 (.move (.tmp 7)), oS 37 (.bin .add .none (.tmp 36) (.lit (.int .i64 1))), oS 7 (.move (.tmp 37))])))))) (.seq (.ops [oS 59 (.move (.tmp 0)), oS 60 (.move (.tmp 5)), oS 61 (.slc 1 (.tmp 59) (some (.tmp 60)) none none), oN (.bclear [.slice .nil []] (.tmp 61))]) (.seq (.ops [oS 62 (.move (.tmp 0)), oS 63 (.move (.tmp 5)), oS 64 (.slc 1 (.tmp 62) none (some (.tmp 63)) none), oS 4 (.move (.tmp 64))]) .ret)))) .skip))) (.ops [oS 16 (.move (.tmp 5)), oS 17 (.bin .add .none (.tmp 16) (.lit (.int .i64 1))), oS 5 (.move (.tmp 17))])))))) (.seq (.ops [oS 65 (.move (.tmp 0)), oS 4 (.move (.tmp 65))]) .ret)))
set_option maxHeartbeats 2000000 in
theorem compact_spec (id : Nat) (l : List (List Int)) (g : FuncId) (cap : List AV) (σ : Store) (hl : l.length ≤ 1000000) (hr : σ[id]? = some (.row (l.map vN)))
  (hg : ∀ x y τ, x ∈ l → y ∈ l → ACalls Tryz.prog g ([vN x, vN y] ++ cap) τ (isR (.bool (decide (x = y))) τ)) :
  ACalls Tryz.prog 76 [.ref id 1 0 l.length, .func g cap] σ (isR (.ref id 1 0 (dedupL l).length) (σ.set id (.row ((dedupL l).map vN ++ List.replicate (l.length - (dedupL l).length) (.slice .nil []))))) := by
 refine ACalls.intro (rs := [(.tmp 4)]) (by kernel_rfl) { own := [], ghosts := [] } Tryz.func76 (c := Tryz.f76.body.getD .skip) (by kernel_rfl) (by decide) (by rw [show Tryz.f76.ntmps = 66 by kernel_rfl]; exact Nat.le_of_ble_eq_true rfl) (by kernel_rfl) ?_
 intro hσ hids
 rw [show comp Tryz.prog { own := [], ghosts := [] } (Tryz.f76.body.getD .skip) = c_compact by kernel_rfl, show Tryz.f76.ntmps = 66 by kernel_rfl]
 unfold c_compact
 have hif : Ids σ.length (.func g cap) := hids _ (by simp)
 have hid := lt_of_get hr
 have hsame : σ.set id (.row (l.map vN)) = σ := set_get_same hr
 have hids0 : ∀ c : List AV, (∀ x ∈ c, Ids σ.length x) → IdsS (σ.set id (.row c)).length (σ.set id (.row c)) := fun c hc => by
  rw [List.length_set]; exact idsS_put' hσ _ (idsO_rowN _ hc)
 have hend : ∀ (S : Slots) (k : Nat) (hS : lk S 4 = .ref id 1 0 k) (c : List AV), (∀ x ∈ c, Ids σ.length x) → k = (dedupL l).length → c = (dedupL l).map vN ++ List.replicate (l.length - (dedupL l).length) (.slice .nil []) →
   bodyK [.tmp 4] σ.length 66 (isR (.ref id 1 0 (dedupL l).length) (σ.set id (.row ((dedupL l).map vN ++ List.replicate (l.length - (dedupL l).length) (.slice .nil []))))) .ret S (σ.set id (.row c)) := by
  rintro S _ hS c hc rfl rfl
  have hi := hids0 _ hc
  exact ret_gh (v := .ref id 1 0 (dedupL l).length) (Ghost.keep0 (s' := [(4, .ref id 1 0 (dedupL l).length)]) (by simp) ⟨⟨by rw [hS]; exact .refl _, .ref _ _ _ _ (by simpa using hid)⟩, trivial⟩ hi) (by simp) hi (.ref _ _ _ _ (by simpa using hid)) ⟨rfl, rfl⟩
 have hmapi : ∀ x ∈ l.map vN, Ids σ.length x := by intro x hx; obtain ⟨y, _, rfl⟩ := List.mem_map.1 hx; exact ids_vN _ _
 have hall : ∀ S : Slots, lk S 4 = .ref id 1 0 l.length → dedupL l = l → bodyK [.tmp 4] σ.length 66 (isR (.ref id 1 0 (dedupL l).length) (σ.set id (.row ((dedupL l).map vN ++ List.replicate (l.length - (dedupL l).length) (.slice .nil []))))) .ret S σ := by
  intro S hS hd
  have := hend S l.length hS (l.map vN) hmapi (by rw [hd]) (by rw [hd]; simp)
  rwa [hsame] at this
 by_cases h2 : (l.length : Int) < 2
 ·simp only [go_sem, simprocAttr, h2]
  refine hall _ rfl ?_
  match l, h2 with
  | [], _ => rfl
  | [x], _ => rfl
  | _ :: _ :: _, h2 => simp only [List.length_cons] at h2; omega
 have hone : dedupL (l.take 1) = l.take 1 := by
  match l with
  | [] => rfl
  | x :: r => rfl
 simp only [go_sem, simprocAttr, h2]
 refine wpc_while (fun (k : Nat) => [(0, .ref id 1 0 l.length), (1, .func g cap), (5, .int .i64 (k : Nat))]) (fun _ => σ) (fun k => 1 ≤ k ∧ k ≤ l.length ∧ dedupL (l.take k) = l.take k) (fun k => l.length - k) 1 ⟨by omega, by omega, hone⟩ (by (try dsimp only); exact ghA) ?_
 rintro k ⟨hk1, hkl, hdk⟩ K hK hE hR
 by_cases h : k < l.length
 ·obtain ⟨x, hx⟩ := get_ex h
  obtain ⟨j, rfl⟩ : ∃ j, k = j + 1 := ⟨k - 1, by omega⟩
  obtain ⟨z, hz⟩ := get_ex (show j < l.length by omega)
  have hlt : ((j + 1 : Nat) : Int) < (l.length : Int) := by omega
  have hw : IntKind.i64.wrap (((j + 1 : Nat) : Int) + 1) = ((j + 2 : Nat) : Int) := by rw [wrap_ok (by omega)]; omega
  have hw1 : IntKind.i64.wrap (((j + 1 : Nat) : Int) - 1) = (j : Nat) := by rw [wrap_ok (by omega)]; omega
  have hdt := dedup_take hx hz
  have hxm := List.mem_of_getElem? hx
  have hzm := List.mem_of_getElem? hz
  simp only [go_sem, simprocAttr, hlt, hr, hx, hw1, hz, h, show j < l.length by omega]
  refine ⟨_, hg x z σ hxm hzm, ?_⟩
  by_cases hxz : x = z
  ·have hd : decide (x = z) = true := decide_eq_true hxz
   rw [if_pos hxz, List.append_nil, hdk] at hdt
   have hle : (0 : Int) ≤ ((j + 1 : Nat) : Int) := by omega
   simp only [go_sem, simprocAttr, hd, hle, Int.toNat_natCast, show j + 1 ≤ l.length by omega]
   have hmin : (l.take (j + 1)).length = j + 1 := by rw [List.length_take]; omega
   refine wpc_while (α := Nat × List AV) (fun q => [(0, .ref id 1 0 l.length), (1, .func g cap), (5, .int .i64 ((dedupL (l.take (j + 1 + q.1))).length : Nat)), (6, .ref id 1 (j + 1) (l.length - (j + 1))), (7, .int .i64 (q.1 : Nat))]) (fun q => σ.set id (.row q.2))
    (fun q => 1 ≤ q.1 ∧ q.1 ≤ l.length - (j + 1) ∧ q.2.length = l.length ∧ (dedupL (l.take (j + 1 + q.1))).length ≤ j + q.1 ∧ q.2.take (dedupL (l.take (j + 1 + q.1))).length = (dedupL (l.take (j + 1 + q.1))).map vN ∧ q.2.drop (j + q.1) = (l.drop (j + q.1)).map vN ∧ ∀ x ∈ q.2, Ids σ.length x)
    (fun q => l.length - q.1) (1, l.map vN) ⟨by simp, by simp only; omega, by simp, ?_, ?_, ?_, hmapi⟩ ?_ ?_
   ·simp only; rw [show j + 1 + 1 = j + 2 by omega, hdt, hmin]; exact Nat.le_refl _
   ·simp only; rw [show j + 1 + 1 = j + 2 by omega, hdt, hmin, List.map_take]
   ·simp only; rw [List.map_drop]
   ·simp only
    rw [hsame, show j + 1 + 1 = j + 2 by omega, hdt, hmin]
    exact Ghost.keep0 (Nat.le_refl _) tellT hσ
   have hgho : ∀ (S : Slots) (C' : List AV) (k k2 : Nat), (∀ x ∈ C', Ids σ.length x) → lk S 0 = .ref id 1 0 l.length → lk S 1 = .func g cap → lk S 5 = .int .i64 k → lk S 6 = .ref id 1 (j + 1) (l.length - (j + 1)) → lk S 7 = .int .i64 k2 →
     Ghost σ.length 66 S (σ.set id (.row C')) [(0, .ref id 1 0 l.length), (1, .func g cap), (5, .int .i64 k), (6, .ref id 1 (j + 1) (l.length - (j + 1))), (7, .int .i64 k2)] (σ.set id (.row C')) := by
    intro S C' k k2 hC h0 h1 h5 h6 h7
    refine Ghost.keep0 (by simp) ?_ (hids0 C' hC)
    rw [List.length_set]
    exact ⟨⟨by rw [h0]; exact .refl _, .ref _ _ _ _ hid⟩, ⟨by rw [h1]; exact .refl _, hif⟩, ⟨by rw [h5]; exact .refl _, .int _ _⟩, ⟨by rw [h6]; exact .refl _, .ref _ _ _ _ hid⟩, ⟨by rw [h7]; exact .refl _, .int _ _⟩, trivial⟩
   rintro ⟨k2, C⟩ ⟨q1, q2, q3, q4, q5, q6, q7⟩ K' hK' hE' hR'
   simp only at q1 q2 q3 q4 q5 q6 q7 ⊢
   have hCr : (σ.set id (.row C))[id]? = some (.row C) := by rw [List.getElem?_set_self hid]
   have hCi := hids0 C q7
   have hcast : ((l.length - (j + 1) : Nat) : Int) = (l.length : Int) - ((j : Int) + 1) := by omega
   by_cases hk2 : k2 < l.length - (j + 1)
   ·obtain ⟨x', hx'⟩ := get_ex (show j + k2 + 1 < l.length by omega)
    obtain ⟨z', hz'⟩ := get_ex (show j + k2 < l.length by omega)
    have hxm' := List.mem_of_getElem? hx'
    have hzm' := List.mem_of_getElem? hz'
    have hdt' := dedup_take hx' hz'
    rw [show j + k2 + 1 = j + 1 + k2 by omega, show j + k2 + 2 = j + 1 + (k2 + 1) by omega] at hdt'
    have hc0 : C[j + 1 + (k2 - 1)]? = some (vN z') := by
     rw [show j + 1 + (k2 - 1) = j + k2 + 0 by omega, ← List.getElem?_drop, q6, List.getElem?_map, List.getElem?_drop, Nat.add_zero, hz']; rfl
    have hc1 : C[j + 1 + k2]? = some (vN x') := by
     rw [show j + 1 + k2 = j + k2 + 1 by omega, ← List.getElem?_drop, q6, List.getElem?_map, List.getElem?_drop, hx']; rfl
    have hltk : (k2 : Int) < ((l.length - (j + 1) : Nat) : Int) := by omega
    have hwk1 : IntKind.i64.wrap ((k2 : Int) - 1) = ((k2 - 1 : Nat) : Int) := by rw [wrap_ok (by omega)]; omega
    have hwk2 := wrapS (i := k2) (by omega)
    have hk21 : k2 - 1 < l.length - (j + 1) := by omega
    simp only [go_sem, simprocAttr, hltk, hwk1, hCr, hc0, hc1, hk2, hk21]
    refine ⟨_, hg x' z' _ hxm' hzm', ?_⟩
    by_cases hxz' : x' = z'
    ·have hd' : decide (x' = z') = true := decide_eq_true hxz'
     rw [if_pos hxz', List.append_nil] at hdt'
     simp only [go_sem, simprocAttr, hd']
     refine hK' _ _ (k2 + 1, C) ⟨by simp only; omega, by simp only; omega, q3, by simp only; rw [hdt']; omega, by simp only; rw [hdt']; exact q5, ?_, q7⟩ (by simp only; omega) ?_
     ·simp only
      rw [show j + (k2 + 1) = j + k2 + 1 by omega, ← List.drop_drop, q6, ← List.map_drop, List.drop_drop]
     ·simp only [hdt', hwk2]
      exact hgho _ _ _ _ q7 rfl rfl rfl rfl rfl
    ·have hd' : decide (x' = z') = false := decide_eq_false hxz'
     rw [if_neg hxz'] at hdt'
     have hDk : (dedupL (l.take (j + 1 + k2))).length < l.length := by omega
     have hwd : IntKind.i64.wrap (((dedupL (l.take (j + 1 + k2))).length : Int) + 1) = (((dedupL (l.take (j + 1 + (k2 + 1)))).length : Nat) : Int) := by rw [hdt', List.length_append, List.length_singleton, wrap_ok (by omega)]; omega
     simp only [go_sem, simprocAttr, hd', hCr, hc1, hk2, hDk, q3, vN, List.set_set, hwk2]
     refine ⟨by omega, ?_⟩
     refine hK' _ _ (k2 + 1, C.set (dedupL (l.take (j + 1 + k2))).length (vN x')) ⟨by simp only; omega, by simp only; omega, by simp only [List.length_set]; exact q3, by simp only; rw [hdt', List.length_append, List.length_singleton]; omega, ?_, ?_, ?_⟩ (by simp only; omega) ?_
     ·simp only
      rw [hdt', List.length_append, List.length_singleton, set_take_snoc _ (by omega), q5, List.map_append]; rfl
     ·simp only
      rw [set_drop_ge _ (by omega), show j + (k2 + 1) = j + k2 + 1 by omega, ← List.drop_drop, q6, ← List.map_drop, List.drop_drop]
     ·simp only
      intro y hy
      rcases List.mem_or_eq_of_mem_set hy with hy | rfl
      ·exact q7 y hy
      ·exact ids_vN _ _
     ·refine hgho _ (C.set (dedupL (l.take (j + 1 + k2))).length (vN x')) _ _ ?_ rfl rfl ?_ rfl rfl
      ·intro y hy
       rcases List.mem_or_eq_of_mem_set hy with hy | rfl
       ·exact q7 y hy
       ·exact ids_vN _ _
      ·simp only [lk, Nat.reduceBEq, cond_true, cond_false]
       exact congrArg (AV.int .i64) hwd
   ·have hk2e : k2 = l.length - (j + 1) := by omega
    have hltk : ¬ (k2 : Int) < ((l.length - (j + 1) : Nat) : Int) := by omega
    have hfull : l.take (j + 1 + k2) = l := List.take_of_length_le (by omega)
    rw [hfull] at q4 q5
    have hdl := dedup_len l
    have hsa : setAll C (dedupL l).length (List.replicate (l.length - (dedupL l).length) [AV.slice .nil []]).flatten = (dedupL l).map vN ++ List.replicate (l.length - (dedupL l).length) (.slice .nil []) := by
     rw [flat_rep, setAll_eq _ _ _ (by rw [List.length_replicate]; omega), q5, List.length_replicate, List.drop_of_length_le (by omega), List.append_nil]
    simp only [go_sem, simprocAttr, hltk, hE', hfull, hdl, hCr, q3, List.set_set, hsa, show (dedupL l).length + (l.length - (dedupL l).length) * 1 ≤ l.length by omega]
    refine ⟨by omega, by omega, ?_⟩
    rw [hR]
    refine hend _ _ (by simp only [lk, Nat.reduceBEq, cond_true, cond_false, Nat.sub_zero]) _ ?_ rfl rfl
    intro y hy
    rcases List.mem_append.1 hy with hy | hy
    ·obtain ⟨z, _, rfl⟩ := List.mem_map.1 hy; exact ids_vN _ _
    ·rw [List.eq_of_mem_replicate hy]; exact ids_nil _ (by simp)
  ·have hd : decide (x = z) = false := decide_eq_false hxz
   rw [if_neg hxz, hdk, ← take_succ' hx] at hdt
   simp only [go_sem, simprocAttr, hd]
   refine hK _ _ (j + 2) (⟨by omega, by omega, hdt⟩) om ?_; (try dsimp only); (try simp only [ hw]); exact ghA
 ·have hkeq : k = l.length := by omega
  subst hkeq
  have hlt : ¬ ((l.length : Int) < (l.length : Int)) := by omega
  simp only [go_sem, simprocAttr, hlt, hE]
  refine hall _ rfl ?_
  rwa [List.take_length] at hdk
theorem sortNN_spec (id : Nat) (l : List (List Int)) (hl : ∀ x ∈ l, x.length ≤ 140737488355328) (σ : Store) (hσ : σ[id]? = some (.row (l.map vN))) (hlen : l.length ≤ 1073741824) :
  ACalls Tryz.prog 75 [.ref id 1 0 l.length, .func 38 []] σ fun r σ' => r = .tuple [] ∧ ∃ l' : List (List Int), l'.Perm l ∧ l'.Pairwise (fun x y => ¬ cmpInts y x < 0) ∧ σ' = σ.set id (.row (l'.map vN)) := by
 have h := sort1 laysLL (fn := Tryz.f75) (gn := Tryz.f38) Tryz.func75 (by kernel_rfl) (by decide) vN (fun x => x.length ≤ 140737488355328) cmpInts (fun _ => rfl) (fun l => ids_mapf ids_encI l) [] (.slice none 0 0) (by simp)
  (fun m => .slice .fresh [] none 0 0 0 0 (fun _ _ => undef) (Nat.le_refl _) (fun h => absurd h (by simp)) (by simp) (fun h => absurd rfl h) (fun i hi => absurd hi (by simp)) (by simp))
  (fun x _ => by rw [cmpInts_refl]; omega) (fun x y z _ _ _ => cmpInts_trans)
  (fun x y z _ _ _ h k => by
   rcases cmpInts_total h with q | rfl
   ·rcases cmpInts_total k with q' | rfl
    ·have := cmpInts_trans q' q
     intro hh; have := cmpInts_swap.1 hh; omega
    ·exact h
   ·exact k)
  38 Tryz.func38 (by kernel_rfl) (by kernel_rfl) (fun x y hx hy => slCmp_spec x y .fresh .fresh [] hx hy) id l hl σ hσ (by omega)
 refine h.mono ?_
 rintro r σ' ⟨rfl, l', hp, hs, rfl⟩
 exact ⟨rfl, l', hp, hs, rfl⟩
section
variable {nt t u id len : Nat} {s : Slots} {σ S : Store} {R : Cont} {x : AV} {cells : List AV} {es : List (List AV)}
theorem retRow2 (ht : S.take σ.length = σ) (hs : lk s t = .ref id 1 0 len) (hid : S[id]? = some (.row cells)) (hlen : es.length = len) (hge : σ.length ≤ id) (htu : (t == u) = false) (hu : lk s u = x) (hx : Ids σ.length x) (hi : Ids σ.length (.slice .fresh es))
  (hes : ∀ (i : Nat) e, es[i]? = some e → e.length = 1 ∧ ∀ j, j < 1 → cells[0 + (i * 1 + j)]? = e[j]?) (h : R (.tuple [.slice .fresh es, x]) σ) (hσ : IdsS σ.length σ := by assumption) :
  bodyK [.tmp t, .tmp u] σ.length nt R .ret s S := by
 refine ret_gh2 (v := .slice .fresh es) (x := x) (σ' := σ) ?_ htu (Nat.le_refl _) hσ hi hx h
 refine Ghost.trans (Ghost.freezeF t es hs hid hlen hes) ?_
 have ht' : (S.set id .dead).take σ.length = σ := by rw [List.take_set_of_le hge, ht]
 have := Ghost.cut (n0 := σ.length) (nt := nt) (σ := S.set id .dead) (s := (t, .slice .fresh es) :: s) [(t, .slice .fresh es), (u, x)] σ.length (Nat.le_refl _) ⟨⟨by simp only [Ahl.lk, beq_self_eq_true, cond_true]; exact Wk.refl _, hi⟩, ⟨by simp only [Ahl.lk, htu, cond_false]; rw [hu]; exact Wk.refl _, hx⟩, trivial⟩ (by rw [ht']; exact hσ)
 rwa [ht'] at this
end
def actOf (t : FTask) (a : Int) : FAct := t.actions.getD a.toNat actZ
def nextP (t : FTask) (s : List Int) (a : Int) : List Int := afterS s (actOf t a).effects
def insN (out : List (List Int)) (x : List Int) : List (List Int) := if x ∈ out then out else insL out x
def outsL (t : FTask) (l s : List Int) : List (List Int) := (l.map (nextP t s)).foldl insN []
theorem insN_strict {out : List (List Int)} {x : List Int} (h : out.Pairwise ltL) : (insN out x).Pairwise ltL := by
 unfold insN; split
 ·exact h
 ·exact insL_strict h ‹_›
theorem insN_mem {out : List (List Int)} {x y : List Int} : y ∈ insN out x ↔ y ∈ out ∨ y = x := by
 unfold insN; split
 ·rename_i h
  constructor
  ·exact fun q => .inl q
  ·rintro (q | rfl)
   ·exact q
   ·exact h
 ·exact insL_mem
theorem foldN : ∀ (l out : List (List Int)), out.Pairwise ltL → (l.foldl insN out).Pairwise ltL ∧ ∀ y, y ∈ l.foldl insN out ↔ y ∈ out ∨ y ∈ l
 | [], out, h => ⟨h, by simp⟩
 | x :: l, out, h => by
  obtain ⟨h1, h2⟩ := foldN l (insN out x) (insN_strict h)
  refine ⟨h1, fun y => ?_⟩
  rw [List.foldl_cons, h2, insN_mem, List.mem_cons, or_assoc]
theorem outs_strict (t : FTask) (l s : List Int) : (outsL t l s).Pairwise ltL := (foldN _ [] .nil).1
theorem outs_mem {t : FTask} {l s y : List Int} : y ∈ outsL t l s ↔ ∃ a ∈ l, nextP t s a = y := by
 unfold outsL; rw [(foldN _ [] .nil).2]; simp
theorem outs_eq {t : FTask} {l s : List Int} {m : List (List Int)} (hp : m.Perm (l.map (nextP t s))) (hs : m.Pairwise (fun x y => ¬ cmpInts y x < 0)) : dedupL m = outsL t l s := by
 refine ltL_unique (dedup_strict hs) (outs_strict t l s) fun x => ?_
 rw [dedup_mem, hp.mem_iff, outs_mem]; simp
theorem outs_ne {t : FTask} {l s : List Int} (h : l ≠ []) : outsL t l s ≠ [] := by
 cases l with
 | nil => exact absurd rfl h
 | cons a r =>
  intro e
  have : nextP t s a ∈ outsL t (a :: r) s := outs_mem.2 ⟨a, List.mem_cons_self, rfl⟩
  rw [e] at this; simp at this
def outR (t : FTask) (l s : List Int) : AV := if appB t l s then .tuple [.slice .fresh ((outsL t l s).map encLf), .bool true] else .tuple [.slice .nil [], .bool false]
def e_pouts_0 : List COp := [oS 11 (.move (.tmp 2)), oS 12 (.faddr 3 (.tmp 3)), oA 13 (.load none (.tmp 12)) [1], oS 14 (.move (.tmp 1)), oA 15 (.iaddr 1 (.tmp 14) (.lit (.int .i64 0))) [3], oA 16 (.load none (.tmp 15)) [4], oA 17 (.iaddr 4 (.tmp 13) (.tmp 16)) [2, 5], oA 18 (.faddr 2 (.tmp 17)) [6], oA 19 (.load none (.tmp 18)) [7], oA 20 (.call (.lit (.func 40 [])) [.tmp 11, .tmp 19]) [0, 8], oA 21 (.un .not (.tmp 20)) [9]]
def d_pouts_0 : List COp := e_pouts_0
theorem dr_pouts_0 (P : Program) (nt n0 : Nat) (Q : Post) (s : Slots) (σ : Store) : wpc P nt n0 (.draw d_pouts_0) Q s σ = aOpsD P nt e_pouts_0 (Q .normal) s σ := wpc_draw _ (by decide)
attribute [local go_sem] dr_pouts_0 e_pouts_0
def c_pouts : CCode := .seq (.ops [oS 3 (.box (.tmp 0)), oS 6 (.move (.lit (.slice .nil []))), oS 7 (.move (.lit (.bool false)))]) (.seq (.seq (.draw d_pouts_0) (.cond (.tmp 21) (.seq (.ops [oS 6 (.move (.lit (.slice .nil []))), oS 7 (.move (.lit (.bool false)))]) .ret) .skip)) (.seq (.ops [oS 8 (.move (.lit (.slice .nil [])))]) (.seq (.seq (.ops [oS 22 (.move (.tmp 1)), oS 23 (.blen 1 (.tmp 22)), oS 24 (.move (.lit (.int .i64 0)))]) (.block 0 (.loop (.seq (.ops [oS 25 (.bin .lss .none (.tmp 24) (.tmp 23))]) (.seq (.cond (.tmp 25) .skip (.exit 0)) (.seq (.block 1 (.seq (.ops [oS 26 (.iaddr 1 (.tmp 22) (.tmp 24)), oS 27 (.load none (.tmp 26)), oS 10 (.move (.tmp 27))]) (.ops [oS 28 (.move (.tmp 8)), oS 29 (.move (.tmp 2)), oS 30 (.faddr 3 (.tmp 3)), oS 31 (.load none (.tmp 30)), oS 32 (.move (.tmp 10)), oS 33 (.iaddr 4 (.tmp 31) (.tmp 32)), oS 34 (.load (some 4) (.tmp 33)), oS 35 (.call (.lit (.func 74 [])) [.tmp 29, .tmp 34]), oS 36 (.bsliceC 1 [.tmp 35]), oS 37 (.bappend 1 24 (.tmp 28) (.tmp 36) true), oS 8 (.move (.tmp 37))]))) (.ops [oS 38 (.bin .add .none (.tmp 24) (.lit (.int .i64 1))), oS 24 (.move (.tmp 38))]))))))) (.seq (.ops [oS 39 (.move (.tmp 8)), oS 40 (.call (.lit (.func 75 [])) [.tmp 39, .lit (.func 38 [])])]) (.seq (.ops [oS 41 (.move (.tmp 8)), oS 42 (.call (.lit (.func 76 [])) [.tmp 41, .lit (.func 77 [])]), oS 6 (.move (.tmp 42)), oS 7 (.move (.lit (.bool true)))]) .ret)))))
set_option maxHeartbeats 2000000 in
theorem pouts_spec (t : FTask) (l s : List Int) (tok tok' : Tok) (σ : Store) (ht : TB t) (hb : SB t) (he : EOk t) (hn : t.facts.length ≤ 1000000) (hl : l ≠ []) (hll : l.length ≤ 1000000) (hr : ∀ x ∈ l, 0 ≤ x ∧ x < (t.actions.length : Int)) (hs : risingB t.facts.length (-1) s = true) :
  ACalls Tryz.prog 39 [.agg (encTask t), .slice tok (l.map Ahl.encI), .slice tok' (s.map Ahl.encI)] σ (isR (outR t l s) σ) := by
 refine ACalls.intro (rs := [(.tmp 6), (.tmp 7)]) (by kernel_rfl) { own := [(7, 9)], ghosts := [], cold := [(7, 8)] } Tryz.func39 (c := Tryz.f39.body.getD .skip) (by kernel_rfl) (by decide) (by rw [show Tryz.f39.ntmps = 43 by kernel_rfl]; exact Nat.le_of_ble_eq_true rfl) (by kernel_rfl) ?_
 intro hσ hids
 rw [show comp Tryz.prog { own := [(7, 9)], ghosts := [], cold := [(7, 8)] } (Tryz.f39.body.getD .skip) = c_pouts by kernel_rfl, show Tryz.f39.ntmps = 43 by kernel_rfl]
 unfold c_pouts
 have hil : Ids σ.length (.slice tok (l.map Ahl.encI)) := hids _ (by simp)
 have his : Ids σ.length (.slice tok' (s.map Ahl.encI)) := hids _ (by simp)
 have hsl : s.length ≤ 1000000 := by
  rcases rising_len hs (by omega) with q | q
  ·omega
  ·rw [q]; simp
 have hsp := (rising_pw hs).1
 obtain ⟨b, hb0⟩ : ∃ b, l[0]? = some b := get_ex (by cases l with | nil => exact absurd rfl hl | cons a r => simp)
 have hbm := List.mem_of_getElem? hb0
 obtain ⟨hb1, hb2⟩ := hr b hbm
 obtain ⟨y, hy⟩ : ∃ y, t.actions[b.toNat]? = some y := get_ex (by omega)
 have hap : appB t l s = condHolds s y.pre := by
  unfold appB
  rw [show l.headD 0 = b by cases l with | nil => exact absurd rfl hl | cons a r => simp at hb0; simp [hb0], preOf_get hy]
 have hS1 : ∀ q : List (List Int), IdsS (σ ++ [AObj.row (encTask t), .row (q.map vN)]).length (σ ++ [AObj.row (encTask t), .row (q.map vN)]) := fun q => idsS_app _ hσ (all_cons' (idsO_row (ids_encTask t)) (all_cons' (idsO_rowN _ (by intro x hx; obtain ⟨z, _, rfl⟩ := List.mem_map.1 hx; exact ids_vN _ _)) all_nil'))
 simp only [encTask] at hS1
 simp only [go_sem, simprocAttr, hb0, hy, hb1, encTask, encA, Ahl.encI]
 refine ⟨_, sTrue_spec s y.pre tok' .unk _ (by omega) hsp (ht.pre y (List.mem_of_getElem? hy)), ?_⟩
 cases hc : condHolds s y.pre
 ·simp only [go_sem, simprocAttr]
  exact rT (.slice .nil []) (.bool false) ⟨by rw [outR, hap, hc]; rfl, rfl⟩
 simp only [go_sem, simprocAttr]
 clear hS1
 have hrow : IdsS (σ ++ [AObj.row (encTask t)]).length (σ ++ [AObj.row (encTask t)]) := idsS_push hσ (idsO_row (ids_encTask t))
 obtain ⟨S, hS⟩ : ∃ S, S = σ ++ [AObj.row (encTask t)] := ⟨_, rfl⟩
 have hSl : S.length = σ.length + 1 := by rw [hS]; simp
 have hSg : ∀ g, (S ++ g)[σ.length]? = some (.row (encTask t)) := fun g => by rw [hS]; simp
 have hSt : S.take σ.length = σ := by rw [hS]; simp
 rw [← hS] at hrow
 simp only [encTask] at hS
 rw [← hS]
 have hio : ∀ q : List (List Int), IdsO S.length (.row (q.map vN)) := fun q => idsO_rowN _ (by intro x hx; obtain ⟨z, _, rfl⟩ := List.mem_map.1 hx; exact ids_vN _ _)
 have hS2 : ∀ q : List (List Int), IdsS (S ++ [AObj.row (q.map vN)]).length (S ++ [AObj.row (q.map vN)]) := fun q => idsS_push hrow (by
  intro j x hj; exact ids_up (Nat.le_succ _) (hio q j x hj))
 simp only [encTask] at hSg
 have hmin : ∀ i, i ≤ l.length → min i l.length = i := fun i hi => Nat.min_eq_left hi
 refine wpc_while (fun (i : Nat) => [(2, .slice tok' (s.map Ahl.encI)), (3, .ptr σ.length 0), (8, .ref S.length 1 0 i), (22, .slice tok (l.map Ahl.encI)), (23, .int .i64 l.length), (24, .int .i64 (i : Nat))]) (fun i => S ++ [.row (((l.map (nextP t s)).take i).map vN)]) (fun i => i ≤ l.length) (fun i => l.length - i) 0 (Nat.zero_le _) (by
  refine Ghost.trans (Ghost.row0 8 1 0 (.inl rfl)) ?_
  exact ghP0 (hS2 [])) ?_
 intro i hi K hK hE hR
 by_cases h : i < l.length
 ·obtain ⟨a, hx⟩ := get_ex h; have hlt : ((i : Int) < (l.length : Int)) := (by omega); have hw := wrapS (i := i) (by omega)
  obtain ⟨ha1, ha2⟩ := hr a (List.mem_of_getElem? hx)
  obtain ⟨x, hxa⟩ : ∃ x, t.actions[a.toNat]? = some x := get_ex (by omega)
  have hxm := List.mem_of_getElem? hxa
  have hbig : bigLen (i + 1) 24 := big_ok (by omega) (by omega)
  have hlen : (((l.map (nextP t s)).take i).map vN).length = i := by simp; omega
  simp only [go_sem, simprocAttr, hlt, hx, hxa, ha1, Ahl.encI, encA, encTask, hSg]
  refine (sAfter_specF s x tok' _ hsl hsp (hb.effs x hxm) (hb.whens x hxm)).is ?_
  have hnx : nextP t s a = afterS s x.effects := by unfold nextP actOf; rw [List.getD_eq_getElem?_getD, hxa]; rfl
  have hf : ((l.map (nextP t s)).take i).map vN ++ [[AV.slice Tok.fresh ((afterS s x.effects).map Ahl.encI)]].flatten = ((l.map (nextP t s)).take (i + 1)).map vN := by
   rw [take_succ' (x := nextP t s a) (by rw [List.getElem?_map, hx]; rfl), List.map_append, hnx]; rfl
  simp only [go_sem, simprocAttr, encTask, hbig, hlen, hf, hw]
  refine hK _ _ (i + 1) (by omega) (by omega) ?_
  (try dsimp only)
  exact ghPM 1 (hio := hio _)
 ·have hlt : ¬ ((i : Int) < (l.length : Int)) := by omega
  have hil' : i = l.length := by omega
  have htk : (l.map (nextP t s)).take i = l.map (nextP t s) := List.take_of_length_le (by simp; omega)
  have hlm : (l.map (nextP t s)).length = i := by simp [hil']
  rw [htk]
  generalize hL : l.map (nextP t s) = L at hlm
  have hLl : ∀ x ∈ L, x.length ≤ 1000000 := by
   intro x hx
   rw [← hL] at hx
   obtain ⟨a, ha, rfl⟩ := List.mem_map.1 hx
   have := hr a ha
   obtain ⟨x, hxa⟩ : ∃ x, t.actions[a.toNat]? = some x := get_ex (by omega)
   have hnx : nextP t s a = afterS s x.effects := by unfold nextP actOf; rw [List.getD_eq_getElem?_getD, hxa]; rfl
   rw [hnx, afterS_eq hs (he.rng x (List.mem_of_getElem? hxa))]
   have := afterL_len (n := t.facts.length) s x
   omega
  have hgetr : ∀ (q : List (List Int)) g, (S ++ .row (q.map vN) :: g)[S.length]? = some (.row (q.map vN)) := fun q g => by simp
  simp only [go_sem, simprocAttr, hlt, hE, encTask]
  rw [← hlm]
  refine (sortNN_spec S.length L (fun x hx => by have := hLl x hx; omega) _ (hgetr L []) (by omega)).mono ?_
  rintro _ _ ⟨rfl, m, hpm, hsm, rfl⟩
  have hmL : m.length = L.length := hpm.length_eq
  simp only [go_sem, simprocAttr, encTask]
  rw [← hmL]
  have hml : ∀ x ∈ m, x.length ≤ 140737488355328 := fun x hx => by have := hLl x (hpm.mem_iff.1 hx); omega
  refine (compact_spec S.length m 77 [] _ (by omega) (hgetr m []) (fun x y τ hx hy => pout1_spec x y .fresh .fresh τ (hml x hx) (hml y hy))).to ?_
  rw [outs_eq (hL ▸ hpm) hsm]
  simp only [go_sem, simprocAttr]
  refine retRow2 (id := S.length) (cells := (outsL t l s).map vN ++ List.replicate (m.length - (outsL t l s).length) (.slice .nil [])) (es := (outsL t l s).map encLf) (x := .bool true) ?_ rfl ?_ (by simp) (by omega) rfl rfl (.bool _) (ids_mapf (fun x => ids_encLf x) _) ?_ ⟨by rw [outR, hap, hc]; rfl, rfl⟩
  ·rw [List.take_append_of_le_length (by omega), hSt]
  ·simp
  ·intro i e he'
   rw [List.getElem?_map] at he'
   obtain ⟨z, hz, rfl⟩ := Option.map_eq_some_iff.1 he'
   refine ⟨rfl, fun j hj => ?_⟩
   obtain rfl : j = 0 := by omega
   rw [Nat.zero_add, Nat.mul_one, Nat.add_zero, List.getElem?_append_left (by simpa using lt_of_get hz), List.getElem?_map, hz]; rfl
theorem givE_zero {t : FTask} {g : List (List Int)} {s : List Int} (h : givE t g s = 0) : validB t = true ∧ risingB t.facts.length (-1) s = true ∧ choicesB t g = true := by
 unfold givE stE at h
 cases h1 : validB t
 ·rw [h1] at h; simp at h
 cases h2 : risingB t.facts.length (-1) s
 ·rw [h1, h2] at h; simp at h
 cases h3 : choicesB t g
 ·rw [h1, h2, h3] at h; simp at h
 ·exact ⟨rfl, rfl, rfl⟩
theorem choices_group {t : FTask} {g : List (List Int)} (h : choicesB t g = true) {l : List Int} (hl : l ∈ g) : l ≠ [] ∧ (∀ x ∈ l, 0 ≤ x ∧ x < (t.actions.length : Int)) ∧ l.length ≤ t.actions.length := by
 unfold choicesB at h
 rw [Bool.and_eq_true] at h
 have := List.all_eq_true.1 h.2 l hl
 unfold groupOk at this
 rw [Bool.and_eq_true, Bool.and_eq_true] at this
 refine ⟨fun e => by subst e; simp at this, fun x hx => ?_, ?_⟩
 ·have := (rising_pw this.2.1).2 x hx; omega
 ·rcases rising_len this.2.1 (by omega) with q | q
  ·omega
  ·rw [q]; simp
structure PB (t : FTask) : Prop where
 tb : TB t
 acts : t.actions.length ≤ 1000000
theorem valid_SB {t : FTask} (h : PB t) (hv : validB t = true) : SB t ∧ EOk t ∧ t.facts.length ≤ 200 := by
 have hf := valid_facts hv
 have hA : ∀ a ∈ t.actions, AV_ t.facts.length a := fun a ha => valid_act hv ha
 refine ⟨⟨h.acts, h.tb.pre, fun a ha => by have := (hA a ha).many; omega, fun a ha e he => ?_⟩, ⟨fun a ha e he => ?_⟩, by omega⟩
 ·rcases condB_len ((hA a ha).whens e he) with q | q
  ·rw [q]; simp
  ·omega
 ·have hv' := hv
  simp only [validB, Bool.and_eq_true] at hv'
  have := List.all_eq_true.1 hv'.2.2.2.2.2.2 a ha
  simp only [actB, Bool.and_eq_true, decide_eq_true_eq] at this
  have h5 := List.all_eq_true.1 this.2.2.2.2 e he
  simp only [effB, Bool.and_eq_true, decide_eq_true_eq] at h5
  exact ⟨h5.2.1, h5.2.2⟩
def e_sameInts_0 : List COp := [oS 16 (.move (.tmp 0)), oS 17 (.move (.tmp 5)), oA 18 (.iaddr 1 (.tmp 16) (.tmp 17)) [0, 1], oA 19 (.load none (.tmp 18)) [2], oS 20 (.move (.tmp 1)), oS 21 (.move (.tmp 5)), oA 22 (.iaddr 1 (.tmp 20) (.tmp 21)) [4, 5], oA 23 (.load none (.tmp 22)) [6], oA 24 (.bin .neq .none (.tmp 19) (.tmp 23)) [3, 7]]
def d_sameInts_0 : List COp := e_sameInts_0
theorem dr_sameInts_0 (P : Program) (nt n0 : Nat) (Q : Post) (s : Slots) (σ : Store) : wpc P nt n0 (.draw d_sameInts_0) Q s σ = aOpsD P nt e_sameInts_0 (Q .normal) s σ := wpc_draw _ (by decide)
attribute [local go_sem] dr_sameInts_0 e_sameInts_0
def c_sameInts : CCode := .seq (.ops [oS 4 (.move (.lit (.bool false)))]) (.seq (.seq (.ops [oS 6 (.move (.tmp 0)), oS 7 (.blen 1 (.tmp 6)), oS 8 (.move (.tmp 1)), oS 9 (.blen 1 (.tmp 8)), oS 10 (.bin .neq .none (.tmp 7) (.tmp 9))]) (.cond (.tmp 10) (.seq (.ops [oS 4 (.move (.lit (.bool false)))]) .ret) .skip)) (.seq (.seq (.ops [oS 11 (.move (.tmp 0)), oS 12 (.blen 1 (.tmp 11)), oS 13 (.move (.lit (.int .i64 0)))]) (.block 0 (.loop (.seq (.ops [oS 14 (.bin .lss .none (.tmp 13) (.tmp 12))]) (.seq (.cond (.tmp 14) .skip (.exit 0)) (.seq (.block 1 (.seq (.ops [oS 15 (.move (.tmp 13)), oS 5 (.move (.tmp 15))]) (.seq (.draw d_sameInts_0) (.cond (.tmp 24) (.seq (.ops [oS 4 (.move (.lit (.bool false)))]) .ret) .skip)))) (.ops [oS 25 (.bin .add .none (.tmp 13) (.lit (.int .i64 1))), oS 13 (.move (.tmp 25))]))))))) (.seq (.ops [oS 4 (.move (.lit (.bool true)))]) .ret)))
theorem sameInts_spec (l m : List Int) (tok tok' : Tok) (σ : Store) (hl : l.length ≤ 140737488355328) (hm : m.length ≤ 140737488355328) :
  ACalls Tryz.prog 23 [.slice tok (l.map Ahl.encI), .slice tok' (m.map Ahl.encI)] σ (isR (.bool (decide (l = m))) σ) := by
 refine ACalls.intro (rs := [(.tmp 4)]) (by kernel_rfl) { own := [], ghosts := [] } Tryz.func23 (c := Tryz.f23.body.getD .skip) (by kernel_rfl) (by decide) (by rw [show Tryz.f23.ntmps = 26 by kernel_rfl]; exact Nat.le_of_ble_eq_true rfl) (by kernel_rfl) ?_
 intro hσ hids
 rw [show comp Tryz.prog { own := [], ghosts := [] } (Tryz.f23.body.getD .skip) = c_sameInts by kernel_rfl, show Tryz.f23.ntmps = 26 by kernel_rfl]
 unfold c_sameInts
 have hil : Ids σ.length (.slice tok (l.map Ahl.encI)) := hids _ (by simp)
 have him : Ids σ.length (.slice tok' (m.map Ahl.encI)) := hids _ (by simp)
 by_cases hlen : l.length = m.length
 ·have h' : ((l.length : Int) != m.length) = false := by rw [hlen]; exact bne_self_eq_false _
  simp only [go_sem, simprocAttr, h']
  refine wpc_while (fun (i : Nat) => [(0, .slice tok (l.map Ahl.encI)), (1, .slice tok' (m.map Ahl.encI)), (12, .int .i64 l.length), (13, .int .i64 (i : Nat))]) (fun _ => σ) (fun i => i ≤ l.length ∧ decide (l = m) = decide (l.drop i = m.drop i)) (fun i => l.length - i) 0 ⟨Nat.zero_le _, rfl⟩ (by (try dsimp only); exact ghA) ?_
  rintro i ⟨hi, hv⟩ K hK hE hR
  by_cases h : i < l.length
  ·obtain ⟨x, hx⟩ := get_ex h; have hlt : ((i : Int) < (l.length : Int)) := (by omega); have hw := wrapS (i := i) (by omega)
   obtain ⟨y, hy⟩ : ∃ y, m[i]? = some y := get_ex (by omega)
   rw [drop_cons hx, drop_cons hy, dec_cons] at hv
   by_cases h1 : x = y
   ·have hf : (x != y) = false := by simpa using h1
    simp only [go_sem, simprocAttr, hlt, hx, hy, Ahl.encI, hf]
    rw [decide_eq_true h1, Bool.true_and] at hv
    refine hK _ _ (i + 1) (⟨by omega, hv⟩) om ?_; (try dsimp only); (try simp only [ hw]); exact ghA
   ·have hf : (x != y) = true := by simpa using h1
    simp only [go_sem, simprocAttr, hlt, hx, hy, Ahl.encI, hf, hR]
    rw [decide_eq_false h1, Bool.false_and] at hv
    exact rt (.bool false) ⟨by rw [hv], rfl⟩
  ·have hlt : ¬ ((i : Int) < (l.length : Int)) := by omega
   rw [drop_len h, drop_len (by omega : ¬ i < m.length)] at hv
   simp only [go_sem, simprocAttr, hlt, hE]
   exact rt (.bool true) ⟨by rw [hv]; rfl, rfl⟩
 ·have h' : ((l.length : Int) != m.length) = true := by simp; omega
  simp only [go_sem, simprocAttr, h']
  exact rt (.bool false) ⟨by rw [decide_eq_false (fun e => hlen (by rw [e]))], rfl⟩
theorem insAt_cons (x : List Int) (l : List (List Int)) (s : List Int) : insAt (x :: l) s = if cmpInts x s < 0 then insAt l s + 1 else 0 := by
 unfold insAt
 rw [List.takeWhile_cons]
 by_cases h : cmpInts x s < 0
 ·simp [h]
 ·simp [h]
def c_before13 : CCode := .seq (.ops [oS 4 (.move (.lit (.bool false)))]) (.seq (.seq (.ops [oS 7 (.move (.tmp 0)), oS 8 (.blen 1 (.tmp 7)), oS 9 (.move (.lit (.int .i64 0)))]) (.block 0 (.loop (.seq (.ops [oS 10 (.bin .lss .none (.tmp 9) (.tmp 8))]) (.seq (.cond (.tmp 10) .skip (.exit 0)) (.seq (.block 1 (.seq (.ops [oS 11 (.move (.tmp 9)), oS 12 (.iaddr 1 (.tmp 7) (.tmp 9)), oS 13 (.load none (.tmp 12)), oS 5 (.move (.tmp 11)), oS 6 (.move (.tmp 13))]) (.seq (.seq (.ops [oS 14 (.move (.tmp 5)), oS 15 (.move (.tmp 1)), oS 16 (.blen 1 (.tmp 15)), oS 17 (.bin .eql .none (.tmp 14) (.tmp 16)), oS 18 (.move (.tmp 17)), oG 19 18 false (.move (.tmp 6)), oG 20 18 false (.move (.tmp 1)), oG 21 18 false (.move (.tmp 5)), oG 22 18 false (.iaddr 1 (.tmp 20) (.tmp 21)), oG 23 18 false (.load none (.tmp 22)), oG 24 18 false (.bin .gtr .none (.tmp 19) (.tmp 23)), oS 25 (.pick (.tmp 18) (.lit (.bool true)) (.tmp 24))]) (.cond (.tmp 25) (.seq (.ops [oS 4 (.move (.lit (.bool false)))]) .ret) .skip)) (.seq (.ops [oS 26 (.move (.tmp 6)), oS 27 (.move (.tmp 1)), oS 28 (.move (.tmp 5)), oS 29 (.iaddr 1 (.tmp 27) (.tmp 28)), oS 30 (.load none (.tmp 29)), oS 31 (.bin .lss .none (.tmp 26) (.tmp 30))]) (.cond (.tmp 31) (.seq (.ops [oS 4 (.move (.lit (.bool true)))]) .ret) .skip))))) (.ops [oS 32 (.bin .add .none (.tmp 9) (.lit (.int .i64 1))), oS 9 (.move (.tmp 32))]))))))) (.seq (.ops [oS 33 (.move (.tmp 0)), oS 34 (.blen 1 (.tmp 33)), oS 35 (.move (.tmp 1)), oS 36 (.blen 1 (.tmp 35)), oS 37 (.bin .lss .none (.tmp 34) (.tmp 36)), oS 4 (.move (.tmp 37))]) .ret))
theorem before13_spec (l m : List Int) (tok tok' : Tok) (σ : Store) (hl : l.length ≤ 140737488355328) (hm : m.length ≤ 140737488355328) :
  ACalls Tryz.prog 33 [.slice tok (l.map Ahl.encI), .slice tok' (m.map Ahl.encI)] σ (isR (.bool (decide (cmpInts l m < 0))) σ) := by
 refine ACalls.intro (rs := [(.tmp 4)]) (by kernel_rfl) { own := [], ghosts := [] } Tryz.func33 (c := Tryz.f33.body.getD .skip) (by kernel_rfl) (by decide) (by rw [show Tryz.f33.ntmps = 38 by kernel_rfl]; exact Nat.le_of_ble_eq_true rfl) (by kernel_rfl) ?_
 intro hσ hids
 rw [show comp Tryz.prog { own := [], ghosts := [] } (Tryz.f33.body.getD .skip) = c_before13 by kernel_rfl, show Tryz.f33.ntmps = 38 by kernel_rfl]
 unfold c_before13
 have hil : Ids σ.length (.slice tok (l.map Ahl.encI)) := hids _ (by simp)
 have him : Ids σ.length (.slice tok' (m.map Ahl.encI)) := hids _ (by simp)
 simp only [go_sem, simprocAttr]
 refine wpc_while (fun (i : Nat) => [(0, .slice tok (l.map Ahl.encI)), (1, .slice tok' (m.map Ahl.encI)), (7, .slice tok (l.map Ahl.encI)), (8, .int .i64 l.length), (9, .int .i64 (i : Nat))]) (fun _ => σ) (fun i => i ≤ l.length ∧ i ≤ m.length ∧ cmpInts l m = cmpInts (l.drop i) (m.drop i)) (fun i => l.length - i) 0 ⟨Nat.zero_le _, Nat.zero_le _, rfl⟩ (by (try dsimp only); exact ghA) ?_
 rintro i ⟨hi, hi2, hv⟩ K hK hE hR
 by_cases h : i < l.length
 ·obtain ⟨x, hx⟩ := get_ex h; have hlt : ((i : Int) < (l.length : Int)) := (by omega); have hw := wrapS (i := i) (by omega)
  by_cases h2 : i < m.length
  ·obtain ⟨y, hy⟩ := get_ex h2
   have hne : ((i : Int) == (m.length : Int)) = false := by simp; omega
   rw [drop_cons hx, drop_cons hy, cmpInts] at hv
   by_cases h3 : x > y
   ·have hc : decide (cmpInts l m < 0) = false := by rw [hv, if_neg (by omega), if_pos (by omega)]; rfl
    simp only [go_sem, simprocAttr, hlt, hx, hy, Ahl.encI, hne, h3, hR]
    exact rt (.bool false) ⟨by rw [hc], rfl⟩
   ·by_cases h4 : x < y
    ·have hc : decide (cmpInts l m < 0) = true := by rw [hv, if_pos h4]; rfl
     simp only [go_sem, simprocAttr, hlt, hx, hy, Ahl.encI, hne, h3, h4, hR]
     exact rt (.bool true) ⟨by rw [hc], rfl⟩
    ·rw [if_neg h4, if_neg (by omega)] at hv
     simp only [go_sem, simprocAttr, hlt, hx, hy, Ahl.encI, hne, h3, h4]
     refine hK _ _ (i + 1) (⟨by omega, by omega, hv⟩) om ?_; (try dsimp only); (try simp only [ hw]); exact ghA
  ·have hne : ((i : Int) == (m.length : Int)) = true := by simp; omega
   have hc : decide (cmpInts l m < 0) = false := by rw [hv, drop_cons hx, drop_len h2]; rfl
   simp only [go_sem, simprocAttr, hlt, hx, Ahl.encI, hne, hR]
   exact rt (.bool false) ⟨by rw [hc], rfl⟩
 ·have hlt : ¬ ((i : Int) < (l.length : Int)) := by omega
  by_cases h2 : (l.length : Int) < (m.length : Int)
  ·obtain ⟨y, hy⟩ := get_ex (show i < m.length by omega)
   have hc : decide (cmpInts l m < 0) = true := by rw [hv, drop_len h, drop_cons hy]; rfl
   simp only [go_sem, simprocAttr, hlt, hE, h2]
   exact rt (.bool true) ⟨by rw [hc], rfl⟩
  ·have hc : decide (cmpInts l m < 0) = false := by rw [hv, drop_len h, drop_len (show ¬ i < m.length by omega)]; rfl
   simp only [go_sem, simprocAttr, hlt, hE, h2]
   exact rt (.bool false) ⟨by rw [hc], rfl⟩
theorem insAt_le (l : List (List Int)) (s : List Int) : insAt l s ≤ l.length := by
 unfold insAt; exact (List.takeWhile_sublist _).length_le
theorem insAt_mem {s : List Int} : ∀ {l : List (List Int)}, l.Pairwise ltL → (s ∈ l ↔ l[insAt l s]? = some s)
 | [], _ => by simp
 | x :: l, h => by
  obtain ⟨h1, h2⟩ := List.pairwise_cons.1 h
  rw [insAt_cons]
  by_cases hc : cmpInts x s < 0
  ·rw [if_pos hc, List.getElem?_cons_succ, ← insAt_mem h2, List.mem_cons]
   constructor
   ·rintro (rfl | q)
    ·rw [cmpInts_refl] at hc; omega
    ·exact q
   ·exact fun q => .inr q
  ·rw [if_neg hc, List.getElem?_cons_zero, List.mem_cons]
   constructor
   ·rintro (rfl | q)
    ·rfl
    ·exact absurd (h1 s q) hc
   ·intro e; injection e with e; exact .inl e.symm
def e_insert13_0 : List COp := [oS 34 (.bslice 1 [] false), oS 35 (.move (.tmp 0)), oS 36 (.move (.tmp 6)), oA 37 (.slc 1 (.tmp 35) none (some (.tmp 36)) none) [1, 2], oA 38 (.bappend 1 24 (.tmp 34) (.tmp 37) false) [0, 3], oS 39 (.move (.tmp 1)), oA 40 (.bsliceC 1 [.tmp 39]) [5], oA 41 (.bappend 1 24 (.tmp 38) (.tmp 40) false) [4, 6, 4], oS 42 (.move (.tmp 0)), oS 43 (.move (.tmp 6)), oA 44 (.slc 1 (.tmp 42) (some (.tmp 43)) none none) [8, 9], oA 45 (.bappend 1 24 (.tmp 41) (.tmp 44) false) [7, 10, 7], oA 4 (.move (.tmp 45)) [11, 11, 0, 1, 2, 3, 4, 5, 6, 7, 8, 9, 10, 11], oA 5 (.move (.lit (.bool true))) [12, 0, 1, 2, 3, 4, 5, 6, 7, 8, 9, 10, 11, 12]]
def d_insert13_0 : List COp := e_insert13_0
theorem dr_insert13_0 (P : Program) (nt n0 : Nat) (Q : Post) (s : Slots) (σ : Store) : wpc P nt n0 (.draw d_insert13_0) Q s σ = aOpsD P nt e_insert13_0 (Q .normal) s σ := wpc_draw _ (by decide)
attribute [local go_sem] dr_insert13_0 e_insert13_0
def c_insert13 : CCode := .seq (.ops [oS 4 (.move (.lit (.slice .nil []))), oS 5 (.move (.lit (.bool false)))]) (.seq (.ops [oS 6 (.move (.lit (.int .i64 0)))]) (.seq (.block 0 (.loop (.seq (.seq (.ops [oS 7 (.move (.tmp 6)), oS 8 (.move (.tmp 0)), oS 9 (.blen 1 (.tmp 8)), oS 10 (.bin .lss .none (.tmp 7) (.tmp 9)), oS 11 (.move (.tmp 10)), oG 12 11 true (.move (.tmp 0)), oG 13 11 true (.move (.tmp 6)), oG 14 11 true (.iaddr 1 (.tmp 12) (.tmp 13)), oG 15 11 true (.load none (.tmp 14)), oG 16 11 true (.move (.tmp 1)), oG 17 11 true (.call (.lit (.func 33 [])) [.tmp 15, .tmp 16]), oS 18 (.pick (.tmp 11) (.tmp 17) (.lit (.bool false)))]) (.cond (.tmp 18) .skip (.exit 0))) (.block 1 (.ops [oS 19 (.move (.tmp 6)), oS 20 (.bin .add .none (.tmp 19) (.lit (.int .i64 1))), oS 6 (.move (.tmp 20))]))))) (.seq (.seq (.ops [oS 21 (.move (.tmp 6)), oS 22 (.move (.tmp 0)), oS 23 (.blen 1 (.tmp 22)), oS 24 (.bin .lss .none (.tmp 21) (.tmp 23)), oS 25 (.move (.tmp 24)), oG 26 25 true (.move (.tmp 0)), oG 27 25 true (.move (.tmp 6)), oG 28 25 true (.iaddr 1 (.tmp 26) (.tmp 27)), oG 29 25 true (.load none (.tmp 28)), oG 30 25 true (.move (.tmp 1)), oG 31 25 true (.call (.lit (.func 23 [])) [.tmp 29, .tmp 30]), oS 32 (.pick (.tmp 25) (.tmp 31) (.lit (.bool false)))]) (.cond (.tmp 32) (.seq (.ops [oS 33 (.move (.tmp 0)), oS 4 (.move (.tmp 33)), oS 5 (.move (.lit (.bool false)))]) .ret) .skip)) (.seq (.draw d_insert13_0) .ret))))
theorem insert13_spec (l : List (List Int)) (s : List Int) (tok : Tok) (σ : Store) (hl : l.length ≤ 1000000) (hlm : ∀ x ∈ l, x.length ≤ 140737488355328) (hs : s.length ≤ 140737488355328) (hp : l.Pairwise ltL) :
  ACalls Tryz.prog 65 [.slice tok (l.map encL), .slice .unk (s.map Ahl.encI)] σ (isR (.tuple [.slice .unk ((insN l s).map encL), .bool (!(decide (s ∈ l)))]) σ) := by
 refine ACalls.intro (rs := [(.tmp 4), (.tmp 5)]) (by kernel_rfl) { own := [], ghosts := [], cold := [(6, 6)] } Tryz.func65 (c := Tryz.f65.body.getD .skip) (by kernel_rfl) (by decide) (by rw [show Tryz.f65.ntmps = 46 by kernel_rfl]; exact Nat.le_of_ble_eq_true rfl) (by kernel_rfl) ?_
 intro hσ hids
 rw [show comp Tryz.prog { own := [], ghosts := [], cold := [(6, 6)] } (Tryz.f65.body.getD .skip) = c_insert13 by kernel_rfl, show Tryz.f65.ntmps = 46 by kernel_rfl]
 unfold c_insert13
 have hil : Ids σ.length (.slice tok (l.map encL)) := hids _ (by simp)
 have his : Ids σ.length (.slice .unk (s.map Ahl.encI)) := hids _ (by simp)
 have hle := insAt_le l s
 have hmem := insAt_mem (s := s) hp
 simp only [go_sem, simprocAttr]
 refine wpc_while (fun (i : Nat) => [(0, .slice tok (l.map encL)), (1, .slice .unk (s.map Ahl.encI)), (6, .int .i64 (i : Nat))]) (fun _ => σ) (fun i => i ≤ l.length ∧ insAt l s = i + insAt (l.drop i) s) (fun i => l.length - i) 0 ⟨Nat.zero_le _, by simp⟩ (by (try dsimp only); exact ghA) ?_
 rintro i ⟨hi, hv⟩ K hK hE hR
 by_cases h : i < l.length
 ·obtain ⟨x, hx⟩ := get_ex h; have hlt : ((i : Int) < (l.length : Int)) := (by omega); have hw := wrapS (i := i) (by omega)
  rw [drop_cons hx, insAt_cons] at hv
  simp only [go_sem, simprocAttr, hlt, hx, encL]
  refine (before13_spec x s .unk .unk _ (hlm x (List.mem_of_getElem? hx)) hs).is ?_
  by_cases h1 : cmpInts x s < 0
  ·rw [decide_eq_true h1]
   rw [if_pos h1] at hv
   simp only [go_sem, simprocAttr]
   refine hK _ _ (i + 1) (⟨by omega, by omega⟩) om ?_; (try dsimp only); (try simp only [ hw]); exact ghA
  ·rw [decide_eq_false h1]
   rw [if_neg h1, Nat.add_zero] at hv
   rw [hv, hx] at hmem
   simp only [go_sem, simprocAttr, hE, hlt, hx, encL]
   refine (sameInts_spec x s .unk .unk _ (hlm x (List.mem_of_getElem? hx)) hs).is ?_
   by_cases h2 : x = s
   ·have hm : s ∈ l := hmem.2 (by rw [h2])
    have e1 : insN l s = l := if_pos hm
    rw [decide_eq_true h2]
    simp only [go_sem, simprocAttr]
    exact rT (.slice .unk (l.map encL)) (.bool false) ⟨by rw [e1, decide_eq_true hm]; rfl, rfl⟩
   ·have hm : s ∉ l := fun q => h2 (by have := hmem.1 q; injection this)
    have e1 : insN l s = insL l s := if_neg hm
    rw [decide_eq_false h2]
    simp only [go_sem, simprocAttr]
    have hdk : ((l.map encL).drop i).take (l.length - i) = (l.drop i).map encL := by rw [← List.map_drop, List.take_of_length_le (by simp)]
    have hlt1 : (l.take i).length = i := by rw [List.length_take]; omega
    have hl1 : ∀ k : List (List Int), ∀ e ∈ k.map encL, e.length = 1 ∧ e.all AV.one = true := fun k e he => by obtain ⟨x, _, rfl⟩ := List.mem_map.1 he; exact ⟨rfl, rfl⟩
    have hb1 : bigLen (l.take i).length 24 := big_ok (by omega) (by omega)
    have hb2 : bigLen ((l.take i).length + 1) 24 := big_ok (by omega) (by omega)
    have hb3 : bigLen ((l.take i).length + 1 + (l.drop i).length) 24 := big_ok (by omega) (by rw [List.length_drop]; omega)
    rw [Nat.sub_zero, ← List.map_take, hdk, List.length_map, List.length_map]
    refine ⟨by omega, hi, fun _ _ => rfl, hl1 _, hb1, hb2, hi, fun _ _ => rfl, hl1 _, hb3, ?_⟩
    have hfin : (l.take i).map encL ++ [AV.slice .unk (s.map Ahl.encI)] :: (l.drop i).map encL = (insL l s).map encL := by
     unfold insL
     rw [hv, List.map_append, List.map_append, List.append_assoc]; rfl
    rw [hfin]
    exact rT (.slice .unk ((insL l s).map encL)) (.bool true) ⟨by rw [e1, decide_eq_false hm]; rfl, rfl⟩
 ·have hlt : ¬ ((i : Int) < (l.length : Int)) := by omega
  have hd : l.drop i = [] := drop_len h
  have hv : insAt l s = i := by rw [hv, hd]; rfl
  have hm : s ∉ l := fun q => by have := hmem.1 q; rw [hv, List.getElem?_eq_none (by omega)] at this; simp at this
  have e1 : insN l s = insL l s := if_neg hm
  simp only [go_sem, simprocAttr, hlt, hE]
  have hdk : ((l.map encL).drop i).take (l.length - i) = (l.drop i).map encL := by rw [← List.map_drop, List.take_of_length_le (by simp)]
  have hlt1 : (l.take i).length = i := by rw [List.length_take]; omega
  have hl1 : ∀ k : List (List Int), ∀ e ∈ k.map encL, e.length = 1 ∧ e.all AV.one = true := fun k e he => by obtain ⟨x, _, rfl⟩ := List.mem_map.1 he; exact ⟨rfl, rfl⟩
  have hb1 : bigLen (l.take i).length 24 := big_ok (by omega) (by omega)
  have hb2 : bigLen ((l.take i).length + 1) 24 := big_ok (by omega) (by omega)
  have hb3 : bigLen ((l.take i).length + 1 + (l.drop i).length) 24 := big_ok (by omega) (by rw [List.length_drop]; omega)
  rw [Nat.sub_zero, ← List.map_take, hdk, List.length_map, List.length_map]
  refine ⟨by omega, hi, fun _ _ => rfl, hl1 _, hb1, hb2, hi, fun _ _ => rfl, hl1 _, hb3, ?_⟩
  have hfin : (l.take i).map encL ++ [AV.slice .unk (s.map Ahl.encI)] :: (l.drop i).map encL = (insL l s).map encL := by
   unfold insL
   rw [hv, List.map_append, List.map_append, List.append_assoc]; rfl
  rw [hfin]
  exact rT (.slice .unk ((insL l s).map encL)) (.bool true) ⟨by rw [e1, decide_eq_false hm]; rfl, rfl⟩
theorem insN_len (out : List (List Int)) (x : List Int) : (insN out x).length ≤ out.length + 1 := by
 unfold insN; split
 ·omega
 ·unfold insL
  have := insAt_le out x
  simp only [List.length_append, List.length_take, List.length_drop, List.length_singleton]; omega
def c_outs16 : CCode := .seq (.ops [oS 3 (.box (.tmp 0)), oS 6 (.move (.lit (.slice .nil [])))]) (.seq (.ops [oS 7 (.move (.lit (.slice .nil [])))]) (.seq (.seq (.ops [oS 10 (.move (.tmp 1)), oS 11 (.blen 1 (.tmp 10)), oS 12 (.move (.lit (.int .i64 0)))]) (.block 0 (.loop (.seq (.ops [oS 13 (.bin .lss .none (.tmp 12) (.tmp 11))]) (.seq (.cond (.tmp 13) .skip (.exit 0)) (.seq (.block 1 (.seq (.ops [oS 14 (.iaddr 1 (.tmp 10) (.tmp 12)), oS 15 (.load none (.tmp 14)), oS 9 (.move (.tmp 15))]) (.ops [oS 17 (.move (.tmp 7)), oS 18 (.load (some 4) (.tmp 3)), oS 19 (.move (.tmp 2)), oS 20 (.move (.tmp 9)), oS 21 (.call (.lit (.func 66 [])) [.tmp 18, .tmp 19, .tmp 20]), oS 22 (.call (.lit (.func 65 [])) [.tmp 17, .tmp 21]), oS 16 (.move (.tmp 22)), oS 23 (.extract (.tmp 16) 0), oS 24 (.extract (.tmp 16) 1), oS 7 (.move (.tmp 23))]))) (.ops [oS 25 (.bin .add .none (.tmp 12) (.lit (.int .i64 1))), oS 12 (.move (.tmp 25))]))))))) (.seq (.ops [oS 26 (.move (.tmp 7)), oS 6 (.move (.tmp 26))]) .ret)))
theorem outs16_spec (t : FTask) (l s : List Int) (tok tok' : Tok) (σ : Store) (ht : TB t) (hb : SB t) (he : EOk t) (hn : t.facts.length ≤ 1000) (hll : l.length ≤ 1000000) (hr : ∀ x ∈ l, 0 ≤ x ∧ x < (t.actions.length : Int)) (hwh : ∀ a ∈ t.actions, ∀ e ∈ a.effects, e.when_.length ≤ 1048576) (hs : risingB t.facts.length (-1) s = true) :
  ACalls Tryz.prog 29 [.agg (encTask t), .slice tok (l.map Ahl.encI), .slice tok' (s.map Ahl.encI)] σ (isR (.slice .unk ((outsL t l s).map encL)) σ) := by
 refine ACalls.intro (rs := [(.tmp 6)]) (by kernel_rfl) { own := [], ghosts := [] } Tryz.func29 (c := Tryz.f29.body.getD .skip) (by kernel_rfl) (by decide) (by rw [show Tryz.f29.ntmps = 27 by kernel_rfl]; exact Nat.le_of_ble_eq_true rfl) (by kernel_rfl) ?_
 intro hσ hids
 rw [show comp Tryz.prog { own := [], ghosts := [] } (Tryz.f29.body.getD .skip) = c_outs16 by kernel_rfl, show Tryz.f29.ntmps = 27 by kernel_rfl]
 unfold c_outs16
 have hil : Ids σ.length (.slice tok (l.map Ahl.encI)) := hids _ (by simp)
 have his : Ids σ.length (.slice tok' (s.map Ahl.encI)) := hids _ (by simp)
 have hsl : s.length ≤ 1000 := by
  rcases rising_len hs (by omega) with q | q
  ·omega
  ·rw [q]; simp
 have hrow : IdsS (σ ++ [AObj.row (encTask t)]).length (σ ++ [AObj.row (encTask t)]) := idsS_push hσ (idsO_row (ids_encTask t))
 simp only [encTask] at hrow
 obtain ⟨O, hO⟩ : ∃ O : Nat → List (List Int), ∀ i, O i = ((l.map (nextP t s)).take i).foldl insN [] := ⟨_, fun _ => rfl⟩
 have hO0 : O 0 = [] := by rw [hO]; rfl
 have hOs : ∀ i, (O i).Pairwise ltL := fun i => by rw [hO]; exact (foldN _ [] .nil).1
 have hOl : ∀ i, i ≤ l.length → (O i).length ≤ i := fun i hi => by
  have key : ∀ (m out : List (List Int)), (m.foldl insN out).length ≤ out.length + m.length := by
   intro m
   induction m with
   | nil => intro out; simp
   | cons x m ih => intro out; rw [List.foldl_cons, List.length_cons]; have := ih (insN out x); have := insN_len out x; omega
  rw [hO]
  have := key ((l.map (nextP t s)).take i) []
  rw [List.length_take, List.length_map] at this
  simp only [List.length_nil] at this; omega
 have hnx : ∀ a ∈ l, ∃ x, t.actions[a.toNat]? = some x ∧ nextP t s a = afterL t.facts.length s x ∧ (nextP t s a).length ≤ 1000 := fun a ha => by
  obtain ⟨x, hxa⟩ : ∃ x, t.actions[a.toNat]? = some x := get_ex (by have := hr a ha; omega)
  have e : nextP t s a = afterL t.facts.length s x := by unfold nextP actOf; rw [List.getD_eq_getElem?_getD, hxa]; exact afterS_eq hs (he.rng x (List.mem_of_getElem? hxa))
  exact ⟨x, hxa, e, by rw [e]; have := afterL_len (n := t.facts.length) s x; omega⟩
 have hOm : ∀ i, ∀ y ∈ O i, y.length ≤ 140737488355328 := fun i y hy => by
  rw [hO, (foldN _ [] .nil).2] at hy
  rcases hy with hy | hy
  ·simp at hy
  ·obtain ⟨a, ha, rfl⟩ := List.mem_map.1 (List.mem_of_mem_take hy)
   obtain ⟨_, _, _, q⟩ := hnx a ha
   omega
 simp only [go_sem, simprocAttr, encTask]
 refine wpc_while (fun (i : Nat) => [(2, .slice tok' (s.map Ahl.encI)), (3, .ptr σ.length 0), (7, .slice .unk ((O i).map encL)), (10, .slice tok (l.map Ahl.encI)), (11, .int .i64 l.length), (12, .int .i64 (i : Nat))]) (fun i => σ ++ [.row (encTask t)]) (fun i => i ≤ l.length) (fun i => l.length - i) 0 (Nat.zero_le _) ?_ ?_
 ·rw [hO0]
  simp only [encTask]
  exact (by (try dsimp only); first | exact ghL (hrow) | exact ghL0 (hrow))
 intro i hi K hK hE hR
 by_cases h : i < l.length
 ·obtain ⟨a, hx⟩ := get_ex h; have hlt : ((i : Int) < (l.length : Int)) := (by omega); have hw := wrapS (i := i) (by omega)
  have ham := List.mem_of_getElem? hx
  obtain ⟨ha1, ha2⟩ := hr a ham
  obtain ⟨x, hxa, hn1, hn2⟩ := hnx a ham
  have hxm := List.mem_of_getElem? hxa
  simp only [go_sem, simprocAttr, hlt, hx, Ahl.encI, encTask]
  have haft := after_spec t s a x tok' (σ ++ [AObj.row (encTask t)]) (by omega) (fun y hy => by have := (rising_pw hs).2 y hy; omega) (by omega) ha1 hxa (by have := hb.effs x hxm; omega) (fun e hee => ⟨hwh x hxm e hee, he.rng x hxm e hee⟩)
  simp only [encTask] at haft
  refine haft.is ?_
  rw [← hn1]
  simp only [go_sem, simprocAttr, encTask]
  have hOi := hOl i hi
  refine (insert13_spec (O i) (nextP t s a) .unk _ (by omega) (hOm i) (by omega) (hOs i)).is ?_
  have e : insN (O i) (nextP t s a) = O (i + 1) := by
   rw [hO, hO, take_succ' (x := nextP t s a) (by rw [List.getElem?_map, hx]; rfl), List.foldl_append]; rfl
  rw [e]
  simp only [go_sem, simprocAttr, encTask]
  refine hK _ _ (i + 1) (by omega) (by omega) ?_
  simp only [encTask]
  exact (by (try dsimp only); (try simp only [ hw]); first | exact ghL (hrow) | exact ghL0 (hrow))
 ·have hlt : ¬ ((i : Int) < (l.length : Int)) := by omega
  have e : O i = outsL t l s := by rw [hO, List.take_of_length_le (by simp; omega)]; rfl
  simp only [go_sem, simprocAttr, hlt, hE, e]
  exact rt (.slice .unk ((outsL t l s).map encL)) ⟨rfl, rfl⟩
section
variable (t : FTask) (g : List (List Int))
def grp (i : Nat) : List Int := g.getD i []
def outsAt (s : List Int) (i : Nat) : List (List Int) := if appB t (grp g i) s then outsL t (grp g i) s else []
def addAll (ss xs : List (List Int)) : List (List Int) := xs.foldl addS ss
def growG (s : List Int) (ss : List (List Int)) (i : Nat) : List (List Int) := (List.range i).foldl (fun ss j => addAll ss (outsAt t g s j)) ss
def chG (s : List Int) (ss : List (List Int)) (i : Nat) : List (Nat × List Nat) := ((List.range i).filter fun j => appB t (grp g j) s).map fun j => (j, (outsL t (grp g j) s).map ss.idxOf)
def chOf (ss : List (List Int)) (s : List Int) : List (Nat × List Nat) := chG t g s ss g.length
def growS (ss : List (List Int)) (k : Nat) : List (List Int) := match ss[k]? with
 | some s => growG t g s ss g.length
 | none => ss
def ssK (s0 : List Int) : Nat → List (List Int)
 | 0 => [s0]
 | k + 1 => growS t g (ssK s0 k) k
def ssF (s0 : List Int) : List (List Int) := ssK t g s0 (2 ^ t.facts.length)
end
def Pre (ss ss' : List (List Int)) : Prop := ∃ r, ss' = ss ++ r
theorem Pre.refl (ss : List (List Int)) : Pre ss ss := ⟨[], by simp⟩
theorem Pre.trans {a b c : List (List Int)} (h : Pre a b) (k : Pre b c) : Pre a c := by
 obtain ⟨r, rfl⟩ := h; obtain ⟨q, rfl⟩ := k; exact ⟨r ++ q, by simp⟩
theorem Pre.mem {a b : List (List Int)} (h : Pre a b) {x : List Int} (hx : x ∈ a) : x ∈ b := by obtain ⟨r, rfl⟩ := h; exact List.mem_append.2 (.inl hx)
theorem Pre.idx {a b : List (List Int)} (h : Pre a b) {x : List Int} (hx : x ∈ a) : b.idxOf x = a.idxOf x := by obtain ⟨r, rfl⟩ := h; rw [List.idxOf_append, if_pos hx]
theorem Pre.get {a b : List (List Int)} (h : Pre a b) {i : Nat} {x : List Int} (hx : a[i]? = some x) : b[i]? = some x := by obtain ⟨r, rfl⟩ := h; rw [List.getElem?_append_left (lt_of_get hx)]; exact hx
theorem Pre.len {a b : List (List Int)} (h : Pre a b) : a.length ≤ b.length := by obtain ⟨r, rfl⟩ := h; simp
theorem pre_addS (ss : List (List Int)) (x : List Int) : Pre ss (addS ss x) := by
 unfold addS; split
 ·exact .refl _
 ·exact ⟨[x], rfl⟩
theorem mem_addS {ss : List (List Int)} {x y : List Int} : y ∈ addS ss x ↔ y ∈ ss ∨ y = x := by
 unfold addS; split
 ·rename_i h
  constructor
  ·exact .inl
  ·rintro (q | rfl)
   ·exact q
   ·exact h
 ·simp
theorem pre_addAll : ∀ (xs ss : List (List Int)), Pre ss (addAll ss xs)
 | [], ss => .refl _
 | x :: xs, ss => (pre_addS ss x).trans (pre_addAll xs (addS ss x))
theorem mem_addAll : ∀ {xs ss : List (List Int)} {y : List Int}, y ∈ addAll ss xs ↔ y ∈ ss ∨ y ∈ xs
 | [], ss, y => by simp [addAll]
 | x :: xs, ss, y => by
  show y ∈ addAll (addS ss x) xs ↔ _
  rw [mem_addAll, mem_addS, List.mem_cons, or_assoc]
theorem addAll_take {xs : List (List Int)} {i : Nat} {x : List Int} (h : xs[i]? = some x) (ss : List (List Int)) : addAll ss (xs.take (i + 1)) = addS (addAll ss (xs.take i)) x := by
 unfold addAll; rw [take_succ' h, List.foldl_append]; rfl
theorem nodup_addS {ss : List (List Int)} (h : ss.Nodup) (x : List Int) : (addS ss x).Nodup := by
 unfold addS; split
 ·exact h
 ·rename_i hx
  rw [List.nodup_append]
  refine ⟨h, by simp, fun a ha b hb => ?_⟩
  rw [List.mem_singleton] at hb; subst hb; rintro rfl; exact hx ha
theorem nodup_addAll : ∀ (xs ss : List (List Int)), ss.Nodup → (addAll ss xs).Nodup
 | [], ss, h => h
 | x :: xs, ss, h => nodup_addAll xs _ (nodup_addS h x)
section
variable {t : FTask} {g : List (List Int)}
theorem growG_succ (s : List Int) (ss : List (List Int)) (i : Nat) : growG t g s ss (i + 1) = addAll (growG t g s ss i) (outsAt t g s i) := by
 unfold growG; rw [List.range_succ, List.foldl_append]; rfl
theorem pre_growG (s : List Int) (ss : List (List Int)) : ∀ i, Pre ss (growG t g s ss i)
 | 0 => .refl _
 | i + 1 => by rw [growG_succ]; exact (pre_growG s ss i).trans (pre_addAll _ _)
theorem pre_growGG (s : List Int) (ss : List (List Int)) (i : Nat) : ∀ k, Pre (growG t g s ss i) (growG t g s ss (i + k))
 | 0 => .refl _
 | k + 1 => by rw [← Nat.add_assoc, growG_succ]; exact (pre_growGG s ss i k).trans (pre_addAll _ _)
theorem nodup_growG (s : List Int) {ss : List (List Int)} (h : ss.Nodup) : ∀ i, (growG t g s ss i).Nodup
 | 0 => h
 | i + 1 => by rw [growG_succ]; exact nodup_addAll _ _ (nodup_growG s h i)
theorem mem_growG {s : List Int} {ss : List (List Int)} {y : List Int} : ∀ {i : Nat}, y ∈ growG t g s ss i ↔ y ∈ ss ∨ ∃ j, j < i ∧ y ∈ outsAt t g s j
 | 0 => by simp [growG]
 | i + 1 => by
  rw [growG_succ, mem_addAll, mem_growG, or_assoc]
  constructor
  ·rintro (h | ⟨j, hj, h⟩ | h)
   ·exact .inl h
   ·exact .inr ⟨j, by omega, h⟩
   ·exact .inr ⟨i, by omega, h⟩
  ·rintro (h | ⟨j, hj, h⟩)
   ·exact .inl h
   ·rcases Nat.lt_or_ge j i with q | q
    ·exact .inr (.inl ⟨j, q, h⟩)
    ·have : j = i := by omega
     subst this; exact .inr (.inr h)
theorem chG_succ (s : List Int) (ss : List (List Int)) (i : Nat) : chG t g s ss (i + 1) = chG t g s ss i ++ if appB t (grp g i) s then [(i, (outsL t (grp g i) s).map ss.idxOf)] else [] := by
 unfold chG
 rw [List.range_succ, List.filter_append, List.map_append]
 cases h : appB t (grp g i) s <;> simp [h]
theorem chG_pre {s : List Int} {ss ss' : List (List Int)} (h : Pre ss ss') : ∀ {i : Nat}, (∀ j, j < i → ∀ y ∈ outsAt t g s j, y ∈ ss) → chG t g s ss' i = chG t g s ss i
 | 0, _ => rfl
 | i + 1, hm => by
  rw [chG_succ, chG_succ, chG_pre h (fun j hj => hm j (by omega))]
  congr 1
  cases ha : appB t (grp g i) s
  ·rfl
  ·rw [if_pos rfl, if_pos rfl]
   congr 2
   refine List.map_congr_left fun y hy => h.idx (hm i (by omega) y ?_)
   unfold outsAt; rw [if_pos ha]; exact hy
theorem pre_growS (ss : List (List Int)) (k : Nat) : Pre ss (growS t g ss k) := by
 unfold growS; split
 ·exact pre_growG _ _ _
 ·exact .refl _
theorem pre_ssK (s0 : List Int) (k : Nat) : ∀ j, Pre (ssK t g s0 k) (ssK t g s0 (k + j))
 | 0 => .refl _
 | j + 1 => (pre_ssK s0 k j).trans (pre_growS _ _)
theorem nodup_ssK (s0 : List Int) : ∀ k, (ssK t g s0 k).Nodup
 | 0 => by simp [ssK]
 | k + 1 => by
  rw [ssK]; unfold growS; split
  ·exact nodup_growG _ (nodup_ssK s0 k) _
  ·exact nodup_ssK s0 k
theorem ssK_stop {s0 : List Int} {k : Nat} (h : (ssK t g s0 k).length ≤ k) : ∀ j, ssK t g s0 (k + j) = ssK t g s0 k
 | 0 => rfl
 | j + 1 => by
  have ih := ssK_stop h j
  show growS t g (ssK t g s0 (k + j)) (k + j) = _
  rw [ih]; unfold growS
  rw [List.getElem?_eq_none (by omega)]
theorem outs_rising {s : List Int} {l : List Int} (he : EOk t) (hs : risingB t.facts.length (-1) s = true) (hr : ∀ x ∈ l, 0 ≤ x ∧ x < (t.actions.length : Int)) : ∀ y ∈ outsL t l s, risingB t.facts.length (-1) y = true := by
 intro y hy
 obtain ⟨a, ha, rfl⟩ := outs_mem.1 hy
 obtain ⟨x, hxa⟩ : ∃ x, t.actions[a.toNat]? = some x := get_ex (by have := hr a ha; omega)
 unfold nextP actOf
 rw [List.getD_eq_getElem?_getD, hxa]
 show risingB _ (-1) (afterS s x.effects) = true
 rw [afterS_eq hs (he.rng x (List.mem_of_getElem? hxa))]
 exact afterL_rising _ _ _
theorem grp_ok {i : Nat} (hc : choicesB t g = true) (hi : i < g.length) : grp g i ∈ g ∧ grp g i ≠ [] ∧ (∀ x ∈ grp g i, 0 ≤ x ∧ x < (t.actions.length : Int)) ∧ (grp g i).length ≤ t.actions.length := by
 have hm : grp g i ∈ g := by unfold grp; rw [List.getD_eq_getElem?_getD, List.getElem?_eq_getElem hi]; exact List.getElem_mem hi
 exact ⟨hm, choices_group hc hm⟩
theorem outsAt_rising {s : List Int} {i : Nat} (he : EOk t) (hc : choicesB t g = true) (hs : risingB t.facts.length (-1) s = true) : ∀ y ∈ outsAt t g s i, risingB t.facts.length (-1) y = true := by
 intro y hy
 unfold outsAt at hy
 split at hy
 ·refine outs_rising he hs (fun x hx => ?_) y hy
  rcases Nat.lt_or_ge i g.length with hi | hi
  ·exact (grp_ok hc hi).2.2.1 x hx
  ·unfold grp at hx; rw [List.getD_eq_getElem?_getD, List.getElem?_eq_none hi] at hx; simp at hx
 ·simp at hy
theorem rising_ssK (he : EOk t) (hc : choicesB t g = true) {s0 : List Int} (hs : risingB t.facts.length (-1) s0 = true) : ∀ k, ∀ y ∈ ssK t g s0 k, risingB t.facts.length (-1) y = true
 | 0, y, hy => by rw [ssK, List.mem_singleton] at hy; subst hy; exact hs
 | k + 1, y, hy => by
  have ih := rising_ssK he hc hs k
  rw [ssK] at hy; unfold growS at hy
  split at hy
  ·rename_i s hsk
   rcases mem_growG.1 hy with h | ⟨j, _, h⟩
   ·exact ih y h
   ·exact outsAt_rising he hc (ih s (List.mem_of_getElem? hsk)) y h
  ·exact ih y hy
theorem nodup_sub_len {α : Type} [DecidableEq α] : ∀ {l m : List α}, l.Nodup → (∀ x ∈ l, x ∈ m) → l.length ≤ m.length
 | [], m, _, _ => by simp
 | x :: l, m, h, hs => by
  obtain ⟨h1, h2⟩ := List.nodup_cons.1 h
  have := nodup_sub_len (m := m.erase x) h2 (fun y hy => by
   have hne : y ≠ x := fun e => h1 (e ▸ hy)
   exact (List.mem_erase_of_ne hne).2 (hs y (List.mem_cons_of_mem _ hy)))
  have hx := hs x List.mem_cons_self
  rw [List.length_erase_of_mem hx] at this
  have : 0 < m.length := List.length_pos_of_mem hx
  rw [List.length_cons]; omega
theorem ssK_len (he : EOk t) (hc : choicesB t g = true) {s0 : List Int} (hs : risingB t.facts.length (-1) s0 = true) (k : Nat) : (ssK t g s0 k).length ≤ 2 ^ t.facts.length := by
 have := nodup_sub_len (nodup_ssK (t := t) (g := g) s0 k) (m := statesL t.facts.length) (fun y hy => by
  obtain ⟨h1, h2⟩ := rising_pw (rising_ssK he hc hs k y hy)
  exact statesL_all _ y h1 fun v hv => by have := h2 v hv; omega)
 rwa [statesL_len] at this
theorem ssF_of (he : EOk t) (hc : choicesB t g = true) {s0 : List Int} (hs : risingB t.facts.length (-1) s0 = true) {k : Nat} (h : (ssK t g s0 k).length ≤ k) (hk : k ≤ 2 ^ t.facts.length) : ssF t g s0 = ssK t g s0 k := by
 unfold ssF
 have := ssK_stop h (2 ^ t.facts.length - k)
 rwa [show k + (2 ^ t.facts.length - k) = 2 ^ t.facts.length by omega] at this
theorem closed_ssK {s0 : List Int} : ∀ (k j : Nat) (s : List Int), j < k → (ssK t g s0 k)[j]? = some s → ∀ i, i < g.length → ∀ y ∈ outsAt t g s i, y ∈ ssK t g s0 k
 | k + 1, j, s, hj, hs, i, hi, y, hy => by
  have hp : Pre (ssK t g s0 k) (ssK t g s0 (k + 1)) := pre_growS _ _
  rcases Nat.lt_or_ge j (ssK t g s0 k).length with hl | hl
  ·have hs' : (ssK t g s0 k)[j]? = some s := by
    obtain ⟨x, hx⟩ := get_ex hl
    have := hp.get hx
    rw [hs] at this; injection this with this; subst this; exact hx
   rcases Nat.lt_or_ge j k with q | q
   ·exact hp.mem (closed_ssK k j s q hs' i hi y hy)
   ·have : j = k := by omega
    subst this
    rw [ssK]; unfold growS; rw [hs']
    exact mem_growG.2 (.inr ⟨i, hi, hy⟩)
  ·have hlt := lt_of_get hs
   rw [ssK] at hlt; unfold growS at hlt
   split at hlt
   ·rename_i h; have := lt_of_get h; omega
   ·omega
def CH (t : FTask) (g : List (List Int)) (ss : List (List Int)) (k : Nat) : List (List (Nat × List Nat)) := (List.range k).map fun j => chOf t g ss (ss.getD j [])
def GL (t : FTask) (ss : List (List Int)) (k : Nat) : List Bool := (List.range k).map fun j => condHolds (ss.getD j []) t.goal
theorem getD_get {ss : List (List Int)} {j : Nat} {s : List Int} (h : ss[j]? = some s) : ss.getD j [] = s := by rw [List.getD_eq_getElem?_getD, h]; rfl
theorem CH_step {s0 s : List Int} {k : Nat} (h : (ssK t g s0 k)[k]? = some s) : CH t g (ssK t g s0 (k + 1)) (k + 1) = CH t g (ssK t g s0 k) k ++ [chG t g s (ssK t g s0 (k + 1)) g.length] := by
 have hp : Pre (ssK t g s0 k) (ssK t g s0 (k + 1)) := pre_growS _ _
 unfold CH
 rw [List.range_succ, List.map_append]
 congr 1
 ·refine List.map_congr_left fun j hj => ?_
  have hj := List.mem_range.1 hj
  obtain ⟨x, hx⟩ := get_ex (show j < (ssK t g s0 k).length by have := lt_of_get h; omega)
  rw [getD_get hx, getD_get (hp.get hx)]
  exact chG_pre hp fun i hi y hy => closed_ssK k j x hj hx i hi y hy
 ·rw [List.map_singleton, getD_get (hp.get h)]; rfl
theorem GL_step {s0 s : List Int} {k : Nat} (h : (ssK t g s0 k)[k]? = some s) : GL t (ssK t g s0 (k + 1)) (k + 1) = GL t (ssK t g s0 k) k ++ [condHolds s t.goal] := by
 have hp : Pre (ssK t g s0 k) (ssK t g s0 (k + 1)) := pre_growS _ _
 unfold GL
 rw [List.range_succ, List.map_append]
 congr 1
 ·refine List.map_congr_left fun j hj => ?_
  have hj := List.mem_range.1 hj
  obtain ⟨x, hx⟩ := get_ex (show j < (ssK t g s0 k).length by have := lt_of_get h; omega)
  rw [getD_get hx, getD_get (hp.get hx)]
 ·rw [List.map_singleton, getD_get (hp.get h)]
theorem ssK_succ {s0 s : List Int} {k : Nat} (h : (ssK t g s0 k)[k]? = some s) : ssK t g s0 (k + 1) = growG t g s (ssK t g s0 k) g.length := by
 rw [ssK]; unfold growS; rw [h]
theorem CH_end {ss : List (List Int)} : CH t g ss ss.length = ss.map (chOf t g ss) := by
 unfold CH
 apply List.ext_getElem?
 intro i
 rw [List.getElem?_map, List.getElem?_map]
 rcases Nat.lt_or_ge i ss.length with h | h
 ·rw [List.getElem?_range h, List.getElem?_eq_getElem h]
  simp [List.getD_eq_getElem?_getD, List.getElem?_eq_getElem h]
 ·rw [List.getElem?_eq_none (by simpa using h), List.getElem?_eq_none h]; rfl
theorem GL_end {ss : List (List Int)} : GL t ss ss.length = ss.map fun s => condHolds s t.goal := by
 unfold GL
 apply List.ext_getElem?
 intro i
 rw [List.getElem?_map, List.getElem?_map]
 rcases Nat.lt_or_ge i ss.length with h | h
 ·rw [List.getElem?_range h, List.getElem?_eq_getElem h]
  simp [List.getD_eq_getElem?_getD, List.getElem?_eq_getElem h]
 ·rw [List.getElem?_eq_none (by simpa using h), List.getElem?_eq_none h]; rfl
end
theorem byteOf_inj {a b : Int} (ha : 0 ≤ a ∧ a < 256) (hb : 0 ≤ b ∧ b < 256) (h : byteOf a = byteOf b) : a = b := by
 have h1 := byteOf_nat a
 have h2 := byteOf_nat b
 rw [h] at h1
 have w : ∀ c : Int, 0 ≤ c ∧ c < 256 → IntKind.u8.wrap c = c := fun c hc => by
  unfold IntKind.wrap
  simp only [IntKind.bits, IntKind.signed, Bool.false_and, Bool.false_eq_true, if_false]
  exact Int.emod_eq_of_lt hc.1 hc.2
 rw [w a ha] at h1
 rw [w b hb] at h2
 omega
theorem map_byte_inj : ∀ {l m : List Int}, (∀ x ∈ l, 0 ≤ x ∧ x < 256) → (∀ x ∈ m, 0 ≤ x ∧ x < 256) → l.map byteOf = m.map byteOf → l = m
 | [], [], _, _, _ => rfl
 | [], y :: m, _, _, h => by simp at h
 | x :: l, [], _, _, h => by simp at h
 | x :: l, y :: m, hl, hm, h => by
  simp only [List.map_cons, List.cons.injEq] at h
  rw [byteOf_inj (hl x List.mem_cons_self) (hm y List.mem_cons_self) h.1, map_byte_inj (fun x hx => hl x (List.mem_cons_of_mem _ hx)) (fun x hx => hm x (List.mem_cons_of_mem _ hx)) h.2]
theorem key_apart {n : Nat} (hn : n ≤ 256) {ss : List (List Int)} {x : List Int} (hs : ∀ y ∈ ss, risingB n (-1) y = true) (hx : risingB n (-1) x = true) : Apart ss x := by
 intro y hy h
 have r : ∀ z, risingB n (-1) z = true → ∀ v ∈ z, 0 ≤ v ∧ v < 256 := fun z hz v hv => by have := (rising_pw hz).2 v hv; omega
 refine map_byte_inj (r y (hs y hy)) (r x hx) ?_
 unfold keyP at h
 injection h with h
 exact congrArg Array.toList h
end Go.Proofs.YtjmmldkailblmaaGreat
