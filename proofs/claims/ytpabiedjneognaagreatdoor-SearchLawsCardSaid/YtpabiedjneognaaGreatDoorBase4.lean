/- Contracts of the given program's functions, and an abstract layer over the model; no condition. -/
import Derived.Shelf.Strconv.Itoa3
import Derived.Test.YtpabiedjneognaaGreatDoorBase3
set_option maxRecDepth 20000
set_option linter.unusedVariables false
set_option linter.unusedSimpArgs false
namespace Go.Proofs.YtpabiedjneognaaGreatDoor
open Go.Ahl
def ab (b : Bool) : AV := .bool b
def genB (n : Nat) (p : Nat → Bool) : List Bool := (List.range n).map p
theorem genB_len (n : Nat) (p : Nat → Bool) : (genB n p).length = n := by simp [genB]
theorem genB_get {n : Nat} {p : Nat → Bool} {k : Nat} (h : k < n) : (genB n p)[k]? = some (p k) := by
 rw [genB, List.getElem?_map, List.getElem?_range h]; rfl
theorem genB_cong {n : Nat} {p q : Nat → Bool} (h : ∀ i, i < n → p i = q i) : genB n p = genB n q := by
 unfold genB
 exact List.map_congr_left fun i hi => h i (List.mem_range.1 hi)
theorem genB_set (n : Nat) (p : Nat → Bool) (k : Nat) (v : Bool) : (genB n p).set k v = genB n (fun i => if i = k then v else p i) := by
 apply List.ext_getElem?
 intro i
 by_cases hi : i < n
 ·rw [genB_get hi]
  by_cases hk : k = i
  ·subst hk
   rw [List.getElem?_set_self (by rw [genB_len]; exact hi), if_pos rfl]
  ·rw [List.getElem?_set_ne hk, genB_get hi, if_neg (Ne.symm hk)]
 ·rw [List.getElem?_eq_none (by rw [List.length_set, genB_len]; omega), List.getElem?_eq_none (by rw [genB_len]; omega)]
theorem bset (w : List Bool) (k : Nat) (b : Bool) : (w.map ab).set k (.bool b) = (w.set k b).map ab := by rw [List.map_set]; rfl
theorem rep_ab (n : Nat) : (List.replicate n [AV.bool false]).flatten = (genB n fun _ => false).map ab := by
 unfold genB
 induction n with
 | zero => rfl
 | succ n ih =>
  rw [List.replicate_succ', List.flatten_concat, ih, List.range_succ, List.map_append, List.map_append]; rfl
theorem ids_ab {n : Nat} (w : List Bool) : IdsO n (.row (w.map ab)) := idsO_row (by intro x hx; obtain ⟨y, _, rfl⟩ := List.mem_map.1 hx; exact .bool _)
def c_bits : CCode := .seq (.ops [oS 4 (.move (.lit (.slice .nil [])))]) (.seq (.ops [oS 8 (.move (.tmp 0)), oS 9 (.mkslice 1 1 [.bool false] (.tmp 8) (.tmp 8) true), oS 5 (.move (.tmp 9))]) (.seq (.seq (.ops [oS 10 (.move (.tmp 1)), oS 11 (.blen 1 (.tmp 10)), oS 12 (.move (.lit (.int .i64 0)))]) (.block 0 (.loop (.seq (.ops [oS 13 (.bin .lss .none (.tmp 12) (.tmp 11))]) (.seq (.cond (.tmp 13) .skip (.exit 0)) (.seq (.block 1 (.seq (.ops [oS 14 (.iaddr 1 (.tmp 10) (.tmp 12)), oS 15 (.load none (.tmp 14)), oS 7 (.move (.tmp 15))]) (.ops [oS 16 (.move (.tmp 5)), oS 17 (.move (.tmp 7)), oS 18 (.iaddr 1 (.tmp 16) (.tmp 17)), oN (.store 1 (.tmp 18) (.lit (.bool true)))]))) (.ops [oS 19 (.bin .add .none (.tmp 12) (.lit (.int .i64 1))), oS 12 (.move (.tmp 19))]))))))) (.seq (.ops [oS 20 (.move (.tmp 5)), oS 4 (.move (.tmp 20))]) .ret)))
theorem bits_spec (n : Nat) (s : List Int) (tok : Tok) (σ : Store) (hn : n ≤ 1048576) (hs : ∀ x ∈ s, 0 ≤ x ∧ x < n) (hl : s.length ≤ 1048576) :
  ACalls Tryz.prog 79 [.int .i64 n, .slice tok (s.map Ahl.encI)] σ (fun r σ' => r = .ref σ.length 1 0 n ∧ σ' = σ ++ [.row ((genB n fun i => s.contains (i : Int)).map ab)]) := by
 refine ACalls.intro (rs := [(.tmp 4)]) (by kernel_rfl) { own := [(0, 1), (1, 1), (2, 1), (3, 1)], ghosts := [] } Tryz.func79 (c := Tryz.f79.body.getD .skip) (by kernel_rfl) (by decide) (by rw [show Tryz.f79.ntmps = 21 by kernel_rfl]; exact Nat.le_of_ble_eq_true rfl) (by kernel_rfl) ?_
 intro hσ hids
 rw [show comp Tryz.prog { own := [(0, 1), (1, 1), (2, 1), (3, 1)], ghosts := [] } (Tryz.f79.body.getD .skip) = c_bits by kernel_rfl, show Tryz.f79.ntmps = 21 by kernel_rfl]
 unfold c_bits
 have hil : Ids σ.length (.slice tok (s.map Ahl.encI)) := hids _ (by simp)
 have hs1 : ∀ w : List Bool, IdsS (σ ++ [AObj.row (w.map ab)]).length (σ ++ [AObj.row (w.map ab)]) := fun w => idsS_push hσ (ids_ab w)
 simp only [go_sem, simprocAttr, aMkslice, rep_ab]
 refine ⟨Int.le_refl _, by omega, by omega, ?_⟩
 refine wpc_while (fun (i : Nat) => [(5, .ref σ.length 1 0 n), (10, .slice tok (s.map Ahl.encI)), (11, .int .i64 s.length), (12, .int .i64 i)]) (fun i => σ ++ [.row ((genB n fun k => (s.take i).contains (k : Int)).map ab)]) (fun i => i ≤ s.length) (fun i => s.length - i) 0 (Nat.zero_le _) (by (try dsimp only); simp only [List.take_zero, List.contains_nil]; first | exact ghL (hs1 _) | exact ghL0 (hs1 _)) ?_
 intro i hi K hK hE hR
 by_cases h : i < s.length
 ·obtain ⟨x, hx⟩ := get_ex h; have hlt : ((i : Int) < (s.length : Int)) := (by omega); have hw := wrapS (i := i) (by omega)
  obtain ⟨x0, x1⟩ := hs x (List.mem_of_getElem? hx)
  have x2 : x.toNat < n := by omega
  have x3 : x.toNat + 1 ≤ n := by omega
  simp only [go_sem, simprocAttr, hlt, hx, Ahl.encI, x0, x2, genB_len, x3, bset, genB_set]
  have hc : (genB n fun k => (s.take (i + 1)).contains (k : Int)) = genB n (fun k => if k = x.toNat then true else (s.take i).contains (k : Int)) := genB_cong fun k hk => by
   rw [take_succ' hx, List.contains_eq_mem, List.contains_eq_mem]
   by_cases e : k = x.toNat
   ·rw [if_pos e]; simp; right; omega
   ·rw [if_neg e]
    apply decide_eq_decide.2
    rw [List.mem_append, List.mem_singleton]
    constructor
    ·rintro (h | h)
     ·exact h
     ·omega
    ·exact .inl
  refine hK _ _ (i + 1) (by omega) (by omega) ?_
  (try dsimp only); simp only [hw, hc]; first | exact ghL (hs1 _) | exact ghL0 (hs1 _)
 ·have hlt : ¬ ((i : Int) < (s.length : Int)) := by omega
  simp only [go_sem, simprocAttr, hlt, hE]
  rw [List.take_of_length_le (by omega)]
  exact ret_gh (v := .ref σ.length 1 0 n) (σ' := σ ++ [.row ((genB n fun i => s.contains (i : Int)).map ab)]) (by first | exact ghL (hs1 _) | exact ghL0 (hs1 _)) (by simp) (hs1 _) (.ref _ _ _ _ (by simp)) ⟨rfl, rfl⟩
def listB : Nat → List Bool → List Int
 | _, [] => []
 | k, b :: r => if b then (k : Int) :: listB (k + 1) r else listB (k + 1) r
def c_listed : CCode := .seq (.ops [oS 2 (.move (.lit (.slice .nil [])))]) (.seq (.ops [oS 3 (.move (.lit (.slice .nil [])))]) (.seq (.seq (.ops [oS 6 (.move (.tmp 0)), oS 7 (.blen 1 (.tmp 6)), oS 8 (.move (.lit (.int .i64 0)))]) (.block 0 (.loop (.seq (.ops [oS 9 (.bin .lss .none (.tmp 8) (.tmp 7))]) (.seq (.cond (.tmp 9) .skip (.exit 0)) (.seq (.block 1 (.seq (.ops [oS 10 (.move (.tmp 8)), oS 11 (.iaddr 1 (.tmp 6) (.tmp 8)), oS 12 (.load none (.tmp 11)), oS 4 (.move (.tmp 10)), oS 5 (.move (.tmp 12))]) (.seq (.ops [oS 13 (.move (.tmp 5))]) (.cond (.tmp 13) (.ops [oS 14 (.move (.tmp 3)), oS 15 (.move (.tmp 4)), oS 16 (.bslice 1 [.tmp 15] false), oS 17 (.bappend 1 8 (.tmp 14) (.tmp 16) false), oS 3 (.move (.tmp 17))]) .skip)))) (.ops [oS 18 (.bin .add .none (.tmp 8) (.lit (.int .i64 1))), oS 8 (.move (.tmp 18))]))))))) (.seq (.ops [oS 19 (.move (.tmp 3)), oS 2 (.move (.tmp 19))]) .ret)))
theorem listed_spec (id : Nat) (w : List Bool) (σ : Store) (hid : σ[id]? = some (.row (w.map ab))) (hl : w.length ≤ 1048576) :
  ACalls Tryz.prog 80 [.ref id 1 0 w.length] σ (isR (.slice .unk ((listB 0 w).map Ahl.encI)) σ) := by
 refine ACalls.intro (rs := [(.tmp 2)]) (by kernel_rfl) { own := [], ghosts := [] } Tryz.func80 (c := Tryz.f80.body.getD .skip) (by kernel_rfl) (by decide) (by rw [show Tryz.f80.ntmps = 20 by kernel_rfl]; exact Nat.le_of_ble_eq_true rfl) (by kernel_rfl) ?_
 intro hσ hids
 rw [show comp Tryz.prog { own := [], ghosts := [] } (Tryz.f80.body.getD .skip) = c_listed by kernel_rfl, show Tryz.f80.ntmps = 20 by kernel_rfl]
 unfold c_listed
 have hs1 : ∀ k : Nat, IdsS (σ ++ [AObj.grow 1 k]).length (σ ++ [AObj.grow 1 k]) := fun k => idsS_push hσ trivial
 have iid := lt_of_get hid
 have hid' : ∀ l, (σ ++ l)[id]? = some (.row (w.map ab)) := fun l => by rw [List.getElem?_append_left iid]; exact hid
 simp only [go_sem, simprocAttr]
 refine wpc_while (fun (q : Nat × List Int) => [(3, .slice (.grow σ.length) (q.2.map Ahl.encI)), (6, .ref id 1 0 w.length), (7, .int .i64 w.length), (8, .int .i64 q.1)]) (fun q => σ ++ [.grow 1 q.2.length])
  (fun q => q.1 ≤ w.length ∧ q.2.length ≤ q.1 ∧ q.2 ++ listB q.1 (w.drop q.1) = listB 0 w) (fun q => w.length - q.1) (0, []) ⟨Nat.zero_le _, Nat.le_refl _, rfl⟩ (by first | exact .begin0 3 1 _ (Nat.le_refl _) tellT hσ | exact .begin 3 1 _ (Nat.le_refl _) tellT hσ) ?_
 rintro ⟨i, out⟩ ⟨hi, ho, hv⟩ K hK hE hR
 dsimp only at hi ho hv ⊢
 by_cases h : i < w.length
 ·obtain ⟨b, hx⟩ := get_ex h; have hlt : ((i : Int) < (w.length : Int)) := (by omega); have hw := wrapS (i := i) (by omega)
  have hb1 : bigLen (out.length + 1) 8 := big_ok (by omega) (by omega)
  rw [drop_cons hx, listB] at hv
  cases b
  ·rw [if_neg (by simp)] at hv
   simp only [go_sem, simprocAttr, hlt, h, hid', hx, ab]
   refine hK _ _ (i + 1, out) ⟨by simp only []; omega, by simp only []; omega, hv⟩ (by simp only []; omega) ?_
   (try dsimp only); simp only [hw]; first | exact ghL (hs1 _) | exact ghL0 (hs1 _)
  ·rw [if_pos rfl] at hv
   simp only [go_sem, simprocAttr, hlt, h, hid', hx, ab, hb1]
   have hc : out.map Ahl.encI ++ [[AV.int .i64 i]] = (out ++ [(i : Int)]).map Ahl.encI := by simp [Ahl.encI]
   refine hK _ _ (i + 1, out ++ [(i : Int)]) ⟨by simp only []; omega, by simp only []; simp; omega, by simp only []; rw [← hv]; simp⟩ (by simp only []; omega) ?_
   (try dsimp only); simp only [hw, hc, List.length_append, List.length_singleton]; exact ghL (l := [.grow 1 (out.length + 1)]) (hs1 _)
 ·have hlt : ¬ ((i : Int) < (w.length : Int)) := by omega
  rw [drop_len h, listB, List.append_nil] at hv
  simp only [go_sem, simprocAttr, hlt, hE]
  exact rt (.slice .unk (out.map Ahl.encI)) ⟨by rw [hv], rfl⟩
def hits (s : List Int) (neg : Bool) (es : List FEff) (i : Nat) : Bool := es.any fun e => (e.lit.neg == neg) && ((e.lit.fact == (i : Int)) && condHolds s e.when_)
theorem hits_succ {s : List Int} {neg : Bool} {es : List FEff} {j : Nat} {e : FEff} (h : es[j]? = some e) (i : Nat) : hits s neg (es.take (j + 1)) i = (hits s neg (es.take j) i || ((e.lit.neg == neg) && ((e.lit.fact == (i : Int)) && condHolds s e.when_))) := by
 rw [hits, take_succ' h, List.any_append]; simp [hits]
def afterB (n : Nat) (s : List Int) (a : FAct) : List Bool := genB n fun i => hits s false a.effects i || (s.contains (i : Int) && !hits s true a.effects i)
def afterL (n : Nat) (s : List Int) (a : FAct) : List Int := listB 0 (afterB n s a)
def c_after : CCode := .seq (.ops [oS 3 (.box (.tmp 0)), oS 6 (.move (.lit (.slice .nil [])))]) (.seq (.ops [oS 12 (.faddr 0 (.tmp 3)), oS 13 (.load none (.tmp 12)), oS 14 (.blen 1 (.tmp 13)), oS 15 (.move (.tmp 1)), oS 16 (.call (.lit (.func 79 [])) [.tmp 14, .tmp 15]), oS 7 (.move (.tmp 16))]) (.seq (.seq (.ops [oS 17 (.faddr 3 (.tmp 3)), oS 18 (.load none (.tmp 17)), oS 19 (.move (.tmp 2)), oS 20 (.iaddr 4 (.tmp 18) (.tmp 19)), oS 21 (.faddr 3 (.tmp 20)), oS 22 (.load none (.tmp 21)), oS 23 (.blen 1 (.tmp 22)), oS 24 (.move (.lit (.int .i64 0)))]) (.block 0 (.loop (.seq (.ops [oS 25 (.bin .lss .none (.tmp 24) (.tmp 23))]) (.seq (.cond (.tmp 25) .skip (.exit 0)) (.seq (.block 1 (.seq (.ops [oS 26 (.iaddr 3 (.tmp 22) (.tmp 24)), oS 27 (.load (some 3) (.tmp 26)), oS 9 (.alloc (.agg [.slice .nil [], .int .i64 0, .bool false])), oN (.store 3 (.tmp 9) (.tmp 27))]) (.seq (.ops [oS 28 (.faddr 1 (.tmp 9)), oS 29 (.faddr 1 (.tmp 28)), oS 30 (.load none (.tmp 29)), oS 31 (.move (.tmp 30)), oG 32 31 true (.move (.tmp 1)), oG 33 31 true (.faddr 0 (.tmp 9)), oG 34 31 true (.load none (.tmp 33)), oG 35 31 true (.call (.lit (.func 43 [])) [.tmp 32, .tmp 34]), oS 36 (.pick (.tmp 31) (.tmp 35) (.lit (.bool false)))]) (.cond (.tmp 36) (.ops [oS 37 (.move (.tmp 7)), oS 38 (.faddr 1 (.tmp 9)), oS 39 (.faddr 0 (.tmp 38)), oS 40 (.load none (.tmp 39)), oS 41 (.iaddr 1 (.tmp 37) (.tmp 40)), oN (.store 1 (.tmp 41) (.lit (.bool false)))]) .skip)))) (.ops [oS 42 (.bin .add .none (.tmp 24) (.lit (.int .i64 1))), oS 24 (.move (.tmp 42))]))))))) (.seq (.seq (.ops [oS 43 (.faddr 3 (.tmp 3)), oS 44 (.load none (.tmp 43)), oS 45 (.move (.tmp 2)), oS 46 (.iaddr 4 (.tmp 44) (.tmp 45)), oS 47 (.faddr 3 (.tmp 46)), oS 48 (.load none (.tmp 47)), oS 49 (.blen 1 (.tmp 48)), oS 50 (.move (.lit (.int .i64 0)))]) (.block 2 (.loop (.seq (.ops [oS 51 (.bin .lss .none (.tmp 50) (.tmp 49))]) (.seq (.cond (.tmp 51) .skip (.exit 2)) (.seq (.block 3 (.seq (.ops [oS 52 (.iaddr 3 (.tmp 48) (.tmp 50)), oS 53 (.load (some 3) (.tmp 52)), oS 11 (.alloc (.agg [.slice .nil [], .int .i64 0, .bool false])), oN (.store 3 (.tmp 11) (.tmp 53))]) (.seq (.ops [oS 54 (.faddr 1 (.tmp 11)), oS 55 (.faddr 1 (.tmp 54)), oS 56 (.load none (.tmp 55)), oS 57 (.un .not (.tmp 56)), oS 58 (.move (.tmp 57)), oG 59 58 true (.move (.tmp 1)), oG 60 58 true (.faddr 0 (.tmp 11)), oG 61 58 true (.load none (.tmp 60)), oG 62 58 true (.call (.lit (.func 43 [])) [.tmp 59, .tmp 61]), oS 63 (.pick (.tmp 58) (.tmp 62) (.lit (.bool false)))]) (.cond (.tmp 63) (.ops [oS 64 (.move (.tmp 7)), oS 65 (.faddr 1 (.tmp 11)), oS 66 (.faddr 0 (.tmp 65)), oS 67 (.load none (.tmp 66)), oS 68 (.iaddr 1 (.tmp 64) (.tmp 67)), oN (.store 1 (.tmp 68) (.lit (.bool true)))]) .skip)))) (.ops [oS 69 (.bin .add .none (.tmp 50) (.lit (.int .i64 1))), oS 50 (.move (.tmp 69))]))))))) (.seq (.ops [oS 70 (.move (.tmp 7)), oS 71 (.call (.lit (.func 80 [])) [.tmp 70]), oS 6 (.move (.tmp 71))]) .ret))))
set_option maxHeartbeats 1000000 in
theorem after_spec (t : FTask) (s : List Int) (k : Int) (a : FAct) (tok : Tok) (σ : Store) (hn : t.facts.length ≤ 1048576) (hs : ∀ x ∈ s, 0 ≤ x ∧ x < (t.facts.length : Int)) (hl : s.length ≤ 1048576) (hk : 0 ≤ k) (ha : t.actions[k.toNat]? = some a)
  (hae : a.effects.length ≤ 1048576) (he : ∀ e ∈ a.effects, e.when_.length ≤ 1048576 ∧ 0 ≤ e.lit.fact ∧ e.lit.fact < (t.facts.length : Int)) :
  ACalls Tryz.prog 45 [.agg (encTask t), .slice tok (s.map Ahl.encI), .int .i64 k] σ (isR (.slice .unk ((afterL t.facts.length s a).map Ahl.encI)) σ) := by
 refine ACalls.intro (rs := [(.tmp 6)]) (by kernel_rfl) { own := [], ghosts := [] } Tryz.func45 (c := Tryz.f45.body.getD .skip) (by kernel_rfl) (by decide) (by rw [show Tryz.f45.ntmps = 72 by kernel_rfl]; exact Nat.le_of_ble_eq_true rfl) (by kernel_rfl) ?_
 intro hσ hids
 rw [show comp Tryz.prog { own := [], ghosts := [] } (Tryz.f45.body.getD .skip) = c_after by kernel_rfl, show Tryz.f45.ntmps = 72 by kernel_rfl]
 unfold c_after
 have hil : Ids σ.length (.slice tok (s.map Ahl.encI)) := hids _ (by simp)
 have hs1 : ∀ w : List Bool, IdsS (σ ++ [AObj.row (encTask t), .row (w.map ab)]).length (σ ++ [AObj.row (encTask t), .row (w.map ab)]) := fun w => idsS_app _ hσ (by
  intro o ho
  simp only [List.mem_cons, List.not_mem_nil, or_false] at ho
  rcases ho with rfl | rfl
  ·exact idsO_row (ids_encTask t)
  ·exact ids_ab w)
 simp only [go_sem, simprocAttr, encTask]
 refine (bits_spec t.facts.length s tok _ hn hs hl).mono ?_
 rintro _ _ ⟨rfl, rfl⟩
 generalize hN : t.facts.length = n at *
 simp only [go_sem, simprocAttr, encTask, hk, ha, encA]
 refine wpc_while (fun (j : Nat) => [(1, .slice tok (s.map Ahl.encI)), (2, .int .i64 k), (3, .ptr σ.length 0), (7, .ref (σ.length + 1) 1 0 n), (22, .slice .unk (a.effects.map encE)), (23, .int .i64 a.effects.length), (24, .int .i64 j)])
  (fun j => σ ++ [.row (encTask t), .row ((genB n fun i => s.contains (i : Int) && !hits s true (a.effects.take j) i).map ab)]) (fun j => j ≤ a.effects.length) (fun j => a.effects.length - j) 0 (Nat.zero_le _) (by (try dsimp only); simp only [List.take_zero, hits, List.any_nil, Bool.not_false, Bool.and_true]; first | exact ghL (hs1 _) | exact ghL0 (hs1 _)) ?_
 intro j hj0 K hK hE hR
 by_cases hj : j < a.effects.length
 ·obtain ⟨e, hxj⟩ := get_ex hj; have hltj : ((j : Int) < (a.effects.length : Int)) := (by omega); have hwj := wrapS (i := j) (by omega)
  obtain ⟨e1, e2, e3⟩ := he e (List.mem_of_getElem? hxj)
  have e4 : e.lit.fact.toNat < n := by omega
  have e5 : e.lit.fact.toNat + 1 ≤ n := by omega
  cases hng : e.lit.neg
  ·simp only [go_sem, simprocAttr, hltj, hxj, encE, hng]
   have hc : (genB n fun i => s.contains (i : Int) && !hits s true (a.effects.take (j + 1)) i) = genB n fun i => s.contains (i : Int) && !hits s true (a.effects.take j) i := genB_cong fun i hi => by
    rw [hits_succ hxj, hng]; simp
   refine hK _ _ (j + 1) (by omega) (by omega) ?_
   (try dsimp only); simp only [hwj, hc]; first | exact ghL (hs1 _) | exact ghL0 (hs1 _)
  ·simp only [go_sem, simprocAttr, hltj, hxj, encE, hng]
   refine (holds02_spec s e.when_ tok .unk _ (by omega) (by omega)).is ?_
   cases hh : condHolds s e.when_
   ·simp only [go_sem, simprocAttr]
    have hc : (genB n fun i => s.contains (i : Int) && !hits s true (a.effects.take (j + 1)) i) = genB n fun i => s.contains (i : Int) && !hits s true (a.effects.take j) i := genB_cong fun i hi => by
     rw [hits_succ hxj, hng, hh]; simp
    refine hK _ _ (j + 1) (by omega) (by omega) ?_
    (try dsimp only); simp only [hwj, hc]; first | exact ghL (hs1 _) | exact ghL0 (hs1 _)
   ·simp only [go_sem, simprocAttr, e2, e4, genB_len, e5, bset, genB_set]
    have hc : (genB n fun i => s.contains (i : Int) && !hits s true (a.effects.take (j + 1)) i) = genB n (fun i => if i = e.lit.fact.toNat then false else s.contains (i : Int) && !hits s true (a.effects.take j) i) := genB_cong fun i hi => by
     rw [hits_succ hxj, hng, hh]
     by_cases q : i = e.lit.fact.toNat
     ·have : (e.lit.fact == (i : Int)) = true := by simp; omega
      rw [if_pos q, this]; simp
     ·have : (e.lit.fact == (i : Int)) = false := by simp; omega
      rw [if_neg q, this]; simp
    refine hK _ _ (j + 1) (by omega) (by omega) ?_
    (try dsimp only); simp only [hwj, hc]; first | exact ghL (hs1 _) | exact ghL0 (hs1 _)
 ·have hltj : ¬ ((j : Int) < (a.effects.length : Int)) := by omega
  have hje : j = a.effects.length := by omega
  subst hje
  simp only [go_sem, simprocAttr, hltj, hE, hk, ha, encA, encTask]
  clear hK hE hR
  refine wpc_while (fun (j : Nat) => [(1, .slice tok (s.map Ahl.encI)), (7, .ref (σ.length + 1) 1 0 n), (48, .slice .unk (a.effects.map encE)), (49, .int .i64 a.effects.length), (50, .int .i64 j)])
   (fun j => σ ++ [.row (encTask t), .row ((genB n fun i => hits s false (a.effects.take j) i || (s.contains (i : Int) && !hits s true a.effects i)).map ab)]) (fun j => j ≤ a.effects.length) (fun j => a.effects.length - j) 0 (Nat.zero_le _) (by (try dsimp only); simp only [List.take_zero, List.take_length]; have hz : ∀ i, hits s false [] i = false := (fun i => rfl); simp only [hz, Bool.false_or]; first | exact ghL (hs1 _) | exact ghL0 (hs1 _)) ?_
  intro j hj0 K hK hE hR
  by_cases hj : j < a.effects.length
  ·obtain ⟨e, hxj⟩ := get_ex hj; have hltj : ((j : Int) < (a.effects.length : Int)) := (by omega); have hwj := wrapS (i := j) (by omega)
   obtain ⟨e1, e2, e3⟩ := he e (List.mem_of_getElem? hxj)
   have e4 : e.lit.fact.toNat < n := by omega
   have e5 : e.lit.fact.toNat + 1 ≤ n := by omega
   cases hng : e.lit.neg
   ·simp only [go_sem, simprocAttr, hltj, hxj, encE, hng]
    refine (holds02_spec s e.when_ tok .unk _ (by omega) (by omega)).is ?_
    cases hh : condHolds s e.when_
    ·simp only [go_sem, simprocAttr]
     have hc : (genB n fun i => hits s false (a.effects.take (j + 1)) i || (s.contains (i : Int) && !hits s true a.effects i)) = genB n fun i => hits s false (a.effects.take j) i || (s.contains (i : Int) && !hits s true a.effects i) := genB_cong fun i hi => by
      rw [hits_succ hxj, hng, hh]; simp
     refine hK _ _ (j + 1) (by omega) (by omega) ?_
     (try dsimp only); simp only [hwj, hc]; first | exact ghL (hs1 _) | exact ghL0 (hs1 _)
    ·simp only [go_sem, simprocAttr, e2, e4, genB_len, e5, bset, genB_set]
     have hc : (genB n fun i => hits s false (a.effects.take (j + 1)) i || (s.contains (i : Int) && !hits s true a.effects i)) = genB n (fun i => if i = e.lit.fact.toNat then true else hits s false (a.effects.take j) i || (s.contains (i : Int) && !hits s true a.effects i)) := genB_cong fun i hi => by
      rw [hits_succ hxj, hng, hh]
      by_cases q : i = e.lit.fact.toNat
      ·have : (e.lit.fact == (i : Int)) = true := by simp; omega
       rw [if_pos q, this]; simp
      ·have : (e.lit.fact == (i : Int)) = false := by simp; omega
       rw [if_neg q, this]; simp
     refine hK _ _ (j + 1) (by omega) (by omega) ?_
     (try dsimp only); simp only [hwj, hc]; first | exact ghL (hs1 _) | exact ghL0 (hs1 _)
   ·simp only [go_sem, simprocAttr, hltj, hxj, encE, hng]
    have hc : (genB n fun i => hits s false (a.effects.take (j + 1)) i || (s.contains (i : Int) && !hits s true a.effects i)) = genB n fun i => hits s false (a.effects.take j) i || (s.contains (i : Int) && !hits s true a.effects i) := genB_cong fun i hi => by
     rw [hits_succ hxj, hng]; simp
    refine hK _ _ (j + 1) (by omega) (by omega) ?_
    (try dsimp only); simp only [hwj, hc]; first | exact ghL (hs1 _) | exact ghL0 (hs1 _)
  ·have hltj : ¬ ((j : Int) < (a.effects.length : Int)) := by omega
   have hje : j = a.effects.length := by omega
   subst hje
   rw [List.take_length]
   simp only [go_sem, simprocAttr, hltj, hE]
   have hL := listed_spec (σ.length + 1) (afterB n s a) (σ ++ [.row (encTask t), .row ((afterB n s a).map ab)]) (by rw [g_get]; rfl) (by rw [afterB, genB_len]; exact hn)
   rw [afterB, genB_len] at hL
   refine ACalls.is hL ?_
   simp only [go_sem, simprocAttr]
   exact rt (.slice .unk ((afterL n s a).map Ahl.encI)) ⟨rfl, rfl⟩
end Go.Proofs.YtpabiedjneognaaGreatDoor
namespace Go.Proofs.YtpabiedjneognaaGreatDoor
open Go.Ahl
theorem listB_mem : ∀ (w : List Bool) (k : Nat) (x : Int), x ∈ listB k w ↔ ∃ j : Nat, x = ((k + j : Nat) : Int) ∧ w[j]? = some true
 | [], k, x => by simp [listB]
 | b :: w, k, x => by
  have ih := listB_mem w (k + 1) x
  have key : x ∈ listB (k + 1) w ↔ ∃ j : Nat, x = ((k + (j + 1) : Nat) : Int) ∧ (b :: w)[j + 1]? = some true := by
   rw [ih]
   constructor
   ·rintro ⟨j, h1, h2⟩; exact ⟨j, by rw [h1]; omega, by simpa using h2⟩
   ·rintro ⟨j, h1, h2⟩; exact ⟨j, by rw [h1]; omega, by simpa using h2⟩
  rw [listB]
  split
  ·rename_i hb
   rw [List.mem_cons, key]
   constructor
   ·rintro (rfl | ⟨j, h1, h2⟩)
    ·exact ⟨0, by simp, by simp [hb]⟩
    ·exact ⟨j + 1, h1, h2⟩
   ·rintro ⟨j, h1, h2⟩
    cases j with
    | zero => left; simpa using h1
    | succ j => right; exact ⟨j, h1, h2⟩
  ·rename_i hb
   rw [key]
   constructor
   ·rintro ⟨j, h1, h2⟩; exact ⟨j + 1, h1, h2⟩
   ·rintro ⟨j, h1, h2⟩
    cases j with
    | zero => simp at h2; exact absurd h2 hb
    | succ j => exact ⟨j, h1, h2⟩
theorem listB_rising (n : Int) : ∀ (w : List Bool) (k : Nat) (p : Int), p < k → (k : Int) + w.length ≤ n → risingB n p (listB k w) = true
 | [], k, p, h, hn => rfl
 | b :: w, k, p, h, hn => by
  rw [List.length_cons] at hn
  rw [listB]
  split
  ·rw [risingB, Bool.and_eq_true, Bool.and_eq_true]
   exact ⟨⟨by simpa using h, by simp; omega⟩, listB_rising n w (k + 1) k (by omega) (by omega)⟩
  ·exact listB_rising n w (k + 1) p (by omega) (by omega)
theorem foldI_mem (p : FEff → Bool) (x : Int) : ∀ (es : List FEff) (l : List Int), x ∈ es.foldl (fun l e => if p e then insI l e.lit.fact else l) l ↔ x ∈ l ∨ ∃ e ∈ es, p e = true ∧ e.lit.fact = x
 | [], l => by simp
 | e :: es, l => by
  rw [List.foldl_cons, foldI_mem p x es]
  constructor
  ·rintro (h | ⟨e', he, h⟩)
   ·split at h
    ·rcases insI_mem.1 h with h | rfl
     ·exact .inl h
     ·exact .inr ⟨e, List.mem_cons_self, ‹_›, rfl⟩
    ·exact .inl h
   ·exact .inr ⟨e', List.mem_cons_of_mem _ he, h⟩
  ·rintro (h | ⟨e', he, h1, h2⟩)
   ·left; split
    ·exact insI_mem.2 (.inl h)
    ·exact h
   ·rcases List.mem_cons.1 he with rfl | he
    ·left; rw [if_pos h1]; exact insI_mem.2 (.inr h2.symm)
    ·exact .inr ⟨e', he, h1, h2⟩
theorem foldI_nodup (p : FEff → Bool) : ∀ (es : List FEff) (l : List Int), l.Nodup → (es.foldl (fun l e => if p e then insI l e.lit.fact else l) l).Nodup
 | [], l, h => h
 | e :: es, l, h => by
  rw [List.foldl_cons]
  refine foldI_nodup p es _ ?_
  split
  ·exact insI_nodup h
  ·exact h
theorem hits_iff (s : List Int) (neg : Bool) (es : List FEff) (i : Nat) : hits s neg es i = true ↔ ∃ e ∈ es, condHolds s e.when_ = true ∧ e.lit.neg = neg ∧ e.lit.fact = (i : Int) := by
 unfold hits
 rw [List.any_eq_true]
 constructor
 ·rintro ⟨e, he, h⟩
  simp only [Bool.and_eq_true, beq_iff_eq] at h
  exact ⟨e, he, h.2.2, h.1, h.2.1⟩
 ·rintro ⟨e, he, h1, h2, h3⟩
  exact ⟨e, he, by simp [h1, h2, h3]⟩
theorem addOf_mem {s : List Int} {es : List FEff} {i : Nat} : (i : Int) ∈ addOf s es ↔ hits s false es i = true := by
 rw [hits_iff, addOf, foldI_mem]
 simp only [List.not_mem_nil, false_or, Bool.and_eq_true, Bool.not_eq_true']
 constructor
 ·rintro ⟨e, h, ⟨h1, h2⟩, h3⟩; exact ⟨e, h, h1, h2, h3⟩
 ·rintro ⟨e, h, h1, h2, h3⟩; exact ⟨e, h, ⟨h1, h2⟩, h3⟩
theorem dropOf_mem {s : List Int} {es : List FEff} {i : Nat} : (i : Int) ∈ dropOf s es ↔ hits s true es i = true := by
 rw [hits_iff, dropOf, foldI_mem]
 simp only [List.not_mem_nil, false_or, Bool.and_eq_true]
 constructor
 ·rintro ⟨e, h, ⟨h1, h2⟩, h3⟩; exact ⟨e, h, h1, h2, h3⟩
 ·rintro ⟨e, h, h1, h2, h3⟩; exact ⟨e, h, ⟨h1, h2⟩, h3⟩
theorem afterL_rising (n : Nat) (s : List Int) (a : FAct) : risingB n (-1) (afterL n s a) = true := listB_rising n (afterB n s a) 0 (-1) (by omega) (by rw [afterB, genB_len]; omega)
theorem afterL_mem {n : Nat} {s : List Int} {a : FAct} {i : Nat} : (i : Int) ∈ afterL n s a ↔ i < n ∧ (hits s false a.effects i = true ∨ ((i : Int) ∈ s ∧ ¬ hits s true a.effects i = true)) := by
 rw [afterL, listB_mem]
 constructor
 ·rintro ⟨j, h1, h2⟩
  obtain rfl : j = i := by omega
  have hl := lt_of_get h2
  rw [afterB, genB_len] at hl
  rw [afterB, genB_get hl] at h2
  simp only [Option.some.injEq, Bool.or_eq_true, Bool.and_eq_true, Bool.not_eq_true'] at h2
  refine ⟨hl, ?_⟩
  rcases h2 with h2 | ⟨h2, h3⟩
  ·exact .inl h2
  ·exact .inr ⟨List.contains_iff_mem.1 h2, by rw [h3]; simp⟩
 ·rintro ⟨h1, h2⟩
  refine ⟨i, by simp, ?_⟩
  rw [afterB, genB_get h1]
  simp only [Option.some.injEq, Bool.or_eq_true, Bool.and_eq_true, Bool.not_eq_true']
  rcases h2 with h2 | ⟨h2, h3⟩
  ·exact .inl h2
  ·exact .inr ⟨List.contains_iff_mem.2 h2, by simpa using h3⟩
theorem afterS_eq {n : Nat} {s : List Int} {a : FAct} (hs : risingB n (-1) s = true) (he : ∀ e ∈ a.effects, 0 ≤ e.lit.fact ∧ e.lit.fact < n) : afterS s a.effects = afterL n s a := by
 obtain ⟨hp, hb⟩ := rising_pw hs
 have hadd : ∀ x ∈ addOf s a.effects, 0 ≤ x ∧ x < n := by
  intro x hx
  rw [addOf, foldI_mem] at hx
  rcases hx with hx | ⟨e, h, _, rfl⟩
  ·simp at hx
  ·exact he e h
 have hr := rising_pw (afterL_rising n s a)
 refine sortI_eq ?_ (hr.1.imp (fun h => by omega))
 have hnd : (s.filter (stayS s a.effects) ++ (addOf s a.effects).filter fun x => !(s.contains x)).Nodup := by
  rw [List.nodup_append]
  refine ⟨(hp.imp (fun h => by omega)).filter _, (foldI_nodup _ _ _ .nil).filter _, ?_⟩
  rintro x hx _ hy rfl
  have h1 := (List.mem_filter.1 hx).1
  have h2 := (List.mem_filter.1 hy).2
  rw [List.contains_iff_mem.2 h1] at h2; simp at h2
 rw [List.perm_ext_iff_of_nodup (hr.1.imp (fun h => by omega)) hnd]
 intro x
 have hx0 : (x ∈ afterL n s a → 0 ≤ x) := fun h => by have := (hr.2 x h).1; omega
 by_cases h0 : 0 ≤ x
 ·obtain ⟨i, rfl⟩ : ∃ i : Nat, x = (i : Int) := ⟨x.toNat, by omega⟩
  rw [afterL_mem, List.mem_append, List.mem_filter, List.mem_filter, ← addOf_mem, ← dropOf_mem]
  have hst : stayS s a.effects (i : Int) = true ↔ ¬ (i : Int) ∈ dropOf s a.effects ∨ (i : Int) ∈ addOf s a.effects := by
   unfold stayS; simp
  rw [hst]
  have hsb : (i : Int) ∈ s → i < n := fun h => by have := (hb _ h).2; omega
  have hab : (i : Int) ∈ addOf s a.effects → i < n := fun h => by have := (hadd _ h).2; omega
  have hc : (!(s.contains (i : Int))) = true ↔ ¬ (i : Int) ∈ s := by simp
  rw [hc]
  constructor
  ·rintro ⟨h1, h2 | ⟨h2, h3⟩⟩
   ·by_cases h4 : (i : Int) ∈ s
    ·exact .inl ⟨h4, .inr h2⟩
    ·exact .inr ⟨h2, h4⟩
   ·exact .inl ⟨h2, .inl h3⟩
  ·rintro (⟨h1, h2⟩ | ⟨h1, h2⟩)
   ·refine ⟨hsb h1, ?_⟩
    by_cases h3 : (i : Int) ∈ addOf s a.effects
    ·exact .inl h3
    ·exact .inr ⟨h1, h2.resolve_right h3⟩
   ·exact ⟨hab h1, .inl h1⟩
 ·constructor
  ·intro h; exact absurd (hx0 h) h0
  ·intro h
   rcases List.mem_append.1 h with h | h
   ·have := (hb x (List.mem_filter.1 h).1).1; omega
   ·have := (hadd x (List.mem_filter.1 h).1).1; omega
section
variable {α : Type} (ini : α → Bool) (K : List α → α → Bool)
end
end Go.Proofs.YtpabiedjneognaaGreatDoor
namespace Go.Proofs.YtpabiedjneognaaGreatDoor
open Go.Ahl
section
variable (L : Int → Int → Bool)
def bkLoop (rec : List Int → List Int → List Int → List (List Int)) (g : List Int) : List Int → List Int → List (List Int)
 | [], _ => []
 | x :: r, tried => rec (g ++ [x]) (r.filter (L x)) (tried.filter (L x)) ++ bkLoop rec g r (tried ++ [x])
def bkHead (g may tried : List Int) : List (List Int) := if may.length = 0 ∧ tried.length = 0 ∧ 1 < g.length then [Ahl.sortI g] else []
def bk : Nat → List Int → List Int → List Int → List (List Int)
 | 0, _, _, _ => []
 | f + 1, g, may, tried => bkHead g may tried ++ bkLoop L (bk f) g may tried
variable {L}
end
def cmpInts : List Int → List Int → Int
 | [], [] => 0
 | [], _ :: _ => -1
 | _ :: _, [] => 1
 | a :: l, b :: r => if a < b then -1 else if b < a then 1 else cmpInts l r
theorem cmpInts_refl : ∀ a, cmpInts a a = 0
 | [] => rfl
 | x :: l => by rw [cmpInts, if_neg (by omega), if_neg (by omega), cmpInts_refl l]
theorem cmpInts_anti : ∀ {a b : List Int}, cmpInts a b = 0 → a = b
 | [], [], _ => rfl
 | [], _ :: _, h => by simp [cmpInts] at h
 | _ :: _, [], h => by simp [cmpInts] at h
 | x :: l, y :: r, h => by
  rw [cmpInts] at h
  split at h
  ·omega
  ·split at h
   ·omega
   ·rw [cmpInts_anti h]; congr 1; omega
theorem cmpInts_swap : ∀ {a b : List Int}, cmpInts a b < 0 ↔ 0 < cmpInts b a
 | [], [] => by simp [cmpInts]
 | [], _ :: _ => by simp [cmpInts]
 | _ :: _, [] => by simp [cmpInts]
 | x :: l, y :: r => by
  rw [cmpInts, cmpInts]
  by_cases h1 : x < y
  ·rw [if_pos h1, if_neg (by omega), if_pos h1]; omega
  ·rw [if_neg h1]
   by_cases h2 : y < x
   ·rw [if_pos h2, if_pos h2]; omega
   ·rw [if_neg h2, if_neg h2, if_neg h1]; exact cmpInts_swap
theorem cmpInts_trans : ∀ {a b c : List Int}, cmpInts a b < 0 → cmpInts b c < 0 → cmpInts a c < 0
 | [], [], _, h, _ => by simp [cmpInts] at h
 | [], _ :: _, [], _, k => by simp [cmpInts] at k
 | [], _ :: _, _ :: _, _, _ => by simp [cmpInts]
 | _ :: _, [], _, h, _ => by simp [cmpInts] at h
 | _ :: _, _ :: _, [], _, k => by simp [cmpInts] at k
 | x :: l, y :: r, z :: t, h, k => by
  rw [cmpInts] at h k ⊢
  by_cases h1 : x < y
  ·by_cases k1 : y < z
   ·rw [if_pos (by omega)]; omega
   ·rw [if_neg k1] at k
    by_cases k2 : z < y
    ·rw [if_pos k2] at k; omega
    ·rw [if_pos (by omega)]; omega
  ·rw [if_neg h1] at h
   by_cases h2 : y < x
   ·rw [if_pos h2] at h; omega
   ·rw [if_neg h2] at h
    by_cases k1 : y < z
    ·rw [if_pos (by omega)]; omega
    ·rw [if_neg k1] at k
     by_cases k2 : z < y
     ·rw [if_pos k2] at k; omega
     ·rw [if_neg k2] at k
      rw [if_neg (by omega), if_neg (by omega)]; exact cmpInts_trans h k
def ltL (a b : List Int) : Prop := cmpInts a b < 0
theorem ltL_irrefl (a : List Int) : ¬ ltL a a := by unfold ltL; rw [cmpInts_refl]; omega
theorem ltL_unique : ∀ {a b : List (List Int)}, a.Pairwise ltL → b.Pairwise ltL → (∀ x, x ∈ a ↔ x ∈ b) → a = b
 | [], [], _, _, _ => rfl
 | [], y :: b, _, _, h => by have := (h y).2 List.mem_cons_self; simp at this
 | x :: a, [], _, _, h => by have := (h x).1 List.mem_cons_self; simp at this
 | x :: a, y :: b, ha, hb, h => by
  obtain ⟨ha1, ha2⟩ := List.pairwise_cons.1 ha
  obtain ⟨hb1, hb2⟩ := List.pairwise_cons.1 hb
  have hxy : x = y := by
   rcases List.mem_cons.1 ((h x).1 List.mem_cons_self) with e | e
   ·exact e
   ·rcases List.mem_cons.1 ((h y).2 List.mem_cons_self) with e' | e'
    ·exact e'.symm
    ·exact absurd (cmpInts_trans (hb1 x e) (ha1 y e')) (ltL_irrefl y)
  subst hxy
  rw [ltL_unique ha2 hb2 fun z => ?_]
  constructor
  ·intro hz
   rcases List.mem_cons.1 ((h z).1 (List.mem_cons_of_mem _ hz)) with rfl | e
   ·exact absurd (ha1 z hz) (ltL_irrefl z)
   ·exact e
  ·intro hz
   rcases List.mem_cons.1 ((h z).2 (List.mem_cons_of_mem _ hz)) with rfl | e
   ·exact absurd (hb1 z hz) (ltL_irrefl z)
   ·exact e
end Go.Proofs.YtpabiedjneognaaGreatDoor
namespace Go.Proofs
open Go.Shelf Go.RowKit Go.Lib Go.Sort
def YtpabiedjneognaaGreatDoor.laysLL_ren : Go.Shelf.Ren := ⟨fun | 6 => 89 | 15 => 92 | 14 => 106 | 28 => 115 | 29 => 116 | 20 => 128 | 21 => 129 | 22 => 130 | 23 => 131 | 24 => 132 | 25 => 133 | 26 => 134 | 27 => 135 | 46 => 156 | 47 => 137 | 48 => 138 | 49 => 157 | 50 => 158 | 57 => 168 | n => n, fun | 22 => 37 | 24 => 23 | 25 => 122 | 3 => 3 | 39 => 158 | 0 => 0 | 53 => 180 | 55 => 182 | 4 => 4 | 46 => 174 | 45 => 173 | 50 => 95 | 5 => 5 | 9 => 9 | 66 => 194 | 70 => 198 | 76 => 212 | 77 => 115 | n => n, fun | n => n⟩
theorem YtpabiedjneognaaGreatDoor.laysLL : Go.Proofs.SlLaysF.n6 Tryz.prog YtpabiedjneognaaGreatDoor.laysLL_ren := {
 mixed := by kernel_rfl
 f6 := ⟨Tryz.f89.name, by decide, Tryz.func89.trans (congrArg some (by kernel_rfl))⟩
 f14 := ⟨Tryz.f106.name, by decide, Tryz.func106.trans (congrArg some (by kernel_rfl))⟩
 f15 := Tryz.func92.trans (congrArg some (by kernel_rfl))
 f20 := ⟨Tryz.f128.name, by decide, Tryz.func128.trans (congrArg some (by kernel_rfl))⟩
 f21 := ⟨Tryz.f129.name, by decide, Tryz.func129.trans (congrArg some (by kernel_rfl))⟩
 f22 := ⟨Tryz.f130.name, by decide, Tryz.func130.trans (congrArg some (by kernel_rfl))⟩
 f23 := ⟨Tryz.f131.name, by decide, Tryz.func131.trans (congrArg some (by kernel_rfl))⟩
 f24 := ⟨Tryz.f132.name, by decide, Tryz.func132.trans (congrArg some (by kernel_rfl))⟩
 f25 := ⟨Tryz.f133.name, by decide, Tryz.func133.trans (congrArg some (by kernel_rfl))⟩
 f26 := ⟨Tryz.f134.name, by decide, Tryz.func134.trans (congrArg some (by kernel_rfl))⟩
 f27 := ⟨Tryz.f135.name, by decide, Tryz.func135.trans (congrArg some (by kernel_rfl))⟩
 f28 := Tryz.func115.trans (congrArg some (by kernel_rfl))
 f29 := Tryz.func116.trans (congrArg some (by kernel_rfl))
 f46 := ⟨Tryz.f156.name, by decide, Tryz.func156.trans (congrArg some (by kernel_rfl))⟩
 f47 := Tryz.func137.trans (congrArg some (by kernel_rfl))
 f48 := Tryz.func138.trans (congrArg some (by kernel_rfl))
 f49 := ⟨Tryz.f157.name, by decide, Tryz.func157.trans (congrArg some (by kernel_rfl))⟩
 f50 := ⟨Tryz.f158.name, by decide, Tryz.func158.trans (congrArg some (by kernel_rfl))⟩
 f57 := ⟨Tryz.f168.name, by decide, Tryz.func168.trans (congrArg some (by kernel_rfl))⟩
 t0 := Tryz.underlying0
 a0 := Tryz.isAgg0
 z0 := Tryz.sizeOf0
 v0 := Tryz.zeroValue0
 t3 := Tryz.underlying3
 a3 := Tryz.isAgg3
 z3 := Tryz.sizeOf3
 v3 := Tryz.zeroValue3
 t4 := Tryz.underlying4
 a4 := Tryz.isAgg4
 z4 := Tryz.sizeOf4
 v4 := Tryz.zeroValue4
 t5 := Tryz.underlying5
 a5 := Tryz.isAgg5
 z5 := Tryz.sizeOf5
 v5 := Tryz.zeroValue5
 t9 := Tryz.underlying9
 a9 := Tryz.isAgg9
 z9 := Tryz.sizeOf9
 v9 := Tryz.zeroValue9
 t22 := Tryz.underlying37
 a22 := Tryz.isAgg37
 z22 := Tryz.sizeOf37
 v22 := Tryz.zeroValue37
 a24 := Tryz.isAgg23
 z24 := Tryz.sizeOf23
 t25 := Tryz.underlying122
 a25 := Tryz.isAgg122
 z25 := Tryz.sizeOf122
 v25 := Tryz.zeroValue122
 t39 := Tryz.underlying158
 a39 := Tryz.isAgg158
 z39 := Tryz.sizeOf158
 v39 := Tryz.zeroValue158
 t45 := Tryz.underlying173
 a45 := Tryz.isAgg173
 z45 := Tryz.sizeOf173
 v45 := Tryz.zeroValue173
 t46 := Tryz.underlying174
 a46 := Tryz.isAgg174
 z46 := Tryz.sizeOf174
 v46 := Tryz.zeroValue174
 t50 := Tryz.underlying95
 a50 := Tryz.isAgg95
 z50 := Tryz.sizeOf95
 v50 := Tryz.zeroValue95
 t53 := Tryz.underlying180
 a53 := Tryz.isAgg180
 z53 := Tryz.sizeOf180
 v53 := Tryz.zeroValue180
 t55 := Tryz.underlying182
 a55 := Tryz.isAgg182
 z55 := Tryz.sizeOf182
 v55 := Tryz.zeroValue182
 t66 := Tryz.underlying194
 a66 := Tryz.isAgg194
 z66 := Tryz.sizeOf194
 v66 := Tryz.zeroValue194
 t70 := Tryz.underlying198
 a70 := Tryz.isAgg198
 z70 := Tryz.sizeOf198
 v70 := Tryz.zeroValue198
 t76 := Tryz.underlying212
 a76 := Tryz.isAgg212
 z76 := Tryz.sizeOf212
 v76 := Tryz.zeroValue212
 t77 := Tryz.underlying115
 a77 := Tryz.isAgg115
 z77 := Tryz.sizeOf115
 v77 := Tryz.zeroValue115 }
end Go.Proofs
namespace Go.Proofs.YtpabiedjneognaaGreatDoor
open Go.Ahl
def c_cmpI : CCode := .seq (.ops [oS 4 (.move (.lit (.int .i64 0)))]) (.seq (.ops [oS 7 (.move (.tmp 0)), oS 8 (.call (.lit (.func 141 [])) [.tmp 7]), oS 5 (.move (.tmp 8))]) (.seq (.ops [oS 9 (.move (.tmp 1)), oS 10 (.call (.lit (.func 141 [])) [.tmp 9]), oS 6 (.move (.tmp 10))]) (.seq (.seq (.ops [oS 11 (.move (.tmp 5))]) (.cond (.tmp 11) (.seq (.seq (.ops [oS 12 (.move (.tmp 6))]) (.cond (.tmp 12) (.seq (.ops [oS 4 (.move (.lit (.int .i64 0)))]) .ret) .skip)) (.seq (.ops [oS 4 (.move (.lit (.int .i64 (-1))))]) .ret)) .skip)) (.seq (.seq (.ops [oS 13 (.move (.tmp 6))]) (.cond (.tmp 13) (.seq (.ops [oS 4 (.move (.lit (.int .i64 1)))]) .ret) .skip)) (.seq (.seq (.ops [oS 14 (.move (.tmp 0)), oS 15 (.move (.tmp 1)), oS 16 (.bin .lss .none (.tmp 14) (.tmp 15))]) (.cond (.tmp 16) (.seq (.ops [oS 4 (.move (.lit (.int .i64 (-1))))]) .ret) .skip)) (.seq (.seq (.ops [oS 17 (.move (.tmp 0)), oS 18 (.move (.tmp 1)), oS 19 (.bin .gtr .none (.tmp 17) (.tmp 18))]) (.cond (.tmp 19) (.seq (.ops [oS 4 (.move (.lit (.int .i64 1)))]) .ret) .skip)) (.seq (.ops [oS 4 (.move (.lit (.int .i64 0)))]) .ret)))))))
theorem cmpI_spec (x y : Int) (σ : Store) : ACalls Tryz.prog 117 [.int .i64 x, .int .i64 y] σ (isR (.int .i64 (if x < y then -1 else if y < x then 1 else 0)) σ) := by
 refine ACalls.intro (rs := [(.tmp 4)]) (by kernel_rfl) { own := [], ghosts := [] } Tryz.func117 (c := Tryz.f117.body.getD .skip) (by kernel_rfl) (by decide) (by rw [show Tryz.f117.ntmps = 20 by kernel_rfl]; exact Nat.le_of_ble_eq_true rfl) (by kernel_rfl) ?_
 intro hσ hids
 rw [show comp Tryz.prog { own := [], ghosts := [] } (Tryz.f117.body.getD .skip) = c_cmpI by kernel_rfl, show Tryz.f117.ntmps = 20 by kernel_rfl]
 unfold c_cmpI
 simp only [go_sem, simprocAttr]
 refine (cNaN_spec x σ).is ?_
 simp only [go_sem, simprocAttr]
 refine (cNaN_spec y σ).is ?_
 simp only [go_sem, simprocAttr]
 by_cases h1 : x < y
 ·simp only [go_sem, simprocAttr, h1]
  exact rt (.int .i64 (-1)) ⟨rfl, rfl⟩
 ·by_cases h2 : x > y
  ·simp only [go_sem, simprocAttr, h1, h2]
   exact rt (.int .i64 1) ⟨rfl, rfl⟩
  ·simp only [go_sem, simprocAttr, h1, h2]
   exact rt (.int .i64 0) ⟨rfl, rfl⟩
def c_slCmp : CCode := .seq (.ops [oS 4 (.move (.lit (.int .i64 0)))]) (.seq (.seq (.ops [oS 9 (.move (.tmp 0)), oS 10 (.blen 1 (.tmp 9)), oS 11 (.move (.lit (.int .i64 0)))]) (.block 0 (.loop (.seq (.ops [oS 12 (.bin .lss .none (.tmp 11) (.tmp 10))]) (.seq (.cond (.tmp 12) .skip (.exit 0)) (.seq (.block 1 (.seq (.ops [oS 13 (.move (.tmp 11)), oS 14 (.iaddr 1 (.tmp 9) (.tmp 11)), oS 15 (.load none (.tmp 14)), oS 5 (.move (.tmp 13)), oS 6 (.move (.tmp 15))]) (.seq (.seq (.ops [oS 16 (.move (.tmp 5)), oS 17 (.move (.tmp 1)), oS 18 (.blen 1 (.tmp 17)), oS 19 (.bin .geq .none (.tmp 16) (.tmp 18))]) (.cond (.tmp 19) (.seq (.ops [oS 4 (.move (.lit (.int .i64 1)))]) .ret) .skip)) (.seq (.ops [oS 20 (.move (.tmp 1)), oS 21 (.move (.tmp 5)), oS 22 (.iaddr 1 (.tmp 20) (.tmp 21)), oS 23 (.load none (.tmp 22)), oS 7 (.move (.tmp 23))]) (.seq (.ops [oS 24 (.move (.tmp 6)), oS 25 (.move (.tmp 7)), oS 26 (.call (.lit (.func 117 [])) [.tmp 24, .tmp 25]), oS 8 (.move (.tmp 26))]) (.seq (.ops [oS 27 (.move (.tmp 8)), oS 28 (.bin .neq .none (.tmp 27) (.lit (.int .i64 0)))]) (.cond (.tmp 28) (.seq (.ops [oS 29 (.move (.tmp 8)), oS 4 (.move (.tmp 29))]) .ret) .skip))))))) (.ops [oS 30 (.bin .add .none (.tmp 11) (.lit (.int .i64 1))), oS 11 (.move (.tmp 30))]))))))) (.seq (.seq (.ops [oS 31 (.move (.tmp 0)), oS 32 (.blen 1 (.tmp 31)), oS 33 (.move (.tmp 1)), oS 34 (.blen 1 (.tmp 33)), oS 35 (.bin .lss .none (.tmp 32) (.tmp 34))]) (.cond (.tmp 35) (.seq (.ops [oS 4 (.move (.lit (.int .i64 (-1))))]) .ret) .skip)) (.seq (.ops [oS 4 (.move (.lit (.int .i64 0)))]) .ret)))
theorem slCmp_spec (l m : List Int) (tok tok' : Tok) (σ : Store) (hl : l.length ≤ 140737488355328) (hm : m.length ≤ 140737488355328) :
  ACalls Tryz.prog 93 [.slice tok (l.map Ahl.encI), .slice tok' (m.map Ahl.encI)] σ (isR (.int .i64 (cmpInts l m)) σ) := by
 refine ACalls.intro (rs := [(.tmp 4)]) (by kernel_rfl) { own := [], ghosts := [] } Tryz.func93 (c := Tryz.f93.body.getD .skip) (by kernel_rfl) (by decide) (by rw [show Tryz.f93.ntmps = 36 by kernel_rfl]; exact Nat.le_of_ble_eq_true rfl) (by kernel_rfl) ?_
 intro hσ hids
 rw [show comp Tryz.prog { own := [], ghosts := [] } (Tryz.f93.body.getD .skip) = c_slCmp by kernel_rfl, show Tryz.f93.ntmps = 36 by kernel_rfl]
 unfold c_slCmp
 have hil : Ids σ.length (.slice tok (l.map Ahl.encI)) := hids _ (by simp)
 have him : Ids σ.length (.slice tok' (m.map Ahl.encI)) := hids _ (by simp)
 simp only [go_sem, simprocAttr]
 refine wpc_while (fun (i : Nat) => [(0, .slice tok (l.map Ahl.encI)), (1, .slice tok' (m.map Ahl.encI)), (9, .slice tok (l.map Ahl.encI)), (10, .int .i64 l.length), (11, .int .i64 i)]) (fun _ => σ) (fun i => i ≤ l.length ∧ i ≤ m.length ∧ cmpInts l m = cmpInts (l.drop i) (m.drop i)) (fun i => l.length - i) 0 ⟨Nat.zero_le _, Nat.zero_le _, rfl⟩ (by (try dsimp only); exact ghA) ?_
 rintro i ⟨hi, hi2, hv⟩ K hK hE hR
 by_cases h : i < l.length
 ·obtain ⟨x, hx⟩ := get_ex h; have hlt : ((i : Int) < (l.length : Int)) := (by omega); have hw := wrapS (i := i) (by omega)
  by_cases h2 : i < m.length
  ·obtain ⟨y, hy⟩ := get_ex h2
   have hge : ¬ ((i : Int) ≥ (m.length : Int)) := by omega
   rw [drop_cons hx, drop_cons hy, cmpInts] at hv
   simp only [go_sem, simprocAttr, hlt, hge, hx, hy, Ahl.encI]
   refine (cmpI_spec x y σ).is ?_
   by_cases h3 : x < y
   ·rw [if_pos h3] at hv ⊢
    have hne : ((-1 : Int) != 0) = true := rfl
    simp only [go_sem, simprocAttr, hne, hR]
    exact rt (.int .i64 (-1)) ⟨by rw [hv], rfl⟩
   ·by_cases h4 : y < x
    ·rw [if_neg h3, if_pos h4] at hv ⊢
     have hne : ((1 : Int) != 0) = true := rfl
     simp only [go_sem, simprocAttr, hne, hR]
     exact rt (.int .i64 1) ⟨by rw [hv], rfl⟩
    ·rw [if_neg h3, if_neg h4] at hv ⊢
     have hne : ((0 : Int) != 0) = false := rfl
     simp only [go_sem, simprocAttr, hne]
     refine hK _ _ (i + 1) (⟨by omega, by omega, hv⟩) om ?_; (try dsimp only); (try simp only [ hw]); exact ghA
  ·have hge : ((i : Int) ≥ (m.length : Int)) := by omega
   rw [drop_cons hx, drop_len h2] at hv
   simp only [go_sem, simprocAttr, hlt, hge, hx, hR, Ahl.encI]
   exact rt (.int .i64 1) ⟨by rw [hv]; rfl, rfl⟩
 ·have hlt : ¬ ((i : Int) < (l.length : Int)) := by omega
  rw [drop_len h] at hv
  by_cases h2 : (l.length : Int) < (m.length : Int)
  ·obtain ⟨y, hy⟩ := get_ex (show i < m.length by omega)
   rw [drop_cons hy] at hv
   simp only [go_sem, simprocAttr, hlt, hE, h2]
   exact rt (.int .i64 (-1)) ⟨by rw [hv]; rfl, rfl⟩
  ·rw [drop_len (show ¬ i < m.length by omega)] at hv
   simp only [go_sem, simprocAttr, hlt, hE, h2]
   exact rt (.int .i64 0) ⟨by rw [hv]; rfl, rfl⟩
end Go.Proofs.YtpabiedjneognaaGreatDoor
namespace Go.Ahl
theorem own_row (l : Loc) (a b : List AV) : own l (.row a) = own l (.row b) := by cases l <;> rfl
theorem SRel.trunc {m : Mem} {loc : List Loc} {σ : Store} {w : World} (h : SRel m loc σ w) (id k : Nat) {cells : List AV} (hs : σ[id]? = some (.row cells)) : SRel m loc (σ.set id (.row (cells.take k))) w where
 len := by simp [h.len]
 im := h.im
 bs := h.bs
 obj := by
  intro i l o h1 h2
  rcases get_set h2 with ⟨rfl, rfl⟩ | ⟨_, h2⟩
  ·have := h.obj _ l _ h1 hs
   cases l with
   | nowhere => have e : cells = [] := this; subst e; show List.take k [] = []; simp
   | tok sz f => exact this.elim
   | blk b =>
    obtain ⟨arr, t, h1, h2, h3, h4, h5⟩ := this
    exact ⟨arr, t, h1, h2, Nat.le_trans (by rw [List.length_take]; omega) h3, fun j x v e1 e2 => h4 j x v (get_take e1).2 e2, h5⟩
  ·exact h.obj i l o h1 h2
 inj := by
  intro i j l l' o o' b h1 h2 h3 h4 w1 w2
  have fix : ∀ {i : Nat} {l : Loc} {o : AObj}, (σ.set id (.row (cells.take k)))[i]? = some o → own l o = some b → ∃ o2, σ[i]? = some o2 ∧ own l o2 = some b := by
   intro i l o h3 w1
   rcases get_set h3 with ⟨rfl, rfl⟩ | ⟨_, h3⟩
   ·exact ⟨_, hs, by rw [own_row l cells (cells.take k)]; exact w1⟩
   ·exact ⟨_, h3, w1⟩
  obtain ⟨o2, q1, q2⟩ := fix h3 w1
  obtain ⟨o3, q3, q4⟩ := fix h4 w2
  exact h.inj i j l l' o2 o3 b h1 h2 q1 q3 q2 q4
 lt := h.lt
 mp := h.mp
 mpo := by
  intro i l o b h1 h2 w1
  rcases get_set h2 with ⟨rfl, rfl⟩ | ⟨_, h2⟩
  ·exact h.mpo _ l _ b h1 hs (by rw [own_row l cells (cells.take k)]; exact w1)
  ·exact h.mpo i l o b h1 h2 w1
 ok := h.ok
theorem Ghost.trunc {n0 nt : Nat} {s : Slots} {σ : Store} (id k : Nat) {cells : List AV} (hs : σ[id]? = some (.row cells)) : Ghost n0 nt s σ s (σ.set id (.row (cells.take k))) :=
 fun m loc w t _ h1 h2 => ⟨m, loc, h1.trunc id k hs, h2, .refl _ _ _ _⟩
theorem ACalls.to {P : Program} {f : FuncId} {args : List AV} {σ τ : Store} {v : AV} {K : Cont} (h : ACalls P f args σ (isR v τ)) (k : K v τ) : ACalls P f args σ K :=
 h.mono fun r σ' hr => by obtain ⟨rfl, rfl⟩ := hr; exact k
theorem ACalls.ghost {P : Program} {f : FuncId} {args : List AV} {σ τ τ' : Store} {a b : AV} (h : ACalls P f args σ (isR a τ)) (hg : IdsS σ.length σ → Ghost σ.length 1 [(0, a)] τ [(0, b)] τ') : ACalls P f args σ (isR b τ') := by
 intro m loc w vs hs ha
 have key : ∀ v w', ARet loc m w (isR a τ) v w' → ARet loc m w (isR b τ') v w' := by
  rintro v w' ⟨r, σ', m', loc', ⟨rfl, rfl⟩, h2, h3, h4⟩
  have hn : σ.length ≤ loc'.length := by
   have := h4.len (Nat.le_refl _)
   rw [← hs.len]; exact this
  obtain ⟨m2, loc2, g1, g2, g3⟩ := hg hs.ids m' loc' w' #[v] hn h3 ⟨rfl, fun i => by
   cases i with
   | zero => exact h2
   | succ i => exact .any _⟩
  refine ⟨b, τ', m2, loc2, ⟨rfl, rfl⟩, g2.rel 0, g1, ?_⟩
  rw [← hs.len] at g3
  exact h4.trans g3
 rcases h m loc w vs hs ha with ⟨fn, h1, h2, h3, h4⟩ | ⟨v, w', h1, h2⟩
 ·exact .inl ⟨fn, h1, h2, h3, h4.mono fun e w' ⟨v, e1, e2⟩ => ⟨v, e1, key _ _ e2⟩⟩
 ·exact .inr ⟨v, w', h1, key _ _ h2⟩
end Go.Ahl
namespace Go.Ahl
theorem SRel.right {m : Mem} {loc : List Loc} {σ : Store} {w : World} (h : SRel m loc σ w) (n0 sz len : Nat) {b i0 : Nat} {arr : Array Value} {ty : TypeId} (hl : loc[i0]? = some (.blk b)) (h1 : w.heap[b]? = some (.cells arr ty (0, 0))) (h2 : m.bs b = some arr.size)
  (h3 : ∀ o, sz * len ≤ o → m.im b o = none) (hno : ∀ (i : Nat) l o, loc[i]? = some l → σ[i]? = some o → own l o ≠ some b) :
  SRel m (loc ++ [.tok sz fun k => if k = len then some (some b) else none]) (σ ++ [.grow sz len]) w ∧ Ext n0 m loc w m (loc ++ [.tok sz fun k => if k = len then some (some b) else none]) w := by
 have hfl : (fun k => if k = len then some (some b) else none : Nat → Option (Option Nat)) len = some (some b) := by simp
 have hown : ∀ b', own (.tok sz fun k => if k = len then some (some b) else none) (.grow sz len) = some b' → b' = b := by
  intro b' e; simp [own] at e; exact e.symm
 have hnam : ∀ b', Names (loc ++ [.tok sz fun k => if k = len then some (some b) else none]) b' → Names loc b' := by
  intro b' e
  rcases e.app with e | e | ⟨sz', f, k, e, hk⟩
  ·exact e
  ·simp at e
  ·injection e with e1 e2
   subst e2
   simp only at hk
   split at hk
   ·simp at hk; subst hk; exact ⟨i0, .inl hl⟩
   ·simp at hk
 refine ⟨⟨by simp [h.len], h.im, h.bs, ?_, ?_, fun b' e => h.lt b' (hnam b' e), h.mp, ?_, h.ok.names hnam⟩, ⟨rfl, rfl, rfl, Nat.le_refl _, Nat.le_refl _, .refl m, .app _ _ _, fun b' e => .inl (hnam b' e), fun _ _ _ _ => rfl, fun _ _ _ e => .inl e⟩⟩
 ·intro i l o e1 e2
  rcases get_app e1 with e1 | ⟨hi, e1⟩
  ·rcases get_app e2 with e2 | ⟨hi2, e2⟩
   ·exact (h.obj i l o e1 e2).mono (.refl m) (.app _ _ _) (fun _ _ => rfl) (fun _ _ _ => rfl)
   ·have := lt_of_get e1; have := h.len; omega
  ·rcases get_app e2 with e2 | ⟨hi2, e2⟩
   ·have := lt_of_get e2; have := h.len; omega
   ·subst e1; subst e2
    exact ⟨rfl, fun k hk => by show (if k = len then some (some b) else none) = none; rw [if_neg (by omega)], .inr ⟨b, arr, ty, hfl, h1, h2, h3⟩⟩
 ·intro i j l1 l2 o1 o2 b' e1 e2 e3 e4 w1 w2
  rcases get_app e1 with f1 | ⟨hi, f1⟩ <;> rcases get_app e2 with f2 | ⟨hj, f2⟩
  ·rcases get_app e3 with f3 | ⟨hi3, f3⟩
   ·rcases get_app e4 with f4 | ⟨hi4, f4⟩
    ·exact h.inj i j l1 l2 o1 o2 b' f1 f2 f3 f4 w1 w2
    ·have := lt_of_get f2; have := h.len; omega
   ·have := lt_of_get f1; have := h.len; omega
  ·rcases get_app e3 with f3 | ⟨hi3, f3⟩
   ·rcases get_app e4 with f4 | ⟨hi4, f4⟩
    ·have := lt_of_get f4; have := h.len; omega
    ·subst f2; subst f4
     have := hown _ w2; subst this
     exact absurd w1 (hno i l1 o1 f1 f3)
   ·have := lt_of_get f1; have := h.len; omega
  ·rcases get_app e4 with f4 | ⟨hi4, f4⟩
   ·rcases get_app e3 with f3 | ⟨hi3, f3⟩
    ·have := lt_of_get f3; have := h.len; omega
    ·subst f1; subst f3
     have := hown _ w1; subst this
     exact absurd w2 (hno j l2 o2 f2 f4)
   ·have := lt_of_get f2; have := h.len; omega
  ·omega
 ·intro i l o b' e1 e2 w1
  rcases get_app e1 with e1 | ⟨hi, e1⟩
  ·rcases get_app e2 with e2 | ⟨hi2, e2⟩
   ·exact h.mpo i l o b' e1 e2 w1
   ·have := lt_of_get e1; have := h.len; omega
  ·rcases get_app e2 with e2 | ⟨hi2, e2⟩
   ·have := lt_of_get e2; have := h.len; omega
   ·subst e1; subst e2
    have := hown _ w1; subst this
    cases hq : m.mp b' with
    | none => rfl
    | some e => have := h.mp b' e hq; rw [h1] at this; simp at this
end Go.Ahl
namespace Go.Ahl
end Go.Ahl
namespace Go.Ahl
end Go.Ahl
namespace Go.Ahl
end Go.Ahl
namespace Go.Ahl
theorem ret_cN {nt t id n : Nat} {s : Slots} {σ S : Store} {R : Cont} {cells : List AV} (h1 : lk s t = .ptr id 0) (h2 : S[id]? = some (.row cells)) (hn : cells.length = n) (ht : S.take σ.length = σ) (hσ : IdsS σ.length σ)
  (iv : Ids σ.length (.agg cells)) (h : R (.agg cells) σ) : bodyK [.cell (some n) t] σ.length nt R .ret s S := by
 refine ⟨s, S, Ghost.refl _ _ _ _, ?_⟩
 simp only [aRes, h1]
 rw [e_loadN_ptr, h2, rowK_some]
 refine ⟨by omega, ?_⟩
 rw [List.drop_zero, ← hn, List.take_length]
 refine ⟨σ.length, Nat.le_refl _, ?_⟩
 rw [ht]
 exact ⟨hσ, iv, h⟩
end Go.Ahl
namespace Go.Ahl
section
variable {m : Mem} {loc : List Loc} {σ : Store} {w : World}
end
end Go.Ahl
namespace Go.Ahl
def AV.flat : AV → Bool
 | .int .. | .bool _ | .str _ => true
 | _ => false
end Go.Ahl
namespace Go.Ahl
theorem SRel.rewk {m : Mem} {loc : List Loc} {σ : Store} {w : World} (h : SRel m loc σ w) (id : Nat) {xs ys : List AV} (hs : σ[id]? = some (.row xs)) (hw : WkL xs ys) : SRel m loc (σ.set id (.row ys)) w where
 len := by simp [h.len]
 im := h.im
 bs := h.bs
 obj := by
  intro i l o h1 h2
  rcases get_set h2 with ⟨rfl, rfl⟩ | ⟨_, h2⟩
  ·have := h.obj _ l _ h1 hs
   cases l with
   | nowhere =>
    have e : xs = [] := this
    subst e
    cases hw
    exact rfl
   | tok sz f => exact this.elim
   | blk b =>
    obtain ⟨arr, t, h1, h2, h3, h4, h5⟩ := this
    refine ⟨arr, t, h1, h2, by rw [← hw.len]; exact h3, fun j z v e1 e2 => ?_, h5⟩
    obtain ⟨x, q1, q2⟩ := hw.get j z e1
    exact q2 _ _ _ (h4 j x v q1 e2)
  ·exact h.obj i l o h1 h2
 inj := by
  intro i j l l' o o' b h1 h2 h3 h4 w1 w2
  have fix : ∀ {i : Nat} {l : Loc} {o : AObj}, (σ.set id (.row ys))[i]? = some o → own l o = some b → ∃ o2, σ[i]? = some o2 ∧ own l o2 = some b := by
   intro i l o h3 w1
   rcases get_set h3 with ⟨rfl, rfl⟩ | ⟨_, h3⟩
   ·exact ⟨_, hs, by rw [own_row l xs ys]; exact w1⟩
   ·exact ⟨_, h3, w1⟩
  obtain ⟨o2, q1, q2⟩ := fix h3 w1
  obtain ⟨o3, q3, q4⟩ := fix h4 w2
  exact h.inj i j l l' o2 o3 b h1 h2 q1 q3 q2 q4
 lt := h.lt
 mp := h.mp
 mpo := by
  intro i l o b h1 h2 w1
  rcases get_set h2 with ⟨rfl, rfl⟩ | ⟨_, h2⟩
  ·exact h.mpo _ l _ b h1 hs (by rw [own_row l xs ys]; exact w1)
  ·exact h.mpo i l o b h1 h2 w1
 ok := h.ok
theorem Ghost.rewk {n0 nt : Nat} {s : Slots} {σ : Store} (id : Nat) {xs ys : List AV} (hs : σ[id]? = some (.row xs)) (hw : WkL xs ys) : Ghost n0 nt s σ s (σ.set id (.row ys)) :=
 fun m loc w t _ h1 h2 => ⟨m, loc, h1.rewk id hs hw, h2, .refl _ _ _ _⟩
end Go.Ahl
namespace Go.Ahl
theorem AYld.is {P : Program} {id : Nat} {args : List AV} {σ σ' : Store} {v : AV} {K : Cont} (h : AYld P id args σ (isR v σ')) (k : K v σ') : AYld P id args σ K :=
 h.mono fun _ _ e => by rw [e.1, e.2]; exact k
def yldC (P : Program) (args : List AV) (σ : Store) (K : Cont) : AV → Prop
 | .yld id => AYld P id args σ K
 | _ => False
theorem i_callY (P : Program) (s : Slots) (σ : Store) (K : Cont) (f : Opd) (args : List Opd) : aI P (.callY f args) s σ K = yldC P (evs s args) σ K (aev s f) := by
 simp only [aI]; cases aev s f <;> rfl
theorem yldC_yld (P : Program) (args : List AV) (σ : Store) (K : Cont) (id : Nat) : yldC P args σ K (.yld id) = AYld P id args σ K := rfl
theorem putAll_cons (s : Slots) (p : Nat) (ps : List Nat) (x : AV) (xs : List AV) : putAll s (p :: ps) (x :: xs) = putAll ((p, x) :: s) ps xs := rfl
theorem putAll_nil (s : Slots) (xs : List AV) : putAll s [] xs = s := by cases xs <;> rfl
attribute [go_sem] i_callY yldC_yld putAll_cons putAll_nil
section
variable {P : Program} {nt n0 : Nat} {Q : Post} {s : Slots} {σ : Store}
theorem wpc_rangeF {g : Opd} {ps : List Nat} {A B : CCode} (h : ∀ (H : Hints) (asg body : Code), comp P H asg = A → comp P H body = B → rangeC P nt ps asg body Q s σ (aev s g)) : wpc P nt n0 (.rangeF g ps A B) Q s σ := h
theorem rangeC_intro {ps : List Nat} {asg body : Code} {it : FuncId} {cap : List AV} (hf : ∃ fn, P.funcs[it]? = some fn ∧ fn.body.isSome = true ∧ fn.name ≠ "runtime.NumGoroutine")
  (h : ∀ L : LoopA, L = ⟨nt, s, ps, asg, body, .ready, none⟩ → ACalls P it (.yld σ.length :: cap) (σ ++ [.loop L]) (rangeK σ.length Q s)) : rangeC P nt ps asg body Q s σ (.func it cap) := ⟨hf, h _ rfl⟩
theorem rangeK_intro {k : Nat} {v : AV} {L : LoopA} (h : σ[k]? = some (.loop L)) (h1 : L.st = .ready) (h2 : L.pend = none) (h3 : Q .normal s (σ.set k .dead)) : rangeK k Q s v σ :=
 ⟨L, h, by rw [h1]; simp, by rw [h2]; exact h3⟩
theorem round_end {id : Nat} {K : Cont} {L : LoopA} {S : Store} (g : Store) (hS : IdsS S.length S) (hL : S[id]? = some (.loop L)) (k : K (.bool true) (S.set id (.loop { L with st := .ready, pend := none }))) (hn : n0 = S.length) :
  roundK id n0 nt K .normal s (S ++ g) := by
 subst hn
 refine Gh.cut [] S.length (Nat.le_refl _) trivial ?_ ?_
 ·rw [take_app]; exact hS
 ·rw [take_app]; exact ⟨L, hL, k⟩
theorem round_end0 {id : Nat} {K : Cont} {L : LoopA} {S : Store} (hS : IdsS S.length S) (hL : S[id]? = some (.loop L)) (k : K (.bool true) (S.set id (.loop { L with st := .ready, pend := none }))) (hn : n0 = S.length) :
  roundK id n0 nt K .normal s S := by
 have := round_end (nt := nt) (s := s) [] hS hL k hn
 rwa [List.append_nil] at this
theorem idsO_loop {n : Nat} {L : LoopA} (h : ∀ e ∈ L.s, Ids n e.2) : IdsO n (.loop L) := by
 intro j
 generalize L.s = l at h
 induction l with
 | nil => exact .any
 | cons e l ih =>
  obtain ⟨i, v⟩ := e
  simp only [Ahl.lk]
  cases i == j with
  | true => exact h _ List.mem_cons_self
  | false => exact ih fun e he => h e (List.mem_cons_of_mem _ he)
end
end Go.Ahl
namespace Go.Ahl
section
variable {P : Program} {nt n0 : Nat} {Q : Post} {s : Slots} {σ : Store}
def asgK (P : Program) (id n nt : Nat) (B : CCode) (K : Cont) : Slots → Store → Prop := fun s σ1 =>
 ∃ L1, σ1[id]? = some (.loop L1) ∧ L1.st = .ready ∧ wpc P nt n B (roundK id n nt K) s (σ1.set id (.loop { L1 with st := .busy }))
theorem yld_as (hm : P.follows .mixedOrders = true) {H : Hints} {id : Nat} {args : List AV} {K : Cont} {L : LoopA} (hL : σ[id]? = some (.loop L)) (hst : L.st = .ready) (hps : L.ps.length = args.length) (hpn : ∀ p ∈ L.ps, p < L.nt) {A B : CCode}
  (hA : comp P H L.asg = A) (hB : comp P H L.body = B) (hn : noRange A = true) (hn2 : noRange B = true)
  (h : wpc P L.nt σ.length A (seqK (asgK P id σ.length L.nt B K) (fun _ _ _ => False)) (putAll L.s L.ps args) σ) : AYld P id args σ K :=
 yld_of hm H hL hst hps hpn (by rw [hA]; exact hn) (by rw [hB]; exact hn2) (by rw [hA, hB]; exact h)
end
end Go.Ahl
namespace Go.Ahl
theorem ret_cN2 {nt t u id n : Nat} {s : Slots} {σ S : Store} {R : Cont} {c0 cells : List AV} {x : AV} (h1 : lk s t = .ptr id 0) (h2 : S[id]? = some (.row c0)) (hid : σ.length ≤ id) (hw : WkL c0 cells) (hn : cells.length = n) (h3 : lk s u = x)
  (ht : S.take σ.length = σ) (hσ : IdsS σ.length σ) (iv : Ids σ.length (.agg cells)) (ix : Ids σ.length x) (h : R (.tuple [.agg cells, x]) σ) : bodyK [.cell (some n) t, .tmp u] σ.length nt R .ret s S := by
 refine ⟨s, S.set id (.row cells), Ghost.rewk id h2 hw, ?_⟩
 simp only [aRes, h1, h3]
 rw [e_loadN_ptr, List.getElem?_set_self (lt_of_get h2), rowK_some]
 refine ⟨by omega, ?_⟩
 rw [List.drop_zero, ← hn, List.take_length]
 refine ⟨σ.length, Nat.le_refl _, ?_⟩
 rw [List.take_set_of_le hid, ht]
 exact ⟨hσ, .tuple _ (fun j y hy => by match j, hy with | 0, hy => simp at hy; subst hy; exact iv | 1, hy => simp at hy; subst hy; exact ix), h⟩
theorem ret_cN3 {nt t u w id n : Nat} {s : Slots} {σ S : Store} {R : Cont} {c0 cells : List AV} {x y : AV} (h1 : lk s t = .ptr id 0) (h2 : S[id]? = some (.row c0)) (hid : σ.length ≤ id) (hw : WkL c0 cells) (hn : cells.length = n) (h3 : lk s u = x) (h4 : lk s w = y)
  (ht : S.take σ.length = σ) (hσ : IdsS σ.length σ) (iv : Ids σ.length (.agg cells)) (ix : Ids σ.length x) (iy : Ids σ.length y) (h : R (.tuple [.agg cells, x, y]) σ) : bodyK [.cell (some n) t, .tmp u, .tmp w] σ.length nt R .ret s S := by
 refine ⟨s, S.set id (.row cells), Ghost.rewk id h2 hw, ?_⟩
 simp only [aRes, h1, h3, h4]
 rw [e_loadN_ptr, List.getElem?_set_self (lt_of_get h2), rowK_some]
 refine ⟨by omega, ?_⟩
 rw [List.drop_zero, ← hn, List.take_length]
 refine ⟨σ.length, Nat.le_refl _, ?_⟩
 rw [List.take_set_of_le hid, ht]
 exact ⟨hσ, .tuple _ (fun j y hy => by match j, hy with | 0, hy => simp at hy; subst hy; exact iv | 1, hy => simp at hy; subst hy; exact ix | 2, hy => simp at hy; subst hy; exact iy), h⟩
end Go.Ahl
namespace Go.Ahl
theorem idsS_put' {n : Nat} {σ : Store} (h : IdsS n σ) (i : Nat) {o : AObj} (ho : IdsO n o) : IdsS n (σ.set i o) := by
 intro j x e
 rcases get_set e with ⟨_, rfl⟩ | ⟨_, e⟩
 ·exact ho
 ·exact h j x e
end Go.Ahl
namespace Go.Proofs.YtpabiedjneognaaGreatDoor
open Go.Ahl
def byteOf (f : Int) : UInt8 := UInt8.ofNat (IntKind.u8.wrap f).toNat
def encB8 (f : Int) : List AV := encU8 (byteOf f)
instance : IdE encB8 := ⟨fun _ _ => idsL_cons (.int _ _) idsL_nil⟩
def stk (t : FTask) (s : List Int) (p : List Int) : Nat → List Int
 | 0 => s
 | k + 1 => match (p[k]?).bind fun n => t.actions[n.toNat]? with
  | some a => afterS (stk t s p k) a.effects
  | none => stk t s p k
def canB (t : FTask) (s : List Int) (p : List Int) (k : Nat) : Bool := match (p[k]?).bind fun n => t.actions[n.toNat]? with
 | some a => condHolds (stk t s p k) a.pre
 | none => false
def stopN (t : FTask) (s : List Int) (p : List Int) : Nat := ((List.range p.length).takeWhile (canB t s p)).length
theorem takeWhile_range {q : Nat → Bool} {n : Nat} : ∀ k, k < ((List.range n).takeWhile q).length ↔ k < n ∧ ∀ j, j ≤ k → q j = true := by
 intro k
 have key : ∀ (l : List Nat) (k : Nat), k < (l.takeWhile q).length ↔ k < l.length ∧ ∀ (j : Nat) x, j ≤ k → l[j]? = some x → q x = true := by
  intro l
  induction l with
  | nil => intro k; simp
  | cons y l ih =>
   intro k
   rw [List.takeWhile_cons]
   cases hq : q y with
   | false =>
    rw [if_neg (by simp)]
    simp only [List.length_nil, Nat.not_lt_zero, false_iff]
    rintro ⟨_, h⟩
    have := h 0 y (Nat.zero_le _) rfl
    rw [hq] at this; simp at this
   | true =>
    rw [if_pos rfl]
    cases k with
    | zero =>
     simp only [List.length_cons, Nat.zero_lt_succ, true_iff, true_and]
     intro j x hj hx
     have : j = 0 := by omega
     subst this; simp at hx; subst hx; exact hq
    | succ k =>
     simp only [List.length_cons, Nat.succ_lt_succ_iff]
     rw [ih k]
     constructor
     ·rintro ⟨h1, h2⟩
      refine ⟨h1, fun j x hj hx => ?_⟩
      cases j with
      | zero => simp at hx; subst hx; exact hq
      | succ j => exact h2 j x (by omega) (by simpa using hx)
     ·rintro ⟨h1, h2⟩
      exact ⟨h1, fun j x hj hx => h2 (j + 1) x (by omega) (by simpa using hx)⟩
 rw [key]
 simp only [List.length_range]
 constructor
 ·rintro ⟨h1, h2⟩
  exact ⟨h1, fun j hj => h2 j j hj (by rw [List.getElem?_range (by omega)])⟩
 ·rintro ⟨h1, h2⟩
  refine ⟨h1, fun j x hj hx => ?_⟩
  rw [List.getElem?_range (by omega)] at hx
  injection hx with hx; subst hx; exact h2 _ hj
theorem stopN_lt {t : FTask} {s p : List Int} {k : Nat} : k < stopN t s p ↔ k < p.length ∧ ∀ j, j ≤ k → canB t s p j = true := takeWhile_range k
theorem stopN_le (t : FTask) (s p : List Int) : stopN t s p ≤ p.length := by
 unfold stopN
 have := (List.takeWhile_sublist (l := List.range p.length) (canB t s p)).length_le
 simpa using this
theorem stopN_no {t : FTask} {s p : List Int} {k : Nat} (h : k ≤ stopN t s p) (hk : k < p.length) (hc : canB t s p k = false) : k = stopN t s p := by
 rcases Nat.lt_or_ge k (stopN t s p) with q | q
 ·have := (stopN_lt.1 q).2 k (Nat.le_refl _)
  rw [hc] at this; simp at this
 ·omega
theorem stopN_yes {t : FTask} {s p : List Int} {k : Nat} (h : k ≤ stopN t s p) (hk : k < p.length) (hc : canB t s p k = true) : k < stopN t s p := by
 refine stopN_lt.2 ⟨hk, fun j hj => ?_⟩
 rcases Nat.lt_or_ge j k with q | q
 ·exact (stopN_lt.1 (by omega : j < stopN t s p)).2 j (Nat.le_refl _)
 ·have : j = k := by omega
  subst this; exact hc
structure SB (t : FTask) : Prop where
 acts : t.actions.length ≤ 1000000
 pre : ∀ a ∈ t.actions, a.pre.length ≤ 140737488355328
 effs : ∀ a ∈ t.actions, a.effects.length ≤ 1000000
 whens : ∀ a ∈ t.actions, ∀ e ∈ a.effects, e.when_.length ≤ 140737488355328
def e_walk1_0 : List COp := [oS 14 (.load none (.tmp 2)), oS 15 (.faddr 3 (.tmp 3)), oA 16 (.load none (.tmp 15)) [1], oS 17 (.move (.tmp 6)), oA 18 (.iaddr 4 (.tmp 16) (.tmp 17)) [2, 3], oA 19 (.faddr 2 (.tmp 18)) [4], oA 20 (.load none (.tmp 19)) [5], oA 21 (.call (.lit (.func 54 [])) [.tmp 14, .tmp 20]) [0, 6], oA 22 (.un .not (.tmp 21)) [7]]
def d_walk1_0 : List COp := e_walk1_0
theorem dr_walk1_0 (P : Program) (nt n0 : Nat) (Q : Post) (s : Slots) (σ : Store) : wpc P nt n0 (.draw d_walk1_0) Q s σ = aOpsD P nt e_walk1_0 (Q .normal) s σ := wpc_draw _ (by decide)
def e_walk1_1 : List COp := [oS 23 (.load none (.tmp 2)), oS 24 (.faddr 3 (.tmp 3)), oA 25 (.load none (.tmp 24)) [1], oS 26 (.move (.tmp 6)), oA 27 (.iaddr 4 (.tmp 25) (.tmp 26)) [2, 3], oA 28 (.load (some 4) (.tmp 27)) [4], oA 29 (.call (.lit (.func 63 [])) [.tmp 23, .tmp 28]) [0, 5], ⟨none, .store 1 (.tmp 2) (.tmp 29), none, [6, 6, 0, 1, 2, 3, 4, 5, 6]⟩]
def d_walk1_1 : List COp := e_walk1_1
theorem dr_walk1_1 (P : Program) (nt n0 : Nat) (Q : Post) (s : Slots) (σ : Store) : wpc P nt n0 (.draw d_walk1_1) Q s σ = aOpsD P nt e_walk1_1 (Q .normal) s σ := wpc_draw _ (by decide)
attribute [local go_sem] dr_walk1_0 e_walk1_0 dr_walk1_1 e_walk1_1
def c_walk1 : CCode := .seq (.ops [oS 7 (.load none (.tmp 1)), oS 8 (.blen 1 (.tmp 7)), oS 9 (.move (.lit (.int .i64 0)))]) (.block 0 (.loop (.seq (.ops [oS 10 (.bin .lss .none (.tmp 9) (.tmp 8))]) (.seq (.cond (.tmp 10) .skip (.exit 0)) (.seq (.block 1 (.seq (.ops [oS 11 (.move (.tmp 9)), oS 12 (.iaddr 1 (.tmp 7) (.tmp 9)), oS 13 (.load none (.tmp 12)), oS 5 (.move (.tmp 11)), oS 6 (.move (.tmp 13))]) (.seq (.seq (.draw d_walk1_0) (.cond (.tmp 22) .ret .skip)) (.seq (.draw d_walk1_1) (.seq (.ops [oS 30 (.move (.tmp 0)), oS 31 (.move (.tmp 5)), oS 32 (.load none (.tmp 2)), oS 33 (.callY (.tmp 30) [.tmp 31, .tmp 32]), oS 34 (.un .not (.tmp 33))]) (.cond (.tmp 34) .ret .skip)))))) (.ops [oS 35 (.bin .add .none (.tmp 9) (.lit (.int .i64 1))), oS 9 (.move (.tmp 35))]))))))
set_option maxHeartbeats 2000000 in
theorem walk1_spec (t : FTask) (s p : List Int) (hb : SB t) (hp : ∀ n ∈ p, 0 ≤ n ∧ n < t.actions.length) (hpl : p.length ≤ 1000000) (hs : ∀ k, (stk t s p k).length ≤ 1000000 ∧ (stk t s p k).Pairwise (· < ·))
  (Y T V W : Nat) (A : Nat → Store) (hA : ∀ k, k ≤ stopN t s p → (A k).length = (A 0).length ∧ IdsS (A k).length (A k) ∧ (A k)[T]? = some (.row (encTask t)) ∧ (A k)[V]? = some (.row [.slice .unk ((stk t s p k).map Ahl.encI)]) ∧ (A k)[W]? = some (.row [.slice .unk (p.map Ahl.encI)]))
  (hY : ∀ k, k < stopN t s p → AYld Tryz.prog Y [.int .i64 (k : Nat), .slice .unk ((stk t s p (k + 1)).map Ahl.encI)] ((A k).set V (.row [.slice .unk ((stk t s p (k + 1)).map Ahl.encI)])) (isR (.bool true) (A (k + 1)))) :
  ACalls Tryz.prog 121 [.yld Y, .ptr W 0, .ptr V 0, .ptr T 0] (A 0) (isR (.tuple []) (A (stopN t s p))) := by
 obtain ⟨σ, hAσ⟩ : ∃ σ, σ = A 0 := ⟨_, rfl⟩
 obtain ⟨h01, h02, h03, h04, h05⟩ := hA 0 (Nat.zero_le _)
 rw [← hAσ]
 rw [← hAσ] at h02 h03 h04 h05
 refine ACalls.intro (rs := []) (by kernel_rfl) { own := [], ghosts := [], yields := [(5, 3)] } Tryz.func121 (c := Tryz.f121.body.getD .skip) (by kernel_rfl) (by decide) (by rw [show Tryz.f121.ntmps = 36 by kernel_rfl]; exact Nat.le_of_ble_eq_true rfl) (by kernel_rfl) ?_
 intro hσ hids
 rw [show comp Tryz.prog { own := [], ghosts := [], yields := [(5, 3)] } (Tryz.f121.body.getD .skip) = c_walk1 by kernel_rfl, show Tryz.f121.ntmps = 36 by kernel_rfl]
 unfold c_walk1
 have ht : T < σ.length := lt_of_get h03
 have hv : V < σ.length := lt_of_get h04
 have hw' : W < σ.length := lt_of_get h05
 have hy : Ids σ.length (.yld Y) := hids _ (by simp)
 simp only [go_sem, simprocAttr, h05]
 refine wpc_while (fun (i : Nat) => [(0, .yld Y), (2, .ptr V 0), (3, .ptr T 0), (7, .slice .unk (p.map Ahl.encI)), (8, .int .i64 p.length), (9, .int .i64 (i : Nat))]) (fun i => A i) (fun i => i ≤ stopN t s p) (fun i => p.length - i) 0 (Nat.zero_le _) ?_ ?_
 ·rw [← hAσ]; exact (by (try dsimp only); exact ghA)
 intro i hi K hK hE hR
 have hle := stopN_le t s p
 obtain ⟨g1, g2, g3, g4, g5⟩ := hA i hi
 rw [← hAσ] at g1
 by_cases h : i < p.length
 ·obtain ⟨n, hx⟩ := get_ex h; have hlt : ((i : Int) < (p.length : Int)) := (by omega); have hw := wrapS (i := i) (by omega)
  obtain ⟨hn1, hn2⟩ := hp n (List.mem_of_getElem? hx)
  obtain ⟨a, ha⟩ : ∃ a, t.actions[n.toNat]? = some a := ⟨_, List.getElem?_eq_getElem (by omega)⟩
  have ham := List.mem_of_getElem? ha
  obtain ⟨hs1, hs2⟩ := hs i
  have hcb : canB t s p i = condHolds (stk t s p i) a.pre := by unfold canB; rw [hx, Option.bind_some, ha]
  simp only [go_sem, simprocAttr, hlt, hx, g3, g4, ha, encTask, encA, Ahl.encI, hn1]
  refine ⟨_, sTrue_spec (stk t s p i) a.pre .unk .unk _ (by omega) hs2 (hb.pre a ham), ?_⟩
  cases hc : condHolds (stk t s p i) a.pre
  ·simp only [go_sem, simprocAttr]
   rw [hR]
   have := stopN_no hi h (hcb.trans hc)
   rw [← this]
   exact ret_gh0 (Ghost.keep0 (s' := []) (by omega) trivial g2) (by omega) g2 ⟨rfl, rfl⟩
  ·have hlt2 := stopN_yes hi h (hcb.trans hc)
   have hst : stk t s p (i + 1) = afterS (stk t s p i) a.effects := by rw [stk, hx, Option.bind_some, ha]
   simp only [go_sem, simprocAttr, g3, g4, hx, ha, encTask, encA, Ahl.encI, hn1]
   refine ⟨_, sAfter_spec (stk t s p i) a .unk _ hs1 hs2 (hb.effs a ham) (hb.whens a ham), ?_⟩
   rw [← hst]
   simp only [go_sem, simprocAttr, g4]
   have hset : ((A i).set V (AObj.row [AV.slice Tok.unk ((stk t s p (i + 1)).map Ahl.encI)]))[V]? = some (.row [.slice .unk ((stk t s p (i + 1)).map Ahl.encI)]) := by
    rw [List.getElem?_set_self (by omega)]
   simp only [go_sem, simprocAttr, hset]
   refine (hY i hlt2).is ?_
   obtain ⟨f1, f2, f3, f4, f5⟩ := hA (i + 1) (by omega)
   rw [← hAσ] at f1
   simp only [go_sem, simprocAttr, hw]
   refine hK _ _ (i + 1) (by omega) (by omega) ?_
   rw [← f1] at ht hv hy
   exact Ghost.keep0 (by omega) tellT f2
 ·have hlt : ¬ ((i : Int) < (p.length : Int)) := by omega
  have : i = stopN t s p := by omega
  subst this
  simp only [go_sem, simprocAttr, hlt, hE]
  exact ret_gh0 (Ghost.keep0 (s' := []) (by omega) trivial g2) (by omega) g2 ⟨rfl, rfl⟩
def c_walk : CCode := .seq (.ops [oS 3 (.box (.tmp 0)), oS 4 (.box (.tmp 1)), oS 5 (.box (.tmp 2)), oS 6 (.move (.lit (.conc Value.nilFunc)))]) (.seq (.ops [oS 7 (.mkfunc 121 [.tmp 5, .tmp 4, .tmp 3]), oS 6 (.move (.tmp 7))]) .ret)
theorem walk_spec (t : FTask) (s p : List Int) (σ : Store) :
  ACalls Tryz.prog 100 [.agg (encTask t), .slice .unk (s.map Ahl.encI), .slice .unk (p.map Ahl.encI)] σ (isR (.func 121 [.ptr (σ.length + 2) 0, .ptr (σ.length + 1) 0, .ptr σ.length 0]) (σ ++ [.row (encTask t), .row [.slice .unk (s.map Ahl.encI)], .row [.slice .unk (p.map Ahl.encI)]])) := by
 refine ACalls.intro (rs := [(.tmp 6)]) (by kernel_rfl) { own := [], ghosts := [] } Tryz.func100 (c := Tryz.f100.body.getD .skip) (by kernel_rfl) (by decide) (by rw [show Tryz.f100.ntmps = 8 by kernel_rfl]; exact Nat.le_of_ble_eq_true rfl) (by kernel_rfl) ?_
 intro hσ hids
 rw [show comp Tryz.prog { own := [], ghosts := [] } (Tryz.f100.body.getD .skip) = c_walk by kernel_rfl, show Tryz.f100.ntmps = 8 by kernel_rfl]
 unfold c_walk
 simp only [go_sem, simprocAttr, encTask]
 have h1 : IdsS (σ ++ [AObj.row (encTask t), .row [.slice .unk (s.map Ahl.encI)], .row [.slice .unk (p.map Ahl.encI)]]).length (σ ++ [AObj.row (encTask t), .row [.slice .unk (s.map Ahl.encI)], .row [.slice .unk (p.map Ahl.encI)]]) := idsS_app _ hσ (all_cons' (idsO_row (ids_encTask t)) (all_cons' (idsO_row (by intro x hx; simp at hx; subst hx; exact ids_map ids_encI s)) (all_cons' (idsO_row (by intro x hx; simp at hx; subst hx; exact ids_map ids_encI p)) all_nil')))
 have hif : Ids (σ ++ [AObj.row (encTask t), .row [.slice .unk (s.map Ahl.encI)], .row [.slice .unk (p.map Ahl.encI)]]).length (.func 121 [.ptr (σ.length + 2) 0, .ptr (σ.length + 1) 0, .ptr σ.length 0]) :=
  .func _ _ (by intro j x hx; match j, hx with | 0, hx => simp at hx; subst hx; exact .ptr _ _ (by simp) | 1, hx => simp at hx; subst hx; exact .ptr _ _ (by simp) | 2, hx => simp at hx; subst hx; exact .ptr _ _ (by simp))
 exact ret_gh (v := .func 121 [.ptr (σ.length + 2) 0, .ptr (σ.length + 1) 0, .ptr σ.length 0]) (σ' := σ ++ [.row (encTask t), .row [.slice .unk (s.map Ahl.encI)], .row [.slice .unk (p.map Ahl.encI)]]) (Ghost.keep0 (s' := [(6, .func 121 [.ptr (σ.length + 2) 0, .ptr (σ.length + 1) 0, .ptr σ.length 0])]) (by simp) ⟨⟨.refl _, hif⟩, trivial⟩ h1) (by simp) h1 hif ⟨rfl, rfl⟩
def c_cloneI : CCode := .seq (.ops [oS 2 (.move (.lit (.slice .nil [])))]) (.seq (.seq (.ops [oS 3 (.move (.tmp 0)), oS 4 (.bin .eql .slice (.tmp 3) (.lit (.slice .nil [])))]) (.cond (.tmp 4) (.seq (.ops [oS 2 (.move (.lit (.slice .nil [])))]) .ret) .skip)) (.seq (.ops [oS 5 (.bslice 1 [] false), oS 6 (.move (.tmp 0)), oS 7 (.bappend 1 8 (.tmp 5) (.tmp 6) false), oS 2 (.move (.tmp 7))]) .ret))
theorem cloneI_specF (f : List Int) (tok : Tok) (σ : Store) (hf : f.length ≤ 1073741824) :
  ACalls Tryz.prog 50 [.slice tok (f.map Ahl.encI)] σ (isR (.slice .fresh (f.map Ahl.encI)) σ) := by
 refine ACalls.intro (rs := [(.tmp 2)]) (by kernel_rfl) { own := [], ghosts := [] } Tryz.func50 (c := Tryz.f50.body.getD .skip) (by kernel_rfl) (by decide) (by rw [show Tryz.f50.ntmps = 8 by kernel_rfl]; exact Nat.le_of_ble_eq_true rfl) (by kernel_rfl) ?_
 intro hσ hids
 rw [show comp Tryz.prog { own := [], ghosts := [] } (Tryz.f50.body.getD .skip) = c_cloneI by kernel_rfl, show Tryz.f50.ntmps = 8 by kernel_rfl]
 unfold c_cloneI
 have hbig : bigLen f.length 8 := big_ok (by omega) (by omega)
 simp only [go_sem, simprocAttr]
 intro b hb _
 cases b
 ·have hall : ∀ x ∈ f, (Ahl.encI x).length = 1 ∧ (Ahl.encI x).all AV.one = true := fun x _ => ⟨rfl, rfl⟩
  simp only [go_sem, simprocAttr, hbig]
  refine ⟨hall, ?_⟩
  exact rt (.slice .fresh (f.map Ahl.encI)) ⟨rfl, rfl⟩
 ·have hl0 : f = [] := by
   cases f with
   | nil => rfl
   | cons x l => exact absurd (hb (by simp)) (by simp)
  subst hl0
  simp only [go_sem, simprocAttr]
  exact rt (.slice .fresh []) ⟨rfl, rfl⟩
theorem cloneI_spec (f : List Int) (tok : Tok) (σ : Store) (hf : f.length ≤ 1073741824) :
  ACalls Tryz.prog 50 [.slice tok (f.map Ahl.encI)] σ (isR (.slice .unk (f.map Ahl.encI)) σ) := (cloneI_specF f tok σ hf).wkR (.unk _ _)
def costK (t : FTask) (p : List Int) : Nat → Int
 | 0 => 0
 | k + 1 => match (p[k]?).bind fun n => t.actions[n.toNat]? with
  | some a => IntKind.i64.wrap (costK t p k + a.cost)
  | none => costK t p k
def statesK (t : FTask) (s p : List Int) (k : Nat) : List (List Int) := (List.range (k + 1)).map (stk t s p)
def doneR (t : FTask) (s p : List Int) : AV :=
 .tuple [.agg [.slice .unk ((statesK t s p (stopN t s p)).map encL), .int .i64 (costK t p (stopN t s p)), .bool (condHolds (stk t s p (stopN t s p)) t.goal)], .int .i64 (if stopN t s p = p.length then -1 else (stopN t s p : Nat))]
def roundS (t : FTask) (s p : List Int) (σ : Store) (L : LoopA) (k : Nat) : Store :=
 σ ++ [.row (encTask t), .row [.slice .unk (p.map Ahl.encI)], .row [.slice .nil [], .int .i64 0, .bool false], .grow 1 (k + 1), .row [.slice (.grow (σ.length + 3)) ((statesK t s p k).map encL), .int .i64 (costK t p k), .bool false], .row [.int .i64 (k : Nat)],
  .row (encTask t), .row [.slice .unk ((stk t s p k).map Ahl.encI)], .row [.slice .unk (p.map Ahl.encI)], .loop L]
def e_done_0 : List COp := [oS 22 (.faddr 0 (.tmp 8)), oA 23 (.load none (.tmp 22)) [0], oS 24 (.move (.tmp 11)), oA 25 (.call (.lit (.func 50 [])) [.tmp 24]) [2], oA 26 (.bsliceC 1 [.tmp 25]) [3], oA 27 (.bappend 1 24 (.tmp 23) (.tmp 26) false) [1, 4, 3], oA 28 (.faddr 0 (.tmp 8)) [0, 1, 2, 3, 4, 5], ⟨none, .store 1 (.tmp 28) (.tmp 27), none, [6, 5, 5, 0, 1, 2, 3, 4, 5]⟩]
def d_done_0 : List COp := e_done_0
theorem dr_done_0 (P : Program) (nt n0 : Nat) (Q : Post) (s : Slots) (σ : Store) : wpc P nt n0 (.draw d_done_0) Q s σ = aOpsD P nt e_done_0 (Q .normal) s σ := wpc_draw _ (by decide)
def e_done_1 : List COp := [oS 29 (.faddr 1 (.tmp 8)), oA 30 (.load none (.tmp 29)) [0], oS 31 (.faddr 3 (.tmp 3)), oA 32 (.load none (.tmp 31)) [2], oS 33 (.load none (.tmp 5)), oS 34 (.move (.tmp 10)), oA 35 (.iaddr 1 (.tmp 33) (.tmp 34)) [4, 5], oA 36 (.load none (.tmp 35)) [6], oA 37 (.iaddr 4 (.tmp 32) (.tmp 36)) [3, 7], oA 38 (.faddr 1 (.tmp 37)) [8], oA 39 (.load none (.tmp 38)) [9], oA 40 (.bin .add .none (.tmp 30) (.tmp 39)) [1, 10], oA 41 (.faddr 1 (.tmp 8)) [0, 1, 2, 3, 4, 5, 6, 7, 8, 9, 10, 11], ⟨none, .store 1 (.tmp 41) (.tmp 40), none, [12, 11, 0, 1, 2, 3, 4, 5, 6, 7, 8, 9, 10, 11]⟩]
def d_done_1 : List COp := e_done_1
theorem dr_done_1 (P : Program) (nt n0 : Nat) (Q : Post) (s : Slots) (σ : Store) : wpc P nt n0 (.draw d_done_1) Q s σ = aOpsD P nt e_done_1 (Q .normal) s σ := wpc_draw _ (by decide)
def e_done_2 : List COp := [oS 44 (.faddr 0 (.tmp 8)), oA 45 (.load none (.tmp 44)) [0], oS 46 (.faddr 0 (.tmp 8)), oA 47 (.load none (.tmp 46)) [2], oA 48 (.blen 1 (.tmp 47)) [3], oA 49 (.bin .sub .none (.tmp 48) (.lit (.int .i64 1))) [4], oA 50 (.iaddr 1 (.tmp 45) (.tmp 49)) [1, 5], oA 51 (.load none (.tmp 50)) [6], oS 52 (.faddr 2 (.tmp 3)), oA 53 (.load none (.tmp 52)) [8], oA 54 (.call (.lit (.func 54 [])) [.tmp 51, .tmp 53]) [7, 9], oA 55 (.faddr 2 (.tmp 8)) [0, 1, 2, 3, 4, 5, 6, 7, 8, 9, 10], ⟨none, .store 1 (.tmp 55) (.tmp 54), none, [11, 10, 10, 0, 1, 2, 3, 4, 5, 6, 7, 8, 9, 10]⟩]
def d_done_2 : List COp := e_done_2
theorem dr_done_2 (P : Program) (nt n0 : Nat) (Q : Post) (s : Slots) (σ : Store) : wpc P nt n0 (.draw d_done_2) Q s σ = aOpsD P nt e_done_2 (Q .normal) s σ := wpc_draw _ (by decide)
def e_done_3 : List COp := [oS 60 (.load (some 3) (.tmp 8)), oS 61 (.load none (.tmp 9)), ⟨none, .store 3 (.tmp 6) (.tmp 60), none, [0, 0]⟩, oA 7 (.move (.tmp 61)) [1, 2, 0, 1, 2]]
def d_done_3 : List COp := e_done_3
theorem dr_done_3 (P : Program) (nt n0 : Nat) (Q : Post) (s : Slots) (σ : Store) : wpc P nt n0 (.drawU d_done_3 [[], [2], [1], []]) Q s σ = aOpsU P nt e_done_3 [[], [2], [1], []] 0 [] [] (Q .normal) s σ := wpc_drawU _ _ (by decide)
attribute [local go_sem] dr_done_0 e_done_0 dr_done_1 e_done_1 dr_done_2 e_done_2 dr_done_3 e_done_3
def c_done : CCode := .seq (.ops [oS 3 (.box (.tmp 0)), oS 5 (.box (.tmp 2)), oS 6 (.alloc (.agg [.slice .nil [], .int .i64 0, .bool false])), oS 7 (.move (.lit (.int .i64 0)))]) (.seq (.ops [oS 12 (.move (.tmp 1)), oS 13 (.call (.lit (.func 50 [])) [.tmp 12]), oS 14 (.bslice 1 [.tmp 13] false), oS 15 (.build [.slice .nil [], .int .i64 0, .bool false] [(0, 1, .tmp 14)]), oS 8 (.alloc (.agg [.slice .nil [], .int .i64 0, .bool false])), oN (.store 3 (.tmp 8) (.tmp 15))]) (.seq (.ops [oS 9 (.alloc (.int .i64 0)), oN (.store 1 (.tmp 9) (.lit (.int .i64 0)))]) (.seq (.seq (.ops [oS 16 (.load (some 4) (.tmp 3)), oS 17 (.move (.tmp 1)), oS 18 (.load none (.tmp 5)), oS 19 (.call (.lit (.func 100 [])) [.tmp 16, .tmp 17, .tmp 18])]) (.block 0 (.rangeF (.tmp 19) [20, 21] (.seq (.ops [oS 10 (.move (.tmp 20))]) (.ops [oS 11 (.move (.tmp 21))])) (.block 1 (.seq (.draw d_done_0) (.seq (.draw d_done_1) (.ops [oS 42 (.move (.tmp 10)), oS 43 (.bin .add .none (.tmp 42) (.lit (.int .i64 1))), oN (.store 1 (.tmp 9) (.tmp 43))]))))))) (.seq (.draw d_done_2) (.seq (.seq (.ops [oS 56 (.load none (.tmp 9)), oS 57 (.load none (.tmp 5)), oS 58 (.blen 1 (.tmp 57)), oS 59 (.bin .eql .none (.tmp 56) (.tmp 58))]) (.cond (.tmp 59) (.ops [oN (.store 1 (.tmp 9) (.lit (.int .i64 (-1))))]) .skip)) (.seq (.drawU d_done_3 [[], [2], [1], []]) .ret))))))
set_option maxHeartbeats 2000000 in
theorem done_spec (t : FTask) (s p : List Int) (σ : Store) (hb : SB t) (hg : t.goal.length ≤ 140737488355328) (hp : ∀ n ∈ p, 0 ≤ n ∧ n < t.actions.length) (hpl : p.length ≤ 1000000) (hs : ∀ k, (stk t s p k).length ≤ 1000000 ∧ (stk t s p k).Pairwise (· < ·)) :
  ACalls Tryz.prog 72 [.agg (encTask t), .slice .unk (s.map Ahl.encI), .slice .unk (p.map Ahl.encI)] σ (isR (doneR t s p) σ) := by
 refine ACalls.intro (rs := [(.cell (some 3) 6), (.tmp 7)]) (by kernel_rfl) { own := [], ghosts := [], cold := [(6, 4)], free := [(12, [[], [2], [1], []])] } Tryz.func72 (c := Tryz.f72.body.getD .skip) (by kernel_rfl) (by decide) (by rw [show Tryz.f72.ntmps = 62 by kernel_rfl]; exact Nat.le_of_ble_eq_true rfl) (by kernel_rfl) ?_
 intro hσ hids
 rw [show comp Tryz.prog { own := [], ghosts := [], cold := [(6, 4)], free := [(12, [[], [2], [1], []])] } (Tryz.f72.body.getD .skip) = c_done by kernel_rfl, show Tryz.f72.ntmps = 62 by kernel_rfl]
 unfold c_done
 simp only [go_sem, simprocAttr, encTask]
 refine (cloneI_spec s .unk _ (by have := (hs 0).1; simp only [stk] at this; omega)).is ?_
 simp only [go_sem, simprocAttr, encTask]
 have hw := fun σ => walk_spec t s p σ
 simp only [encTask] at hw
 refine (hw _).to ?_
 simp only [go_sem, simprocAttr]
 refine wpc_rangeF ?_
 intro H asg body hA hB
 simp only [go_sem, simprocAttr, encTask]
 refine rangeC_intro ⟨_, Tryz.func121, by kernel_rfl, by decide⟩ fun L hL => ?_
 simp only [go_sem, simprocAttr]
 have hLs : Ids (σ.length + 10) (.yld (σ.length + 9)) := .yld _ (by omega)
 have e0 : roundS t s p σ L 0 = σ ++ [.row (encTask t), .row [.slice .unk (p.map Ahl.encI)], .row [.slice .nil [], .int .i64 0, .bool false], .grow 1 1, .row [.slice (.grow (σ.length + 3)) [[.slice .unk (s.map Ahl.encI)]], .int .i64 0, .bool false], .row [.int .i64 0],
  .row (encTask t), .row [.slice .unk (s.map Ahl.encI)], .row [.slice .unk (p.map Ahl.encI)], .loop L] := by
  simp [roundS, statesK, stk, costK, encL]
 have hin : ∀ k (L' : LoopA), L'.s = L.s → IdsS (roundS t s p σ L' k).length (roundS t s p σ L' k) := by
  intro k L' hL'
  have hr1 : ∀ (n : Nat) (l : List Int), IdsO n (.row [.slice .unk (l.map Ahl.encI)]) := fun n l => idsO_row (by intro x hx; simp at hx; subst hx; exact ids_map ids_encI l)
  have hT : ∀ n, IdsO n (.row (encTask t)) := fun n => idsO_row (ids_encTask t)
  refine idsS_app _ hσ (all_cons' (hT _) (all_cons' (hr1 _ _) (all_cons' (idsO_row ?_) (all_cons' trivial (all_cons' (idsO_row ?_) (all_cons' (idsO_row ?_) (all_cons' (hT _) (all_cons' (hr1 _ _) (all_cons' (hr1 _ _) (all_cons' (idsO_loop ?_) all_nil'))))))))))
  ·intro x hx
   simp at hx
   rcases hx with rfl | rfl | rfl <;> first | exact .int _ _ | exact .bool _ | exact ids_nil _ (by simp)
  ·intro x hx
   simp at hx
   rcases hx with rfl | rfl | rfl <;> first | exact .int _ _ | exact .bool _ | exact ids_grow_map ids_encL (by simp)
  ·intro x hx
   simp at hx; subst hx; exact .int _ _
  ·rw [hL', congrArg LoopA.s hL]
   intro e he
   simp only [List.mem_cons, List.not_mem_nil, or_false] at he
   have hT' : ∀ n, Ids n (.agg (encTask t)) := fun n => ids_agg (ids_encTask t)
   simp only [encTask] at hT'
   have hgr : ∀ n, σ.length + 3 < n → Ids n (.slice (.grow (σ.length + 3)) [[.slice .unk (s.map Ahl.encI)]]) := fun n hn => .slice _ _ (by intro id h; cases h; exact hn) (by
    intro i e he j x hx
    match i, he with
    | 0, he => simp at he; subst he; match j, hx with | 0, hx => simp at hx; subst hx; exact ids_map ids_encI _)
   rcases he with rfl | rfl | rfl | rfl | rfl | rfl | rfl | rfl | rfl | rfl | rfl | rfl | rfl | rfl | rfl | rfl | rfl <;> first
    | exact .ptr _ _ (by simp) | exact .int _ _ | exact ids_map ids_encI _ | exact hT' _ | exact hgr _ (by simp)
    | exact .agg _ (fun j x hx => by match j, hx with | 0, hx => simp at hx; subst hx; exact hgr _ (by simp) | 1, hx => simp at hx; subst hx; exact .int _ _ | 2, hx => simp at hx; subst hx; exact .bool _)
    | exact .func _ _ (by intro j x hx; match j, hx with | 0, hx => simp at hx; subst hx; exact .ptr _ _ (by simp) | 1, hx => simp at hx; subst hx; exact .ptr _ _ (by simp) | 2, hx => simp at hx; subst hx; exact .ptr _ _ (by simp))
 have hwalk := walk1_spec t s p hb hp hpl hs (σ.length + 9) (σ.length + 6) (σ.length + 7) (σ.length + 8) (roundS t s p σ L) (fun k hk => ⟨by simp [roundS], hin k L rfl, by simp [roundS], by simp [roundS], by simp [roundS]⟩) ?_
 ·rw [e0] at hwalk
  simp only [encTask] at hwalk
  refine hwalk.to ?_
  refine rangeK_intro (L := L) (by simp [roundS]) (by rw [hL]) (by rw [hL]) ?_
  have hq := stopN_le t s p
  generalize hst : stopN t s p = q at hq
  have hlq : (statesK t s p q).length = q + 1 := by simp [statesK]
  have hxq : (statesK t s p q)[q]? = some (stk t s p q) := by simp [statesK]
  have hwr : IntKind.i64.wrap (((q + 1 : Nat) : Int) - 1) = (q : Nat) := by rw [wrap_ok (by omega)]; omega
  simp only [roundS]
  simp only [go_sem, simprocAttr, encTask, hlq, hwr, hxq, encL]
  refine ⟨_, sTrue_spec (stk t s p q) t.goal .unk .unk _ (by have := (hs q).1; omega) (hs q).2 hg, ?_⟩
  have hend : ∀ (S : Slots) (x : Store) (at_ : Int), lk S 6 = .ptr (σ.length + 2) 0 → lk S 7 = .int .i64 at_ → x = σ ++ [.row (encTask t), .row [.slice .unk (p.map Ahl.encI)], .row [.slice (.grow (σ.length + 3)) ((statesK t s p q).map encL), .int .i64 (costK t p q), .bool (condHolds (stk t s p q) t.goal)], .grow 1 (q + 1),
    .row [.slice (.grow (σ.length + 3)) ((statesK t s p q).map encL), .int .i64 (costK t p q), .bool (condHolds (stk t s p q) t.goal)], .row [.int .i64 at_], .row (encTask t), .row [.slice .unk ((stk t s p q).map Ahl.encI)], .row [.slice .unk (p.map Ahl.encI)], .dead] → at_ = (if q = p.length then -1 else (q : Int)) →
    bodyK [.cell (some 3) 6, .tmp 7] σ.length 62 (isR (doneR t s p) σ) .ret S x := by
   rintro S _ at_ h1 h2 rfl rfl
   have hiu : Ids σ.length (.slice .unk ((statesK t s p q).map encL)) := ids_map ids_encL _
   refine ret_cN2 (c0 := [.slice (.grow (σ.length + 3)) ((statesK t s p q).map encL), .int .i64 (costK t p q), .bool (condHolds (stk t s p q) t.goal)]) (cells := [.slice .unk ((statesK t s p q).map encL), .int .i64 (costK t p q), .bool (condHolds (stk t s p q) t.goal)]) h1 (by simp) (by omega) (.cons (Wk.unk _ _) (.refl _)) rfl h2 (by simp) hσ
    (.agg _ fun j x hx => by match j, hx with | 0, hx => simp at hx; subst hx; exact hiu | 1, hx => simp at hx; subst hx; exact .int _ _ | 2, hx => simp at hx; subst hx; exact .bool _) (.int _ _) ⟨?_, rfl⟩
   simp only [doneR, hst]
  by_cases hqp : q = p.length
  ·have hbq : ((q : Int) == (p.length : Int)) = true := by simp [hqp]
   simp only [go_sem, simprocAttr, encTask, hbq]
   exact hend _ _ (-1) rfl rfl (by simp [encTask]) (by rw [if_pos hqp])
  ·have hbq : ((q : Int) == (p.length : Int)) = false := by simp; omega
   simp only [go_sem, simprocAttr, encTask, hbq]
   exact hend _ _ (q : Int) rfl rfl (by simp [encTask]) (by rw [if_neg hqp])
 ·intro k hk
  obtain ⟨hk1, hk2⟩ := stopN_lt.1 hk
  obtain ⟨n, hx⟩ := get_ex hk1
  obtain ⟨hn1, hn2⟩ := hp n (List.mem_of_getElem? hx)
  obtain ⟨a, ha⟩ : ∃ a, t.actions[n.toNat]? = some a := ⟨_, List.getElem?_eq_getElem (by omega)⟩
  rw [← show L.asg = asg by rw [hL]] at hA
  rw [← show L.body = body by rw [hL]] at hB
  refine yld_as (by kernel_rfl) (L := L) (by simp [roundS]) (by rw [hL]) (by rw [hL]; rfl) (by rw [hL]; show ∀ x ∈ [20, 21], x < 62; decide) hA hB rfl rfl ?_
  rw [show L.nt = 62 by rw [hL], show L.ps = [20, 21] by rw [hL]]
  have hlen : (((roundS t s p σ L k).set (σ.length + 7) (AObj.row [AV.slice Tok.unk ((stk t s p (k + 1)).map Ahl.encI)]))).length = σ.length + 10 := by simp [roundS]
  rw [hlen]
  rw [congrArg LoopA.s hL]
  simp only [roundS]
  simp only [go_sem, simprocAttr, encTask]
  refine ⟨L, by simp, by rw [hL], ?_⟩
  have hsp : statesK t s p (k + 1) = statesK t s p k ++ [stk t s p (k + 1)] := by unfold statesK; rw [List.range_succ, List.map_append]; rfl
  have hco : costK t p (k + 1) = IntKind.i64.wrap (costK t p k + a.cost) := by rw [costK, hx, Option.bind_some, ha]
  have hlk : (statesK t s p k).length = k + 1 := by simp [statesK]
  simp only [go_sem, simprocAttr, encTask]
  refine ⟨_, cloneI_spec (stk t s p (k + 1)) .unk _ (by have := (hs (k + 1)).1; omega), ?_⟩
  simp only [go_sem, simprocAttr, encTask]
  have hbig : bigLen (k + 1 + 1) 24 := big_ok (by omega) (by omega)
  have hwk := wrapS (i := k) (by omega)
  simp only [go_sem, simprocAttr, encTask, hlk, hbig, hx, ha, Ahl.encI, encA, hn1, hwk]
  have hsp2 : (statesK t s p k).map encL ++ [[.slice .unk ((stk t s p (k + 1)).map Ahl.encI)]] = (statesK t s p (k + 1)).map encL := by rw [hsp, List.map_append]; rfl
  rw [hsp2, ← hco]
  have hfin := hin (k + 1) { L with st := .busy } rfl
  simp only [roundS, encTask] at hfin
  refine round_end0 (L := { L with st := .busy }) hfin (by simp) ?_ (by simp)
  refine ⟨rfl, ?_⟩
  have hLL : ({ { L with st := .busy } with st := .ready, pend := none } : LoopA) = L := by rw [hL]
  simp [hLL]
def c_idxS : CCode := .seq (.ops [oS 4 (.move (.lit (.int .i64 0)))]) (.seq (.seq (.ops [oS 6 (.move (.tmp 0)), oS 7 (.blen 1 (.tmp 6)), oS 8 (.move (.lit (.int .i64 0)))]) (.block 0 (.loop (.seq (.ops [oS 9 (.bin .lss .none (.tmp 8) (.tmp 7))]) (.seq (.cond (.tmp 9) .skip (.exit 0)) (.seq (.block 1 (.seq (.ops [oS 10 (.move (.tmp 8)), oS 5 (.move (.tmp 10))]) (.seq (.ops [oS 11 (.move (.tmp 1)), oS 12 (.move (.tmp 0)), oS 13 (.move (.tmp 5)), oS 14 (.iaddr 1 (.tmp 12) (.tmp 13)), oS 15 (.load none (.tmp 14)), oS 16 (.call (.tmp 11) [.tmp 15])]) (.cond (.tmp 16) (.seq (.ops [oS 17 (.move (.tmp 5)), oS 4 (.move (.tmp 17))]) .ret) .skip)))) (.ops [oS 18 (.bin .add .none (.tmp 8) (.lit (.int .i64 1))), oS 8 (.move (.tmp 18))]))))))) (.seq (.ops [oS 4 (.move (.lit (.int .i64 (-1))))]) .ret))
theorem idxS_spec (l : List Int) (g : FuncId) (cap : List AV) (p : Int → Bool) (tok : Tok) (σ : Store) (hl : l.length ≤ 140737488355328)
  (hp : ∀ x ∈ l, ACalls Tryz.prog g (.int .i64 x :: cap) σ (isR (.bool (p x)) σ)) :
  ACalls Tryz.prog 120 [.slice tok (l.map Ahl.encI), .func g cap] σ (isR (.int .i64 (idxFrom p 0 l)) σ) := by
 refine ACalls.intro (rs := [(.tmp 4)]) (by kernel_rfl) { own := [], ghosts := [] } Tryz.func120 (c := Tryz.f120.body.getD .skip) (by kernel_rfl) (by decide) (by rw [show Tryz.f120.ntmps = 19 by kernel_rfl]; exact Nat.le_of_ble_eq_true rfl) (by kernel_rfl) ?_
 intro hσ hids
 rw [show comp Tryz.prog { own := [], ghosts := [] } (Tryz.f120.body.getD .skip) = c_idxS by kernel_rfl, show Tryz.f120.ntmps = 19 by kernel_rfl]
 unfold c_idxS
 have hil : Ids σ.length (.slice tok (l.map Ahl.encI)) := hids _ (by simp)
 have hif : Ids σ.length (.func g cap) := hids _ (by simp)
 simp only [go_sem, simprocAttr]
 refine wpc_while (fun i => [(0, .slice tok (l.map Ahl.encI)), (1, .func g cap), (7, .int .i64 l.length), (8, .int .i64 (i : Nat))]) (fun _ => σ) (fun i => i ≤ l.length ∧ idxFrom p 0 l = idxFrom p i (l.drop i)) (fun i => l.length - i) 0 ⟨Nat.zero_le _, rfl⟩ (by (try dsimp only); exact ghA) ?_
 rintro i ⟨hi, hv⟩ K hK hE hR
 by_cases h : i < l.length
 ·obtain ⟨y, hx⟩ := get_ex h; have hlt : ((i : Int) < (l.length : Int)) := (by omega); have hw := wrapS (i := i) (by omega)
  rw [drop_cons hx, idxFrom] at hv
  simp only [go_sem, simprocAttr, hlt, hx, Ahl.encI]
  refine (hp y (List.mem_of_getElem? hx)).is ?_
  cases h1 : p y
  ·simp only [go_sem, simprocAttr]
   rw [h1, if_neg (by simp)] at hv
   refine hK _ _ (i + 1) (⟨by omega, by rw [hv]; norm_cast⟩) om ?_; (try dsimp only); (try simp only [ hw]); exact ghA
  ·rw [h1, if_pos rfl] at hv
   simp only [go_sem, simprocAttr, hR]
   exact rt (.int .i64 i) ⟨by rw [hv], rfl⟩
 ·have hlt : ¬ ((i : Int) < (l.length : Int)) := by omega
  rw [drop_len h, idxFrom] at hv
  simp only [go_sem, simprocAttr, hlt, hE]
  exact rt (.int .i64 (-1)) ⟨by rw [hv], rfl⟩
def c_contS : CCode := .seq (.ops [oS 4 (.move (.lit (.bool false)))]) (.seq (.ops [oS 5 (.move (.tmp 0)), oS 6 (.move (.tmp 1)), oS 7 (.call (.lit (.func 120 [])) [.tmp 5, .tmp 6]), oS 8 (.bin .geq .none (.tmp 7) (.lit (.int .i64 0))), oS 4 (.move (.tmp 8))]) .ret)
theorem contS_spec (l : List Int) (g : FuncId) (cap : List AV) (p : Int → Bool) (tok : Tok) (σ : Store) (hl : l.length ≤ 140737488355328)
  (hp : ∀ x ∈ l, ACalls Tryz.prog g (.int .i64 x :: cap) σ (isR (.bool (p x)) σ)) :
  ACalls Tryz.prog 98 [.slice tok (l.map Ahl.encI), .func g cap] σ (isR (.bool (l.any p)) σ) := by
 refine ACalls.intro (rs := [(.tmp 4)]) (by kernel_rfl) { own := [], ghosts := [] } Tryz.func98 (c := Tryz.f98.body.getD .skip) (by kernel_rfl) (by decide) (by rw [show Tryz.f98.ntmps = 9 by kernel_rfl]; exact Nat.le_of_ble_eq_true rfl) (by kernel_rfl) ?_
 intro hσ hids
 rw [show comp Tryz.prog { own := [], ghosts := [] } (Tryz.f98.body.getD .skip) = c_contS by kernel_rfl, show Tryz.f98.ntmps = 9 by kernel_rfl]
 unfold c_contS
 simp only [go_sem, simprocAttr]
 refine (idxS_spec l g cap p tok σ hl hp).is ?_
 simp only [go_sem, simprocAttr, idxFrom_ge p l 0 (Int.le_refl _)]
 first | exact rtw (v := .bool _) wkS ⟨rfl, rfl⟩ | exact rtw0 (v := .bool _) wkS ⟨rfl, rfl⟩
def offB (t : FTask) (x : Int) : Bool := decide (x < 0) || decide (x ≥ t.actions.length)
def c_slisted1 : CCode := .seq (.ops [oS 3 (.move (.lit (.bool false)))]) (.seq (.ops [oS 4 (.move (.tmp 0)), oS 5 (.bin .lss .none (.tmp 4) (.lit (.int .i64 0))), oS 6 (.move (.tmp 5)), oG 7 6 false (.move (.tmp 0)), oG 8 6 false (.faddr 3 (.tmp 1)), oG 9 6 false (.load none (.tmp 8)), oG 10 6 false (.blen 1 (.tmp 9)), oG 11 6 false (.bin .geq .none (.tmp 7) (.tmp 10)), oS 12 (.pick (.tmp 6) (.lit (.bool true)) (.tmp 11)), oS 3 (.move (.tmp 12))]) .ret)
theorem slisted1_spec (t : FTask) (x : Int) (T : Nat) (σ : Store) (hT : σ[T]? = some (.row (encTask t))) :
  ACalls Tryz.prog 99 [.int .i64 x, .ptr T 0] σ (isR (.bool (offB t x)) σ) := by
 refine ACalls.intro (rs := [(.tmp 3)]) (by kernel_rfl) { own := [], ghosts := [] } Tryz.func99 (c := Tryz.f99.body.getD .skip) (by kernel_rfl) (by decide) (by rw [show Tryz.f99.ntmps = 13 by kernel_rfl]; exact Nat.le_of_ble_eq_true rfl) (by kernel_rfl) ?_
 intro hσ hids
 rw [show comp Tryz.prog { own := [], ghosts := [] } (Tryz.f99.body.getD .skip) = c_slisted1 by kernel_rfl, show Tryz.f99.ntmps = 13 by kernel_rfl]
 unfold c_slisted1
 have ht := lt_of_get hT
 cases h : decide (x < 0)
 ·simp only [go_sem, simprocAttr, h, hT, encTask]
  first | exact rtw (v := .bool _) wkS ⟨by unfold offB; rw [h]; rfl, rfl⟩ | exact rtw0 (v := .bool _) wkS ⟨by unfold offB; rw [h]; rfl, rfl⟩
 ·simp only [go_sem, simprocAttr, h, hT, encTask]
  first | exact rtw (v := .bool _) wkS ⟨by unfold offB; rw [h]; rfl, rfl⟩ | exact rtw0 (v := .bool _) wkS ⟨by unfold offB; rw [h]; rfl, rfl⟩
def slistedB (t : FTask) (p : List Int) : Bool := decide (p.length ≤ 10000) && !(p.any (offB t))
def c_slisted : CCode := .seq (.ops [oS 2 (.box (.tmp 0)), oS 4 (.move (.lit (.bool false)))]) (.seq (.ops [oS 5 (.move (.tmp 1)), oS 6 (.blen 1 (.tmp 5)), oS 7 (.bin .leq .none (.tmp 6) (.lit (.int .i64 10000))), oS 8 (.move (.tmp 7)), oG 9 8 true (.move (.tmp 1)), oG 10 8 true (.mkfunc 99 [.tmp 2]), oG 11 8 true (.call (.lit (.func 98 [])) [.tmp 9, .tmp 10]), oG 12 8 true (.un .not (.tmp 11)), oS 13 (.pick (.tmp 8) (.tmp 12) (.lit (.bool false))), oS 4 (.move (.tmp 13))]) .ret)
theorem slisted_spec (t : FTask) (p : List Int) (σ : Store) (hp : p.length ≤ 1000000) :
  ACalls Tryz.prog 71 [.agg (encTask t), .slice .unk (p.map Ahl.encI)] σ (isR (.bool (slistedB t p)) σ) := by
 refine ACalls.intro (rs := [(.tmp 4)]) (by kernel_rfl) { own := [], ghosts := [] } Tryz.func71 (c := Tryz.f71.body.getD .skip) (by kernel_rfl) (by decide) (by rw [show Tryz.f71.ntmps = 14 by kernel_rfl]; exact Nat.le_of_ble_eq_true rfl) (by kernel_rfl) ?_
 intro hσ hids
 rw [show comp Tryz.prog { own := [], ghosts := [] } (Tryz.f71.body.getD .skip) = c_slisted by kernel_rfl, show Tryz.f71.ntmps = 14 by kernel_rfl]
 unfold c_slisted
 cases h : decide ((p.length : Int) ≤ 10000)
 ·simp only [go_sem, simprocAttr, h, encTask]
  have : slistedB t p = false := by unfold slistedB; rw [show decide (p.length ≤ 10000) = false by rw [decide_eq_false_iff_not] at h ⊢; omega]; rfl
  first | exact rtw (v := .bool _) wkS ⟨by rw [this], rfl⟩ | exact rtw0 (v := .bool _) wkS ⟨by rw [this], rfl⟩
 ·simp only [go_sem, simprocAttr, h, encTask]
  refine (contS_spec p _ _ (offB t) .unk _ (by omega) (fun x _ => slisted1_spec t x σ.length _ (by simp [encTask]))).is ?_
  simp only [go_sem, simprocAttr]
  have : slistedB t p = !(p.any (offB t)) := by unfold slistedB; rw [show decide (p.length ≤ 10000) = true by rw [decide_eq_true_eq] at h ⊢; omega]; rfl
  first | exact rtw (v := .bool _) wkS ⟨by rw [this], rfl⟩ | exact rtw0 (v := .bool _) wkS ⟨by rw [this], rfl⟩
def execR (t : FTask) (s p : List Int) : AV :=
 if stE t s ≠ 0 then .tuple [.agg [.slice .nil [], .int .i64 0, .bool false], .int .i64 0, .int .i64 (stE t s)]
 else if slistedB t p = false then .tuple [.agg [.slice .nil [], .int .i64 0, .bool false], .int .i64 0, .int .i64 1]
 else .tuple [.agg [.slice .unk ((statesK t s p (stopN t s p)).map encL), .int .i64 (costK t p (stopN t s p)), .bool (condHolds (stk t s p (stopN t s p)) t.goal)], .int .i64 (if stopN t s p = p.length then -1 else (stopN t s p : Nat)), .int .i64 0]
def c_exec : CCode := .seq (.ops [oS 3 (.box (.tmp 0)), oS 6 (.alloc (.agg [.slice .nil [], .int .i64 0, .bool false])), oS 7 (.move (.lit (.int .i64 0))), oS 8 (.move (.lit (.int .i64 0)))]) (.seq (.seq (.ops [oS 12 (.load (some 4) (.tmp 3)), oS 13 (.move (.tmp 1)), oS 14 (.call (.lit (.func 69 [])) [.tmp 12, .tmp 13]), oS 9 (.move (.tmp 14))]) (.seq (.ops [oS 15 (.move (.tmp 9)), oS 16 (.bin .neq .none (.tmp 15) (.lit (.int .i64 0)))]) (.cond (.tmp 16) (.seq (.ops [oS 17 (.build [.slice .nil [], .int .i64 0, .bool false] []), oS 18 (.move (.tmp 9)), oN (.store 3 (.tmp 6) (.tmp 17)), oS 7 (.move (.lit (.int .i64 0))), oS 8 (.move (.tmp 18))]) .ret) .skip))) (.seq (.seq (.ops [oS 19 (.load (some 4) (.tmp 3)), oS 20 (.move (.tmp 2)), oS 21 (.call (.lit (.func 71 [])) [.tmp 19, .tmp 20]), oS 22 (.un .not (.tmp 21))]) (.cond (.tmp 22) (.seq (.ops [oS 23 (.build [.slice .nil [], .int .i64 0, .bool false] []), oN (.store 3 (.tmp 6) (.tmp 23)), oS 7 (.move (.lit (.int .i64 0))), oS 8 (.move (.lit (.int .i64 1)))]) .ret) .skip)) (.seq (.ops [oS 25 (.load (some 4) (.tmp 3)), oS 26 (.move (.tmp 1)), oS 27 (.move (.tmp 2)), oS 28 (.call (.lit (.func 72 [])) [.tmp 25, .tmp 26, .tmp 27]), oS 24 (.move (.tmp 28)), oS 29 (.extract (.tmp 24) 0), oS 30 (.extract (.tmp 24) 1), oS 10 (.alloc (.agg [.slice .nil [], .int .i64 0, .bool false])), oN (.store 3 (.tmp 10) (.tmp 29)), oS 11 (.move (.tmp 30))]) (.seq (.ops [oS 31 (.load (some 3) (.tmp 10)), oS 32 (.move (.tmp 11)), oN (.store 3 (.tmp 6) (.tmp 31)), oS 7 (.move (.tmp 32)), oS 8 (.move (.lit (.int .i64 0)))]) .ret))))
theorem exec_spec (t : FTask) (s p : List Int) (σ : Store) (ht : TB t) (hb : SB t) (hl : s.length ≤ 140737488355328) (hpl : p.length ≤ 1000000)
  (hs : stE t s = 0 → (∀ n ∈ p, 0 ≤ n ∧ n < t.actions.length) → ∀ k, (stk t s p k).length ≤ 1000000 ∧ (stk t s p k).Pairwise (· < ·)) :
  ACalls Tryz.prog 33 [.agg (encTask t), .slice .unk (s.map Ahl.encI), .slice .unk (p.map Ahl.encI)] σ (isR (execR t s p) σ) := by
 refine ACalls.intro (rs := [(.cell (some 3) 6), (.tmp 7), (.tmp 8)]) (by kernel_rfl) { own := [], ghosts := [] } Tryz.func33 (c := Tryz.f33.body.getD .skip) (by kernel_rfl) (by decide) (by rw [show Tryz.f33.ntmps = 33 by kernel_rfl]; exact Nat.le_of_ble_eq_true rfl) (by kernel_rfl) ?_
 intro hσ hids
 rw [show comp Tryz.prog { own := [], ghosts := [] } (Tryz.f33.body.getD .skip) = c_exec by kernel_rfl, show Tryz.f33.ntmps = 33 by kernel_rfl]
 unfold c_exec
 have hids0 : Ids σ.length (.agg [.slice .nil [], .int .i64 0, .bool false]) := .agg _ fun j x hx => by match j, hx with | 0, hx => simp at hx; subst hx; exact ids_nil _ (by simp) | 1, hx => simp at hx; subst hx; exact .int _ _ | 2, hx => simp at hx; subst hx; exact .bool _
 have hfine := fun σ => sFine_spec t s .unk σ ht hl
 have hlist := fun σ => slisted_spec t p σ hpl
 simp only [encTask] at hfine hlist
 simp only [go_sem, simprocAttr, encTask]
 refine (hfine _).is ?_
 by_cases he : stE t s = 0
 ·have h0 : (stE t s != 0) = false := by simp [he]
  simp only [go_sem, simprocAttr, h0]
  refine (hlist _).is ?_
  cases hli : slistedB t p
  ·simp only [go_sem, simprocAttr]
   refine ret_cN3 (x := .int .i64 0) (y := .int .i64 1) (c0 := [.slice .nil [], .int .i64 0, .bool false]) (cells := [.slice .nil [], .int .i64 0, .bool false]) rfl (by simp) (by omega) (.refl _) rfl rfl rfl (by simp) hσ hids0 (.int _ _) (.int _ _) ⟨?_, rfl⟩
   simp [execR, he, hli]
  ·simp only [go_sem, simprocAttr]
   have hp : ∀ n ∈ p, 0 ≤ n ∧ n < t.actions.length := by
    intro n hn
    simp only [slistedB, Bool.and_eq_true, decide_eq_true_eq, Bool.not_eq_true', List.any_eq_false] at hli
    have := hli.2 n hn
    simp only [offB, Bool.or_eq_true, decide_eq_true_eq] at this
    omega
   have hdone := fun σ => done_spec t s p σ hb ht.goal hp hpl (hs he hp)
   simp only [encTask, doneR] at hdone
   refine (hdone _).is ?_
   simp only [go_sem, simprocAttr]
   have hiu : Ids σ.length (.agg [.slice .unk ((statesK t s p (stopN t s p)).map encL), .int .i64 (costK t p (stopN t s p)), .bool (condHolds (stk t s p (stopN t s p)) t.goal)]) := .agg _ fun j x hx => by match j, hx with | 0, hx => simp at hx; subst hx; exact ids_map ids_encL _ | 1, hx => simp at hx; subst hx; exact .int _ _ | 2, hx => simp at hx; subst hx; exact .bool _
   refine ret_cN3 (x := .int .i64 (if stopN t s p = p.length then -1 else (stopN t s p : Nat))) (y := .int .i64 0) (c0 := [.slice .unk ((statesK t s p (stopN t s p)).map encL), .int .i64 (costK t p (stopN t s p)), .bool (condHolds (stk t s p (stopN t s p)) t.goal)]) (cells := [.slice .unk ((statesK t s p (stopN t s p)).map encL), .int .i64 (costK t p (stopN t s p)), .bool (condHolds (stk t s p (stopN t s p)) t.goal)]) rfl (by simp) (by omega) (.refl _) rfl rfl rfl (by simp) hσ hiu (.int _ _) (.int _ _) ⟨?_, rfl⟩
   simp [execR, he, hli]
 ·have h0 : (stE t s != 0) = true := by simp [he]
  simp only [go_sem, simprocAttr, h0]
  refine ret_cN3 (x := .int .i64 0) (y := .int .i64 (stE t s)) (c0 := [.slice .nil [], .int .i64 0, .bool false]) (cells := [.slice .nil [], .int .i64 0, .bool false]) rfl (by simp) (by omega) (.refl _) rfl rfl rfl (by simp) hσ hids0 (.int _ _) (.int _ _) ⟨?_, rfl⟩
  simp [execR, he]
structure EOk (t : FTask) : Prop where
 rng : ∀ a ∈ t.actions, ∀ e ∈ a.effects, 0 ≤ e.lit.fact ∧ e.lit.fact < (t.facts.length : Int)
theorem stk_rising {t : FTask} (he : EOk t) {s p : List Int} (hs : risingB t.facts.length (-1) s = true) : ∀ k, risingB t.facts.length (-1) (stk t s p k) = true
 | 0 => hs
 | k + 1 => by
  have ih := stk_rising he (p := p) hs k
  rw [stk]
  cases hq : (p[k]?).bind fun n => t.actions[n.toNat]? with
  | none => exact ih
  | some a =>
   have ha : a ∈ t.actions := by
    cases hp : p[k]? with
    | none => rw [hp] at hq; simp at hq
    | some n => rw [hp] at hq; exact List.mem_of_getElem? hq
   show risingB _ (-1) (afterS (stk t s p k) a.effects) = true
   rw [afterS_eq (n := t.facts.length) (s := stk t s p k) (a := a) ih (he.rng a ha)]
   exact afterL_rising _ _ _
theorem rising_len {n : Nat} : ∀ {s : List Int} {p : Int}, risingB n p s = true → -1 ≤ p → p + s.length < n ∨ s = []
 | [], _, _, _ => .inr rfl
 | x :: s, p, h, hp => by
  rw [risingB, Bool.and_eq_true, Bool.and_eq_true] at h
  have h1 : p < x := of_decide_eq_true h.1.1
  have h2 : x < n := of_decide_eq_true h.1.2
  refine .inl ?_
  rw [List.length_cons]
  rcases rising_len h.2 (by omega) with q | q
  ·push_cast; omega
  ·subst q; simp; omega
theorem stk_ok {t : FTask} (he : EOk t) (hn : t.facts.length ≤ 1000000) {s p : List Int} (hs : risingB t.facts.length (-1) s = true) (k : Nat) : (stk t s p k).length ≤ 1000000 ∧ (stk t s p k).Pairwise (· < ·) := by
 have h := stk_rising he (p := p) hs k
 refine ⟨?_, (rising_pw h).1⟩
 rcases rising_len h (by omega) with q | q
 ·omega
 ·rw [q]; simp
end Go.Proofs.YtpabiedjneognaaGreatDoor
namespace Go.Proofs.YtpabiedjneognaaGreatDoor
open Go.Ahl
section
variable {α : Type} [DecidableEq α]
def dd : α → List α → List α
 | _, [] => []
 | p, y :: r => if y = p then dd p r else y :: dd y r
end
def vN (l : List Int) : AV := .slice .fresh (l.map Ahl.encI)
theorem ids_vN (n : Nat) (x : List Int) : Ids n (vN x) := ids_mapf ids_encI x
theorem idsO_rowN (n : Nat) {c : List AV} (h : ∀ x ∈ c, Ids n x) : IdsO n (.row c) := fun j x hj => h x (List.mem_of_getElem? hj)
theorem flat_rep (n : Nat) (v : AV) : (List.replicate n [v]).flatten = List.replicate n v := by
 induction n with
 | zero => rfl
 | succ n ih => rw [List.replicate_succ, List.flatten_cons, ih, List.replicate_succ]; rfl
section
variable {nt t u id len : Nat} {s : Slots} {σ S : Store} {R : Cont} {x : AV} {cells : List AV} {es : List (List AV)}
theorem retRow2 (ht : S.take σ.length = σ) (hs : lk s t = .ref id 1 0 len) (hid : S[id]? = some (.row cells)) (hlen : es.length = len) (hge : σ.length ≤ id) (htu : (t == u) = false) (hu : lk s u = x) (hx : Ids σ.length x) (hi : Ids σ.length (.slice .fresh es))
  (hes : ∀ (i : Nat) e, es[i]? = some e → e.length = 1 ∧ ∀ j, j < 1 → cells[0 + (i * 1 + j)]? = e[j]?) (h : R (.tuple [.slice .fresh es, x]) σ) (hσ : IdsS σ.length σ := by assumption) :
  bodyK [.tmp t, .tmp u] σ.length nt R .ret s S := by
 refine ret_gh2 (v := .slice .fresh es) (x := x) (σ' := σ) ?_ htu (Nat.le_refl _) hσ hi hx h
 refine Ghost.trans (Ghost.freezeF t es hs hid hlen hes) ?_
 have ht' : (S.set id .dead).take σ.length = σ := by rw [List.take_set_of_le hge, ht]
 have := Ghost.cut (n0 := σ.length) (nt := nt) (σ := S.set id .dead) (s := (t, .slice .fresh es) :: s) [(t, .slice .fresh es), (u, x)] σ.length (Nat.le_refl _) ⟨⟨by simp only [Ahl.lk, beq_self_eq_true, cond_true]; exact Wk.refl _, hi⟩, ⟨by simp only [Ahl.lk, htu, cond_false]; rw [hu]; exact Wk.refl _, hx⟩, trivial⟩ (by rw [ht']; exact hσ)
 rwa [ht'] at this
end
structure PB (t : FTask) : Prop where
 tb : TB t
 acts : t.actions.length ≤ 1000000
theorem valid_SB {t : FTask} (h : PB t) (hv : validB t = true) : SB t ∧ EOk t ∧ t.facts.length ≤ 200 := by
 have hf := valid_facts hv
 have hA : ∀ a ∈ t.actions, AV_ t.facts.length a := fun a ha => valid_act hv ha
 refine ⟨⟨h.acts, h.tb.pre, fun a ha => by have := (hA a ha).many; omega, fun a ha e he => ?_⟩, ⟨fun a ha e he => ?_⟩, by omega⟩
 ·rcases condB_len ((hA a ha).whens e he) with q | q
  ·rw [q]; simp
  ·omega
 ·have hv' := hv
  simp only [validB, Bool.and_eq_true] at hv'
  have := List.all_eq_true.1 hv'.2.2.2.2.2.2 a ha
  simp only [actB, Bool.and_eq_true, decide_eq_true_eq] at this
  have h5 := List.all_eq_true.1 this.2.2.2.2 e he
  simp only [effB, Bool.and_eq_true, decide_eq_true_eq] at h5
  exact ⟨h5.2.1, h5.2.2⟩
structure VT (t : FTask) : Prop where
 tb : TB t
 sb : SB t
 eok : EOk t
 nf : t.facts.length ≤ 200
 na : t.actions.length ≤ 1000
 cost : ∀ a ∈ t.actions, 0 ≤ a.cost ∧ a.cost ≤ 100000
theorem valid_VT {t : FTask} (ht : TB t) (hv : validB t = true) : VT t := by
 have hv' := hv
 simp only [validB, Bool.and_eq_true, decide_eq_true_eq] at hv'
 obtain ⟨h1, h2, h3⟩ := valid_SB ⟨ht, by have := hv'.2.1; omega⟩ hv
 refine ⟨ht, h1, h2, h3, hv'.2.1, fun a ha => ?_⟩
 have := List.all_eq_true.1 hv'.2.2.2.2.2.2 a ha
 simp only [actB, Bool.and_eq_true, decide_eq_true_eq] at this
 exact ⟨this.1, this.2.1⟩
theorem rising_200 {n : Nat} (hn : n ≤ 200) {s : List Int} (hs : risingB n (-1) s = true) : s.length ≤ 200 := by
 rcases rising_len hs (by omega) with q | q
 ·omega
 ·rw [q]; simp
end Go.Proofs.YtpabiedjneognaaGreatDoor
namespace Go.Ahl
structure DN (β : Type) where
 b : β
 fr : Int
 act : Int
 cost : Int
section
variable {β : Type}
def runD (A : Nat) (st : β → Nat → Option β) (c : Nat → Int) : List Nat → β → Option (β × Int)
 | [], b => some (b, 0)
 | a :: l, b => if a < A then (match st b a with
  | none => none
  | some u => (match runD A st c l u with
   | none => none
   | some r => some (r.1, c a + r.2))) else none
variable {A : Nat} {st : β → Nat → Option β} {c : Nat → Int} {goal : β → Bool} {root : β} {R : β → Prop} {C : Int}
theorem runD_snoc {l : List Nat} {a : Nat} {b u v : β} {k : Int} (h : runD A st c l b = some (u, k)) (ha : a < A) (hs : st u a = some v) : runD A st c (l ++ [a]) b = some (v, k + c a) := by
 induction l generalizing b k with
 | nil => simp only [runD, Option.some.injEq, Prod.mk.injEq] at h; obtain ⟨rfl, rfl⟩ := h; simp [runD, ha, hs]
 | cons x l ih =>
  simp only [runD, List.cons_append] at h ⊢
  split at h
  ·rename_i hx
   rw [if_pos hx]
   cases hw : st b x with
   | none => rw [hw] at h; simp at h
   | some w =>
    rw [hw] at h
    dsimp only at h ⊢
    cases hr : runD A st c l w with
    | none => rw [hr] at h; simp at h
    | some r =>
     rw [hr] at h
     simp only [Option.some.injEq, Prod.mk.injEq] at h
     obtain ⟨h1, h2⟩ := h
     have := ih (b := w) (k := r.2) (by rw [hr, ← h1])
     rw [this]
     simp only [Option.some.injEq, Prod.mk.injEq, true_and]; omega
  ·simp at h
def Ranked (ns : List (DN β)) : List Nat → Prop
 | [] => True
 | n :: l => (n = 0 ∨ ∃ x p : _, ns[n]? = some x ∧ x.fr = ((p : Nat) : Int) ∧ p ∈ l) ∧ Ranked ns l
theorem Ranked.congr {ns ns' : List (DN β)} : ∀ {S : List Nat}, (∀ n ∈ S, ns'[n]? = ns[n]?) → Ranked ns S → Ranked ns' S
 | [], _, _ => trivial
 | n :: l, h, k => by
  refine ⟨?_, Ranked.congr (fun m hm => h m (List.mem_cons_of_mem _ hm)) k.2⟩
  rcases k.1 with k1 | ⟨x, p, k1, k2, k3⟩
  ·exact .inl k1
  ·exact .inr ⟨x, p, by rw [h n List.mem_cons_self]; exact k1, k2, k3⟩
theorem dn_len {l m : List Nat} (h : l.Nodup) (hs : ∀ x ∈ l, x ∈ m) : l.length ≤ m.length := by
 induction l generalizing m with
 | nil => simp
 | cons x l ih =>
  obtain ⟨h1, h2⟩ := List.nodup_cons.1 h
  have hx := hs x List.mem_cons_self
  have := ih (m := m.erase x) h2 fun y hy => (List.mem_erase_of_ne (fun e : y = x => h1 (e ▸ hy))).2 (hs y (List.mem_cons_of_mem _ hy))
  rw [List.length_erase_of_mem hx] at this
  have := List.length_pos_of_mem hx
  simp only [List.length_cons]; omega
structure DInv (A : Nat) (st : β → Nat → Option β) (c : Nat → Int) (goal : β → Bool) (root : β) (R : β → Prop) (C : Int) (lim : Nat → Nat) (ns : List (DN β)) (Q : List (Nat × Int)) (best : Int) (S : List Nat) : Prop where
 nd : (ns.map (·.b)).Nodup
 r0 : ns[0]? = some ⟨root, -1, 0, 0⟩
 reach : ∀ x ∈ ns, R x.b
 nn : ∀ x ∈ ns, 0 ≤ x.cost
 path : ∀ (i : Nat) x, ns[i]? = some x → 0 < i → ∃ (p a : Nat) (y : DN β), x.fr = p ∧ p ∈ S ∧ ns[p]? = some y ∧ a < A ∧ x.act = a ∧ st y.b a = some x.b ∧ x.cost = y.cost + c a
 rank : Ranked ns S
 settled : ∀ n ∈ S, ∃ x, ns[n]? = some x ∧ ∀ a, a < lim n → ∀ u, st x.b a = some u → ∃ y ∈ ns, y.b = u ∧ y.cost ≤ x.cost + c a
 opn : ∀ (i : Nat) x, ns[i]? = some x → i ∉ S → (i, x.cost) ∈ Q
 items : ∀ q ∈ Q, ∃ x, ns[q.1]? = some x ∧ x.cost ≤ q.2 ∧ (q.1 ∈ S → x.cost < q.2)
 qnd : Q.Nodup
 ord : ∀ n ∈ S, ∀ x, ns[n]? = some x → ∀ q ∈ Q, x.cost ≤ q.2
 snd : S.Nodup
 best : (best = -1 ∧ ∀ n ∈ S, ∀ x, ns[n]? = some x → goal x.b = false) ∨
  ∃ k : Nat, best = k ∧ k ∈ S ∧ ∃ x, ns[k]? = some x ∧ goal x.b = true ∧ ∀ n ∈ S, ∀ y, ns[n]? = some y → goal y.b = true → x.cost ≤ y.cost
 cb : ∀ x ∈ ns, x.cost ≤ C * S.length
 cq : ∀ q ∈ Q, q.2 ≤ C * S.length
structure DNow (A : Nat) (st : β → Nat → Option β) (c : Nat → Int) (goal : β → Bool) (root : β) (R : β → Prop) (C : Int) (n k : Nat) (x : DN β) (ns : List (DN β)) (Q : List (Nat × Int)) (best : Int) (S : List Nat) : Prop where
 inv : DInv A st c goal root R C (fun m => if m = n then k else A) ns Q best S
 mem : n ∈ S
 at_ : ns[n]? = some x
 last : ∀ s ∈ S, ∀ y, ns[s]? = some y → y.cost ≤ x.cost
 cx : x.cost ≤ C * ((S.length : Int) - 1)
theorem DInv.start (hR : R root) : DInv A st c goal root R C (fun _ => A) [⟨root, -1, 0, 0⟩] [(0, 0)] (-1) [] where
 nd := by simp
 r0 := rfl
 reach := by simp [hR]
 nn := by simp
 path := by intro i x h hi; rw [List.getElem?_eq_none (by simp; omega)] at h; simp at h
 rank := trivial
 settled := by simp
 opn := by
  intro i x h _
  cases i with
  | zero => simp at h; subst h; simp
  | succ i => simp at h
 items := by simp
 qnd := by simp
 ord := by simp
 snd := List.Pairwise.nil
 best := .inl ⟨rfl, by simp⟩
 cb := by simp
 cq := by simp
theorem DInv.bnd {lim : Nat → Nat} {ns : List (DN β)} {Q : List (Nat × Int)} {best : Int} {S : List Nat} (h : DInv A st c goal root R C lim ns Q best S) : S.length ≤ ns.length := by
 have h1 : ∀ n ∈ S, n ∈ List.range ns.length := fun n hn => by
  obtain ⟨x, hx, _⟩ := h.settled n hn
  rw [List.mem_range]
  exact (List.getElem?_eq_some_iff.1 hx).1
 have := dn_len h.snd h1
 simpa using this
theorem DInv.stale {lim : Nat → Nat} {ns : List (DN β)} {Q Q' : List (Nat × Int)} {best : Int} {S : List Nat} (h : DInv A st c goal root R C lim ns Q best S) {n : Nat} {cst : Int} {x : DN β} (hq : Q.Perm ((n, cst) :: Q')) (hx : ns[n]? = some x) (hlt : x.cost < cst) :
  DInv A st c goal root R C lim ns Q' best S :=
 have hin : ∀ q ∈ Q', q ∈ Q := fun q hq' => hq.mem_iff.2 (List.mem_cons_of_mem _ hq')
 {h with
  opn := fun i y hy hS => by
   have := hq.mem_iff.1 (h.opn i y hy hS)
   rcases List.mem_cons.1 this with e | e
   ·injection e with e1 e2; subst e1; rw [hx] at hy; injection hy with hy; subst hy; omega
   ·exact e
  items := fun q hq' => h.items q (hin q hq')
  qnd := (List.nodup_cons.1 (hq.nodup_iff.1 h.qnd)).2
  ord := fun m hm y hy q hq' => h.ord m hm y hy q (hin q hq')
  cq := fun q hq' => h.cq q (hin q hq') }
theorem DInv.settle {ns : List (DN β)} {Q Q' : List (Nat × Int)} {best : Int} {S : List Nat} (h : DInv A st c goal root R C (fun _ => A) ns Q best S) {n : Nat} {cst : Int} {x : DN β} (hC : 0 ≤ C) (hq : Q.Perm ((n, cst) :: Q')) (hmin : ∀ q ∈ Q', cst ≤ q.2) (hx : ns[n]? = some x) (hge : ¬ x.cost < cst) :
  DNow A st c goal root R C n 0 x ns Q' (if best < 0 ∧ goal x.b = true then (n : Int) else best) (n :: S) ∧ x.cost = cst := by
 have hin : ∀ q ∈ Q', q ∈ Q := fun q hq' => hq.mem_iff.2 (List.mem_cons_of_mem _ hq')
 have hQn : (n, cst) ∈ Q := hq.mem_iff.2 List.mem_cons_self
 obtain ⟨x', hx', h1, h2⟩ := h.items _ hQn
 dsimp only at hx' h1 h2
 rw [hx] at hx'; injection hx' with hx'; subst hx'
 have hcst : x.cost = cst := by omega
 have hnS : n ∉ S := fun q => hge (h2 q)
 have hnd := List.nodup_cons.1 (hq.nodup_iff.1 h.qnd)
 have hCS : C * ((n :: S).length : Int) = C * S.length + C := by
  rw [List.length_cons]; push_cast; rw [Int.mul_add]; omega
 have hold : ∀ s ∈ S, ∀ y, ns[s]? = some y → y.cost ≤ x.cost := fun s hs y hy => by have := h.ord s hs y hy _ hQn; dsimp only at this; omega
 refine ⟨⟨{ h with
  path := fun i y hy hi => by
   obtain ⟨p, a, z, e1, e2, e3⟩ := h.path i y hy hi
   exact ⟨p, a, z, e1, List.mem_cons_of_mem _ e2, e3⟩
  rank := ⟨?_, h.rank⟩
  settled := fun m hm => ?_
  opn := fun i y hy hS => ?_
  items := fun q hq' => ?_
  qnd := hnd.2
  ord := fun m hm y hy q hq' => ?_
  snd := List.nodup_cons.2 ⟨hnS, h.snd⟩
  best := ?_
  cb := fun y hy => by rw [hCS]; have := h.cb y hy; omega
  cq := fun q hq' => by rw [hCS]; have := h.cq q (hin q hq'); omega }, List.mem_cons_self, hx, fun s hs y hy => ?_, ?_⟩, hcst⟩
 ·rcases Nat.eq_zero_or_pos n with h0 | h0
  ·exact .inl h0
  ·obtain ⟨p, a, z, e1, e2, e3⟩ := h.path n x hx h0
   exact .inr ⟨x, p, hx, e1, e2⟩
 ·rcases List.mem_cons.1 hm with rfl | hm
  ·exact ⟨x, hx, fun a ha => by simp at ha⟩
  ·have hmn : m ≠ n := fun e => hnS (e ▸ hm)
   obtain ⟨y, hy, hy2⟩ := h.settled m hm
   refine ⟨y, hy, fun a ha => hy2 a ?_⟩
   simpa [hmn] using ha
 ·have h1 : i ≠ n := fun e => hS (e ▸ List.mem_cons_self)
  have := hq.mem_iff.1 (h.opn i y hy fun q => hS (List.mem_cons_of_mem _ q))
  rcases List.mem_cons.1 this with e | e
  ·injection e with e1 e2; exact absurd e1 h1
  ·exact e
 ·obtain ⟨y, hy, k1, k2⟩ := h.items q (hin q hq')
  refine ⟨y, hy, k1, fun hm => ?_⟩
  rcases List.mem_cons.1 hm with e | hm
  ·rw [e, hx] at hy; injection hy with hy; subst hy
   rcases Int.lt_or_eq_of_le k1 with k1 | k1
   ·exact k1
   ·exact absurd (show (n, cst) ∈ Q' by rw [← hcst, k1, ← e]; exact hq') hnd.1
  ·exact k2 hm
 ·rcases List.mem_cons.1 hm with rfl | hm
  ·rw [hx] at hy; injection hy with hy; subst hy
   rw [hcst]; exact hmin q hq'
  ·exact h.ord m hm y hy q (hin q hq')
 ·rcases h.best with ⟨hb, hb2⟩ | ⟨k, rfl, hk, z, hz, hg, hz2⟩
  ·cases hgx : goal x.b
   ·rw [if_neg (by simp)]
    refine .inl ⟨hb, fun m hm y hy => ?_⟩
    rcases List.mem_cons.1 hm with rfl | hm
    ·rw [hx] at hy; injection hy with hy; subst hy; exact hgx
    ·exact hb2 m hm y hy
   ·rw [if_pos ⟨by omega, rfl⟩]
    refine .inr ⟨n, rfl, List.mem_cons_self, x, hx, hgx, fun m hm y hy hgy => ?_⟩
    rcases List.mem_cons.1 hm with rfl | hm
    ·rw [hx] at hy; injection hy with hy; subst hy; exact Int.le_refl _
    ·rw [hb2 m hm y hy] at hgy; simp at hgy
  ·rw [if_neg (by omega)]
   refine .inr ⟨k, rfl, List.mem_cons_of_mem _ hk, z, hz, hg, fun m hm y hy hgy => ?_⟩
   rcases List.mem_cons.1 hm with rfl | hm
   ·rw [hx] at hy; injection hy with hy; subst hy; exact hold k hk z hz
   ·exact hz2 m hm y hy hgy
 ·rcases List.mem_cons.1 hs with rfl | hs
  ·rw [hx] at hy; injection hy with hy; subst hy; exact Int.le_refl _
  ·exact hold s hs y hy
 ·have := h.cb x (List.mem_of_getElem? hx)
  rw [List.length_cons]; push_cast
  rw [show ((S.length : Int) + 1 - 1) = S.length by omega]; exact this
theorem DNow.done {n : Nat} {x : DN β} {ns : List (DN β)} {Q : List (Nat × Int)} {best : Int} {S : List Nat} (h : DNow A st c goal root R C n A x ns Q best S) : DInv A st c goal root R C (fun _ => A) ns Q best S := by
 have := h.inv
 simp only [ite_self] at this
 exact this
theorem lim_succ {n k m a : Nat} (h : a < if m = n then k + 1 else A) : (a < if m = n then k else A) ∨ (m = n ∧ a = k) := by
 split at h
 ·rename_i e
  rcases Nat.lt_or_ge a k with q | q
  ·left; rw [if_pos e]; exact q
  ·exact .inr ⟨e, by omega⟩
 ·rename_i e
  left; rw [if_neg e]; exact h
theorem DNow.skip {n k : Nat} {x : DN β} {ns : List (DN β)} {Q : List (Nat × Int)} {best : Int} {S : List Nat} (h : DNow A st c goal root R C n k x ns Q best S)
  (hk : ∀ u, st x.b k = some u → ∃ y ∈ ns, y.b = u ∧ y.cost ≤ x.cost + c k) : DNow A st c goal root R C n (k + 1) x ns Q best S :=
 have key : ∀ m ∈ S, ∃ x, ns[m]? = some x ∧ ∀ a, a < (if m = n then k + 1 else A) → ∀ u, st x.b a = some u → ∃ y ∈ ns, y.b = u ∧ y.cost ≤ x.cost + c a := fun m hm => by
  obtain ⟨y, hy, hy2⟩ := h.inv.settled m hm
  refine ⟨y, hy, fun a ha u hu => ?_⟩
  rcases lim_succ ha with ha | ⟨rfl, rfl⟩
  ·exact hy2 a ha u hu
  ·rw [h.at_] at hy
   injection hy with hy
   subst hy
   exact hk u hu
 {h with inv := { h.inv with settled := key } }
theorem get_app_lt {α : Type} {l : List α} {x y : α} {i : Nat} (h : (l ++ [x])[i]? = some y) : l[i]? = some y ∨ (i = l.length ∧ y = x) := by
 rcases Nat.lt_or_ge i l.length with q | q
 ·rw [List.getElem?_append_left q] at h; exact .inl h
 ·rw [List.getElem?_append_right q] at h
  cases e : i - l.length with
  | zero => rw [e] at h; simp at h; exact .inr ⟨by omega, h.symm⟩
  | succ j => rw [e] at h; simp at h
theorem get_app_of {α : Type} {l : List α} {x y : α} {i : Nat} (h : l[i]? = some y) : (l ++ [x])[i]? = some y := by
 rw [List.getElem?_append_left (List.getElem?_eq_some_iff.1 h).1]; exact h
theorem DNow.new {n k : Nat} {x : DN β} {ns : List (DN β)} {Q Q' : List (Nat × Int)} {best : Int} {S : List Nat} {u : β} (h : DNow A st c goal root R C n k x ns Q best S) (hkA : k < A) (hc : 0 ≤ c k) (hcC : c k ≤ C)
  (hR : R u) (hu : st x.b k = some u) (hnew : u ∉ ns.map (·.b)) (hq : Q'.Perm ((ns.length, x.cost + c k) :: Q)) :
  DNow A st c goal root R C n (k + 1) x (ns ++ [⟨u, n, k, x.cost + c k⟩]) Q' best S := by
 have hn := h.at_
 have hSlt : ∀ m ∈ S, m < ns.length := fun m hm => by obtain ⟨y, hy, _⟩ := h.inv.settled m hm; exact (List.getElem?_eq_some_iff.1 hy).1
 have hget : ∀ m ∈ S, (ns ++ [⟨u, n, k, x.cost + c k⟩])[m]? = ns[m]? := fun m hm => List.getElem?_append_left (hSlt m hm)
 have hx0 := h.inv.nn x (List.mem_of_getElem? hn)
 have hbig : x.cost + c k ≤ C * S.length := by
  have := h.cx; rw [Int.mul_sub] at this; omega
 refine ⟨{ nd := ?_, r0 := get_app_of h.inv.r0, reach := ?_, nn := ?_, path := ?_, rank := h.inv.rank.congr hget, settled := ?_, opn := ?_, items := ?_, qnd := ?_, ord := ?_, snd := h.inv.snd, best := ?_, cb := ?_, cq := ?_ }, h.mem, get_app_of hn, fun s hs y hy => h.last s hs y (by rw [← hget s hs]; exact hy), h.cx⟩
 ·rw [List.map_append, List.nodup_append]
  refine ⟨h.inv.nd, by simp, fun a ha b hb => ?_⟩
  simp at hb; subst hb
  exact fun e => hnew (e ▸ ha)
 ·intro y hy
  rcases List.mem_append.1 hy with hy | hy
  ·exact h.inv.reach y hy
  ·simp at hy; subst hy; exact hR
 ·intro y hy
  rcases List.mem_append.1 hy with hy | hy
  ·exact h.inv.nn y hy
  ·simp at hy; subst hy; dsimp only; omega
 ·intro i y hy hi
  rcases get_app_lt hy with hy | ⟨rfl, rfl⟩
  ·obtain ⟨p, a, z, e1, e2, e3, e4⟩ := h.inv.path i y hy hi
   exact ⟨p, a, z, e1, e2, get_app_of e3, e4⟩
  ·exact ⟨n, k, x, rfl, h.mem, get_app_of hn, hkA, rfl, hu, rfl⟩
 ·intro m hm
  obtain ⟨y, hy, hy2⟩ := h.inv.settled m hm
  refine ⟨y, get_app_of hy, fun a ha v hv => ?_⟩
  rcases lim_succ ha with ha | ⟨rfl, rfl⟩
  ·obtain ⟨z, hz, hz2⟩ := hy2 a ha v hv
   exact ⟨z, List.mem_append_left _ hz, hz2⟩
  ·rw [hn] at hy; injection hy with hy; subst hy
   rw [hu] at hv; injection hv with hv; subst hv
   exact ⟨_, List.mem_append_right _ (List.mem_singleton_self _), rfl, Int.le_refl _⟩
 ·intro i y hy hi
  rw [hq.mem_iff]
  rcases get_app_lt hy with hy | ⟨rfl, rfl⟩
  ·exact List.mem_cons_of_mem _ (h.inv.opn i y hy hi)
  ·exact List.mem_cons_self
 ·intro q hq'
  rcases List.mem_cons.1 (hq.mem_iff.1 hq') with rfl | hq'
  ·refine ⟨⟨u, n, k, x.cost + c k⟩, by simp, Int.le_refl _, fun hm => ?_⟩
   exact absurd (hSlt _ hm) (by dsimp only; omega)
  ·obtain ⟨y, hy, k1⟩ := h.inv.items q hq'
   exact ⟨y, get_app_of hy, k1⟩
 ·rw [hq.nodup_iff, List.nodup_cons]
  refine ⟨fun hm => ?_, h.inv.qnd⟩
  obtain ⟨y, hy, _⟩ := h.inv.items _ hm
  have := (List.getElem?_eq_some_iff.1 hy).1
  dsimp only at this; omega
 ·intro m hm y hy q hq'
  rw [hget m hm] at hy
  rcases List.mem_cons.1 (hq.mem_iff.1 hq') with rfl | hq'
  ·have := h.last m hm y hy; dsimp only; omega
  ·exact h.inv.ord m hm y hy q hq'
 ·rcases h.inv.best with ⟨hb, hb2⟩ | ⟨j, rfl, hj, z, hz, hg, hz2⟩
  ·exact .inl ⟨hb, fun m hm y hy => hb2 m hm y (by rw [← hget m hm]; exact hy)⟩
  ·exact .inr ⟨j, rfl, hj, z, get_app_of hz, hg, fun m hm y hy => hz2 m hm y (by rw [← hget m hm]; exact hy)⟩
 ·intro y hy
  rcases List.mem_append.1 hy with hy | hy
  ·exact h.inv.cb y hy
  ·simp at hy; subst hy; exact hbig
 ·intro q hq'
  rcases List.mem_cons.1 (hq.mem_iff.1 hq') with rfl | hq'
  ·exact hbig
  ·exact h.inv.cq q hq'
theorem set_get {α : Type} {l : List α} {j i : Nat} {x y : α} (h : (l.set j x)[i]? = some y) : (i = j ∧ y = x) ∨ (i ≠ j ∧ l[i]? = some y) := by
 by_cases e : i = j
 ·subst e
  have hl : i < l.length := by have := (List.getElem?_eq_some_iff.1 h).1; simpa using this
  rw [List.getElem?_set_self hl] at h
  injection h with h; exact .inl ⟨rfl, h.symm⟩
 ·rw [List.getElem?_set_ne (fun q => e q.symm)] at h; exact .inr ⟨e, h⟩
theorem DNow.better {n k j : Nat} {x y : DN β} {ns : List (DN β)} {Q Q' : List (Nat × Int)} {best : Int} {S : List Nat} (h : DNow A st c goal root R C n k x ns Q best S) (hkA : k < A) (hc : 0 ≤ c k) (hcC : c k ≤ C)
  (hy : ns[j]? = some y) (hu : st x.b k = some y.b) (hlt : x.cost + c k < y.cost) (hq : Q'.Perm ((j, x.cost + c k) :: Q)) :
  DNow A st c goal root R C n (k + 1) x (ns.set j ⟨y.b, n, k, x.cost + c k⟩) Q' best S := by
 have hn := h.at_
 have hx0 := h.inv.nn x (List.mem_of_getElem? hn)
 have hjS : j ∉ S := fun q => by have := h.last j q y hy; omega
 have hj0 : j ≠ 0 := fun e => by subst e; rw [h.inv.r0] at hy; injection hy with hy; subst hy; dsimp only at hlt; omega
 have hjl : j < ns.length := (List.getElem?_eq_some_iff.1 hy).1
 have hget : ∀ m ∈ S, (ns.set j ⟨y.b, n, k, x.cost + c k⟩)[m]? = ns[m]? := fun m hm => List.getElem?_set_ne (fun e : j = m => hjS (e ▸ hm))
 have hbig : x.cost + c k ≤ C * S.length := by
  have := h.cx; rw [Int.mul_sub] at this; omega
 have hmap : (ns.set j ⟨y.b, n, k, x.cost + c k⟩).map (·.b) = ns.map (·.b) := by
  rw [List.map_set]
  apply List.ext_getElem?
  intro i
  by_cases e : i = j
  ·subst e; rw [List.getElem?_set_self (by simpa using hjl), List.getElem?_map, hy]; rfl
  ·rw [List.getElem?_set_ne (fun q => e q.symm)]
 have hmem : ∀ z ∈ ns.set j ⟨y.b, n, k, x.cost + c k⟩, z = ⟨y.b, n, k, x.cost + c k⟩ ∨ z ∈ ns := fun z hz => by
  rcases List.mem_or_eq_of_mem_set hz with q | q
  ·exact .inr q
  ·exact .inl q
 have hup : ∀ z ∈ ns, ∃ z' ∈ ns.set j ⟨y.b, n, k, x.cost + c k⟩, z'.b = z.b ∧ z'.cost ≤ z.cost := fun z hz => by
  obtain ⟨i, hi, rfl⟩ := List.mem_iff_getElem.1 hz
  by_cases e : i = j
  ·subst e
   have : ns[i] = y := by rw [List.getElem?_eq_getElem hi] at hy; injection hy
   exact ⟨⟨y.b, n, k, x.cost + c k⟩, List.mem_iff_getElem?.2 ⟨i, List.getElem?_set_self hjl⟩, by rw [this], by rw [this]; dsimp only; omega⟩
  ·exact ⟨ns[i], List.mem_iff_getElem?.2 ⟨i, by rw [List.getElem?_set_ne (fun q => e q.symm)]; exact List.getElem?_eq_getElem hi⟩, rfl, Int.le_refl _⟩
 refine ⟨{ nd := by rw [hmap]; exact h.inv.nd, r0 := by rw [List.getElem?_set_ne hj0]; exact h.inv.r0, reach := ?_, nn := ?_, path := ?_, rank := h.inv.rank.congr hget, settled := ?_, opn := ?_, items := ?_, qnd := ?_, ord := ?_, snd := h.inv.snd, best := ?_, cb := ?_, cq := ?_ }, h.mem, by rw [hget n h.mem]; exact hn, fun s hs z hz => h.last s hs z (by rw [← hget s hs]; exact hz), h.cx⟩
 ·intro z hz
  rcases hmem z hz with rfl | hz
  ·exact h.inv.reach y (List.mem_of_getElem? hy)
  ·exact h.inv.reach z hz
 ·intro z hz
  rcases hmem z hz with rfl | hz
  ·dsimp only; omega
  ·exact h.inv.nn z hz
 ·intro i z hz hi
  rcases set_get hz with ⟨rfl, rfl⟩ | ⟨_, hz⟩
  ·exact ⟨n, k, x, rfl, h.mem, by rw [hget n h.mem]; exact hn, hkA, rfl, hu, rfl⟩
  ·obtain ⟨p, a, v, e1, e2, e3, e4⟩ := h.inv.path i z hz hi
   exact ⟨p, a, v, e1, e2, by rw [hget p e2]; exact e3, e4⟩
 ·intro m hm
  obtain ⟨z, hz, hz2⟩ := h.inv.settled m hm
  refine ⟨z, by rw [hget m hm]; exact hz, fun a ha v hv => ?_⟩
  rcases lim_succ ha with ha | ⟨rfl, rfl⟩
  ·obtain ⟨r, hr, hr1, hr2⟩ := hz2 a ha v hv
   obtain ⟨r', hr', e1, e2⟩ := hup r hr
   exact ⟨r', hr', e1.trans hr1, by omega⟩
  ·rw [hn] at hz; injection hz with hz; subst hz
   rw [hu] at hv; injection hv with hv; subst hv
   exact ⟨_, List.mem_iff_getElem?.2 ⟨j, List.getElem?_set_self hjl⟩, rfl, Int.le_refl _⟩
 ·intro i z hz hi
  rw [hq.mem_iff]
  rcases set_get hz with ⟨rfl, rfl⟩ | ⟨_, hz⟩
  ·exact List.mem_cons_self
  ·exact List.mem_cons_of_mem _ (h.inv.opn i z hz hi)
 ·intro q hq'
  rcases List.mem_cons.1 (hq.mem_iff.1 hq') with rfl | hq'
  ·exact ⟨⟨y.b, n, k, x.cost + c k⟩, List.getElem?_set_self hjl, Int.le_refl _, fun hm => absurd hm hjS⟩
  ·obtain ⟨z, hz, k1, k2⟩ := h.inv.items q hq'
   by_cases e : q.1 = j
   ·rw [e] at hz; rw [hy] at hz; injection hz with hz; subst hz
    exact ⟨⟨y.b, n, k, x.cost + c k⟩, by rw [e]; exact List.getElem?_set_self hjl, by dsimp only; omega, fun hm => absurd (e ▸ hm) hjS⟩
   ·exact ⟨z, by rw [List.getElem?_set_ne (fun r => e r.symm)]; exact hz, k1, k2⟩
 ·rw [hq.nodup_iff, List.nodup_cons]
  refine ⟨fun hm => ?_, h.inv.qnd⟩
  obtain ⟨z, hz, k1, _⟩ := h.inv.items _ hm
  dsimp only at hz k1
  rw [hy] at hz; injection hz with hz; subst hz; omega
 ·intro m hm z hz q hq'
  rw [hget m hm] at hz
  rcases List.mem_cons.1 (hq.mem_iff.1 hq') with rfl | hq'
  ·have := h.last m hm z hz; dsimp only; omega
  ·exact h.inv.ord m hm z hz q hq'
 ·rcases h.inv.best with ⟨hb, hb2⟩ | ⟨i, rfl, hi, z, hz, hg, hz2⟩
  ·exact .inl ⟨hb, fun m hm z hz => hb2 m hm z (by rw [← hget m hm]; exact hz)⟩
  ·exact .inr ⟨i, rfl, hi, z, by rw [hget i hi]; exact hz, hg, fun m hm v hv => hz2 m hm v (by rw [← hget m hm]; exact hv)⟩
 ·intro z hz
  rcases hmem z hz with rfl | hz
  ·exact hbig
  ·exact h.inv.cb z hz
 ·intro q hq'
  rcases List.mem_cons.1 (hq.mem_iff.1 hq') with rfl | hq'
  ·exact hbig
  ·exact h.inv.cq q hq'
inductive Chain (ns : List (DN β)) : Nat → List Nat → Prop
 | nil : Chain ns 0 []
 | cons {i p a : Nat} {x : DN β} {l : List Nat} (h : ns[i]? = some x) (hf : x.fr = p) (ha : x.act = a) (t : Chain ns p l) : Chain ns i (a :: l)
theorem DInv.chain {lim : Nat → Nat} {ns : List (DN β)} {Q : List (Nat × Int)} {best : Int} {S : List Nat} (h : DInv A st c goal root R C lim ns Q best S) :
  ∀ T : List Nat, (∀ n ∈ T, n ∈ S) → Ranked ns T → ∀ n ∈ T, ∃ l x, Chain ns n l ∧ l.length < T.length ∧ (∀ a ∈ l, a < A) ∧ ns[n]? = some x ∧ runD A st c l.reverse root = some (x.b, x.cost)
 | [], _, _, n, hn => by simp at hn
 | m :: T, hT, hr, n, hn => by
  have ih := DInv.chain h T (fun n hn => hT n (List.mem_cons_of_mem _ hn)) hr.2
  rcases List.mem_cons.1 hn with rfl | hn
  ·rcases Nat.eq_zero_or_pos n with rfl | h0
   ·exact ⟨[], _, .nil, by simp, by simp, h.r0, rfl⟩
   ·rcases hr.1 with e | ⟨x, p, hx, hf, hp⟩
    ·omega
    ·obtain ⟨p', a, y, e1, e2, e3, e4, e5, e6, e7⟩ := h.path n x hx h0
     have hpp : p' = p := by rw [hf] at e1; omega
     subst hpp
     obtain ⟨l, z, c1, c2, c3, c4, c5⟩ := ih p' hp
     rw [e3] at c4; injection c4 with c4; subst c4
     refine ⟨a :: l, x, .cons hx hf e5 c1, by simp only [List.length_cons]; omega, fun b hb => ?_, hx, ?_⟩
     ·rcases List.mem_cons.1 hb with rfl | hb
      ·exact e4
      ·exact c3 b hb
     ·rw [List.reverse_cons, runD_snoc c5 e4 e6, e7]
  ·obtain ⟨l, x, c1, c2, c3⟩ := ih n hn
   exact ⟨l, x, c1, by simp only [List.length_cons]; omega, c3⟩
theorem DInv.low {ns : List (DN β)} {best : Int} {S : List Nat} (h : DInv A st c goal root R C (fun _ => A) ns [] best S) : ∀ (l : List Nat) (x : DN β) (v : β) (k : Int), x ∈ ns → runD A st c l x.b = some (v, k) → ∃ y ∈ ns, y.b = v ∧ y.cost ≤ x.cost + k
 | [], x, v, k, hx, e => by
  simp only [runD, Option.some.injEq, Prod.mk.injEq] at e
  exact ⟨x, hx, e.1, by omega⟩
 | a :: l, x, v, k, hx, e => by
  simp only [runD] at e
  split at e
  ·rename_i ha
   split at e
   ·simp at e
   ·rename_i u hu
    cases hr : runD A st c l u with
    | none => rw [hr] at e; simp at e
    | some r =>
     rw [hr] at e
     simp only [Option.some.injEq, Prod.mk.injEq] at e
     obtain ⟨i, hi, rfl⟩ := List.mem_iff_getElem.1 hx
     have hget := List.getElem?_eq_getElem hi
     have hS : i ∈ S := Classical.byContradiction fun q => by have := h.opn i _ hget q; simp at this
     obtain ⟨x', hx', h2⟩ := h.settled i hS
     rw [hget] at hx'; injection hx' with hx'; subst hx'
     obtain ⟨y, hy, y1, y2⟩ := h2 a ha u hu
     obtain ⟨z, hz, z1, z2⟩ := DInv.low h l y v r.2 hy (by rw [y1, hr, ← e.1])
     exact ⟨z, hz, z1, by omega⟩
  ·simp at e
theorem DInv.fin {ns : List (DN β)} {best : Int} {S : List Nat} (h : DInv A st c goal root R C (fun _ => A) ns [] best S) :
  (best = -1 ∧ ∀ l v k, runD A st c l root = some (v, k) → goal v = false) ∨
  ∃ (i : Nat) (x : DN β) (l : List Nat), best = i ∧ ns[i]? = some x ∧ Chain ns i l ∧ l.length < ns.length ∧ (∀ a ∈ l, a < A) ∧ runD A st c l.reverse root = some (x.b, x.cost) ∧ goal x.b = true ∧
   ∀ l v k, runD A st c l root = some (v, k) → goal v = true → x.cost ≤ k := by
 have hall : ∀ l v k, runD A st c l root = some (v, k) → ∃ i ∈ S, ∃ y, ns[i]? = some y ∧ y.b = v ∧ y.cost ≤ k := fun l v k e => by
  obtain ⟨y, hy, y1, y2⟩ := h.low l ⟨root, -1, 0, 0⟩ v k (List.mem_of_getElem? h.r0) e
  obtain ⟨i, hi, rfl⟩ := List.mem_iff_getElem.1 hy
  have hget := List.getElem?_eq_getElem hi
  exact ⟨i, Classical.byContradiction fun q => by have := h.opn i _ hget q; simp at this, _, hget, y1, by dsimp only at y2; omega⟩
 rcases h.best with ⟨hb, hb2⟩ | ⟨i, rfl, hi, x, hx, hg, hx2⟩
 ·refine .inl ⟨hb, fun l v k e => ?_⟩
  obtain ⟨j, hj, y, hy, rfl, _⟩ := hall l v k e
  exact hb2 j hj y hy
 ·obtain ⟨l, x', c1, c2, c3, c4, c5⟩ := h.chain S (fun _ q => q) h.rank i hi
  rw [hx] at c4; injection c4 with c4; subst c4
  refine .inr ⟨i, x, l, rfl, hx, c1, Nat.lt_of_lt_of_le c2 h.bnd, c3, c5, hg, fun l v k e hv => ?_⟩
  obtain ⟨j, hj, y, hy, rfl, hk⟩ := hall l v k e
  have := hx2 j hj y hy hv
  omega
end
end Go.Ahl
namespace Go.Ahl
def dgL (n : Nat) : List UInt8 := if n < 10 then [UInt8.ofNat (48 + n)] else dgL (n / 10) ++ [UInt8.ofNat (48 + n % 10)]
termination_by n
decreasing_by omega
theorem dgL_small {n : Nat} (h : n < 10) : dgL n = [UInt8.ofNat (48 + n)] := by rw [dgL, if_pos h]
theorem dgL_big {n : Nat} (h : ¬ n < 10) : dgL n = dgL (n / 10) ++ [UInt8.ofNat (48 + n % 10)] := by rw [dgL, if_neg h]
theorem digit_nat {n : Nat} (h : n < 10) : (UInt8.ofNat (48 + n)).toNat = 48 + n := by
 rw [UInt8.toNat_ofNat']; exact Nat.mod_eq_of_lt (by omega)
def valL (l : List UInt8) : Nat := l.foldl (fun v d => 10 * v + (d.toNat - 48)) 0
theorem dgL_val : ∀ n : Nat, valL (dgL n) = n := fun n => by
 induction n using Nat.strongRecOn with
 | _ n ih =>
  by_cases h : n < 10
  ·rw [dgL_small h]; simp only [valL, List.foldl_cons, List.foldl_nil, digit_nat h]; omega
  ·rw [dgL_big h, valL, List.foldl_append]
   have := ih (n / 10) (by omega)
   unfold valL at this
   rw [this]; simp only [List.foldl_cons, List.foldl_nil, digit_nat (show n % 10 < 10 by omega)]; omega
theorem dgL_inj {n k : Nat} (h : dgL n = dgL k) : n = k := by rw [← dgL_val n, h, dgL_val]
theorem dgL_digit : ∀ n : Nat, ∀ d ∈ dgL n, 48 ≤ d.toNat ∧ d.toNat ≤ 57 := fun n => by
 induction n using Nat.strongRecOn with
 | _ n ih =>
  intro d hd
  by_cases h : n < 10
  ·rw [dgL_small h] at hd; obtain rfl := List.mem_singleton.1 hd
   rw [digit_nat h]; omega
  ·rw [dgL_big h] at hd
   rcases List.mem_append.1 hd with hd | hd
   ·exact ih (n / 10) (by omega) d hd
   ·obtain rfl := List.mem_singleton.1 hd
    rw [digit_nat (show n % 10 < 10 by omega)]; omega
theorem dgL_len {n : Nat} : ∀ k : Nat, n < 10 ^ k → 0 < k → (dgL n).length ≤ k := fun k => by
 induction k generalizing n with
 | zero => intro _ h; omega
 | succ k ih =>
  intro h _
  by_cases h1 : n < 10
  ·rw [dgL_small h1]; simp
  ·rw [dgL_big h1, List.length_append]
   have hk : 0 < k := by
    rcases Nat.eq_zero_or_pos k with rfl | q
    ·simp at h; omega
    ·exact q
   have := ih (n := n / 10) (by rw [Nat.pow_succ] at h; omega) hk
   simp only [List.length_singleton]; omega
def wordsL (m : UInt8) (ws : List (List UInt8)) : List UInt8 := ws.flatMap (· ++ [m])
theorem head_inj {m : UInt8} : ∀ {w v a b : List UInt8}, m ∉ w → m ∉ v → w ++ m :: a = v ++ m :: b → w = v ∧ a = b
 | [], [], a, b, _, _, h => by simp at h; exact ⟨rfl, h⟩
 | [], y :: v, a, b, _, hv, h => by simp at h; exact absurd h.1 (fun e => hv (by rw [e]; exact List.mem_cons_self))
 | x :: w, [], a, b, hw, _, h => by simp at h; exact absurd h.1 (fun e => hw (by rw [e]; exact List.mem_cons_self))
 | x :: w, y :: v, a, b, hw, hv, h => by
  simp only [List.cons_append, List.cons.injEq] at h
  obtain ⟨h1, h2⟩ := head_inj (fun q => hw (List.mem_cons_of_mem _ q)) (fun q => hv (List.mem_cons_of_mem _ q)) h.2
  exact ⟨by rw [h.1, h1], h2⟩
theorem words_inj {m : UInt8} : ∀ {ws vs : List (List UInt8)}, (∀ w ∈ ws, m ∉ w) → (∀ v ∈ vs, m ∉ v) → wordsL m ws = wordsL m vs → ws = vs
 | [], [], _, _, _ => rfl
 | [], v :: vs, _, _, h => by simp [wordsL] at h
 | w :: ws, [], _, _, h => by simp [wordsL] at h
 | w :: ws, v :: vs, hw, hv, h => by
  simp only [wordsL, List.flatMap_cons, List.append_assoc, List.singleton_append] at h
  obtain ⟨h1, h2⟩ := head_inj (hw w List.mem_cons_self) (hv v List.mem_cons_self) h
  rw [h1, words_inj (fun x q => hw x (List.mem_cons_of_mem _ q)) (fun x q => hv x (List.mem_cons_of_mem _ q)) h2]
theorem words_snoc (m : UInt8) (ws : List (List UInt8)) (w : List UInt8) : wordsL m (ws ++ [w]) = wordsL m ws ++ (w ++ [m]) := by
 simp [wordsL, List.flatMap_append]
theorem words_len {m : UInt8} {ws : List (List UInt8)} {k : Nat} (h : ∀ w ∈ ws, w.length ≤ k) : (wordsL m ws).length ≤ (k + 1) * ws.length := by
 induction ws with
 | nil => simp [wordsL]
 | cons w ws ih =>
  have h1 := ih fun x q => h x (List.mem_cons_of_mem _ q)
  have h2 := h w List.mem_cons_self
  unfold wordsL at h1 ⊢
  rw [List.flatMap_cons, List.length_append, List.length_append, show (w :: ws).length = ws.length + 1 from rfl, Nat.mul_succ]
  simp only [List.length_singleton]; omega
end Go.Ahl
namespace Go.Ahl
open Go.Sort Go.Shelf Go.Lib Go.Proofs
variable {P : Program} {ρ : Ren} {m : Mem} {loc : List Loc} {σ : Store} {w w' : World}
theorem SRel.more (h : SRel m loc σ w) (n0 : Nat) (hh : ∀ b, b < w.heap.size → w'.heap[b]? = w.heap[b]?) (hs : w.heap.size ≤ w'.heap.size) (h1 : w'.os = w.os) (h2 : w'.tape = w.tape) (h3 : w'.output = w.output) (h4 : w.drawn ≤ w'.drawn) :
  SRel m loc σ w' ∧ Ext n0 m loc w m loc w' := by
 have hc : ∀ b o, b < w.heap.size → w'.cell? ⟨b, o, none⟩ = w.cell? ⟨b, o, none⟩ := fun b o hb => by simp [World.cell?, hh b hb]
 have hown : ∀ (i : Nat) l o b, loc[i]? = some l → σ[i]? = some o → own l o = some b → b < w.heap.size := fun i l o b e1 e2 e3 => by
  refine h.lt b ⟨i, ?_⟩
  cases l with
  | nowhere => cases o <;> simp [own] at e3
  | blk k => left; cases o <;> simp [own] at e3 <;> subst e3 <;> exact e1
  | tok sz f =>
   right
   cases o <;> simp only [own, reduceCtorEq] at e3
   ·exact ⟨sz, f, _, e1, Option.join_eq_some_iff.1 e3⟩
   ·exact ⟨sz, f, _, e1, Option.join_eq_some_iff.1 e3⟩
 refine ⟨⟨h.len, fun b o v e => ?_, fun b n e => ?_, fun i l o e1 e2 => ?_, h.inj, fun b e => Nat.lt_of_lt_of_le (h.lt b e) hs, fun b e q => ?_, h.mpo, ?_⟩, ⟨h1, h2, h3, h4, hs, .refl m, .refl _ _, fun b e => .inl e, fun b hb _ _ => hh b hb, fun b o K e => .inl e⟩⟩
 ·rw [hc b o (h.im_lt e)]; exact h.im b o v e
 ·obtain ⟨arr, t, fz, q1, q2⟩ := h.bs b n e
  exact ⟨arr, t, fz, by rw [hh b (lt_of_heap q1)]; exact q1, q2⟩
 ·exact (h.obj i l o e1 e2).mono (.refl m) (.refl _ _) (fun b e3 => hh b (hown i l o b e1 e2 e3)) (fun _ _ _ => rfl)
 ·have := h.mp b e q
  rw [hh b (lt_of_heap this)]; exact this
 ·refine h.ok.to rfl hs (fun _ e => .inl e) rfl (fun _ _ _ _ => rfl) (fun b hb _ => hh b hb) fun b o v hb e => ?_
  have hlt := h.im_lt e
  rw [frozen_same (hh b hlt)]
  rcases hb with hb | hb
  ·exact h.ok.fz b o v (h.ok.own b hb) e
  ·omega
theorem decDigits_dgL (u : Nat) : decDigits u = dgL u := by
 induction u using Nat.strongRecOn with
 | _ u ih =>
  rw [decDigits, dgL]
  by_cases h : u < 10
  ·rw [dif_pos h, if_pos h]
  ·rw [dif_neg h, if_neg h, ih (u / 10) (by omega)]
def powObj (b : Nat) : AObj := .tab b (pow10Tab.map fun z => Value.int .u64 z)
theorem tab_is (h : SRel m loc σ w) {b : Nat} (hg : P.globalNamed "internal/strconv.uint64pow10" = some b) {i : Nat} (hσ : σ[i]? = some (powObj b)) : TabIs P w "internal/strconv.uint64pow10" .u64 pow10Tab := by
 have hi : i < loc.length := by rw [h.len]; exact lt_of_get hσ
 have ho := h.obj i _ _ (List.getElem?_eq_getElem hi) hσ
 unfold powObj at ho
 generalize loc[i] = l at ho
 cases l with
 | blk k => exact ho.elim
 | tok sz f => exact ho.elim
 | nowhere =>
  obtain ⟨h1, h2⟩ := ho
  obtain ⟨arr, t, fz, q1, q2⟩ := h.bs b _ h1
  unfold TabIs World.var?
  rw [hg]
  simp only [Option.bind_some, q1, Option.some.injEq]
  apply Array.ext (by rw [q2]; simp)
  intro j hj hj'
  have hj2 : j < (pow10Tab.map fun z => Value.int .u64 z).length := by simpa using hj'
  have := h.im b j _ (h2 j _ (List.getElem?_eq_getElem hj2))
  simp only [World.cell?, q1] at this
  rw [Array.getElem?_eq_getElem hj] at this
  injection this with this
theorem itoaA (L : LaysM.n171 P ρ) {fn : Func} (hf : P.funcs[ρ.f 171]? = some fn) (hfb : fn.body.isSome = true) (hfn : fn.name ≠ "runtime.NumGoroutine") {b : Nat} (hg : P.globalNamed "internal/strconv.uint64pow10" = some b)
  (n : Nat) (hn : n ≤ 1000000) (σ : Store) {i : Nat} (hσ : σ[i]? = some (powObj b)) : ACalls P (ρ.f 171) [.int .i64 (n : Nat)] σ (isR (.str (bys (dgL n))) σ) := by
 intro m loc w vs hs ha
 refine .inl ⟨fn, hf, hfb, hfn, ?_⟩
 obtain rfl : vs = #[.int .i64 (n : Nat)] := by
  obtain ⟨h1, h2⟩ := ha
  have h1 : vs.size = 1 := h1
  have h3 := h2 0 (.int .i64 (n : Nat)) vs[0] rfl (Array.getElem?_eq_getElem _)
  generalize hv : vs[0] = v at h3
  cases h3
  apply Array.ext (by simp [h1])
  intro i hi _
  have : i = 0 := by omega
  subst this
  rw [hv]; rfl
 refine (Any.strconv_Itoa L (n : Nat) (by omega) (by omega) w (tab_is hs hg hσ)).mono ?_
 rintro e w' ⟨rfl, k, os, rfl⟩
 have hit : (itoa (n : Nat)).toArray = (dgL n).toArray := by
  rw [itoa, if_neg (by omega), Int.toNat_natCast, decDigits_dgL]
 obtain ⟨q1, q2⟩ := hs.more (w' := grow (w.drewN k) os) σ.length (fun b hb => by simp [grow, Array.getElem?_append, hb]) (by simp [grow]) rfl rfl rfl (by simp [grow, World.drewN])
 refine ⟨_, rfl, .str (bys (dgL n)), σ, m, loc, ⟨rfl, rfl⟩, ?_, q1, ?_⟩
 ·rw [hit]; exact .str _
 ·rw [← hs.len] at q2; exact q2
end Go.Ahl
namespace Go.Proofs
open Go.Shelf Go.RowKit Go.Lib Go.Sort
def YtpabiedjneognaaGreatDoor.laysItoa_ren : Go.Shelf.Ren := ⟨fun | 171 => 81 | 243 => 102 | 246 => 125 | 283 => 152 | 284 => 153 | 285 => 154 | 286 => 155 | 129 => 116 | 317 => 164 | 318 => 165 | 319 => 166 | 320 => 167 | 337 => 171 | 338 => 172 | n => n, fun | 3 => 3 | 9 => 9 | 2 => 2 | 4 => 4 | 171 => 206 | 0 => 0 | 53 => 182 | 37 => 45 | 5 => 5 | 173 => 208 | 212 => 218 | 51 => 180 | 20 => 20 | 213 => 219 | 46 => 158 | 232 => 222 | 233 => 223 | n => n, fun | 17 => 0 | 18 => 2 | 19 => 3 | n => n⟩
theorem YtpabiedjneognaaGreatDoor.laysItoa : Go.Proofs.LaysM.n171 Tryz.prog YtpabiedjneognaaGreatDoor.laysItoa_ren := {
 mixed := by kernel_rfl
 f129 := Tryz.func116.trans (congrArg some (by kernel_rfl))
 f171 := Tryz.func81.trans (congrArg some (by kernel_rfl))
 f243 := Tryz.func102.trans (congrArg some (by kernel_rfl))
 f246 := Tryz.func125.trans (congrArg some (by kernel_rfl))
 f283 := Tryz.func152.trans (congrArg some (by kernel_rfl))
 f284 := Tryz.func153.trans (congrArg some (by kernel_rfl))
 f285 := Tryz.func154.trans (congrArg some (by kernel_rfl))
 f286 := Tryz.func155.trans (congrArg some (by kernel_rfl))
 f317 := Tryz.func164.trans (congrArg some (by kernel_rfl))
 f318 := Tryz.func165.trans (congrArg some (by kernel_rfl))
 f319 := Tryz.func166.trans (congrArg some (by kernel_rfl))
 f320 := Tryz.func167.trans (congrArg some (by kernel_rfl))
 f337 := Tryz.func171.trans (congrArg some (by kernel_rfl))
 f338 := Tryz.func172.trans (congrArg some (by kernel_rfl))
 t0 := Tryz.underlying0
 a0 := Tryz.isAgg0
 z0 := Tryz.sizeOf0
 v0 := Tryz.zeroValue0
 t2 := Tryz.underlying2
 a2 := Tryz.isAgg2
 z2 := Tryz.sizeOf2
 v2 := Tryz.zeroValue2
 t3 := Tryz.underlying3
 a3 := Tryz.isAgg3
 z3 := Tryz.sizeOf3
 v3 := Tryz.zeroValue3
 t4 := Tryz.underlying4
 a4 := Tryz.isAgg4
 z4 := Tryz.sizeOf4
 v4 := Tryz.zeroValue4
 t5 := Tryz.underlying5
 a5 := Tryz.isAgg5
 z5 := Tryz.sizeOf5
 v5 := Tryz.zeroValue5
 t9 := Tryz.underlying9
 a9 := Tryz.isAgg9
 z9 := Tryz.sizeOf9
 v9 := Tryz.zeroValue9
 t20 := Tryz.underlying20
 a20 := Tryz.isAgg20
 z20 := Tryz.sizeOf20
 v20 := Tryz.zeroValue20
 t37 := Tryz.underlying45
 a37 := Tryz.isAgg45
 z37 := Tryz.sizeOf45
 v37 := Tryz.zeroValue45
 t46 := Tryz.underlying158
 a46 := Tryz.isAgg158
 z46 := Tryz.sizeOf158
 v46 := Tryz.zeroValue158
 t51 := Tryz.underlying180
 a51 := Tryz.isAgg180
 z51 := Tryz.sizeOf180
 v51 := Tryz.zeroValue180
 t53 := Tryz.underlying182
 a53 := Tryz.isAgg182
 z53 := Tryz.sizeOf182
 v53 := Tryz.zeroValue182
 t171 := Tryz.underlying206
 a171 := Tryz.isAgg206
 z171 := Tryz.sizeOf206
 v171 := Tryz.zeroValue206
 t173 := Tryz.underlying208
 a173 := Tryz.isAgg208
 z173 := Tryz.sizeOf208
 v173 := Tryz.zeroValue208
 t212 := Tryz.underlying218
 a212 := Tryz.isAgg218
 z212 := Tryz.sizeOf218
 v212 := Tryz.zeroValue218
 t213 := Tryz.underlying219
 a213 := Tryz.isAgg219
 z213 := Tryz.sizeOf219
 t232 := Tryz.underlying222
 a232 := Tryz.isAgg222
 z232 := Tryz.sizeOf222
 v232 := Tryz.zeroValue222
 t233 := Tryz.underlying223
 a233 := Tryz.isAgg223
 z233 := Tryz.sizeOf223
 v233 := Tryz.zeroValue223
 g17 := by kernel_rfl
 g18 := by kernel_rfl
 g19 := by kernel_rfl
 i0 := by kernel_rfl
 i2 := by kernel_rfl
 i3 := by kernel_rfl
 i4 := by kernel_rfl
 i5 := by kernel_rfl
 i9 := by kernel_rfl
 i20 := by kernel_rfl
 i37 := by kernel_rfl
 i46 := by kernel_rfl
 i51 := by kernel_rfl
 i53 := by kernel_rfl
 i171 := by kernel_rfl
 i173 := by kernel_rfl
 i212 := by kernel_rfl
 i232 := by kernel_rfl
 i233 := by kernel_rfl
 m17 := by kernel_rfl
 m18 := by kernel_rfl
 m19 := by kernel_rfl }
end Go.Proofs
namespace Go.Proofs.YtpabiedjneognaaGreatDoor
open Go.Ahl
instance : IdE encU8 := ⟨fun _ _ => idsL_cons (.int _ _) idsL_nil⟩
theorem bys_app (a b : List UInt8) : bys a ++ bys b = bys (a ++ b) := ByteArray.ext (by simp [bys])
theorem bys_inj {a b : List UInt8} (h : bys a = bys b) : a = b := by
 have := congrArg (fun x : ByteArray => x.data.toList) h
 simpa [bys] using this
theorem bys_size (a : List UInt8) : (bys a).size = a.length := rfl
def c_digits : CCode := .seq (.ops [oS 2 (.move (.lit (.str (bys []))))]) (.seq (.ops [oS 3 (.move (.lit (.str (bys []))))]) (.block 0 (.loop (.block 1 (.seq (.ops [oS 4 (.move (.tmp 0)), oS 5 (.bin .rem .none (.tmp 4) (.lit (.int .i64 10))), oS 6 (.bin .add .none (.lit (.int .i64 48)) (.tmp 5)), oS 7 (.conv .u8 (.tmp 6)), oS 8 (.bslice 1 [.tmp 7] false), oS 9 (.bstr (.tmp 8)), oS 10 (.move (.tmp 3)), oS 11 (.bin .add .none (.tmp 9) (.tmp 10)), oS 3 (.move (.tmp 11))]) (.seq (.ops [oS 12 (.move (.tmp 0)), oS 13 (.bin .quo .none (.tmp 12) (.lit (.int .i64 10))), oS 0 (.move (.tmp 13))]) (.seq (.ops [oS 14 (.move (.tmp 0)), oS 15 (.bin .eql .none (.tmp 14) (.lit (.int .i64 0)))]) (.cond (.tmp 15) (.seq (.ops [oS 16 (.move (.tmp 3)), oS 2 (.move (.tmp 16))]) .ret) .skip))))))))
theorem digits2_spec (N : Nat) (σ : Store) (hN : N < 1000) : ACalls Tryz.prog 46 [.int .i64 N] σ (isR (.str (bys (dgL N))) σ) := by
 refine ACalls.intro (rs := [(.tmp 2)]) (by kernel_rfl) { own := [], ghosts := [] } Tryz.func46 (c := Tryz.f46.body.getD .skip) (by kernel_rfl) (by decide) (by rw [show Tryz.f46.ntmps = 17 by kernel_rfl]; exact Nat.le_of_ble_eq_true rfl) (by kernel_rfl) ?_
 intro hσ hids
 rw [show comp Tryz.prog { own := [], ghosts := [] } (Tryz.f46.body.getD .skip) = c_digits by kernel_rfl, show Tryz.f46.ntmps = 17 by kernel_rfl]
 unfold c_digits
 have hNl := dgL_len (n := N) 3 (by omega) (by omega)
 simp only [go_sem, simprocAttr]
 refine wpc_while (α := Nat × List UInt8) (fun q => [(0, .int .i64 (q.1 : Nat)), (3, .str (bys q.2))]) (fun _ => σ) (fun q => q.1 ≤ N ∧ dgL N = dgL q.1 ++ q.2) (fun q => q.1) (N, []) ⟨Nat.le_refl _, by simp⟩ (by (try dsimp only); exact ghA) ?_
 rintro ⟨n, acc⟩ ⟨hn, hv⟩ K hK hE hR
 dsimp only at hn hv ⊢
 have hm : (n : Int).tmod 10 = ((n % 10 : Nat) : Int) := by rw [Int.tmod_eq_emod_of_nonneg (by omega)]; omega
 have hq : IntKind.i64.wrap ((n : Int).tdiv 10) = ((n / 10 : Nat) : Int) := by
  rw [Int.tdiv_eq_ediv_of_nonneg (by omega), wrap_ok (by omega)]; omega
 have h48 : IntKind.i64.wrap (48 + ((n % 10 : Nat) : Int)) = ((48 + n % 10 : Nat) : Int) := by rw [wrap_ok (by omega)]; omega
 have hu8 : IntKind.u8.wrap ((48 + n % 10 : Nat) : Int) = ((UInt8.ofNat (48 + n % 10)).toNat : Int) := by
  rw [digit_nat (show n % 10 < 10 by omega)]
  unfold IntKind.wrap
  simp only [IntKind.bits, IntKind.signed, Bool.false_and, Bool.false_eq_true, if_false]
  omega
 have hu : ∀ tok K, aBstr (.slice tok [[AV.int .u8 ((UInt8.ofNat (48 + n % 10)).toNat : Int)]]) K = K (.str (bys [UInt8.ofNat (48 + n % 10)])) := fun tok K => e_bstr tok [UInt8.ofNat (48 + n % 10)] K
 have hal : acc.length ≤ 3 := by rw [hv, List.length_append] at hNl; omega
 have hmx : IntKind.i64.max = 9223372036854775807 := rfl
 have hsz : ((bys [UInt8.ofNat (48 + n % 10)]).size : Nat) + (bys acc).size ≤ 4 := by rw [bys_size, bys_size]; simp only [List.length_singleton]; omega
 have hap := bys_app [UInt8.ofNat (48 + n % 10)] acc
 by_cases h : n < 10
 ·have hdz : n / 10 = 0 := by omega
  have hz : ((((n / 10 : Nat) : Int)) == 0) = true := by rw [hdz]; rfl
  rw [dgL_small h] at hv
  simp only [go_sem, simprocAttr, hm, hq, h48, hu8, hu, hz, hR]
  refine ⟨by omega, ?_⟩
  rw [hap, show [UInt8.ofNat (48 + n % 10)] ++ acc = dgL N by rw [hv, Nat.mod_eq_of_lt h]]
  exact rt (.str (bys (dgL N))) ⟨rfl, rfl⟩
 ·have hz : ((((n / 10 : Nat) : Int)) == 0) = false := by simp; omega
  rw [dgL_big h, List.append_assoc] at hv
  simp only [go_sem, simprocAttr, hm, hq, h48, hu8, hu, hz]
  refine ⟨by omega, ?_⟩
  rw [hap]
  refine hK _ _ ((n / 10, [UInt8.ofNat (48 + n % 10)] ++ acc)) (⟨by simp only []; omega, hv⟩) om ?_; (try dsimp only); exact ghA
def dgW (s : List Int) : List UInt8 := wordsL 32 (s.map fun x => dgL x.toNat)
theorem dgW_len {s : List Int} (hs : ∀ x ∈ s, 0 ≤ x ∧ x < 200) : (dgW s).length ≤ 4 * s.length := by
 have := words_len (m := 32) (ws := s.map fun x => dgL x.toNat) (k := 3) fun w hw => by
  obtain ⟨x, hx, rfl⟩ := List.mem_map.1 hw
  exact dgL_len 3 (by have := hs x hx; omega) (by omega)
 rw [List.length_map] at this
 exact this
def c_key02 : CCode := .seq (.ops [oS 2 (.move (.lit (.str (bys []))))]) (.seq (.ops [oS 3 (.move (.lit (.str (bys []))))]) (.seq (.seq (.ops [oS 6 (.move (.tmp 0)), oS 7 (.blen 1 (.tmp 6)), oS 8 (.move (.lit (.int .i64 0)))]) (.block 0 (.loop (.seq (.ops [oS 9 (.bin .lss .none (.tmp 8) (.tmp 7))]) (.seq (.cond (.tmp 9) .skip (.exit 0)) (.seq (.block 1 (.seq (.ops [oS 10 (.iaddr 1 (.tmp 6) (.tmp 8)), oS 11 (.load none (.tmp 10)), oS 5 (.move (.tmp 11))]) (.ops [oS 12 (.move (.tmp 3)), oS 13 (.move (.tmp 5)), oS 14 (.call (.lit (.func 46 [])) [.tmp 13]), oS 15 (.bin .add .none (.tmp 14) (.lit (.str (bys [32])))), oS 16 (.bin .add .none (.tmp 12) (.tmp 15)), oS 3 (.move (.tmp 16))]))) (.ops [oS 17 (.bin .add .none (.tmp 8) (.lit (.int .i64 1))), oS 8 (.move (.tmp 17))]))))))) (.seq (.ops [oS 18 (.move (.tmp 3)), oS 2 (.move (.tmp 18))]) .ret)))
theorem key02b_spec (s : List Int) (tok : Tok) (σ : Store) (hl : s.length ≤ 200) (hs : ∀ x ∈ s, 0 ≤ x ∧ x < 200) : ACalls Tryz.prog 20 [.slice tok (s.map Ahl.encI)] σ (isR (.str (bys (dgW s))) σ) := by
 refine ACalls.intro (rs := [(.tmp 2)]) (by kernel_rfl) { own := [], ghosts := [] } Tryz.func20 (c := Tryz.f20.body.getD .skip) (by kernel_rfl) (by decide) (by rw [show Tryz.f20.ntmps = 19 by kernel_rfl]; exact Nat.le_of_ble_eq_true rfl) (by kernel_rfl) ?_
 intro hσ hids
 rw [show comp Tryz.prog { own := [], ghosts := [] } (Tryz.f20.body.getD .skip) = c_key02 by kernel_rfl, show Tryz.f20.ntmps = 19 by kernel_rfl]
 unfold c_key02
 have hil : Ids σ.length (.slice tok (s.map Ahl.encI)) := hids _ (by simp)
 simp only [go_sem, simprocAttr]
 refine wpc_while (fun (i : Nat) => [(3, .str (bys (dgW (s.take i)))), (6, .slice tok (s.map Ahl.encI)), (7, .int .i64 s.length), (8, .int .i64 (i : Nat))]) (fun i => σ) (fun i => i ≤ s.length) (fun i => s.length - i) 0 (Nat.zero_le _) (by (try dsimp only); exact ghA) ?_
 intro i hi K hK hE hR
 by_cases h : i < s.length
 ·obtain ⟨f, hx⟩ := get_ex h; have hlt : ((i : Int) < (s.length : Int)) := (by omega); have hw := wrapS (i := i) (by omega)
  have hf := hs f (List.mem_of_getElem? hx)
  have hdl := dgL_len (n := f.toNat) 3 (by omega) (by omega)
  have hd := fun σ => digits2_spec f.toNat σ (by omega)
  rw [show ((f.toNat : Nat) : Int) = f by omega] at hd
  have hsu : dgW (s.take (i + 1)) = dgW (s.take i) ++ (dgL f.toNat ++ [32]) := by unfold dgW; rw [take_succ' hx, List.map_append, List.map_singleton, words_snoc]
  have hul := dgW_len (s := s.take i) fun x hx => hs x (List.mem_of_mem_take hx)
  rw [List.length_take] at hul
  obtain ⟨U, hU⟩ : ∃ U, U = dgW (s.take i) := ⟨_, rfl⟩
  rw [← hU] at hsu hul ⊢
  have hmx : IntKind.i64.max = 9223372036854775807 := rfl
  simp only [go_sem, simprocAttr, hlt, hx, Ahl.encI]
  refine (hd _).is ?_
  simp only [go_sem, simprocAttr]
  refine ⟨by rw [bys_size, bys_size, hmx]; simp only [List.length_singleton]; omega, by rw [bys_size, bys_size, bys_size, hmx]; simp only [List.length_singleton]; omega, ?_⟩
  rw [bys_app, bys_app, ← hsu]
  refine hK _ _ (i + 1) (by omega) om ?_; (try dsimp only); (try simp only [ hw]); exact ghA
 ·have hlt : ¬ ((i : Int) < (s.length : Int)) := by omega
  rw [List.take_of_length_le (by omega)]
  simp only [go_sem, simprocAttr, hlt, hE]
  exact rt (.str (bys (dgW s))) ⟨rfl, rfl⟩
def keyS (s : List Int) : ByteArray := bys (dgW s)
theorem keyS_inj {s r : List Int} (hs : ∀ x ∈ s, 0 ≤ x ∧ x < 200) (hr : ∀ x ∈ r, 0 ≤ x ∧ x < 200) (h : keyS s = keyS r) : s = r := by
 have h := words_inj (fun w hw q => (by
  obtain ⟨x, _, rfl⟩ := List.mem_map.1 hw
  have := dgL_digit _ _ q
  simp at this)) (fun w hw q => (by
  obtain ⟨x, _, rfl⟩ := List.mem_map.1 hw
  have := dgL_digit _ _ q
  simp at this)) (bys_inj h)
 have key : ∀ {s r : List Int}, (∀ x ∈ s, 0 ≤ x ∧ x < 200) → (∀ x ∈ r, 0 ≤ x ∧ x < 200) → (s.map fun x => dgL x.toNat) = (r.map fun x => dgL x.toNat) → s = r := by
  intro s
  induction s with
  | nil => intro r _ _ h; cases r with
   | nil => rfl
   | cons y r => simp at h
  | cons x s ih =>
   intro r h1 h2 h
   cases r with
   | nil => simp at h
   | cons y r =>
    simp only [List.map_cons, List.cons.injEq] at h
    have hx := h1 x List.mem_cons_self
    have hy := h2 y List.mem_cons_self
    have := dgL_inj h.1
    rw [show x = y by omega, ih (fun z hz => h1 z (List.mem_cons_of_mem _ hz)) (fun z hz => h2 z (List.mem_cons_of_mem _ hz)) h.2]
 exact key hs hr h
theorem itoa_spec (n : Nat) (hn : n ≤ 1000000) (σ : Store) {b i : Nat} (hg : Tryz.prog.globalNamed "internal/strconv.uint64pow10" = some b) (hσ : σ[i]? = some (powObj b)) : ACalls Tryz.prog 81 [.int .i64 (n : Nat)] σ (isR (.str (bys (dgL n))) σ) :=
 itoaA laysItoa (fn := Tryz.f81) Tryz.func81 (by kernel_rfl) (by decide) hg n hn σ hσ
noncomputable def tabO : AObj := powObj ((Tryz.prog.globalNamed "internal/strconv.uint64pow10").getD 0)
theorem tab_named : Tryz.prog.globalNamed "internal/strconv.uint64pow10" = some ((Tryz.prog.globalNamed "internal/strconv.uint64pow10").getD 0) := by
 have : (Tryz.prog.globalNamed "internal/strconv.uint64pow10").isSome = true := by kernel_rfl
 obtain ⟨b, hb⟩ := Option.isSome_iff_exists.1 this
 rw [hb]; rfl
def c_skey : CCode := .seq (.ops [oS 2 (.move (.lit (.str (bys []))))]) (.seq (.ops [oS 3 (.move (.lit (.str (bys []))))]) (.seq (.seq (.ops [oS 6 (.move (.tmp 0)), oS 7 (.blen 1 (.tmp 6)), oS 8 (.move (.lit (.int .i64 0)))]) (.block 0 (.loop (.seq (.ops [oS 9 (.bin .lss .none (.tmp 8) (.tmp 7))]) (.seq (.cond (.tmp 9) .skip (.exit 0)) (.seq (.block 1 (.seq (.ops [oS 10 (.iaddr 1 (.tmp 6) (.tmp 8)), oS 11 (.load none (.tmp 10)), oS 5 (.move (.tmp 11))]) (.ops [oS 12 (.move (.tmp 3)), oS 13 (.move (.tmp 5)), oS 14 (.call (.lit (.func 81 [])) [.tmp 13]), oS 15 (.bin .add .none (.tmp 14) (.lit (.str (bys [32])))), oS 16 (.bin .add .none (.tmp 12) (.tmp 15)), oS 3 (.move (.tmp 16))]))) (.ops [oS 17 (.bin .add .none (.tmp 8) (.lit (.int .i64 1))), oS 8 (.move (.tmp 17))]))))))) (.seq (.ops [oS 18 (.move (.tmp 3)), oS 2 (.move (.tmp 18))]) .ret)))
theorem skey_spec (s : List Int) (tok : Tok) (σ : Store) (hl : s.length ≤ 200) (hs : ∀ x ∈ s, 0 ≤ x ∧ x < 200) (hT : σ[0]? = some tabO) : ACalls Tryz.prog 49 [.slice tok (s.map Ahl.encI)] σ (isR (.str (keyS s)) σ) := by
 refine ACalls.intro (rs := [(.tmp 2)]) (by kernel_rfl) { own := [], ghosts := [] } Tryz.func49 (c := Tryz.f49.body.getD .skip) (by kernel_rfl) (by decide) (by rw [show Tryz.f49.ntmps = 19 by kernel_rfl]; exact Nat.le_of_ble_eq_true rfl) (by kernel_rfl) ?_
 intro hσ hids
 rw [show comp Tryz.prog { own := [], ghosts := [] } (Tryz.f49.body.getD .skip) = c_skey by kernel_rfl, show Tryz.f49.ntmps = 19 by kernel_rfl]
 unfold c_skey
 have hil : Ids σ.length (.slice tok (s.map Ahl.encI)) := hids _ (by simp)
 simp only [go_sem, simprocAttr]
 refine wpc_while (fun (i : Nat) => [(3, .str (bys (dgW (s.take i)))), (6, .slice tok (s.map Ahl.encI)), (7, .int .i64 s.length), (8, .int .i64 (i : Nat))]) (fun i => σ) (fun i => i ≤ s.length) (fun i => s.length - i) 0 (Nat.zero_le _) (by (try dsimp only); exact ghA) ?_
 intro i hi K hK hE hR
 by_cases h : i < s.length
 ·obtain ⟨f, hx⟩ := get_ex h; have hlt : ((i : Int) < (s.length : Int)) := (by omega); have hw := wrapS (i := i) (by omega)
  have hf := hs f (List.mem_of_getElem? hx)
  have hdl := dgL_len (n := f.toNat) 3 (by omega) (by omega)
  have hd := itoa_spec f.toNat (by omega) σ tab_named hT
  rw [show ((f.toNat : Nat) : Int) = f by omega] at hd
  have hsu : dgW (s.take (i + 1)) = dgW (s.take i) ++ (dgL f.toNat ++ [32]) := by unfold dgW; rw [take_succ' hx, List.map_append, List.map_singleton, words_snoc]
  have hul := dgW_len (s := s.take i) fun x hx => hs x (List.mem_of_mem_take hx)
  rw [List.length_take] at hul
  obtain ⟨U, hU⟩ : ∃ U, U = dgW (s.take i) := ⟨_, rfl⟩
  rw [← hU] at hsu hul ⊢
  have hmx : IntKind.i64.max = 9223372036854775807 := rfl
  simp only [go_sem, simprocAttr, hlt, hx, Ahl.encI]
  refine hd.is ?_
  simp only [go_sem, simprocAttr]
  refine ⟨by rw [bys_size, bys_size, hmx]; simp only [List.length_singleton]; omega, by rw [bys_size, bys_size, bys_size, hmx]; simp only [List.length_singleton]; omega, ?_⟩
  rw [bys_app, bys_app, ← hsu]
  refine hK _ _ (i + 1) (by omega) om ?_; (try dsimp only); (try simp only [ hw]); exact ghA
 ·have hlt : ¬ ((i : Int) < (s.length : Int)) := by omega
  rw [List.take_of_length_le (by omega)]
  simp only [go_sem, simprocAttr, hlt, hE]
  exact rt (.str (keyS s)) ⟨rfl, rfl⟩
end Go.Proofs.YtpabiedjneognaaGreatDoor
namespace Go.Ahl
theorem SRel.freezeV {m : Mem} {loc : List Loc} {σ : Store} {w : World} {n0 : Nat} (tk : Tok) (htk : tk = .unk ∨ tk = .fresh) {id sz off len : Nat} {cells : List AV} (es : List (List AV)) {v : Value} (hS : SRel m loc σ w) (hrel : Rel m loc (.ref id sz off len) v) (hs : σ[id]? = some (.row cells)) (hlen : es.length = len)
  (hes : ∀ (i : Nat) e, es[i]? = some e → e.length = sz ∧ ∀ j, j < sz → cells[off + (i * sz + j)]? = e[j]?) : ∃ m', SRel m' loc (σ.set id .dead) w ∧ Rel m' loc (.slice tk es) v ∧ Ext n0 m loc w m' loc w := by
 have hid : id < loc.length := by rw [hS.len]; exact lt_of_get hs
 cases hrel with
 | ref0 _ _ _ a h1 =>
  have : es = [] := List.length_eq_zero_iff.1 (by omega)
  subst this
  exact ⟨m, hS.die id, (.slice tk [] a 0 0 0 0 (fun _ _ => undef) (Nat.le_refl _) (by rcases htk with rfl | rfl; trivial; exact fun h => absurd h (by simp)) (by simp) (fun h => absurd rfl h) (fun i hi => absurd hi (by simp)) (by simp)), .refl _ _ _ _⟩
 | ref _ _ _ _ cap b n h1 h2 h3 h4 =>
  obtain ⟨arr, ty, g1, g2, g3, g4, g5⟩ := hS.obj id _ _ h1 hs
  let m' : Mem := ⟨fun k o => if k = b then (if o < cells.length then arr[o]? else none) else m.im k o, m.bs, m.mp, m.wk, m.base⟩
  have hle : m.le m' := ⟨fun k o v e => by
   show (if k = b then _ else _) = _
   by_cases hk : k = b
   ·subst hk; rw [g5] at e; simp at e
   ·rw [if_neg hk]; exact e, fun _ _ e => e, fun _ _ e => e, fun _ _ _ e => e, rfl⟩
  have hfz : ∀ k o v, Names loc k ∨ w.heap.size ≤ k → m'.im k o = some v → w.frozen? ⟨k, o, none⟩ = false := by
   intro k o v hk e
   have e : (if k = b then (if o < cells.length then arr[o]? else none) else m.im k o) = some v := e
   by_cases hkb : k = b
   ·subst hkb; simp [World.frozen?, g1]
   ·rw [if_neg hkb] at e
    rcases hk with hk | hk
    ·exact hS.ok.fz k o v (hS.ok.own k hk) e
    ·have := hS.im_lt e; omega
  have hS' : SRel m' loc (σ.set id .dead) w := by
   refine ⟨by simp [hS.len], ?_, hS.bs, ?_, (hS.die id).inj, hS.lt, hS.mp, (hS.die id).mpo, hS.ok.to rfl (Nat.le_refl _) (fun _ e => .inl e) rfl (fun k o _ hk => if_neg (fun q => hk ⟨id, .inl (by rw [q]; exact h1)⟩)) (fun _ _ _ => rfl) hfz⟩
   ·intro k o v e
    have e : (if k = b then (if o < cells.length then arr[o]? else none) else m.im k o) = some v := e
    by_cases hk : k = b
    ·subst hk
     rw [if_pos rfl] at e
     split at e
     ·simp [World.cell?, g1, e]
     ·simp at e
    ·rw [if_neg hk] at e; exact hS.im k o v e
   ·intro i l o e1 e2
    rcases get_set e2 with ⟨rfl, rfl⟩ | ⟨hne, e2⟩
    ·cases l <;> trivial
    ·have ho := hS.obj i l o e1 e2
     have hnb : own l o ≠ some b := fun q => hne (hS.inj i id l _ o _ b e1 h1 e2 hs q rfl).symm
     cases o with
     | dead => cases l <;> trivial
     | tab b2 vs =>
      cases l with
      | nowhere => exact ⟨hle.bs _ _ ho.1, fun i v e => hle.im _ _ _ (ho.2 i v e)⟩
      | blk k => exact ho.elim
      | tok sz f => exact ho.elim
     | loop L =>
      cases l with
      | blk k =>
       obtain ⟨r, q1, q2, q3, q4, q5, q6, q7⟩ := ho
       exact ⟨r, q1, q2, q3, q4, q5, q6, ⟨q7.size, fun i => (q7.rel i).mono hle (.refl _ _)⟩⟩
      | nowhere => exact ho.elim
      | tok sz f => exact ho.elim
     | iter es seen =>
      cases l with
      | blk k =>
       rcases ho with ⟨q1, q2⟩ | ⟨q, en, c, sa, st, q1, q2, q3, q4⟩
       ·exact .inl ⟨q1, q2⟩
       ·exact .inr ⟨q, en, c, sa, st, q1, q2, ⟨q3.len, fun i k x e a1 a2 => ⟨(q3.key i k x e a1 a2).1.mono hle (.refl _ _), (q3.key i k x e a1 a2).2.mono hle (.refl _ _)⟩, q3.born, q3.apart⟩, q4⟩
      | nowhere => exact ho.elim
      | tok sz f => exact ho.elim
     | map es =>
      cases l with
      | blk k =>
       obtain ⟨en, c, q1, q2⟩ := ho
       exact ⟨en, c, q1, ⟨q2.len, fun i k x e a1 a2 => ⟨(q2.key i k x e a1 a2).1.mono hle (.refl _ _), (q2.key i k x e a1 a2).2.mono hle (.refl _ _)⟩, q2.born, q2.apart⟩⟩
      | nowhere => exact ho.elim
      | tok sz f => exact ho.elim
     | row cs =>
      cases l with
      | blk k =>
       obtain ⟨arr2, t2, q1, q2, q3, q4, q5⟩ := ho
       refine ⟨arr2, t2, q1, q2, q3, fun j x v a1 a2 => (q4 j x v a1 a2).mono hle (.refl _ _), fun o => ?_⟩
       show (if k = b then _ else _) = _
       rw [if_neg (fun q => hnb (by subst q; rfl))]; exact q5 o
      | nowhere => exact ho
      | tok sz f => exact ho.elim
     | vec sz k cs =>
      cases l with
      | tok sz' f =>
       obtain ⟨q0, q1, q2, q3⟩ := ho
       refine ⟨q0, q1, q2, ?_⟩
       rcases q3 with q3 | ⟨bb, arr2, t2, a1, a2, a3, a4, a5, a6⟩
       ·exact .inl q3
       ·refine .inr ⟨bb, arr2, t2, a1, a2, a3, a4, fun j x v e1 e2 => (a5 j x v e1 e2).mono hle (.refl _ _), fun o => ?_⟩
        show (if bb = b then _ else _) = _
        rw [if_neg (fun q => hnb (by subst q; simp [own, a1]))]; exact a6 o
      | nowhere => exact ho.elim
      | blk k => exact ho.elim
     | grow sz k =>
      cases l with
      | tok sz' f =>
       obtain ⟨q1, q2, q3⟩ := ho
       refine ⟨q1, q2, ?_⟩
       rcases q3 with q3 | ⟨bb, arr2, t2, a1, a2, a3, a4⟩
       ·exact .inl q3
       ·refine .inr ⟨bb, arr2, t2, a1, a2, a3, fun o ho => ?_⟩
        show (if bb = b then _ else _) = _
        rw [if_neg (fun q => hnb (by subst q; simp [own, a1]))]; exact a4 o ho
      | nowhere => exact ho.elim
      | blk k => exact ho.elim
  have hext : Ext n0 m loc w m' loc w := ⟨rfl, rfl, rfl, Nat.le_refl _, Nat.le_refl _, hle, .refl _ _, fun _ h => .inl h, fun _ _ _ _ => rfl, fun _ _ _ e => .inl e⟩
  refine ⟨m', hS', ?_, hext⟩
  have hbd : ∀ i, i < es.length → ∀ j, j < sz → off + (i * sz + j) < cells.length := by
   intro i hi j hj
   have q := (hes i _ (List.getElem?_eq_getElem hi)).2 j hj
   have ql := (hes i _ (List.getElem?_eq_getElem hi)).1
   rw [List.getElem?_eq_getElem (by omega : j < (es[i]).length)] at q
   exact lt_of_get q
  rw [← hlen]
  refine .slice tk es _ cap sz b off (fun i j => arr[off + (i * sz + j)]?.getD undef) (by omega) (by rcases htk with rfl | rfl; trivial; exact fun _ b' o' e => by injection e with e; injection e with e; rw [← e]; exact hS'.blkb h1) (fun e he => ?_) (fun _ => rfl) ?_ ?_
  ·obtain ⟨i, hi, rfl⟩ := List.mem_iff_getElem.1 he
   exact (hes i _ (List.getElem?_eq_getElem hi)).1
  ·intro i hi j hj
   have hb := hbd i hi j hj
   show (if b = b then _ else _) = _
   rw [if_pos rfl, if_pos hb, Array.getElem?_eq_getElem (by omega)]; rfl
  ·intro i e he j x hx
   have hi := lt_of_get he
   obtain ⟨q1, q2⟩ := hes i e he
   have hj : j < sz := by rw [← q1]; exact lt_of_get hx
   have hb := hbd i hi j hj
   have hc := q2 j hj
   rw [hx] at hc
   have ha : arr[off + (i * sz + j)]? = some (arr[off + (i * sz + j)]'(by omega)) := Array.getElem?_eq_getElem _
   simp only [ha, Option.getD_some]
   exact (g4 _ _ _ hc ha).mono hle (.refl _ _)
theorem SRel.setcell {m : Mem} {loc : List Loc} {σ : Store} {w : World} (n0 : Nat) (h : SRel m loc σ w) {W off b : Nat} {cells : List AV} {y : AV} (hW : σ[W]? = some (.row cells)) (hl : loc[W]? = some (.blk b)) (hv : ∀ arr t fz v, w.heap[b]? = some (.cells arr t fz) → arr[off]? = some v → Rel m loc y v) :
  SRel m loc (σ.set W (.row (cells.set off y))) w ∧ Ext n0 m loc w m loc w := by
 obtain ⟨arr, t, e1, e2, e3, e4, e5⟩ := h.obj W _ _ hl hW
 have key := h.turn n0 (m' := m) (w' := w) (l' := .blk b) (.row (cells.set off y)) hl hW (.refl m) (.refl _) (fun _ _ _ => rfl) (Nat.le_refl _) (fun _ _ _ _ => rfl) ?_ ?_ ?_ (fun b' q => .inl q) ?_ rfl rfl rfl (Nat.le_refl _)
 ·rwa [set_same hl] at key
 ·intro k o v hk e'
  refine ⟨h.im k o v e', h.ok.fz k o v ?_ e'⟩
  rcases hk with hk | hk
  ·exact h.ok.own k (own_names hl hk)
  ·exact Nat.le_trans h.ok.low hk
 ·intro k n hn
  obtain ⟨arr', t', fz, q1, q2⟩ := h.bs k n hn
  exact .inr ⟨arr', t', fz, q1, q2⟩
 ·rintro b' ⟨sz', f, k, q, _⟩; simp at q
 ·rw [set_same hl]
  refine ⟨arr, t, e1, e2, by simpa using e3, ?_, e5⟩
  intro j x v hj hvj
  rcases get_set hj with ⟨rfl, rfl⟩ | ⟨_, hj⟩
  ·exact hv _ _ _ v e1 hvj
  ·exact e4 j x v hj hvj
end Go.Ahl
namespace Go.Ahl
inductive MvP (n : Nat) (ps : List Nat) : AV → AV → Prop
 | keep {a b : AV} (h : Wk a b) (hi : Ids n b) : MvP n ps a b
 | slice {id k : Nat} (hk : ps[k]? = some id) (es : List (List AV)) (hi : ∀ e ∈ es, ∀ x ∈ e, Ids n x) : MvP n ps (.slice (.grow id) es) (.slice (.grow (n + k)) es)
 | ref {id k : Nat} (hk : ps[k]? = some id) (sz off len : Nat) : MvP n ps (.ref id sz off len) (.ref (n + k) sz off len)
 | vec {id k : Nat} (hk : ps[k]? = some id) (sz len : Nat) : MvP n ps (.vec id sz len) (.vec (n + k) sz len)
 | ptr {id k : Nat} (hk : ps[k]? = some id) (off : Nat) : MvP n ps (.ptr id off) (.ptr (n + k) off)
 | map {id k : Nat} (hk : ps[k]? = some id) : MvP n ps (.map id) (.map (n + k))
def MvL (n : Nat) (ps : List Nat) : List AV → List AV → Prop
 | [], [] => True
 | x :: xs, y :: ys => MvP n ps x y ∧ MvL n ps xs ys
 | _, _ => False
inductive MvO (n : Nat) (ps : List Nat) : AObj → AObj → Prop
 | same {o : AObj} (h : IdsO n o) : MvO n ps o o
 | row {xs ys : List AV} (h : MvL n ps xs ys) : MvO n ps (.row xs) (.row ys)
theorem MvL.len {n : Nat} {ps : List Nat} : ∀ {xs ys : List AV}, MvL n ps xs ys → xs.length = ys.length
 | [], [], _ => rfl
 | _ :: _, _ :: _, h => by simp [MvL.len h.2]
 | [], _ :: _, h => h.elim
 | _ :: _, [], h => h.elim
theorem MvL.get {n : Nat} {ps : List Nat} : ∀ {xs ys : List AV}, MvL n ps xs ys → ∀ (j : Nat) y, ys[j]? = some y → ∃ x, xs[j]? = some x ∧ MvP n ps x y
 | [], [], _, j, y, e => by simp at e
 | x :: xs, y :: ys, h, 0, z, e => by simp at e; subst e; exact ⟨x, rfl, h.1⟩
 | x :: xs, y :: ys, h, j + 1, z, e => by simpa using MvL.get h.2 j z (by simpa using e)
 | [], _ :: _, h, _, _, _ => h.elim
 | _ :: _, [], h, _, _, _ => h.elim
section
variable {m : Mem} {loc : List Loc} {σ : Store} {w : World} {n : Nat} {ps : List Nat}
def pickL (loc : List Loc) (n : Nat) (ps : List Nat) : List Loc := loc.take n ++ ps.map fun p => loc.getD p .nowhere
theorem pickL_lt (hn : n ≤ loc.length) {i : Nat} (hi : i < n) : (pickL loc n ps)[i]? = loc[i]? := by
 unfold pickL
 rw [List.getElem?_append_left (by rw [List.length_take]; omega), List.getElem?_take_of_lt hi]
theorem pickL_ge (hn : n ≤ loc.length) {k p : Nat} {l : Loc} (hk : ps[k]? = some p) (hl : loc[p]? = some l) : (pickL loc n ps)[n + k]? = some l := by
 unfold pickL
 have h : (loc.take n).length = n := List.length_take_of_le hn
 rw [List.getElem?_append_right (by omega), h, Nat.add_sub_cancel_left, List.getElem?_map, hk]
 simp [List.getD_eq_getElem?_getD, hl]
theorem pickL_inv (hn : n ≤ loc.length) (hp : ∀ p ∈ ps, p < loc.length) {i : Nat} {l : Loc} (e : (pickL loc n ps)[i]? = some l) :
  (i < n ∧ loc[i]? = some l) ∨ ∃ k p, i = n + k ∧ ps[k]? = some p ∧ loc[p]? = some l := by
 have hlen : (loc.take n).length = n := List.length_take_of_le hn
 rcases Nat.lt_or_ge i n with h | h
 ·rw [pickL_lt hn h] at e; exact .inl ⟨h, e⟩
 ·unfold pickL at e
  rw [List.getElem?_append_right (by omega), hlen, List.getElem?_map] at e
  obtain ⟨p, h1, h2⟩ := Option.map_eq_some_iff.1 e
  refine .inr ⟨i - n, p, by omega, h1, ?_⟩
  have := hp p (List.mem_of_getElem? h1)
  rw [List.getD_eq_getElem?_getD, List.getElem?_eq_getElem this] at h2
  rw [List.getElem?_eq_getElem this]; simpa using h2
theorem keep_pick (hn : n ≤ loc.length) : Keep (loc.take n).length (loc.take n) (pickL loc n ps) := fun i l hi e =>
 ⟨l, by unfold pickL; rw [List.getElem?_append_left hi]; exact e, .refl l⟩
theorem MvP.rel {a b : AV} {v : Value} (h : MvP n ps a b) (hn : n ≤ loc.length) (hp : ∀ p ∈ ps, p < loc.length) (hr : Rel m loc a v) : Rel m (pickL loc n ps) b v := by
 have hlen : (pickL loc n ps).length = n + ps.length := by unfold pickL; rw [List.length_append, List.length_take_of_le hn, List.length_map]
 have key : ∀ {id k : Nat} {l : Loc}, ps[k]? = some id → loc[id]? = some l → (pickL loc n ps)[n + k]? = some l := fun h1 h2 => pickL_ge hn h1 h2
 cases h with
 | keep h hi => exact ((h _ _ _ hr).take hi).mono (.refl m) (keep_pick hn)
 | slice hk es hi =>
  cases hr with
  | slice _ _ ad cap sz bb o f hcap htok hsz ha hc hr =>
   refine .slice _ es ad cap sz bb o f hcap ?_ hsz ha hc ?_
   ·obtain ⟨sz', f', t1, t2⟩ := htok
    exact ⟨sz', f', key hk t1, t2⟩
   ·intro i e he j x hx
    exact ((hr i e he j x hx).take (hi e (List.mem_of_getElem? he) x (List.mem_of_getElem? hx))).mono (.refl m) (keep_pick hn)
 | ref hk sz off len =>
  cases hr with
  | ref _ _ _ _ cap b q h1 h2 h3 h4 => exact .ref _ sz off len cap b q (key hk h1) h2 h3 h4
  | ref0 _ _ _ a h1 => exact .ref0 _ sz off a (by rw [hlen]; have := lt_of_get hk; omega)
 | vec hk sz len =>
  cases hr with
  | vec _ _ _ cap f a h1 h2 h3 => exact .vec _ sz len cap f a (key hk h1) h2 h3
 | ptr hk off =>
  cases hr with
  | ptr _ _ b h1 => exact .ptr _ off b (key hk h1)
 | map hk =>
  cases hr with
  | map _ b h1 => exact .map _ b (key hk h1)
theorem MvO.own {o o' : AObj} (h : MvO n ps o o') (l : Loc) : own l o = own l o' := by
 cases h with
 | same h => rfl
 | row h => exact own_row l _ _
theorem MvO.rel {l : Loc} {o o' : AObj} (h : MvO n ps o o') (hn : n ≤ loc.length) (hp : ∀ p ∈ ps, p < loc.length) (hr : ObjRel m loc w l o) : ObjRel m (pickL loc n ps) w l o' := by
 cases h with
 | same h => exact (hr.take n h).mono (.refl m) (keep_pick hn) (fun _ _ => rfl) (fun _ _ _ => rfl)
 | @row xs ys h =>
  cases l with
  | nowhere =>
   have e : xs = [] := hr
   subst e
   have := h.len
   exact List.length_eq_zero_iff.1 this.symm
  | tok _ _ => exact hr.elim
  | blk b =>
   obtain ⟨arr, t, h1, h2, h3, h4, h5⟩ := hr
   refine ⟨arr, t, h1, h2, by rw [← h.len]; exact h3, fun j y v e1 e2 => ?_, h5⟩
   obtain ⟨x, q1, q2⟩ := h.get j y e1
   exact q2.rel hn hp (h4 j x v q1 e2)
structure Picks (σ : Store) (n : Nat) (ps : List Nat) (τ : Store) : Prop where
 le : n ≤ σ.length
 lt : ∀ p ∈ ps, p < σ.length
 nd : ps.Nodup
 len : τ.length = n + ps.length
 keep : ∀ (i : Nat) o', i < n → τ[i]? = some o' → o' = .dead ∨ (i ∉ ps ∧ ∃ o, σ[i]? = some o ∧ MvO n ps o o')
 put : ∀ (k p : Nat) o', ps[k]? = some p → τ[n + k]? = some o' → ∃ o, σ[p]? = some o ∧ MvO n ps o o'
theorem Picks.inv {τ : Store} (h : Picks σ n ps τ) (hlen : loc.length = σ.length) {i : Nat} {l : Loc} {o' : AObj} (e1 : (pickL loc n ps)[i]? = some l) (e2 : τ[i]? = some o') :
  o' = .dead ∨ ∃ p o, loc[p]? = some l ∧ σ[p]? = some o ∧ MvO n ps o o' ∧ ((p = i ∧ i < n ∧ i ∉ ps) ∨ ∃ k, i = n + k ∧ ps[k]? = some p) := by
 rcases pickL_inv (by rw [hlen]; exact h.le) (fun p hp => by rw [hlen]; exact h.lt p hp) e1 with ⟨hi, hl⟩ | ⟨k, p, rfl, hk, hl⟩
 ·rcases h.keep i o' hi e2 with q | ⟨q, o, h1, h2⟩
  ·exact .inl q
  ·exact .inr ⟨i, o, hl, h1, h2, .inl ⟨rfl, hi, q⟩⟩
 ·obtain ⟨o, h1, h2⟩ := h.put k p o' hk e2
  exact .inr ⟨p, o, hl, h1, h2, .inr ⟨k, rfl, hk⟩⟩
theorem SRel.pick (h : SRel m loc σ w) {τ : Store} (hp : Picks σ n ps τ) : SRel m (pickL loc n ps) τ w := by
 have hn : n ≤ loc.length := by rw [h.len]; exact hp.le
 have hpl : ∀ p ∈ ps, p < loc.length := fun p q => by rw [h.len]; exact hp.lt p q
 have hlen : (pickL loc n ps).length = τ.length := by unfold pickL; rw [List.length_append, List.length_take_of_le hn, List.length_map, hp.len]
 have hnames : ∀ b, Names (pickL loc n ps) b → Names loc b := by
  rintro b ⟨i, e | ⟨sz, f, k, e, hk⟩⟩
  ·rcases pickL_inv hn hpl e with ⟨_, q⟩ | ⟨_, _, _, _, q⟩
   ·exact ⟨_, .inl q⟩
   ·exact ⟨_, .inl q⟩
  ·rcases pickL_inv hn hpl e with ⟨_, q⟩ | ⟨_, _, _, _, q⟩
   ·exact ⟨_, .inr ⟨sz, f, k, q, hk⟩⟩
   ·exact ⟨_, .inr ⟨sz, f, k, q, hk⟩⟩
 have hdead : ∀ l : Loc, Ahl.own l .dead = none := fun l => by cases l <;> rfl
 refine ⟨hlen, h.im, h.bs, ?_, ?_, fun b e => h.lt b (hnames b e), h.mp, ?_, h.ok.names hnames⟩
 ·intro i l o' e1 e2
  rcases hp.inv h.len e1 e2 with rfl | ⟨p, o, h1, h2, h3, _⟩
  ·cases l <;> trivial
  ·exact h3.rel hn hpl (h.obj p l o h1 h2)
 ·intro i j l1 l2 o1 o2 b e1 e2 e3 e4 w1 w2
  rcases hp.inv h.len e1 e3 with rfl | ⟨p, o, h1, h2, h3, h4⟩
  ·rw [hdead] at w1; simp at w1
  rcases hp.inv h.len e2 e4 with rfl | ⟨p', o', k1, k2, k3, k4⟩
  ·rw [hdead] at w2; simp at w2
  rw [← h3.own] at w1; rw [← k3.own] at w2
  have := h.inj p p' _ _ _ _ b h1 k1 h2 k2 w1 w2
  subst this
  rcases h4 with ⟨q1, q2, q3⟩ | ⟨k, q1, q2⟩ <;> rcases k4 with ⟨r1, r2, r3⟩ | ⟨k', r1, r2⟩
  ·omega
  ·subst q1; exact absurd (List.mem_of_getElem? r2) q3
  ·subst r1; exact absurd (List.mem_of_getElem? q2) r3
  ·have : k = k' := (List.getElem?_inj (lt_of_get q2) hp.nd).1 (q2.trans r2.symm)
   omega
 ·intro i l o' b e1 e2 w1
  rcases hp.inv h.len e1 e2 with rfl | ⟨p, o, h1, h2, h3, _⟩
  ·rw [hdead] at w1; simp at w1
  ·rw [← h3.own] at w1; exact h.mpo p l o b h1 h2 w1
theorem Ext.pick {n0 : Nat} (m : Mem) (loc : List Loc) (w : World) (n : Nat) (ps : List Nat) (hn0 : n0 ≤ n) (hn : n ≤ loc.length) (hpl : ∀ p ∈ ps, p < loc.length) : Ext n0 m loc w m (pickL loc n ps) w := by
 refine ⟨rfl, rfl, rfl, Nat.le_refl _, Nat.le_refl _, .refl m, fun i l hi e => ⟨l, ?_, .refl l⟩, ?_, fun _ _ _ _ => rfl, fun _ _ _ e => .inl e⟩
 ·rw [pickL_lt hn (by omega)]; exact e
 ·rintro b ⟨i, e | ⟨sz, f, k, e, hk⟩⟩
  ·rcases pickL_inv hn hpl e with ⟨_, q⟩ | ⟨_, _, _, _, q⟩
   ·exact .inl ⟨_, .inl q⟩
   ·exact .inl ⟨_, .inl q⟩
  ·rcases pickL_inv hn hpl e with ⟨_, q⟩ | ⟨_, _, _, _, q⟩
   ·exact .inl ⟨_, .inr ⟨sz, f, k, q, hk⟩⟩
   ·exact .inl ⟨_, .inr ⟨sz, f, k, q, hk⟩⟩
def TellP (s : Slots) (n : Nat) (ps : List Nat) : Slots → Prop
 | [] => True
 | (i, v) :: r => MvP n ps (lk s i) v ∧ TellP s n ps r
theorem TellP.lk {s : Slots} : ∀ {s' : Slots}, TellP s n ps s' → ∀ i, lk s' i = .any ∨ MvP n ps (lk s i) (lk s' i)
 | [], _, i => .inl rfl
 | (j, v) :: r, h, i => by
  simp only [Ahl.lk]
  by_cases e : j = i
  ·subst e; simp only [beq_self_eq_true, cond_true]; exact .inr h.1
  ·have : (j == i) = false := by simpa using e
   rw [this, cond_false]; exact TellP.lk h.2 i
theorem Ghost.picks {n0 nt : Nat} {s s' : Slots} {τ : Store} (hn0 : n0 ≤ n) (hp : Picks σ n ps τ) (h1 : TellP s n ps s') : Ghost n0 nt s σ s' τ := by
 intro m loc w t hl hs hr
 have hn : n ≤ loc.length := by rw [hs.len]; exact hp.le
 have hpl : ∀ p ∈ ps, p < loc.length := fun p q => by rw [hs.len]; exact hp.lt p q
 refine ⟨m, _, hs.pick hp, ⟨hr.size, fun i => ?_⟩, Ext.pick m loc w n ps hn0 hn hpl⟩
 rcases h1.lk i with e | e
 ·rw [e]; exact .any _
 ·exact e.rel hn hpl (hr.rel i)
def KeepP (n : Nat) (ps : List Nat) : Nat → Store → Store → Prop
 | _, _, [] => True
 | b, o :: l, o' :: l' => (o' = .dead ∨ (b ∉ ps ∧ MvO n ps o o')) ∧ KeepP n ps (b + 1) l l'
 | _, [], _ :: _ => False
def PutP (S : Store) (n : Nat) (qs : List Nat) : List Nat → Store → Prop
 | [], [] => True
 | p :: ps, o' :: l' => (∃ o, S[p]? = some o ∧ MvO n qs o o') ∧ PutP S n qs ps l'
 | _, _ => False
theorem KeepP.get : ∀ {b : Nat} {l l' : Store}, KeepP n ps b l l' → ∀ (i : Nat) o', l'[i]? = some o' → ∃ o, l[i]? = some o ∧ (o' = .dead ∨ (b + i ∉ ps ∧ MvO n ps o o'))
 | _, _, [], _, i, o', e => by simp at e
 | b, o :: l, x :: l', h, 0, o', e => by simp at e; subst e; exact ⟨o, rfl, h.1⟩
 | b, o :: l, x :: l', h, i + 1, o', e => by
  obtain ⟨q, h1, h2⟩ := KeepP.get h.2 i o' (by simpa using e)
  exact ⟨q, by simpa using h1, by rw [show b + (i + 1) = b + 1 + i by omega]; exact h2⟩
 | _, [], _ :: _, h, _, _, _ => h.elim
theorem KeepP.len : ∀ {b : Nat} {l l' : Store}, KeepP n ps b l l' → l'.length ≤ l.length
 | _, _, [], _ => Nat.zero_le _
 | b, o :: l, x :: l', h => by simpa using KeepP.len h.2
 | _, [], _ :: _, h => h.elim
theorem PutP.len {S : Store} {qs : List Nat} : ∀ {ps : List Nat} {l' : Store}, PutP S n qs ps l' → l'.length = ps.length
 | [], [], _ => rfl
 | _ :: _, _ :: _, h => by simp [PutP.len h.2]
 | [], _ :: _, h => h.elim
 | _ :: _, [], h => h.elim
theorem PutP.get {S : Store} {qs : List Nat} : ∀ {ps : List Nat} {l' : Store}, PutP S n qs ps l' → ∀ (k p : Nat) o', ps[k]? = some p → l'[k]? = some o' → ∃ o, S[p]? = some o ∧ MvO n qs o o'
 | [], [], _, k, p, o', e, _ => by simp at e
 | _ :: _, _ :: _, h, 0, p, o', e1, e2 => by simp at e1 e2; subst e1; subst e2; exact h.1
 | _ :: _, _ :: _, h, k + 1, p, o', e1, e2 => PutP.get h.2 k p o' (by simpa using e1) (by simpa using e2)
 | [], _ :: _, h, _, _, _, _, _ => h.elim
 | _ :: _, [], h, _, _, _, _, _ => h.elim
theorem PutP.lt {S : Store} {qs : List Nat} : ∀ {ps : List Nat} {l' : Store}, PutP S n qs ps l' → ∀ p ∈ ps, p < S.length
 | [], _, _, p, hp => by simp at hp
 | q :: _, _ :: _, h, p, hp => by
  rcases List.mem_cons.1 hp with rfl | hp
  ·obtain ⟨o, e, _⟩ := h.1; exact lt_of_get e
  ·exact PutP.lt h.2 p hp
 | _ :: _, [], h, _, _ => h.elim
theorem Ghost.pick {n0 nt : Nat} {s s' : Slots} {l : Store} (l' objs : Store) (ps : List Nat) {n : Nat} (hn : n = σ.length + l'.length) (hn0 : n0 ≤ σ.length) (hσ : IdsS σ.length σ) (hnd : ps.Nodup) (hge : ∀ p ∈ ps, σ.length ≤ p)
  (hk : KeepP n ps σ.length l l') (hp : PutP (σ ++ l) n ps ps objs) (h1 : TellP s n ps s') : Ghost n0 nt s (σ ++ l) s' (σ ++ (l' ++ objs)) := by
 have hl := hk.len
 refine Ghost.picks (n := n) (ps := ps) (by omega) ⟨by rw [List.length_append]; omega, hp.lt, hnd, by rw [List.length_append, List.length_append, hp.len]; omega, ?_, ?_⟩ h1
 ·intro i o' hi e
  rcases Nat.lt_or_ge i σ.length with h | h
  ·rw [List.getElem?_append_left h] at e
   exact .inr ⟨fun q => by have := hge i q; omega, o', by rw [List.getElem?_append_left h]; exact e, .same (idsO_up (by omega) (hσ i o' e))⟩
  ·rw [List.getElem?_append_right h, List.getElem?_append_left (by omega)] at e
   obtain ⟨o, h2, h3⟩ := hk.get _ _ e
   rw [show σ.length + (i - σ.length) = i by omega] at h3
   rcases h3 with h3 | ⟨h3, h4⟩
   ·exact .inl h3
   ·exact .inr ⟨h3, o, by rw [List.getElem?_append_right h]; exact h2, h4⟩
 ·intro k p o' e1 e2
  rw [List.getElem?_append_right (by omega), List.getElem?_append_right (by omega)] at e2
  exact hp.get k p o' e1 (by rw [← e2]; congr 1; omega)
end
end Go.Ahl
namespace Go.Ahl
open Go.Sort Go.Shelf Go.RowKit Go.Lib Go.Proofs
theorem flatM_get {α : Type} (f : α → List AV) (k : Nat) (hk : ∀ x, (f x).length = k) : ∀ (l : List α) (i j : Nat), j < k → (l.map f).flatten[i * k + j]? = (l[i]?).bind fun x => (f x)[j]?
 | [], i, j, _ => by simp
 | x :: l, 0, j, hj => by
  simp only [List.map_cons, List.flatten_cons, Nat.zero_mul, Nat.zero_add, List.getElem?_cons_zero, Option.bind_some]
  rw [List.getElem?_append_left (by rw [hk]; exact hj)]
 | x :: l, i + 1, j, hj => by
  simp only [List.map_cons, List.flatten_cons, List.getElem?_cons_succ]
  rw [List.getElem?_append_right (by rw [hk]; rw [Nat.add_mul]; omega), hk, show (i + 1) * k + j - k = i * k + j by rw [Nat.add_mul]; omega]
  exact flatM_get f k hk l i j hj
theorem flatM_len {α : Type} (f : α → List AV) (k : Nat) (hk : ∀ x, (f x).length = k) : ∀ (l : List α), (l.map f).flatten.length = l.length * k
 | [] => by simp
 | x :: l => by rw [List.map_cons, List.flatten_cons, List.length_append, hk, flatM_len f k hk l, List.length_cons, Nat.add_mul, Nat.one_mul, Nat.add_comm]
section
variable {P : Program} {ρ : Ren} {β : Type}
theorem sortK (L : SlLaysF0.n6 P ρ) (k : Nat) (hk0 : 0 < k) (aE : ∀ w, (isAgg (ρ.t 24)).run P w = .ok true w) (zE : ∀ w, (Go.sizeOf (ρ.t 24)).run P w = .ok k w) {fn gn : Func} (hf : P.funcs[ρ.f 6]? = some fn) (hfb : fn.body.isSome = true) (hfn : fn.name ≠ "runtime.NumGoroutine") (av : β → List AV) (hk : ∀ x, (av x).length = k) (ok : β → Prop) (cf : β → β → Int)
  (hone : ∀ b, ∀ x ∈ av b, x.one = true) (hids : ∀ b, IdsL 0 (av b)) (b0 : β) (v0 : List Value) (hb0 : ok b0) (hl0 : v0.length = k) (hv0 : ∀ m (j : Nat) x v, (av b0)[j]? = some x → v0[j]? = some v → Rel m [] x v)
  (irr : ∀ x, ok x → ¬ cf x x < 0) (tr : ∀ x y z, ok x → ok y → ok z → cf x y < 0 → cf y z < 0 → cf x z < 0) (ntr : ∀ x y z, ok x → ok y → ok z → ¬ cf x y < 0 → ¬ cf y z < 0 → ¬ cf x z < 0)
  (g : FuncId) (hg : P.funcs[g]? = some gn) (hgb : gn.body.isSome = true) (hgn : (gn.name == "runtime.NumGoroutine") = false) (hcmp : ∀ x y, ok x → ok y → ACalls P g [.agg (av x), .agg (av y)] [] (isR (.int .i64 (cf x y)) []))
  (id : Nat) (l : List β) (hl : ∀ x ∈ l, ok x) (σ : Store) (hσ : σ[id]? = some (.row (l.map av).flatten)) (hlen : l.length < 4611686018427387904) :
  ACalls P (ρ.f 6) [.ref id k 0 l.length, .func g []] σ fun r σ' => r = .tuple [] ∧ ∃ l' : List β, l'.Perm l ∧ l'.Pairwise (fun x y => ¬ cf y x < 0) ∧ σ' = σ.set id (.row (l'.map av).flatten) := by
 intro m loc w vs hs ha
 refine .inl ⟨fn, hf, hfb, hfn, ?_⟩
 obtain ⟨v, u, rfl, h1, h2⟩ := ha.two
 cases h2 with
 | func _ _ us hlenu _ =>
 have hus : us = #[] := Array.size_eq_zero_iff.1 hlenu
 subst hus
 have hid := lt_of_get hσ
 have hloc : loc[id]? = some (loc[id]'(by rw [hs.len]; exact hid)) := List.getElem?_eq_getElem _
 by_cases hll : l.length = 0
 ·have hlnil : l = [] := List.length_eq_zero_iff.1 hll
  subst hlnil
  have key : ∀ a c, v = .slice a 0 c → Calls P (ρ.f 6) #[v, .func (.func g) #[] #[]] w fun e w' => ∃ v', e = .returned v' ∧ ARet loc m w (fun r σ' => r = .tuple [] ∧ ∃ l' : List β, l'.Perm [] ∧ l'.Pairwise (fun x y => ¬ cf y x < 0) ∧ σ' = σ.set id (.row (l'.map av).flatten)) v' w' := by
   rintro a c rfl
   refine (AnyF.slices_SortFunc_none (P := P) (ρ := ρ) L a c _ w).mono ?_
   rintro e w' ⟨rfl, rfl⟩
   refine ⟨_, rfl, .tuple [], σ, m, loc, ⟨rfl, [], .refl _, .nil, ?_⟩, .tuple [] #[] rfl (by simp), hs, .refl _ _ _ _⟩
   rw [← set_same hσ]; simp
  rcases rel_ref h1 with ⟨cap, b, n, q0, _⟩ | ⟨_, a, q0⟩
  ·exact key _ _ q0
  ·exact key _ _ q0
 ·rcases rel_ref h1 with ⟨cap, blk, n, q0, q1, q2, q3, q4⟩ | ⟨q0, _⟩
  rotate_left
  ·exact absurd q0 hll
  ·subst q0
   obtain ⟨arr, t, e1, e2, e3, e4, e5⟩ := hs.obj id _ _ q1 hσ
   have e3 : l.length * k ≤ arr.size := by rw [flatM_len av k hk] at e3; exact e3
   have hb : ∀ i j, i < l.length → j < k → i * k + j < l.length * k := fun i j hi hj => by
    have := Nat.mul_le_mul_right k (show i + 1 ≤ l.length from hi)
    rw [Nat.add_mul, Nat.one_mul] at this; omega
   let A := { p : β × List Value // ok p.1 ∧ p.2.length = k ∧ ∀ (j : Nat) x v, (av p.1)[j]? = some x → p.2[j]? = some v → Rel m [] x v }
   letI : Inhabited A := ⟨⟨(b0, v0), hb0, hl0, hv0 m⟩⟩
   let enc : A → List Value := fun x => x.1.2
   let cfA : A → A → Int := fun x y => cf x.1.1 y.1.1
   let cells : Nat → List Value := fun i => List.ofFn fun j : Fin k => arr[i * k + j.1]!
   have hcl : ∀ i, (cells i).length = k := fun i => by simp [cells]
   have hcg : ∀ i j v, i < l.length → (cells i)[j]? = some v → j < k ∧ arr[i * k + j]? = some v := by
    intro i j v hi hv
    have hj : j < k := by have := lt_of_get hv; rwa [hcl] at this
    refine ⟨hj, ?_⟩
    rw [List.getElem?_eq_getElem (by rw [hcl]; exact hj)] at hv
    simp only [cells, List.getElem_ofFn, Option.some.injEq] at hv
    have hlt : i * k + j < arr.size := Nat.lt_of_lt_of_le (hb i j hi hj) e3
    rw [getElem!_pos arr _ hlt] at hv
    rw [Array.getElem?_eq_getElem hlt, hv]
   have hrel : ∀ i (hi : i < l.length), ∀ (j : Nat) x v, (av l[i])[j]? = some x → (cells i)[j]? = some v → Rel m [] x v := by
    intro i hi j x v hx hv
    obtain ⟨hj, hv⟩ := hcg i j v hi hv
    have := e4 (i * k + j) x v (by rw [flatM_get av k hk l i j hj, List.getElem?_eq_getElem hi]; exact hx) hv
    have := this.take (n := 0) (hids _ x (List.mem_of_getElem? hx))
    simpa using this
   let d : Array A := Array.ofFn fun j : Fin l.length => ⟨(l[j.1], cells j.1), hl _ (List.getElem_mem _), hcl _, hrel j.1 j.2⟩
   have hds : d.size = l.length := by simp [d]
   have hdj : ∀ j (hj : j < l.length), (d[j]!).1 = (l[j], cells j) := by
    intro j hj
    rw [getElem!_pos d j (by rw [hds]; exact hj)]
    simp [d]
   have hdl : d.toList.map (·.1.1) = l := by
    apply List.ext_getElem (by simp [hds])
    intro j h1 h2
    simp [d]
   have hO : SWO (ltOf cfA) := by
    refine ⟨fun x => ?_, fun x y z a b => ?_, fun x y z a b => ?_⟩
    ·exact decide_eq_false (irr _ x.2.1)
    ·exact decide_eq_true (tr _ _ _ x.2.1 y.2.1 z.2.1 (of_decide_eq_true a) (of_decide_eq_true b))
    ·exact decide_eq_false (ntr _ _ _ x.2.1 y.2.1 z.2.1 (of_decide_eq_false a) (of_decide_eq_false b))
   have hgc : ∃ c, gn.body = some c := Option.isSome_iff_exists.1 hgb
   obtain ⟨gc, hgc⟩ := hgc
   have hH : HoldsK enc k w blk 0 d := by
    intro t ht
    rw [size_flatK, hds] at ht
    have hq : t / k < l.length := by rw [Nat.div_lt_iff_lt_mul hk0]; exact ht
    have hlt : t < arr.size := Nat.lt_of_lt_of_le ht e3
    have : (flatK enc k d)[t]! = arr[t] := by
     rw [get_flatK _ _ _ _ (by rw [hds]; exact ht)]
     show (d[t / k]!).1.2[t % k]! = _
     rw [hdj _ hq]
     have hm : t % k < k := Nat.mod_lt _ hk0
     show (cells (t / k))[t % k]! = _
     rw [getElem!_pos _ _ (by rw [hcl]; exact hm)]
     simp only [cells, List.getElem_ofFn]
     have e : t / k * k + t % k = t := by rw [Nat.mul_comm]; exact Nat.div_add_mod t k
     rw [getElem!_pos arr _ (by rw [e]; exact hlt)]
     simp only [e]
    rw [Nat.zero_add, _root_.id, this]
    refine ⟨by simp [World.cell?, e1, hlt], by simp [World.frozen?, e1]⟩
   have hblk : blk < w.heap.size := hs.lt blk ⟨id, .inl q1⟩
   have hbase := srel_base hs
   have hagg : ∀ x : A, Rel m.strip [] (.agg (av x.1.1)) (.agg (enc x).toArray) := fun x => .agg _ _ (by simp [enc, x.2.2.1, hk]) fun j a v ha hv => (x.2.2.2 j a v ha (by simpa using hv)).strip
   have hlays : CmpLays P g #[] enc k cfA blk 0 d.size w := by
    intro n' os dk hsz x y
    have hS := srel_sorted (m := m.strip) (α := Value) _root_.id blk 0 n' (flatK enc k dk) os (hbase.strip fun _ _ q => q.strip) e5 (hs.mpo id _ _ blk q1 hσ rfl) (fun _ _ => rfl)
    have hA : ArgsRel m.strip [] [.agg (av x.1.1), .agg (av y.1.1)] (#[.agg (enc x).toArray, .agg (enc y).toArray] ++ #[]) := by
     refine ⟨rfl, fun j a v => ?_⟩
     match j with
     | 0 => intro r1 r2; simp at r1 r2; subst r1; subst r2; exact hagg x
     | 1 => intro r1 r2; simp at r1 r2; subst r1; subst r2; exact hagg y
     | j + 2 => intro r1; simp at r1
    refine ((hcmp x.1.1 y.1.1 x.2.1 y.2.1).calls hg hgb (by simpa using hgn) hS hA).mono ?_
    rintro e w' ⟨v, rfl, r, σ', m', loc', ⟨rfl, rfl⟩, r1, r2, r3⟩
    cases r1
    exact ⟨rfl, world_of_ext r3 (fun _ _ => rfl)⟩
   have hmain := AnyQ.slices_SortFunc L k aE zE enc (fun x => x.2.2.1) (fun x v hv => by
    obtain ⟨j, hj, rfl⟩ := List.getElem_of_mem hv
    have hj' : j < (av x.1.1).length := by rw [hk]; rw [show (enc x).length = k from x.2.2.1] at hj; exact hj
    exact rel_one (x.2.2.2 j _ _ (List.getElem?_eq_getElem hj') (List.getElem?_eq_getElem hj)) (hone _ _ (List.getElem_mem hj'))) cfA hO g #[] blk 0 cap d w (enters_of hg hgn hgc) hlays hH hblk (by rw [hds]; exact hlen)
   rw [hds] at hmain
   refine hmain.mono ?_
   rintro e w' ⟨rfl, d', n', os, hperm, hsorted, rfl⟩
   obtain ⟨p1, _, p3⟩ := hperm
   have hd's : d'.size = l.length := p1.trans hds
   have ex : ∀ x : Array A, x.size = l.length → (x.extract 0 l.length).toList = x.toList := fun x hx => by rw [← hx]; simp
   rw [ex d' hd's, ex d hds] at p3
   let l' : List β := d'.toList.map (·.1.1)
   have hl's : l'.length = l.length := by simp [l', hd's]
   have hset : loc.set id (.blk blk) = loc := set_same q1
   have key := hs.turn loc.length (m' := m) (w' := sortWorld _root_.id w blk 0 n' (flatK enc k d') os) (l' := .blk blk) (.row (l'.map av).flatten) q1 hσ (.refl m) (.refl _)
    (fun b hk' hne => sortWorld_other _root_.id w blk 0 n' (flatK enc k d') os hk' (fun q => hne (by subst q; rfl))) (by rw [size_sortWorld]; omega) (fun _ _ _ _ => rfl) ?_ ?_ ?_ (fun b q => .inl q) ?_ rfl rfl rfl (by simp [sortWorldK, putRowK, sortWorld, grow, putRow, mapBlock, Sort.ahead])
   ·rw [hset] at key
    refine ⟨_, rfl, .tuple [], _, m, loc, ⟨rfl, l', ?_, ?_, rfl⟩, .tuple [] #[] rfl (by simp), key.1, key.2⟩
    ·have := p3.map (fun x : A => x.1.1); rw [hdl] at this; exact this
    ·rw [List.pairwise_iff_getElem]
     intro i j hi hj hij
     have := hsorted i j (Nat.zero_le _) hij (by rw [← hl's]; exact hj)
     rw [getElem!_pos d' j (by rw [hd's, ← hl's]; exact hj), getElem!_pos d' i (by rw [hd's, ← hl's]; exact hi)] at this
     have := of_decide_eq_false this
     simpa [l', cfA] using this
   ·intro b o v hb' e'
    rcases hb' with hb' | hb'
    ·simp [own] at hb'; subst hb'; rw [e5] at e'; simp at e'
    ·have := hs.im_lt e'; omega
   ·intro b z hz
    by_cases hb' : b = blk
    ·subst hb'
     refine .inr ⟨_, t, _, sortWorld_own _root_.id w b 0 n' (flatK enc k d') os e1, ?_⟩
     rw [size_putCells]
     rw [e2] at hz; injection hz
    ·exact .inl ⟨hz, by simp [own]; exact fun q => hb' q.symm⟩
   ·rintro b ⟨_, _, _, e, _⟩; simp at e
   ·refine ⟨_, t, sortWorld_own _root_.id w blk 0 n' (flatK enc k d') os e1, by rw [size_putCells]; exact e2, by rw [size_putCells, flatM_len av k hk, hl's]; exact e3, ?_, e5⟩
    rw [hset]
    intro q x v hq hv'
    have hql : q < l.length * k := by have := lt_of_get hq; rwa [flatM_len av k hk, hl's] at this
    have e : q / k * k + q % k = q := by rw [Nat.mul_comm]; exact Nat.div_add_mod q k
    have hqd : q / k < d'.size := by rw [hd's, Nat.div_lt_iff_lt_mul hk0]; exact hql
    have hm : q % k < k := Nat.mod_lt _ hk0
    rw [← e, flatM_get av k hk l' _ _ hm] at hq
    have hx : (av (d'[q / k]).1.1)[q % k]? = some x := by
     simpa only [l', List.getElem?_map, Array.getElem?_toList, Array.getElem?_eq_getElem hqd, Option.map_some, Option.bind_some] using hq
    have hlt : q < arr.size := Nat.lt_of_lt_of_le hql e3
    have hvv : (d'[q / k]).1.2[q % k]? = some v := by
     simp only [putCells, Array.getElem?_mapIdx, Array.getElem?_eq_getElem hlt, Option.map_some, Option.some.injEq] at hv'
     rw [if_pos (by rw [size_flatK, hd's]; omega), Nat.sub_zero, _root_.id, get_flatK _ _ _ _ (by rw [hd's]; exact hql), getElem!_pos d' _ hqd] at hv'
     have hl2 : q % k < (d'[q / k]).1.2.length := by rw [(d'[q / k]).2.2.1]; exact hm
     rw [List.getElem?_eq_getElem hl2, ← hv']
     show some _ = some (getElem! (enc (d'[q / k])) (q % k))
     rw [getElem!_pos (enc (d'[q / k])) (q % k) hl2]
    exact ((d'[q / k]).2.2.2 _ x v hx hvv).mono (.refl m) (fun i l hi => by simp at hi)
end
end Go.Ahl
namespace Go.Ahl
section
variable {α : Type} {f : α → List AV} {k : Nat}
def rowC (f : α → List AV) (l : List α) : List AV := (l.map f).flatten
theorem rowC_cons (f : α → List AV) (x : α) (l : List α) : rowC f (x :: l) = f x ++ rowC f l := by simp [rowC]
theorem rowC_app (f : α → List AV) (l m : List α) : rowC f (l ++ m) = rowC f l ++ rowC f m := by simp [rowC]
theorem rowC_len (hk : ∀ x, (f x).length = k) (l : List α) : (rowC f l).length = l.length * k := flatM_len f k hk l
theorem rowC_get (hk : ∀ x, (f x).length = k) {l : List α} {i j : Nat} {x : α} (h : l[i]? = some x) (hj : j < k) : (rowC f l)[i * k + j]? = (f x)[j]? := by
 unfold rowC; rw [flatM_get f k hk l i j hj, h]; rfl
theorem rowC_split (hk : ∀ x, (f x).length = k) {l : List α} {i : Nat} {x : α} (h : l[i]? = some x) : rowC f l = rowC f (l.take i) ++ f x ++ rowC f (l.drop (i + 1)) ∧ (rowC f (l.take i)).length = i * k := by
 have hi := lt_of_get h
 refine ⟨?_, by rw [rowC_len hk, List.length_take_of_le (by omega)]⟩
 have : l = l.take i ++ x :: l.drop (i + 1) := by
  have h2 := List.getElem?_eq_getElem hi
  rw [h] at h2; injection h2 with h2; subst h2
  rw [List.getElem_cons_drop, List.take_append_drop]
 conv => lhs; rw [this, rowC_app, rowC_cons]
 rw [List.append_assoc]
theorem rowC_sub (hk : ∀ x, (f x).length = k) {l : List α} {i : Nat} {x : α} (h : l[i]? = some x) : ((rowC f l).drop (i * k)).take k = f x := by
 obtain ⟨h1, h2⟩ := rowC_split hk h
 rw [h1, List.append_assoc, ← h2, List.drop_left, ← hk x, List.take_left]
theorem rowC_set (hk : ∀ x, (f x).length = k) {l : List α} {i : Nat} (h : i < l.length) (y : α) : setAll (rowC f l) (i * k) (f y) = rowC f (l.set i y) := by
 obtain ⟨x, hx⟩ : ∃ x, l[i]? = some x := ⟨_, List.getElem?_eq_getElem h⟩
 obtain ⟨h1, h2⟩ := rowC_split hk hx
 rw [h1, ← h2, setAll_mid _ _ _ _ (by rw [hk, hk]), List.set_eq_take_append_cons_drop, if_pos h, rowC_app, rowC_cons, List.append_assoc]
theorem rowC_cell (hk : ∀ x, (f x).length = k) {l : List α} {i j : Nat} {x y : α} (hx : l[i]? = some x) (hj : j < k) {v : AV} (hy : f y = (f x).set j v) : (rowC f l).set (i * k + j) v = rowC f (l.set i y) := by
 obtain ⟨h1, h2⟩ := rowC_split hk hx
 rw [h1, List.append_assoc, List.set_append_right _ _ (by omega), h2, Nat.add_sub_cancel_left, List.set_append_left _ _ (by rw [hk]; exact hj), ← hy]
 rw [List.set_eq_take_append_cons_drop, if_pos (lt_of_get hx), rowC_app, rowC_cons]
theorem rowC_take (hk : ∀ x, (f x).length = k) (l : List α) (n : Nat) : (rowC f l).take (n * k) = rowC f (l.take n) := by
 rcases Nat.lt_or_ge n l.length with h | h
 ·obtain ⟨x, hx⟩ : ∃ x, l[n]? = some x := ⟨_, List.getElem?_eq_getElem h⟩
  obtain ⟨h1, h2⟩ := rowC_split hk hx
  rw [h1, List.append_assoc, ← h2, List.take_left]
 ·rw [List.take_of_length_le h, List.take_of_length_le]
  rw [rowC_len hk]; exact Nat.mul_le_mul_right _ h
theorem rowC_snoc (f : α → List AV) (l : List α) (x : α) : rowC f (l ++ [x]) = rowC f l ++ [f x].flatten := by simp [rowC]
theorem ids_rowC {n : Nat} (h : ∀ x, IdsL n (f x)) (l : List α) : IdsO n (.row (rowC f l)) := idsO_row fun v hv => by
 obtain ⟨e, he, hv⟩ := List.mem_flatten.1 hv
 obtain ⟨x, _, rfl⟩ := List.mem_map.1 he
 exact h x v hv
end
end Go.Ahl
namespace Go.Ahl
abbrev Jt := Nat × Int × Int
def ky (x : Jt) : Int := x.2.1 * 18446744073709551616 + x.2.2
def jtC (l : List Jt) (i : Nat) : Int := ky (l.getD i (0, 0, 0))
def swapJ (l : List Jt) (i j : Nat) : List Jt := (l.set i (l.getD j (0, 0, 0))).set j (l.getD i (0, 0, 0))
def HeapJ (l : List Jt) (n : Nat) : Prop := ∀ i, 0 < i → i < n → jtC l ((i - 1) / 2) ≤ jtC l i
def HeapJU (l : List Jt) (n j : Nat) : Prop := (∀ i, 0 < i → i < n → i ≠ j → jtC l ((i - 1) / 2) ≤ jtC l i) ∧ ∀ i, 0 < i → i < n → (i - 1) / 2 = j → 0 < j → jtC l ((j - 1) / 2) ≤ jtC l i
def HeapJD (l : List Jt) (n i : Nat) : Prop := (∀ k, 0 < k → k < n → (k - 1) / 2 ≠ i → jtC l ((k - 1) / 2) ≤ jtC l k) ∧ ∀ k, 0 < k → k < n → (k - 1) / 2 = i → 0 < i → jtC l ((i - 1) / 2) ≤ jtC l k
theorem swapJ_len (l : List Jt) (i j : Nat) : (swapJ l i j).length = l.length := by simp [swapJ]
theorem jtC_swap {l : List Jt} {i j k : Nat} (hi : i < l.length) (hj : j < l.length) : jtC (swapJ l i j) k = if k = j then jtC l i else if k = i then jtC l j else jtC l k := by
 unfold jtC swapJ
 simp only [List.getD_eq_getElem?_getD]
 by_cases h : k = j
 ·subst h; rw [if_pos rfl, List.getElem?_set_self (by simpa using hj)]; rfl
 ·rw [if_neg h, List.getElem?_set_ne (fun e => h e.symm)]
  by_cases h2 : k = i
  ·subst h2; rw [if_pos rfl, List.getElem?_set_self hi]; rfl
  ·rw [if_neg h2, List.getElem?_set_ne (fun e => h2 e.symm)]
theorem swapJ_perm {l : List Jt} {i j : Nat} (hi : i < l.length) (hj : j < l.length) : (swapJ l i j).Perm l := by
 rw [List.perm_iff_count]
 intro a
 have key : ∀ (m : List Jt) (k : Nat) (x : Jt) (hk : k < m.length), (m.set k x).count a + (if m.getD k (0, 0, 0) = a then 1 else 0) = m.count a + (if x = a then 1 else 0) := by
  intro m
  induction m with
  | nil => intro k x hk; simp at hk
  | cons y m ih =>
   intro k x hk
   cases k with
   | zero => simp only [List.set_cons_zero, List.count_cons, List.getD_cons_zero, beq_iff_eq]; omega
   | succ k =>
    have := ih k x (by simpa using hk)
    simp only [List.set_cons_succ, List.count_cons, List.getD_cons_succ, beq_iff_eq] at this ⊢
    omega
 unfold swapJ
 have h1 := key l i (l.getD j (0, 0, 0)) hi
 have h2 := key (l.set i (l.getD j (0, 0, 0))) j (l.getD i (0, 0, 0)) (by simpa using hj)
 have h3 : (l.set i (l.getD j (0, 0, 0))).getD j (0, 0, 0) = l.getD j (0, 0, 0) := by
  simp only [List.getD_eq_getElem?_getD]
  by_cases e : i = j
  ·subst e; rw [List.getElem?_set_self hi]; rfl
  ·rw [List.getElem?_set_ne e]
 rw [h3] at h2
 omega
theorem HeapJU.done {l : List Jt} {n j : Nat} (h : HeapJU l n j) (hj : j = 0 ∨ jtC l ((j - 1) / 2) ≤ jtC l j) : HeapJ l n := by
 intro i h0 hi
 by_cases e : i = j
 ·subst e
  rcases hj with rfl | hj
  ·omega
  ·exact hj
 ·exact h.1 i h0 hi e
theorem HeapJU.step {l : List Jt} {n j : Nat} (h : HeapJU l n j) (hn : n ≤ l.length) (hj : j < n) (h0 : 0 < j) (hlt : jtC l j < jtC l ((j - 1) / 2)) : HeapJU (swapJ l ((j - 1) / 2) j) n ((j - 1) / 2) := by
 obtain ⟨p, hp⟩ : ∃ p, p = (j - 1) / 2 := ⟨_, rfl⟩
 rw [← hp] at hlt ⊢
 have hpj : p < j := by omega
 have hs := fun k => jtC_swap (l := l) (i := p) (j := j) (k := k) (by omega) (by omega)
 constructor
 ·intro i hi0 hi hne
  rw [hs, hs]
  by_cases e1 : i = j
  ·subst e1
   rw [if_pos rfl, ← hp, if_neg (by omega), if_pos rfl]; omega
  ·rw [if_neg e1, if_neg hne]
   by_cases e2 : (i - 1) / 2 = j
   ·rw [if_pos e2]
    have := h.2 i hi0 hi e2 h0
    rw [← hp] at this; exact this
   ·rw [if_neg e2]
    by_cases e3 : (i - 1) / 2 = p
    ·rw [if_pos e3]
     have := h.1 i hi0 hi e1
     rw [e3] at this; omega
    ·rw [if_neg e3]; exact h.1 i hi0 hi e1
 ·intro i hi0 hi hpi hp0
  rw [hs, hs, if_neg (by omega), if_neg (by omega)]
  have hpar := h.1 p hp0 (by omega) (by omega)
  by_cases e1 : i = j
  ·rw [if_pos e1]; exact hpar
  ·rw [if_neg e1, if_neg (by omega)]
   have := h.1 i hi0 hi e1
   rw [hpi] at this; omega
theorem HeapJD.done {l : List Jt} {n i : Nat} (h : HeapJD l n i) (hi : ∀ k, 0 < k → k < n → (k - 1) / 2 = i → jtC l i ≤ jtC l k) : HeapJ l n := by
 intro k h0 hk
 by_cases e : (k - 1) / 2 = i
 ·rw [e]; exact hi k h0 hk e
 ·exact h.1 k h0 hk e
theorem HeapJD.step {l : List Jt} {n i j : Nat} (h : HeapJD l n i) (hn : n ≤ l.length) (hj : j < n) (hpj : (j - 1) / 2 = i) (h0 : 0 < j) (hlt : jtC l j < jtC l i) (hmin : ∀ k, 0 < k → k < n → (k - 1) / 2 = i → jtC l j ≤ jtC l k) : HeapJD (swapJ l i j) n j := by
 have hij : i < j := by omega
 have hs := fun k => jtC_swap (l := l) (i := i) (j := j) (k := k) (by omega) (by omega)
 constructor
 ·intro k hk0 hk hne
  rw [hs, hs, if_neg hne]
  by_cases e1 : k = j
  ·subst e1
   rw [if_pos rfl, if_pos hpj]; omega
  ·rw [if_neg e1]
   by_cases e2 : (k - 1) / 2 = i
   ·rw [if_pos e2, if_neg (by omega)]
    exact hmin k hk0 hk e2
   ·rw [if_neg e2]
    by_cases e3 : k = i
    ·subst e3
     rw [if_pos rfl]
     exact h.2 j h0 hj hpj hk0
    ·rw [if_neg e3]; exact h.1 k hk0 hk e2
 ·intro k hk0 hk hpk _
  rw [hs, hs, if_neg (by omega), if_pos hpj, if_neg (by omega), if_neg (by omega)]
  have := h.1 k hk0 hk (by omega)
  rw [hpk] at this; exact this
theorem HeapJ.root {l : List Jt} {n : Nat} (h : HeapJ l n) : ∀ i, i < n → jtC l 0 ≤ jtC l i := fun i => by
 induction i using Nat.strongRecOn with
 | _ i ih =>
  intro hi
  rcases Nat.eq_zero_or_pos i with rfl | h0
  ·exact Int.le_refl _
  ·exact Int.le_trans (ih ((i - 1) / 2) (by omega) (by omega)) (h i h0 hi)
theorem HeapJ.swap0 {l : List Jt} {n : Nat} (h : HeapJ l (n + 1)) (hl : l.length = n + 1) : HeapJD (swapJ l 0 n) n 0 := by
 have hs := fun k => jtC_swap (l := l) (i := 0) (j := n) (k := k) (by omega) (by omega)
 refine ⟨fun k hk0 hk hne => ?_, fun k hk0 hk hpk h0 => by omega⟩
 rw [hs, hs, if_neg (by omega), if_neg hne, if_neg (by omega), if_neg (by omega)]
 exact h k hk0 (by omega)
theorem HeapJ.congr {l m : List Jt} {n : Nat} (h : HeapJ l n) (he : ∀ i, i < n → jtC m i = jtC l i) : HeapJ m n := fun i h0 hi => by rw [he i hi, he _ (by omega)]; exact h i h0 hi
theorem heapJ_push {l : List Jt} (h : HeapJ l l.length) (x : Jt) : HeapJU (l ++ [x]) (l.length + 1) l.length := by
 have he : ∀ i, i < l.length → jtC (l ++ [x]) i = jtC l i := fun i hi => by
  unfold jtC; rw [List.getD_eq_getElem?_getD, List.getD_eq_getElem?_getD, List.getElem?_append_left hi]
 refine ⟨fun i h0 hi hne => ?_, fun i h0 hi hp hj => by omega⟩
 rw [he i (by omega), he _ (by omega)]; exact h i h0 (by omega)
def upJ (l : List Jt) (j : Nat) : List Jt := if h : 0 < j ∧ jtC l j < jtC l ((j - 1) / 2) then upJ (swapJ l ((j - 1) / 2) j) ((j - 1) / 2) else l
termination_by j
decreasing_by omega
theorem upJ_go {l : List Jt} {j : Nat} (h0 : 0 < j) (h : jtC l j < jtC l ((j - 1) / 2)) : upJ l j = upJ (swapJ l ((j - 1) / 2) j) ((j - 1) / 2) := by rw [upJ, dif_pos ⟨h0, h⟩]
theorem upJ_stop {l : List Jt} {j : Nat} (h : ¬ (0 < j ∧ jtC l j < jtC l ((j - 1) / 2))) : upJ l j = l := by rw [upJ, dif_neg h]
def kidJ (l : List Jt) (n i : Nat) : Nat := if 2 * i + 2 < n ∧ jtC l (2 * i + 2) < jtC l (2 * i + 1) then 2 * i + 2 else 2 * i + 1
theorem kidJ_gt (l : List Jt) (n i : Nat) : i < kidJ l n i := by unfold kidJ; split <;> omega
def dnJ (l : List Jt) (n i : Nat) : List Jt := if h : 2 * i + 1 < n ∧ jtC l (kidJ l n i) < jtC l i then dnJ (swapJ l i (kidJ l n i)) n (kidJ l n i) else l
termination_by n - i
decreasing_by have := kidJ_gt l n i; omega
theorem dnJ_go {l : List Jt} {n i : Nat} (h0 : 2 * i + 1 < n) (h : jtC l (kidJ l n i) < jtC l i) : dnJ l n i = dnJ (swapJ l i (kidJ l n i)) n (kidJ l n i) := by rw [dnJ, dif_pos ⟨h0, h⟩]
theorem dnJ_stop {l : List Jt} {n i : Nat} (h : ¬ (2 * i + 1 < n ∧ jtC l (kidJ l n i) < jtC l i)) : dnJ l n i = l := by rw [dnJ, dif_neg h]
def pushJ (l : List Jt) (x : Jt) : List Jt := upJ (l ++ [x]) l.length
def popJ (l : List Jt) : List Jt := (dnJ (swapJ l 0 (l.length - 1)) (l.length - 1) 0).take (l.length - 1)
theorem heapJ_one (x : Jt) : HeapJ [x] 1 := fun i h0 hi => by omega
theorem upJ_ok : ∀ (j : Nat) {l : List Jt}, HeapJU l l.length j → j < l.length → (upJ l j).Perm l ∧ HeapJ (upJ l j) l.length := fun j => by
 induction j using Nat.strongRecOn with
 | _ j ih =>
  intro l h hj
  by_cases c : 0 < j ∧ jtC l j < jtC l ((j - 1) / 2)
  ·have hp := swapJ_perm (l := l) (i := (j - 1) / 2) (j := j) (by omega) hj
   have hs := h.step (Nat.le_refl _) hj c.1 c.2
   rw [upJ_go c.1 c.2]
   have hl : (swapJ l ((j - 1) / 2) j).length = l.length := swapJ_len _ _ _
   rw [← hl] at hs
   obtain ⟨q1, q2⟩ := ih ((j - 1) / 2) (by omega) hs (by omega)
   exact ⟨q1.trans hp, by rw [← hl]; exact q2⟩
  ·rw [upJ_stop c]
   exact ⟨.refl _, h.done (by omega)⟩
theorem pushJ_ok {l : List Jt} (h : HeapJ l l.length) (x : Jt) : (pushJ l x).Perm (x :: l) ∧ HeapJ (pushJ l x) (pushJ l x).length := by
 have hl : (l ++ [x]).length = l.length + 1 := by simp
 have hu := heapJ_push h x
 rw [← hl] at hu
 obtain ⟨q1, q2⟩ := upJ_ok l.length hu (by omega)
 have q1' : (pushJ l x).Perm (l ++ [x]) := q1
 exact ⟨q1'.trans List.perm_append_comm, by rw [q1'.length_eq]; exact q2⟩
end Go.Ahl
namespace Go.Proofs.YtpabiedjneognaaGreatDoor
open Go.Ahl
def encQ (x : Jt) : List AV := [.int .i64 (x.1 : Nat), .int .i64 x.2.1, .int .i64 x.2.2]
theorem encQ_len (x : Jt) : (encQ x).length = 3 := rfl
def pR (l : List Jt) : List AV := rowC encQ l
theorem pR_len (l : List Jt) : (pR l).length = l.length * 3 := rowC_len encQ_len l
theorem pR_cost {l : List Jt} {i : Nat} {x : Jt} (h : l[i]? = some x) : (pR l)[i * 3 + 1]? = some (.int .i64 x.2.1) := by rw [pR, rowC_get encQ_len h (by omega)]; rfl
theorem pR_sec {l : List Jt} {i : Nat} {x : Jt} (h : l[i]? = some x) : (pR l)[i * 3 + 2]? = some (.int .i64 x.2.2) := by rw [pR, rowC_get encQ_len h (by omega)]; rfl
theorem pR_sub {l : List Jt} {i : Nat} {x : Jt} (h : l[i]? = some x) : ((pR l).drop (i * 3)).take 3 = encQ x := rowC_sub encQ_len h
theorem ids_pR {n : Nat} (l : List Jt) : IdsO n (.row (pR l)) := ids_rowC (fun x => idsL_cons (.int _ _) (idsL_cons (.int _ _) (idsL_cons (.int _ _) idsL_nil))) l
theorem jtC_get {l : List Jt} {i : Nat} {x : Jt} (h : l[i]? = some x) : jtC l i = ky x := by unfold jtC; rw [List.getD_eq_getElem?_getD, h]; rfl
def SecOk (l : List Jt) : Prop := ∀ x ∈ l, 0 ≤ x.2.2 ∧ x.2.2 < 18446744073709551616
theorem SecOk.perm {l m : List Jt} (h : SecOk l) (hp : m.Perm l) : SecOk m := fun x hx => h x (hp.mem_iff.1 hx)
theorem ky_lt {x y : Jt} (hx : 0 ≤ x.2.2 ∧ x.2.2 < 18446744073709551616) (hy : 0 ≤ y.2.2 ∧ y.2.2 < 18446744073709551616) : decide (ky x < ky y) = if x.2.1 = y.2.1 then decide (x.2.2 < y.2.2) else decide (x.2.1 < y.2.1) := by
 unfold ky
 split
 ·rename_i h; rw [h]; exact decide_eq_decide.2 (by omega)
 ·exact decide_eq_decide.2 (by omega)
def c_pLen : CCode := .seq (.ops [oS 2 (.move (.lit (.int .i64 0)))]) (.seq (.ops [oS 3 (.move (.tmp 0)), oS 4 (.blen 1 (.tmp 3)), oS 2 (.move (.tmp 4))]) .ret)
theorem pLen_spec (R n : Nat) (σ : Store) : ACalls Tryz.prog 189 [.ref R 3 0 n] σ (isR (.int .i64 n) σ) := by
 refine ACalls.intro (rs := [(.tmp 2)]) (by kernel_rfl) { own := [], ghosts := [] } Tryz.func189 (c := Tryz.f189.body.getD .skip) (by kernel_rfl) (by decide) (by rw [show Tryz.f189.ntmps = 5 by kernel_rfl]; exact Nat.le_of_ble_eq_true rfl) (by kernel_rfl) ?_
 intro hσ hids
 rw [show comp Tryz.prog { own := [], ghosts := [] } (Tryz.f189.body.getD .skip) = c_pLen by kernel_rfl, show Tryz.f189.ntmps = 5 by kernel_rfl]
 unfold c_pLen
 simp only [go_sem, simprocAttr]
 exact rt (.int .i64 n) ⟨rfl, rfl⟩
def e_pLess_0 : List COp := [oS 7 (.move (.tmp 0)), oS 8 (.move (.tmp 1)), oA 9 (.iaddr 3 (.tmp 7) (.tmp 8)) [0, 1], oA 10 (.faddr 1 (.tmp 9)) [2], oA 11 (.load none (.tmp 10)) [3], oS 12 (.move (.tmp 0)), oS 13 (.move (.tmp 2)), oA 14 (.iaddr 3 (.tmp 12) (.tmp 13)) [5, 6], oA 15 (.faddr 1 (.tmp 14)) [7], oA 16 (.load none (.tmp 15)) [8], oA 17 (.bin .neq .none (.tmp 11) (.tmp 16)) [4, 9]]
def d_pLess_0 : List COp := e_pLess_0
theorem dr_pLess_0 (P : Program) (nt n0 : Nat) (Q : Post) (s : Slots) (σ : Store) : wpc P nt n0 (.draw d_pLess_0) Q s σ = aOpsD P nt e_pLess_0 (Q .normal) s σ := wpc_draw _ (by decide)
def e_pLess_1 : List COp := [oS 18 (.move (.tmp 0)), oS 19 (.move (.tmp 1)), oA 20 (.iaddr 3 (.tmp 18) (.tmp 19)) [0, 1], oA 21 (.faddr 1 (.tmp 20)) [2], oA 22 (.load none (.tmp 21)) [3], oS 23 (.move (.tmp 0)), oS 24 (.move (.tmp 2)), oA 25 (.iaddr 3 (.tmp 23) (.tmp 24)) [5, 6], oA 26 (.faddr 1 (.tmp 25)) [7], oA 27 (.load none (.tmp 26)) [8], oA 28 (.bin .lss .none (.tmp 22) (.tmp 27)) [4, 9], oA 6 (.move (.tmp 28)) [10, 0, 1, 2, 3, 4, 5, 6, 7, 8, 9, 10]]
def d_pLess_1 : List COp := e_pLess_1
theorem dr_pLess_1 (P : Program) (nt n0 : Nat) (Q : Post) (s : Slots) (σ : Store) : wpc P nt n0 (.draw d_pLess_1) Q s σ = aOpsD P nt e_pLess_1 (Q .normal) s σ := wpc_draw _ (by decide)
def e_pLess_2 : List COp := [oS 29 (.move (.tmp 0)), oS 30 (.move (.tmp 1)), oA 31 (.iaddr 3 (.tmp 29) (.tmp 30)) [0, 1], oA 32 (.faddr 2 (.tmp 31)) [2], oA 33 (.load none (.tmp 32)) [3], oS 34 (.move (.tmp 0)), oS 35 (.move (.tmp 2)), oA 36 (.iaddr 3 (.tmp 34) (.tmp 35)) [5, 6], oA 37 (.faddr 2 (.tmp 36)) [7], oA 38 (.load none (.tmp 37)) [8], oA 39 (.bin .lss .none (.tmp 33) (.tmp 38)) [4, 9], oA 6 (.move (.tmp 39)) [10, 0, 1, 2, 3, 4, 5, 6, 7, 8, 9, 10]]
def d_pLess_2 : List COp := e_pLess_2
theorem dr_pLess_2 (P : Program) (nt n0 : Nat) (Q : Post) (s : Slots) (σ : Store) : wpc P nt n0 (.draw d_pLess_2) Q s σ = aOpsD P nt e_pLess_2 (Q .normal) s σ := wpc_draw _ (by decide)
attribute [local go_sem] dr_pLess_0 e_pLess_0 dr_pLess_1 e_pLess_1 dr_pLess_2 e_pLess_2
def c_pLess : CCode := .seq (.ops [oS 6 (.move (.lit (.bool false)))]) (.seq (.seq (.draw d_pLess_0) (.cond (.tmp 17) (.seq (.draw d_pLess_1) .ret) .skip)) (.seq (.draw d_pLess_2) .ret))
theorem pLess_spec (R i j : Nat) (l : List Jt) (σ : Store) (hR : σ[R]? = some (.row (pR l))) (hi : i < l.length) (hj : j < l.length) (hs : SecOk l) :
  ACalls Tryz.prog 190 [.ref R 3 0 l.length, .int .i64 i, .int .i64 j] σ (isR (.bool (decide (jtC l i < jtC l j))) σ) := by
 refine ACalls.intro (rs := [(.tmp 6)]) (by kernel_rfl) { own := [], ghosts := [] } Tryz.func190 (c := Tryz.f190.body.getD .skip) (by kernel_rfl) (by decide) (by rw [show Tryz.f190.ntmps = 40 by kernel_rfl]; exact Nat.le_of_ble_eq_true rfl) (by kernel_rfl) ?_
 intro hσ hids
 rw [show comp Tryz.prog { own := [], ghosts := [] } (Tryz.f190.body.getD .skip) = c_pLess by kernel_rfl, show Tryz.f190.ntmps = 40 by kernel_rfl]
 unfold c_pLess
 obtain ⟨x, hx⟩ := get_ex hi
 obtain ⟨y, hy⟩ := get_ex hj
 have h1 := pR_cost hx
 have h2 := pR_cost hy
 have h3 := pR_sec hx
 have h4 := pR_sec hy
 have p1 : (0 : Int) ≤ (i : Int) := by omega
 have p2 : (0 : Int) ≤ (j : Int) := by omega
 rw [jtC_get hx, jtC_get hy, ky_lt (hs x (List.mem_of_getElem? hx)) (hs y (List.mem_of_getElem? hy))]
 by_cases he : x.2.1 = y.2.1
 ·have hne : (x.2.1 != y.2.1) = false := by simpa using he
  rw [if_pos he]
  simp only [go_sem, simprocAttr, hR, h1, h2, h3, h4, p1, p2, hi, hj, Int.toNat_natCast, Nat.zero_add, hne]
  exact rt (.bool (decide (x.2.2 < y.2.2))) ⟨rfl, rfl⟩
 ·have hne : (x.2.1 != y.2.1) = true := by simpa using he
  rw [if_neg he]
  simp only [go_sem, simprocAttr, hR, h1, h2, h3, h4, p1, p2, hi, hj, Int.toNat_natCast, Nat.zero_add, hne]
  exact rt (.bool (decide (x.2.1 < y.2.1))) ⟨rfl, rfl⟩
def e_pSwap_0 : List COp := [oS 6 (.move (.tmp 0)), oS 7 (.move (.tmp 1)), oS 8 (.move (.tmp 0)), oS 9 (.move (.tmp 2)), oS 10 (.move (.tmp 0)), oS 11 (.move (.tmp 2)), oA 12 (.iaddr 3 (.tmp 10) (.tmp 11)) [4, 5], oA 13 (.load (some 3) (.tmp 12)) [6], oS 14 (.move (.tmp 0)), oS 15 (.move (.tmp 1)), oA 16 (.iaddr 3 (.tmp 14) (.tmp 15)) [8, 9], oA 17 (.load (some 3) (.tmp 16)) [10], oA 18 (.iaddr 3 (.tmp 6) (.tmp 7)) [0, 1, 0, 1, 4, 5, 6, 7, 11], ⟨none, .store 3 (.tmp 18) (.tmp 13), none, [12, 7, 0, 1, 4, 5, 6, 7, 11]⟩, oA 19 (.iaddr 3 (.tmp 8) (.tmp 9)) [2, 3, 0, 1, 2, 3, 4, 5, 6, 7, 8, 9, 10, 11, 12, 13], ⟨none, .store 3 (.tmp 19) (.tmp 17), none, [14, 11, 13, 0, 1, 2, 3, 4, 5, 6, 7, 8, 9, 10, 11, 12, 13]⟩]
def d_pSwap_0 : List COp := e_pSwap_0
theorem dr_pSwap_0 (P : Program) (nt n0 : Nat) (Q : Post) (s : Slots) (σ : Store) : wpc P nt n0 (.draw d_pSwap_0) Q s σ = aOpsD P nt e_pSwap_0 (Q .normal) s σ := wpc_draw _ (by decide)
attribute [local go_sem] dr_pSwap_0 e_pSwap_0
def c_pSwap : CCode := .draw d_pSwap_0
theorem pSwap_spec (R i j : Nat) (l : List Jt) (σ : Store) (hR : σ[R]? = some (.row (pR l))) (hi : i < l.length) (hj : j < l.length) :
  ACalls Tryz.prog 193 [.ref R 3 0 l.length, .int .i64 i, .int .i64 j] σ (isR (.tuple []) (σ.set R (.row (pR (swapJ l i j))))) := by
 refine ACalls.intro (rs := []) (by kernel_rfl) { own := [], ghosts := [] } Tryz.func193 (c := Tryz.f193.body.getD .skip) (by kernel_rfl) (by decide) (by rw [show Tryz.f193.ntmps = 20 by kernel_rfl]; exact Nat.le_of_ble_eq_true rfl) (by kernel_rfl) ?_
 intro hσ hids
 rw [show comp Tryz.prog { own := [], ghosts := [] } (Tryz.f193.body.getD .skip) = c_pSwap by kernel_rfl, show Tryz.f193.ntmps = 20 by kernel_rfl]
 unfold c_pSwap
 obtain ⟨x, hx⟩ := get_ex hi
 obtain ⟨y, hy⟩ := get_ex hj
 have h1 := pR_sub hx
 have h2 := pR_sub hy
 have p1 : (0 : Int) ≤ (i : Int) := by omega
 have p2 : (0 : Int) ≤ (j : Int) := by omega
 have b1 : i * 3 + 3 ≤ (pR l).length := by rw [pR_len]; omega
 have b2 : j * 3 + 3 ≤ (pR l).length := by rw [pR_len]; omega
 have hRl := lt_of_get hR
 have s1 : setAll (pR l) (i * 3) (encQ y) = pR (l.set i y) := rowC_set encQ_len hi y
 have s2 : setAll (pR (l.set i y)) (j * 3) (encQ x) = pR (swapJ l i j) := by
  rw [show swapJ l i j = (l.set i y).set j x by unfold swapJ; rw [List.getD_eq_getElem?_getD, List.getD_eq_getElem?_getD, hx, hy]; rfl]
  exact rowC_set encQ_len (by simpa using hj) x
 have a1 : ∀ x, (encQ x).all AV.one = true := fun _ => rfl
 have hg : ∀ c, (σ.set R (.row c))[R]? = some (.row c) := fun c => by rw [List.getElem?_set_self hRl]
 have b3 : j * 3 + 3 ≤ (pR (l.set i y)).length := by rw [pR_len, List.length_set]; omega
 have hfin : IdsS (σ.set R (.row (pR (swapJ l i j)))).length (σ.set R (.row (pR (swapJ l i j)))) := by
  rw [List.length_set]; exact idsS_put' hσ _ (ids_pR _)
 simp only [go_sem, simprocAttr, hR, h1, h2, p1, p2, hi, hj, Int.toNat_natCast, Nat.zero_add, b1, b2, encQ_len, a1, s1, hg, b3, s2, List.set_set]
 exact ret_gh0 (Ghost.keep0 (s' := []) (by simp) trivial hfin) (by simp) hfin ⟨rfl, rfl⟩
def pS (σ : Store) (q R : Nat) (l : List Jt) : Store := (σ.set q (.row [.ref R 3 0 l.length])).set R (.row (pR l))
theorem pS_len (σ : Store) (q R : Nat) (l : List Jt) : (pS σ q R l).length = σ.length := by simp [pS]
theorem pS_ids {σ : Store} {q R : Nat} {l : List Jt} (h : IdsS σ.length σ) (hR : R < σ.length) : IdsS (pS σ q R l).length (pS σ q R l) := by
 rw [pS_len]
 exact idsS_put' (idsS_put' h _ (idsO_row (idsL_cons (.ref _ _ _ _ hR) idsL_nil))) _ (ids_pR _)
def e_pPop_0 : List COp := [oS 4 (.move (.tmp 0)), oA 5 (.nilck (.tmp 4)) [0], oA 6 (.load none (.tmp 5)) [1], oS 7 (.move (.tmp 0)), oA 8 (.nilck (.tmp 7)) [3], oA 9 (.load none (.tmp 8)) [4], oA 10 (.blen 1 (.tmp 9)) [5], oA 11 (.bin .sub .none (.tmp 10) (.lit (.int .i64 1))) [6], oA 12 (.iaddr 3 (.tmp 6) (.tmp 11)) [2, 7], oA 13 (.load (some 3) (.tmp 12)) [8], oS 3 (.alloc (.agg [.int .i64 0, .int .i64 0, .int .i64 0])), ⟨none, .store 3 (.tmp 3) (.tmp 13), none, [10, 9, 0, 1, 2, 3, 4, 5, 6, 7, 8, 9, 10]⟩]
def d_pPop_0 : List COp := e_pPop_0
theorem dr_pPop_0 (P : Program) (nt n0 : Nat) (Q : Post) (s : Slots) (σ : Store) : wpc P nt n0 (.drawU d_pPop_0 [[], [], [10], [], [], [10], [10], [], [], [10], [2, 5, 6, 9], []]) Q s σ = aOpsU P nt e_pPop_0 [[], [], [10], [], [], [10], [10], [], [], [10], [2, 5, 6, 9], []] 0 [] [] (Q .normal) s σ := wpc_drawU _ _ (by decide)
def e_pPop_1 : List COp := [oS 14 (.move (.tmp 0)), oS 15 (.move (.tmp 0)), oA 16 (.nilck (.tmp 15)) [1], oA 17 (.load none (.tmp 16)) [2], oS 18 (.move (.tmp 0)), oA 19 (.nilck (.tmp 18)) [4], oA 20 (.load none (.tmp 19)) [5], oA 21 (.blen 1 (.tmp 20)) [6], oA 22 (.bin .sub .none (.tmp 21) (.lit (.int .i64 1))) [7], oA 23 (.slc 3 (.tmp 17) none (some (.tmp 22)) none) [3, 8], oA 24 (.nilck (.tmp 14)) [0, 0, 1, 2, 3, 4, 5, 6, 7, 8, 9], ⟨none, .store 1 (.tmp 24) (.tmp 23), none, [10, 9, 0, 1, 2, 3, 4, 5, 6, 7, 8, 9]⟩]
def d_pPop_1 : List COp := e_pPop_1
theorem dr_pPop_1 (P : Program) (nt n0 : Nat) (Q : Post) (s : Slots) (σ : Store) : wpc P nt n0 (.draw d_pPop_1) Q s σ = aOpsD P nt e_pPop_1 (Q .normal) s σ := wpc_draw _ (by decide)
attribute [local go_sem] dr_pPop_0 e_pPop_0 dr_pPop_1 e_pPop_1
def c_pPop : CCode := .seq (.ops [oS 2 (.move (.lit (.conc Value.nilIface)))]) (.seq (.drawU d_pPop_0 [[], [], [10], [], [], [10], [10], [], [], [10], [2, 5, 6, 9], []]) (.seq (.draw d_pPop_1) (.seq (.ops [oS 25 (.load (some 3) (.tmp 3)), oS 26 (.mkif 113 (.tmp 25)), oS 2 (.move (.tmp 26))]) .ret)))
theorem pPop_spec (q R m : Nat) (l : List Jt) (x : Jt) (σ : Store) (hqR : q ≠ R) (hq : σ[q]? = some (.row [.ref R 3 0 (m + 1)])) (hR : σ[R]? = some (.row (pR l))) (hl : l.length = m + 1) (hx : l[m]? = some x) (hm : m ≤ 1000000000) :
  ACalls Tryz.prog 191 [.ptr q 0] σ (isR (.iface 113 (.agg (encQ x))) (pS σ q R (l.take m))) := by
 refine ACalls.intro (rs := [(.tmp 2)]) (by kernel_rfl) { own := [], ghosts := [], free := [(1, [[], [], [10], [], [], [10], [10], [], [], [10], [2, 5, 6, 9], []])] } Tryz.func191 (c := Tryz.f191.body.getD .skip) (by kernel_rfl) (by decide) (by rw [show Tryz.f191.ntmps = 27 by kernel_rfl]; exact Nat.le_of_ble_eq_true rfl) (by kernel_rfl) ?_
 intro hσ hids
 rw [show comp Tryz.prog { own := [], ghosts := [], free := [(1, [[], [], [10], [], [], [10], [10], [], [], [10], [2, 5, 6, 9], []])] } (Tryz.f191.body.getD .skip) = c_pPop by kernel_rfl, show Tryz.f191.ntmps = 27 by kernel_rfl]
 unfold c_pPop
 have hql := lt_of_get hq
 have hRl := lt_of_get hR
 have hw : IntKind.i64.wrap (((m + 1 : Nat) : Int) - 1) = (m : Int) := by rw [wrap_ok (by omega)]; omega
 have h1 := pR_sub hx
 have p1 : (0 : Int) ≤ (m : Int) := by omega
 have p2 : m < m + 1 := by omega
 have b1 : m * 3 + 3 ≤ (pR l).length := by rw [pR_len]; omega
 have a1 : ∀ x, (encQ x).all AV.one = true := fun _ => rfl
 have g1 : ∀ t, (σ ++ t)[q]? = some (.row [.ref R 3 0 (m + 1)]) := fun t => by rw [List.getElem?_append_left hql]; exact hq
 have g2 : ∀ t, (σ ++ t)[R]? = some (.row (pR l)) := fun t => by rw [List.getElem?_append_left hRl]; exact hR
 have sA : setAll [AV.int .i64 0, AV.int .i64 0, AV.int .i64 0] 0 (encQ x) = encQ x := rfl
 have t0 : ((encQ x).drop 0).take 3 = encQ x := rfl
 have t1 : (encQ x).take 3 = encQ x := rfl
 have g3 : ∀ v, ((σ ++ [AObj.row (encQ x)]).set q v)[σ.length]? = some (.row (encQ x)) := fun v => by rw [List.getElem?_set_ne (by omega)]; simp
 have p3 : m ≤ m + 1 := by omega
 simp only [go_sem, simprocAttr, hq, hR, g1, g2, hw, h1, p1, p2, b1, a1, encQ_len, Int.toNat_natCast, Nat.zero_add, sA, t0, t1, g3, p3, Nat.zero_le, Nat.sub_zero]
 have hlt : (l.take m).length = m := List.length_take_of_le (by omega)
 have hid := pS_ids (σ := σ) (q := q) (R := R) (l := l.take m) hσ hRl
 refine ret_gh (v := .iface 113 (.agg (encQ x))) (σ' := pS σ q R (l.take m)) ?_ (by rw [pS_len]; exact Nat.le_refl _) hid (.iface _ _ (.agg _ (fun j y hy => by
  match j, hy with
  | 0, hy => simp [encQ] at hy; subst hy; exact .int _ _
  | 1, hy => simp [encQ] at hy; subst hy; exact .int _ _
  | 2, hy => simp [encQ] at hy; subst hy; exact .int _ _))) ⟨rfl, rfl⟩
 have hst : (σ ++ [AObj.row (encQ x)]).set q (.row [.ref R 3 0 m]) = σ.set q (.row [.ref R 3 0 m]) ++ [.row (encQ x)] := List.set_append_left _ _ hql
 rw [hst]
 have hgR : (σ.set q (.row [.ref R 3 0 m]) ++ [AObj.row (encQ x)])[R]? = some (.row (pR l)) := by
  rw [List.getElem?_append_left (by simpa using hRl), List.getElem?_set_ne hqR]; exact hR
 refine Ghost.trans (Ghost.trunc R (m * 3) hgR) ?_
 have htk : (pR l).take (m * 3) = pR (l.take m) := rowC_take encQ_len l m
 rw [htk, List.set_append_left _ _ (by simpa using hRl)]
 rw [show (σ.set q (.row [.ref R 3 0 m])).set R (.row (pR (l.take m))) = pS σ q R (l.take m) by unfold pS; rw [hlt]]
 exact Ghost.keep _ (by rw [pS_len]; exact Nat.le_refl _) ⟨⟨by simp only [lk, Nat.reduceBEq, cond_true, cond_false]; exact .refl _, .iface _ _ (.agg _ (fun j y hy => by
  match j, hy with
  | 0, hy => simp [encQ] at hy; subst hy; exact .int _ _
  | 1, hy => simp [encQ] at hy; subst hy; exact .int _ _
  | 2, hy => simp [encQ] at hy; subst hy; exact .int _ _))⟩, trivial⟩ hid
def e_pPush_0 : List COp := [oS 4 (.move (.tmp 0)), oS 5 (.move (.tmp 0)), oA 6 (.nilck (.tmp 5)) [1], oA 7 (.load none (.tmp 6)) [2], oS 8 (.move (.tmp 1)), oA 9 (.asrt 113 (.agg [.int .i64 0, .int .i64 0, .int .i64 0]) (.tmp 8) false) [4], oA 10 (.bsliceC 3 [.tmp 9]) [5], oA 11 (.bappend 3 24 (.tmp 7) (.tmp 10) true) [3, 6], oA 12 (.nilck (.tmp 4)) [0, 0, 1, 2, 3, 4, 5, 6, 7], ⟨none, .store 1 (.tmp 12) (.tmp 11), none, [8, 7, 7, 0, 1, 2, 3, 4, 5, 6, 7]⟩]
def d_pPush_0 : List COp := e_pPush_0
theorem dr_pPush_0 (P : Program) (nt n0 : Nat) (Q : Post) (s : Slots) (σ : Store) : wpc P nt n0 (.draw d_pPush_0) Q s σ = aOpsD P nt e_pPush_0 (Q .normal) s σ := wpc_draw _ (by decide)
attribute [local go_sem] dr_pPush_0 e_pPush_0
def c_pPush : CCode := .draw d_pPush_0
theorem pPush_spec (q R : Nat) (l : List Jt) (x : Jt) (σ : Store) (hqR : q ≠ R) (hq : σ[q]? = some (.row [.ref R 3 0 l.length])) (hR : σ[R]? = some (.row (pR l))) (hl : l.length ≤ 1000000000) :
  ACalls Tryz.prog 192 [.ptr q 0, .iface 113 (.agg (encQ x))] σ (isR (.tuple []) (((σ.set q (.row [.ref σ.length 3 0 (l ++ [x]).length])).set R .dead) ++ [.row (pR (l ++ [x]))])) := by
 refine ACalls.intro (rs := []) (by kernel_rfl) { own := [(0, 7)], ghosts := [], cold := [(0, 6)] } Tryz.func192 (c := Tryz.f192.body.getD .skip) (by kernel_rfl) (by decide) (by rw [show Tryz.f192.ntmps = 13 by kernel_rfl]; exact Nat.le_of_ble_eq_true rfl) (by kernel_rfl) ?_
 intro hσ hids
 rw [show comp Tryz.prog { own := [(0, 7)], ghosts := [], cold := [(0, 6)] } (Tryz.f192.body.getD .skip) = c_pPush by kernel_rfl, show Tryz.f192.ntmps = 13 by kernel_rfl]
 unfold c_pPush
 have hql := lt_of_get hq
 have hRl := lt_of_get hR
 have a1 : ∀ x, (encQ x).all AV.one = true := fun _ => rfl
 have g1 : ∀ t, (σ ++ t)[q]? = some (.row [.ref R 3 0 l.length]) := fun t => by rw [List.getElem?_append_left hql]; exact hq
 have g2 : ∀ t, (σ ++ t)[R]? = some (.row (pR l)) := fun t => by rw [List.getElem?_append_left hRl]; exact hR
 have hbig : bigLen (l.length + 1) 24 := big_ok (by omega) (by omega)
 have sA : setAll [AV.int .i64 0, AV.int .i64 0, AV.int .i64 0] 0 (encQ x) = encQ x := rfl
 have t0 : ((encQ x).drop 0).take 3 = encQ x := rfl
 have t1 : (encQ x).take 3 = encQ x := rfl
 have hsn : pR l ++ [encQ x].flatten = pR (l ++ [x]) := (rowC_snoc encQ l x).symm
 have g3 : ∀ o r, (σ.set R o ++ r)[q]? = some (.row [.ref R 3 0 l.length]) := fun o r => by
  rw [List.getElem?_append_left (by simp; omega), List.getElem?_set_ne (fun e => hqR e.symm)]; exact hq
 simp only [go_sem, simprocAttr, hq, hR, a1, encQ_len, hbig, pR_len, t0, t1, hsn, g3]
 have hst : (σ.set R .dead ++ [AObj.row (pR (l ++ [x]))]).set q (AObj.row [AV.ref σ.length 3 0 (l.length + 1)]) = (σ.set q (AObj.row [AV.ref σ.length 3 0 (l.length + 1)])).set R .dead ++ [AObj.row (pR (l ++ [x]))] := by
  rw [List.set_append_left _ _ (by simpa using hql), List.set_comm _ _ (fun e => hqR e.symm)]
 rw [hst]
 obtain ⟨T, hT⟩ : ∃ T, T = (σ.set q (AObj.row [AV.ref σ.length 3 0 (l.length + 1)])).set R .dead ++ [AObj.row (pR (l ++ [x]))] := ⟨_, rfl⟩
 have hTl : T.length = σ.length + 1 := by rw [hT]; simp
 have hTids : IdsS T.length T := by
  intro i o e
  rw [hTl]
  rcases Nat.lt_or_ge i σ.length with hi | hi
  ·rw [hT, List.getElem?_append_left (by simp; omega)] at e
   rcases get_set e with ⟨_, rfl⟩ | ⟨_, e⟩
   ·trivial
   ·rcases get_set e with ⟨_, rfl⟩ | ⟨_, e⟩
    ·exact idsO_row (idsL_cons (.ref _ _ _ _ (by omega)) idsL_nil)
    ·exact idsO_up (by omega) (hσ i o e)
  ·have hi2 : i = σ.length := by have := lt_of_get e; omega
   subst hi2
   rw [hT, List.getElem?_append_right (by simp)] at e
   simp at e; subst e; exact ids_pR _
 rw [← hT]
 exact ret_gh0 (Ghost.keep0 (s' := []) (by omega) trivial hTids) (by omega) hTids ⟨rfl, rfl⟩
def c_jup : CCode := .block 0 (.loop (.block 1 (.seq (.ops [oS 5 (.move (.tmp 1)), oS 6 (.bin .sub .none (.tmp 5) (.lit (.int .i64 1))), oS 7 (.bin .quo .none (.tmp 6) (.lit (.int .i64 2))), oS 4 (.move (.tmp 7))]) (.seq (.seq (.ops [oS 8 (.move (.tmp 4)), oS 9 (.move (.tmp 1)), oS 10 (.bin .eql .none (.tmp 8) (.tmp 9)), oS 11 (.move (.tmp 10)), oG 12 11 false (.move (.tmp 0)), oG 13 11 false (.move (.tmp 1)), oG 14 11 false (.move (.tmp 4)), oG 15 11 false (.inv [(107, 190, some none), (109, 190, none)] (.tmp 12) [.tmp 13, .tmp 14]), oG 16 11 false (.un .not (.tmp 15)), oS 17 (.pick (.tmp 11) (.lit (.bool true)) (.tmp 16))]) (.cond (.tmp 17) (.exit 0) .skip)) (.seq (.ops [oS 18 (.move (.tmp 0)), oS 19 (.move (.tmp 4)), oS 20 (.move (.tmp 1)), oS 21 (.inv [(107, 193, some none), (109, 193, none)] (.tmp 18) [.tmp 19, .tmp 20])]) (.ops [oS 22 (.move (.tmp 4)), oS 1 (.move (.tmp 22))]))))))
set_option maxHeartbeats 1000000 in
theorem jup_spec (q R j0 : Nat) (l : List Jt) (σ : Store) (hqR : q ≠ R) (hq : σ[q]? = some (.row [.ref R 3 0 l.length])) (hR : σ[R]? = some (.row (pR l))) (hl : l.length ≤ 1000000000) (hj : j0 < l.length) (hh : HeapJU l l.length j0) (hsec : SecOk l) :
  ACalls Tryz.prog 95 [.iface 107 (.ptr q 0), .int .i64 j0] σ fun r σ' => r = .tuple [] ∧ ∃ l' : List Jt, l' = upJ l j0 ∧ l'.Perm l ∧ HeapJ l' l'.length ∧ σ' = σ.set R (.row (pR l')) := by
 refine ACalls.intro (rs := []) (by kernel_rfl) { own := [], ghosts := [] } Tryz.func95 (c := Tryz.f95.body.getD .skip) (by kernel_rfl) (by decide) (by rw [show Tryz.f95.ntmps = 23 by kernel_rfl]; exact Nat.le_of_ble_eq_true rfl) (by kernel_rfl) ?_
 intro hσ hids
 rw [show comp Tryz.prog { own := [], ghosts := [] } (Tryz.f95.body.getD .skip) = c_jup by kernel_rfl, show Tryz.f95.ntmps = 23 by kernel_rfl]
 unfold c_jup
 have hql := lt_of_get hq
 have hRl := lt_of_get hR
 have gq : ∀ c, (σ.set R (.row c))[q]? = some (.row [.ref R 3 0 l.length]) := fun c => by rw [List.getElem?_set_ne (fun e => hqR e.symm)]; exact hq
 have gR : ∀ c, (σ.set R (.row c))[R]? = some (.row c) := fun c => by rw [List.getElem?_set_self hRl]
 have hids : ∀ l' : List Jt, IdsS (σ.set R (.row (pR l'))).length (σ.set R (.row (pR l'))) := fun l' => by
  rw [List.length_set]; exact idsS_put' hσ _ (ids_pR _)
 refine wpc_while (α := List Jt × Nat) (fun x => [(0, .iface 107 (.ptr q 0)), (1, .int .i64 (x.2 : Nat))]) (fun x => σ.set R (.row (pR x.1))) (fun x => x.1.Perm l ∧ x.2 < l.length ∧ HeapJU x.1 l.length x.2 ∧ upJ x.1 x.2 = upJ l j0) (fun x => x.2) (l, j0) ⟨.refl _, hj, hh, rfl⟩ ?_ ?_
 ·rw [set_get_same hR]
  exact Ghost.keep0 (Nat.le_refl _) ⟨⟨.refl _, .iface _ _ (.ptr _ _ hql)⟩, ⟨.refl _, .int _ _⟩, trivial⟩ hσ
 rintro ⟨m, j⟩ ⟨hp, hj, hh, jup⟩ K hK hE hR'
 dsimp only at hp hj hh jup ⊢
 have hml := hp.length_eq
 have hw1 : IntKind.i64.wrap ((j : Int) - 1) = (j : Int) - 1 := wrap_ok (by omega)
 have hw2 : IntKind.i64.wrap (((j : Int) - 1).tdiv 2) = (((j - 1) / 2 : Nat) : Int) := by
  rcases Nat.eq_zero_or_pos j with rfl | h0
  ·rfl
  ·rw [Int.tdiv_eq_ediv_of_nonneg (by omega), wrap_ok (by omega)]; omega
 have fin : ∀ (s : Slots), HeapJ m m.length → upJ m j = m → bodyK [] σ.length 23 (fun r σ' => r = .tuple [] ∧ ∃ l' : List Jt, l' = upJ l j0 ∧ l'.Perm l ∧ HeapJ l' l'.length ∧ σ' = σ.set R (.row (pR l'))) .ret s (σ.set R (.row (pR m))) := fun s hok hu =>
  ret_gh0 (Ghost.keep0 (s' := []) (by simp) trivial (hids m)) (by simp) (hids m) ⟨rfl, m, by rw [← jup, hu], hp, hok, rfl⟩
 by_cases h0 : j = 0
 ·have he : ((((j - 1) / 2 : Nat) : Int) == (j : Int)) = true := by subst h0; rfl
  simp only [go_sem, simprocAttr, hw1, hw2, he, hE]
  exact fin _ (by rw [hml]; exact hh.done (.inl h0)) (upJ_stop (by omega))
 have he : ((((j - 1) / 2 : Nat) : Int) == (j : Int)) = false := by simp; omega
 simp only [go_sem, simprocAttr, hw1, hw2, he, gq]
 rw [← hml]
 refine (pLess_spec R j ((j - 1) / 2) m _ (gR _) (by omega) (by omega) (hsec.perm hp)).is ?_
 by_cases hlt : jtC m j < jtC m ((j - 1) / 2)
 ·rw [decide_eq_true hlt]
  simp only [go_sem, simprocAttr, gq]
  rw [← hml]
  refine (pSwap_spec R ((j - 1) / 2) j m _ (gR _) (by omega) (by omega)).to ?_
  simp only [go_sem, simprocAttr, List.set_set]
  refine hK _ _ (swapJ m ((j - 1) / 2) j, (j - 1) / 2) ⟨(swapJ_perm (by omega) (by omega)).trans hp, by simp only []; omega, hh.step (by omega) hj (by omega) hlt, by rw [← jup, upJ_go (by omega) hlt]⟩ (by simp only []; omega) ?_
  (try dsimp only)
  exact Ghost.keep0 (by simp) ⟨⟨.refl _, .iface _ _ (.ptr _ _ (by simpa using hql))⟩, ⟨.refl _, .int _ _⟩, trivial⟩ (hids _)
 ·rw [decide_eq_false hlt]
  simp only [go_sem, simprocAttr, hE]
  exact fin _ (by rw [hml]; exact hh.done (.inr (by omega))) (upJ_stop (by omega))
def c_jdown : CCode := .seq (.ops [oS 6 (.move (.lit (.bool false)))]) (.seq (.ops [oS 11 (.move (.tmp 1)), oS 7 (.move (.tmp 11))]) (.seq (.block 0 (.loop (.block 1 (.seq (.ops [oS 12 (.move (.tmp 7)), oS 13 (.bin .mul .none (.lit (.int .i64 2)) (.tmp 12)), oS 14 (.bin .add .none (.tmp 13) (.lit (.int .i64 1))), oS 8 (.move (.tmp 14))]) (.seq (.seq (.ops [oS 15 (.move (.tmp 8)), oS 16 (.move (.tmp 2)), oS 17 (.bin .geq .none (.tmp 15) (.tmp 16)), oS 18 (.move (.tmp 17)), oG 19 18 false (.move (.tmp 8)), oG 20 18 false (.bin .lss .none (.tmp 19) (.lit (.int .i64 0))), oS 21 (.pick (.tmp 18) (.lit (.bool true)) (.tmp 20))]) (.cond (.tmp 21) (.exit 0) .skip)) (.seq (.ops [oS 22 (.move (.tmp 8)), oS 9 (.move (.tmp 22))]) (.seq (.seq (.ops [oS 23 (.move (.tmp 8)), oS 24 (.bin .add .none (.tmp 23) (.lit (.int .i64 1))), oS 10 (.move (.tmp 24))]) (.seq (.ops [oS 25 (.move (.tmp 10)), oS 26 (.move (.tmp 2)), oS 27 (.bin .lss .none (.tmp 25) (.tmp 26)), oS 28 (.move (.tmp 27)), oG 29 28 true (.move (.tmp 0)), oG 30 28 true (.move (.tmp 10)), oG 31 28 true (.move (.tmp 8)), oG 32 28 true (.inv [(107, 190, some none), (109, 190, none)] (.tmp 29) [.tmp 30, .tmp 31]), oS 33 (.pick (.tmp 28) (.tmp 32) (.lit (.bool false)))]) (.cond (.tmp 33) (.ops [oS 34 (.move (.tmp 10)), oS 9 (.move (.tmp 34))]) .skip))) (.seq (.seq (.ops [oS 35 (.move (.tmp 0)), oS 36 (.move (.tmp 9)), oS 37 (.move (.tmp 7)), oS 38 (.inv [(107, 190, some none), (109, 190, none)] (.tmp 35) [.tmp 36, .tmp 37]), oS 39 (.un .not (.tmp 38))]) (.cond (.tmp 39) (.exit 0) .skip)) (.seq (.ops [oS 40 (.move (.tmp 0)), oS 41 (.move (.tmp 7)), oS 42 (.move (.tmp 9)), oS 43 (.inv [(107, 193, some none), (109, 193, none)] (.tmp 40) [.tmp 41, .tmp 42])]) (.ops [oS 44 (.move (.tmp 9)), oS 7 (.move (.tmp 44))])))))))))) (.seq (.ops [oS 45 (.move (.tmp 7)), oS 46 (.move (.tmp 1)), oS 47 (.bin .gtr .none (.tmp 45) (.tmp 46)), oS 6 (.move (.tmp 47))]) .ret)))
set_option maxHeartbeats 2000000 in
theorem jdown_spec (q R i0 n : Nat) (l : List Jt) (σ : Store) (hqR : q ≠ R) (hq : σ[q]? = some (.row [.ref R 3 0 l.length])) (hR : σ[R]? = some (.row (pR l))) (hl : l.length ≤ 1000000000) (hn : n ≤ l.length) (hi : i0 < l.length) (hh : HeapJD l n i0) (hsec : SecOk l) :
  ACalls Tryz.prog 82 [.iface 107 (.ptr q 0), .int .i64 i0, .int .i64 n] σ fun r σ' => (∃ b, r = .bool b) ∧ ∃ l' : List Jt, l' = dnJ l n i0 ∧ l'.Perm l ∧ HeapJ l' n ∧ (∀ k, n ≤ k → l'[k]? = l[k]?) ∧ σ' = σ.set R (.row (pR l')) := by
 refine ACalls.intro (rs := [(.tmp 6)]) (by kernel_rfl) { own := [], ghosts := [] } Tryz.func82 (c := Tryz.f82.body.getD .skip) (by kernel_rfl) (by decide) (by rw [show Tryz.f82.ntmps = 48 by kernel_rfl]; exact Nat.le_of_ble_eq_true rfl) (by kernel_rfl) ?_
 intro hσ hids
 rw [show comp Tryz.prog { own := [], ghosts := [] } (Tryz.f82.body.getD .skip) = c_jdown by kernel_rfl, show Tryz.f82.ntmps = 48 by kernel_rfl]
 unfold c_jdown
 have hql := lt_of_get hq
 have hRl := lt_of_get hR
 have gq : ∀ c, (σ.set R (.row c))[q]? = some (.row [.ref R 3 0 l.length]) := fun c => by rw [List.getElem?_set_ne (fun e => hqR e.symm)]; exact hq
 have gR : ∀ c, (σ.set R (.row c))[R]? = some (.row c) := fun c => by rw [List.getElem?_set_self hRl]
 have hids : ∀ l' : List Jt, IdsS (σ.set R (.row (pR l'))).length (σ.set R (.row (pR l'))) := fun l' => by
  rw [List.length_set]; exact idsS_put' hσ _ (ids_pR _)
 simp only [go_sem, simprocAttr]
 refine wpc_while (α := List Jt × Nat) (fun x => [(0, .iface 107 (.ptr q 0)), (1, .int .i64 i0), (2, .int .i64 n), (7, .int .i64 (x.2 : Nat))]) (fun x => σ.set R (.row (pR x.1))) (fun x => x.1.Perm l ∧ x.2 < l.length ∧ HeapJD x.1 n x.2 ∧ (∀ k, n ≤ k → x.1[k]? = l[k]?) ∧ dnJ x.1 n x.2 = dnJ l n i0) (fun x => l.length - x.2) (l, i0) ⟨.refl _, hi, hh, fun _ _ => rfl, rfl⟩ ?_ ?_
 ·rw [set_get_same hR]
  exact Ghost.keep0 (Nat.le_refl _) ⟨⟨.refl _, .iface _ _ (.ptr _ _ hql)⟩, ⟨.refl _, .int _ _⟩, ⟨.refl _, .int _ _⟩, ⟨.refl _, .int _ _⟩, trivial⟩ hσ
 rintro ⟨m, i⟩ ⟨hp, hi, hh, hout, hdn⟩ K hK hE hR'
 dsimp only at hp hi hh hout hdn ⊢
 have hml := hp.length_eq
 have hw1 : IntKind.i64.wrap (2 * (i : Int)) = ((2 * i : Nat) : Int) := by rw [wrap_ok (by omega)]; omega
 have hw2 : IntKind.i64.wrap (((2 * i : Nat) : Int) + 1) = ((2 * i + 1 : Nat) : Int) := by rw [wrap_ok (by omega)]; omega
 have hw3 : IntKind.i64.wrap (((2 * i + 1 : Nat) : Int) + 1) = ((2 * i + 2 : Nat) : Int) := by rw [wrap_ok (by omega)]; omega
 have hnn : ¬ (((2 * i + 1 : Nat) : Int) < 0) := by omega
 have fin : ∀ (s : Slots) (c : Bool), lk s 6 = .bool c → HeapJ m n → dnJ m n i = m → bodyK [.tmp 6] σ.length 48 (fun r σ' => (∃ b, r = .bool b) ∧ ∃ l' : List Jt, l' = dnJ l n i0 ∧ l'.Perm l ∧ HeapJ l' n ∧ (∀ k, n ≤ k → l'[k]? = l[k]?) ∧ σ' = σ.set R (.row (pR l'))) .ret s (σ.set R (.row (pR m))) := fun s c hc hok hd =>
  ret_gh (v := .bool c) (Ghost.keep0 (s' := [(6, .bool c)]) (by simp) ⟨⟨by rw [hc]; exact .refl _, .bool _⟩, trivial⟩ (hids m)) (by simp) (hids m) (.bool _) ⟨⟨c, rfl⟩, m, by rw [← hdn, hd], hp, hok, hout, rfl⟩
 by_cases h1 : ((2 * i + 1 : Nat) : Int) ≥ (n : Int)
 ·simp only [go_sem, simprocAttr, hw1, hw2, h1, hE]
  exact fin _ _ rfl (hh.done fun k h0 hk e => by omega) (dnJ_stop (by omega))
 have down : ∀ jn : Nat, jn < n → (jn - 1) / 2 = i → 0 < jn → (∀ k, 0 < k → k < n → (k - 1) / 2 = i → jtC m jn ≤ jtC m k) → jtC m jn < jtC m i → HeapJD (swapJ m i jn) n jn ∧ (swapJ m i jn).Perm l ∧ ∀ k, n ≤ k → (swapJ m i jn)[k]? = l[k]? := fun jn hjn hpj h0 hmin hlt => by
  refine ⟨hh.step (by omega) hjn hpj h0 hlt hmin, (swapJ_perm (by omega) (by omega)).trans hp, fun k hk => ?_⟩
  rw [← hout k hk]
  unfold swapJ
  rw [List.getElem?_set_ne (by omega), List.getElem?_set_ne (by omega)]
 have hgo : ∀ jn : Nat, kidJ m n i = jn → 2 * i + 1 < n → jtC m jn < jtC m i → dnJ (swapJ m i jn) n jn = dnJ l n i0 := fun jn hk h0 hlt => by
  have h1 := dnJ_go (l := m) h0 (by rw [hk]; exact hlt)
  rw [hk] at h1
  rw [← hdn, h1]
 have stop : ∀ jn : Nat, (∀ k, 0 < k → k < n → (k - 1) / 2 = i → jtC m jn ≤ jtC m k) → ¬ jtC m jn < jtC m i → HeapJ m n := fun jn hmin hlt => hh.done fun k h0 hk e => by have := hmin k h0 hk e; omega
 by_cases h2 : ((2 * i + 2 : Nat) : Int) < (n : Int)
 ·simp only [go_sem, simprocAttr, hw1, hw2, hw3, h1, hnn, h2, gq]
  rw [← hml]
  refine (pLess_spec R (2 * i + 2) (2 * i + 1) m _ (gR _) (by omega) (by omega) (hsec.perm hp)).is ?_
  by_cases hlt2 : jtC m (2 * i + 2) < jtC m (2 * i + 1)
  ·have hmin : ∀ k, 0 < k → k < n → (k - 1) / 2 = i → jtC m (2 * i + 2) ≤ jtC m k := fun k h0 hk e => by
    rcases (by omega : k = 2 * i + 1 ∨ k = 2 * i + 2) with rfl | rfl <;> omega
   have hkid : kidJ m n i = 2 * i + 2 := if_pos ⟨by omega, hlt2⟩
   rw [decide_eq_true hlt2]
   simp only [go_sem, simprocAttr, gq]
   rw [← hml]
   refine (pLess_spec R (2 * i + 2) i m _ (gR _) (by omega) (by omega) (hsec.perm hp)).is ?_
   by_cases hlt : jtC m (2 * i + 2) < jtC m i
   ·obtain ⟨d1, d2, d3⟩ := down (2 * i + 2) (by omega) (by omega) (by omega) hmin hlt
    rw [decide_eq_true hlt]
    simp only [go_sem, simprocAttr, gq]
    rw [← hml]
    refine (pSwap_spec R i (2 * i + 2) m _ (gR _) (by omega) (by omega)).to ?_
    simp only [go_sem, simprocAttr, List.set_set]
    refine hK _ _ (swapJ m i (2 * i + 2), 2 * i + 2) ⟨d2, by simp only []; omega, d1, d3, hgo _ hkid (by omega) hlt⟩ (by simp only []; omega) ?_
    (try dsimp only)
    exact Ghost.keep0 (by simp) ⟨⟨.refl _, .iface _ _ (.ptr _ _ (by simpa using hql))⟩, ⟨.refl _, .int _ _⟩, ⟨.refl _, .int _ _⟩, ⟨.refl _, .int _ _⟩, trivial⟩ (hids _)
   ·rw [decide_eq_false hlt]
    simp only [go_sem, simprocAttr, hE]
    exact fin _ _ rfl (stop _ hmin hlt) (dnJ_stop (fun q => hlt (by rw [← hkid]; exact q.2)))
  ·have hmin : ∀ k, 0 < k → k < n → (k - 1) / 2 = i → jtC m (2 * i + 1) ≤ jtC m k := fun k h0 hk e => by
    rcases (by omega : k = 2 * i + 1 ∨ k = 2 * i + 2) with rfl | rfl <;> omega
   have hkid : kidJ m n i = 2 * i + 1 := if_neg (fun q => hlt2 q.2)
   rw [decide_eq_false hlt2]
   simp only [go_sem, simprocAttr, gq]
   rw [← hml]
   refine (pLess_spec R (2 * i + 1) i m _ (gR _) (by omega) (by omega) (hsec.perm hp)).is ?_
   by_cases hlt : jtC m (2 * i + 1) < jtC m i
   ·obtain ⟨d1, d2, d3⟩ := down (2 * i + 1) (by omega) (by omega) (by omega) hmin hlt
    rw [decide_eq_true hlt]
    simp only [go_sem, simprocAttr, gq]
    rw [← hml]
    refine (pSwap_spec R i (2 * i + 1) m _ (gR _) (by omega) (by omega)).to ?_
    simp only [go_sem, simprocAttr, List.set_set]
    refine hK _ _ (swapJ m i (2 * i + 1), 2 * i + 1) ⟨d2, by simp only []; omega, d1, d3, hgo _ hkid (by omega) hlt⟩ (by simp only []; omega) ?_
    (try dsimp only)
    exact Ghost.keep0 (by simp) ⟨⟨.refl _, .iface _ _ (.ptr _ _ (by simpa using hql))⟩, ⟨.refl _, .int _ _⟩, ⟨.refl _, .int _ _⟩, ⟨.refl _, .int _ _⟩, trivial⟩ (hids _)
   ·rw [decide_eq_false hlt]
    simp only [go_sem, simprocAttr, hE]
    exact fin _ _ rfl (stop _ hmin hlt) (dnJ_stop (fun q => hlt (by rw [← hkid]; exact q.2)))
 ·have hmin : ∀ k, 0 < k → k < n → (k - 1) / 2 = i → jtC m (2 * i + 1) ≤ jtC m k := fun k h0 hk e => by
   obtain rfl : k = 2 * i + 1 := by omega
   exact Int.le_refl _
  have hkid : kidJ m n i = 2 * i + 1 := if_neg (fun q => h2 (by omega))
  simp only [go_sem, simprocAttr, hw1, hw2, hw3, h1, hnn, h2, gq]
  rw [← hml]
  refine (pLess_spec R (2 * i + 1) i m _ (gR _) (by omega) (by omega) (hsec.perm hp)).is ?_
  by_cases hlt : jtC m (2 * i + 1) < jtC m i
  ·obtain ⟨d1, d2, d3⟩ := down (2 * i + 1) (by omega) (by omega) (by omega) hmin hlt
   rw [decide_eq_true hlt]
   simp only [go_sem, simprocAttr, gq]
   rw [← hml]
   refine (pSwap_spec R i (2 * i + 1) m _ (gR _) (by omega) (by omega)).to ?_
   simp only [go_sem, simprocAttr, List.set_set]
   refine hK _ _ (swapJ m i (2 * i + 1), 2 * i + 1) ⟨d2, by simp only []; omega, d1, d3, hgo _ hkid (by omega) hlt⟩ (by simp only []; omega) ?_
   (try dsimp only)
   exact Ghost.keep0 (by simp) ⟨⟨.refl _, .iface _ _ (.ptr _ _ (by simpa using hql))⟩, ⟨.refl _, .int _ _⟩, ⟨.refl _, .int _ _⟩, ⟨.refl _, .int _ _⟩, trivial⟩ (hids _)
  ·rw [decide_eq_false hlt]
   simp only [go_sem, simprocAttr, hE]
   exact fin _ _ rfl (stop _ hmin hlt) (dnJ_stop (fun q => hlt (by rw [← hkid]; exact q.2)))
def c_jpop : CCode := .seq (.ops [oS 2 (.move (.lit (.conc Value.nilIface)))]) (.seq (.ops [oS 4 (.move (.tmp 0)), oS 5 (.inv [(17, 186, none), (107, 189, some none), (109, 189, none)] (.tmp 4) []), oS 6 (.bin .sub .none (.tmp 5) (.lit (.int .i64 1))), oS 3 (.move (.tmp 6))]) (.seq (.ops [oS 7 (.move (.tmp 0)), oS 8 (.move (.tmp 3)), oS 9 (.inv [(107, 193, some none), (109, 193, none)] (.tmp 7) [.lit (.int .i64 0), .tmp 8])]) (.seq (.ops [oS 10 (.move (.tmp 0)), oS 11 (.move (.tmp 3)), oS 12 (.call (.lit (.func 82 [])) [.tmp 10, .lit (.int .i64 0), .tmp 11])]) (.seq (.ops [oS 13 (.move (.tmp 0)), oS 14 (.inv [(107, 191, none)] (.tmp 13) []), oS 2 (.move (.tmp 14))]) .ret))))
theorem jpop_spec (q R : Nat) (l : List Jt) (σ : Store) (hqR : q ≠ R) (hq : σ[q]? = some (.row [.ref R 3 0 l.length])) (hR : σ[R]? = some (.row (pR l))) (hl : l.length ≤ 1000000000) (h0 : 0 < l.length) (hh : HeapJ l l.length) (hsec : SecOk l) :
  ACalls Tryz.prog 53 [.iface 107 (.ptr q 0)] σ fun r σ' => ∃ (x : Jt) (l' : List Jt), r = .iface 113 (.agg (encQ x)) ∧ l[0]? = some x ∧ l' = popJ l ∧ l.Perm (x :: l') ∧ HeapJ l' l'.length ∧ (∀ y ∈ l', ky x ≤ ky y) ∧ σ' = pS σ q R l' := by
 refine ACalls.intro (rs := [(.tmp 2)]) (by kernel_rfl) { own := [], ghosts := [] } Tryz.func53 (c := Tryz.f53.body.getD .skip) (by kernel_rfl) (by decide) (by rw [show Tryz.f53.ntmps = 15 by kernel_rfl]; exact Nat.le_of_ble_eq_true rfl) (by kernel_rfl) ?_
 intro hσ hids
 rw [show comp Tryz.prog { own := [], ghosts := [] } (Tryz.f53.body.getD .skip) = c_jpop by kernel_rfl, show Tryz.f53.ntmps = 15 by kernel_rfl]
 unfold c_jpop
 have hql := lt_of_get hq
 have hRl := lt_of_get hR
 obtain ⟨m, hm⟩ : ∃ m, l.length = m + 1 := ⟨l.length - 1, by omega⟩
 have gq : ∀ c, (σ.set R (.row c))[q]? = some (.row [.ref R 3 0 (m + 1)]) := fun c => by rw [List.getElem?_set_ne (fun e => hqR e.symm), hq, hm]
 have gR : ∀ c, (σ.set R (.row c))[R]? = some (.row c) := fun c => by rw [List.getElem?_set_self hRl]
 have hw : IntKind.i64.wrap (((m + 1 : Nat) : Int) - 1) = (m : Int) := by rw [wrap_ok (by omega)]; omega
 rw [hm] at hq hh
 simp only [go_sem, simprocAttr, hq]
 refine (pLen_spec R (m + 1) _).is ?_
 simp only [go_sem, simprocAttr, hw, hq]
 rw [← hm]
 refine (pSwap_spec R 0 m l _ hR (by omega) (by omega)).to ?_
 simp only [go_sem, simprocAttr]
 have hsl := swapJ_len l 0 m
 have hsp := swapJ_perm (l := l) (i := 0) (j := m) (by omega) (by omega)
 refine (jdown_spec q R 0 m (swapJ l 0 m) _ hqR (by rw [gq, hsl, hm]) (gR _) (by omega) (by omega) (by omega) (hh.swap0 hm) (hsec.perm hsp)).mono ?_
 rintro _ _ ⟨⟨c, rfl⟩, l', hdn, hp, hok, hout, rfl⟩
 have hll : l'.length = m + 1 := by rw [hp.length_eq, hsl, hm]
 simp only [go_sem, simprocAttr, gq, List.set_set]
 obtain ⟨x, hx⟩ : ∃ x, l[0]? = some x := get_ex (by omega)
 have hxm : l'[m]? = some x := by
  rw [hout m (Nat.le_refl _)]
  unfold swapJ
  rw [List.getElem?_set_self (by rw [List.length_set]; omega), List.getD_eq_getElem?_getD, hx]; rfl
 refine (pPop_spec q R m l' x _ hqR (gq _) (gR _) hll hxm (by omega)).to ?_
 have hpl : l.Perm (x :: l'.take m) := by
  have h1 : l' = l'.take m ++ [x] := by
   rw [← take_succ' hxm, List.take_of_length_le (by omega)]
  refine (hsp.symm.trans hp.symm).trans ?_
  rw [h1]
  refine List.Perm.trans (List.perm_append_comm) ?_
  rw [← h1]; exact .refl _
 have hlt : (l'.take m).length = m := List.length_take_of_le (by omega)
 have hst : pS (σ.set R (.row (pR l'))) q R (l'.take m) = pS σ q R (l'.take m) := by
  unfold pS
  rw [List.set_comm _ _ (fun e => hqR e.symm), List.set_set]
 simp only [go_sem, simprocAttr]
 rw [hst]
 have hid := pS_ids (σ := σ) (q := q) (R := R) (l := l'.take m) hσ hRl
 have hix : ∀ n, Ids n (.iface 113 (.agg (encQ x))) := fun n => .iface _ _ (.agg _ (fun j y hy => by
  match j, hy with
  | 0, hy => simp [encQ] at hy; subst hy; exact .int _ _
  | 1, hy => simp [encQ] at hy; subst hy; exact .int _ _
  | 2, hy => simp [encQ] at hy; subst hy; exact .int _ _))
 refine ret_gh (v := .iface 113 (.agg (encQ x))) (σ' := pS σ q R (l'.take m)) (Ghost.keep0 (by rw [pS_len]; exact Nat.le_refl _) ⟨⟨.refl _, hix _⟩, trivial⟩ hid) (by rw [pS_len]; exact Nat.le_refl _) hid (hix _) ⟨x, l'.take m, rfl, hx, by rw [hdn, popJ, hm]; rfl, hpl, ?_, fun y hy => ?_, rfl⟩
 ·rw [hlt]
  exact hok.congr fun i hi => by unfold jtC; rw [List.getD_eq_getElem?_getD, List.getD_eq_getElem?_getD, List.getElem?_take_of_lt hi]
 ·have hym : y ∈ l := hpl.mem_iff.2 (List.mem_cons_of_mem _ hy)
  obtain ⟨i, hi, rfl⟩ := List.mem_iff_getElem.1 hym
  have := hh.root i (by omega)
  rw [jtC_get hx, jtC_get (List.getElem?_eq_getElem hi)] at this
  exact this
def c_jpush : CCode := .seq (.ops [oS 4 (.move (.tmp 0)), oS 5 (.move (.tmp 1)), oS 6 (.inv [(107, 192, none)] (.tmp 4) [.tmp 5])]) (.ops [oS 7 (.move (.tmp 0)), oS 8 (.move (.tmp 0)), oS 9 (.inv [(17, 186, none), (107, 189, some none), (109, 189, none)] (.tmp 8) []), oS 10 (.bin .sub .none (.tmp 9) (.lit (.int .i64 1))), oS 11 (.call (.lit (.func 95 [])) [.tmp 7, .tmp 10])])
theorem jpush_spec (q R : Nat) (l : List Jt) (x : Jt) (σ : Store) (hqR : q ≠ R) (hq : σ[q]? = some (.row [.ref R 3 0 l.length])) (hR : σ[R]? = some (.row (pR l))) (hl : l.length ≤ 100000000) (hh : HeapJ l l.length) (hsec : SecOk l) (hx : 0 ≤ x.2.2 ∧ x.2.2 < 18446744073709551616) :
  ACalls Tryz.prog 64 [.iface 107 (.ptr q 0), .iface 113 (.agg (encQ x))] σ fun r σ' => r = .tuple [] ∧ ∃ l' : List Jt, l' = pushJ l x ∧ l'.Perm (x :: l) ∧ HeapJ l' l'.length ∧ σ' = ((σ.set q (.row [.ref σ.length 3 0 l'.length])).set R .dead) ++ [.row (pR l')] := by
 refine ACalls.intro (rs := []) (by kernel_rfl) { own := [], ghosts := [] } Tryz.func64 (c := Tryz.f64.body.getD .skip) (by kernel_rfl) (by decide) (by rw [show Tryz.f64.ntmps = 12 by kernel_rfl]; exact Nat.le_of_ble_eq_true rfl) (by kernel_rfl) ?_
 intro hσ hids
 rw [show comp Tryz.prog { own := [], ghosts := [] } (Tryz.f64.body.getD .skip) = c_jpush by kernel_rfl, show Tryz.f64.ntmps = 12 by kernel_rfl]
 unfold c_jpush
 have hsecx : SecOk (l ++ [x]) := fun y hy => by
  rcases List.mem_append.1 hy with hy | hy
  ·exact hsec y hy
  ·simp at hy; subst hy; exact hx
 have hql := lt_of_get hq
 have hRl := lt_of_get hR
 simp only [go_sem, simprocAttr]
 refine (pPush_spec q R l x _ hqR hq hR (by omega)).to ?_
 obtain ⟨T, hT⟩ : ∃ T, T = (σ.set q (AObj.row [AV.ref σ.length 3 0 (l ++ [x]).length])).set R .dead := ⟨_, rfl⟩
 have hTl : T.length = σ.length := by rw [hT]; simp
 have hll : (l ++ [x]).length = l.length + 1 := by simp
 have hw : IntKind.i64.wrap (((l.length + 1 : Nat) : Int) - 1) = (l.length : Int) := by rw [wrap_ok (by omega)]; omega
 have gq : ∀ r, (T ++ r)[q]? = some (.row [.ref σ.length 3 0 (l ++ [x]).length]) := fun r => by
  rw [List.getElem?_append_left (by omega), hT, List.getElem?_set_ne (fun e => hqR e.symm), List.getElem?_set_self hql]
 have gn : ∀ c, (T ++ [AObj.row c])[σ.length]? = some (.row c) := fun c => by rw [← hTl]; simp
 rw [← hT]
 simp only [go_sem, simprocAttr, gq]
 refine (pLen_spec σ.length (l.length + 1) _).is ?_
 simp only [go_sem, simprocAttr, hw]
 refine (jup_spec q σ.length l.length (l ++ [x]) _ (by omega) (gq _) (gn _) (by omega) (by omega) (by rw [hll]; exact heapJ_push hh x) hsecx).mono ?_
 rintro _ _ ⟨rfl, l', jup, hp, hok, rfl⟩
 have hl' : l'.length = (l ++ [x]).length := hp.length_eq
 have hset : ∀ c c', (T ++ [AObj.row c]).set σ.length (.row c') = T ++ [.row c'] := fun c c' => by rw [← hTl]; simp
 simp only [go_sem, simprocAttr]
 rw [hset]
 have hids : IdsS (T ++ [AObj.row (pR l')]).length (T ++ [AObj.row (pR l')]) := by
  intro i o e
  rw [List.length_append, hTl, List.length_singleton]
  rcases Nat.lt_or_ge i σ.length with hi | hi
  ·rw [List.getElem?_append_left (by omega), hT] at e
   rcases get_set e with ⟨_, rfl⟩ | ⟨_, e⟩
   ·trivial
   ·rcases get_set e with ⟨_, rfl⟩ | ⟨_, e⟩
    ·exact idsO_row (idsL_cons (.ref _ _ _ _ (by omega)) idsL_nil)
    ·exact idsO_up (by omega) (hσ i o e)
  ·have hi2 : i = σ.length := by have := lt_of_get e; rw [List.length_append, hTl, List.length_singleton] at this; omega
   subst hi2
   rw [gn] at e; injection e with e; subst e; exact ids_pR _
 refine ret_gh0 (Ghost.keep0 (s' := []) (by simp; omega) trivial hids) (by simp; omega) hids ⟨rfl, l', jup, hp.trans List.perm_append_comm, hok, by rw [hT, hl']⟩
end Go.Proofs.YtpabiedjneognaaGreatDoor
