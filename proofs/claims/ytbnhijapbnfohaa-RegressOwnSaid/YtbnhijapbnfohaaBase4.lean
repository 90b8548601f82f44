/- Contracts of the given program's functions, and an abstract layer over the model; no condition. -/
import Derived.Shelf.SortG.Plain
import Derived.Shelf.SortG.SortNone
import Derived.Test.YtbnhijapbnfohaaBase3
set_option linter.unusedVariables false
set_option linter.unusedSimpArgs false
namespace Go.Proofs.Ytbnhijapbnfohaa
open Go.Ahl
/-- The conditions of the effects on a fact. -/
def whenL (x : FLit) (neg : Bool) (es : List FEff) : List (List FLit) := (es.filter fun e => e.lit.fact == x.fact && e.lit.neg == neg).map (·.when_)
theorem whenL_len (x : FLit) (neg : Bool) (es : List FEff) : (whenL x neg es).length ≤ es.length := by rw [whenL, List.length_map]; exact List.length_filter_le _ _
theorem whenL_succ {x : FLit} {neg : Bool} {es : List FEff} {i : Nat} {e : FEff} (h : es[i]? = some e) : whenL x neg (es.take (i + 1)) = whenL x neg (es.take i) ++ (if e.lit.fact = x.fact ∧ e.lit.neg = neg then [e.when_] else []) := by
  rw [take_succ' h, whenL, List.filter_append, List.map_append]
  congr 1
  by_cases h1 : e.lit.fact = x.fact ∧ e.lit.neg = neg
  · rw [if_pos h1]; simp [h1.1, h1.2]
  · rw [if_neg h1, List.filter_cons_of_neg (by simpa using h1)]; rfl
theorem whenL_V {n : Int} {x : FLit} {neg : Bool} {es : List FEff} (h : ∀ e ∈ es, cV n e.when_) : vF n (whenL x neg es) := by
  intro l hl
  obtain ⟨e, he, rfl⟩ := List.mem_map.1 hl
  exact h e (List.mem_filter.1 he).1
/-- The formula that a literal holds after an action; none: too many terms. -/
def beforeF (a : FAct) (x : FLit) : Option (List (List FLit)) :=
  if x.neg = true then
    match negF (whenL x false a.effects) with
    | none => none
    | some kept => match bothF kept (reducedL (whenL x true a.effects ++ [[x]])) with
      | none => none
      | some h => if h.length ≤ 400 then some h else none
  else
    match negF (whenL x true a.effects) with
    | none => none
    | some kept => match bothF kept [[x]] with
      | none => none
      | some k => if k.length ≤ 400 then some (reducedL (whenL x false a.effects ++ k)) else none
/-- A list, if it is told that there is one. -/
def retO : Option (List (List FLit)) → AV
  | none => .tuple [.any, .bool false]
  | some h => .tuple [.slice .unk (h.map encC), .bool true]
def retOf : Option (List (List FLit)) → AV
  | none => .tuple [.any, .bool false]
  | some h => .tuple [.slice .fresh (h.map encCf), .bool true]
theorem retOf_wk (o : Option (List (List FLit))) : Wk (retOf o) (retO o) := by
  cases o with
  | none => exact .refl _
  | some h => exact Wk.tuple (.cons (Wk.cfu _ _) (WkL.one (.refl _)))
/-- An action of n facts. -/
structure AV_ (n : Int) (a : FAct) : Prop where
  pre : cV n a.pre
  whens : ∀ e ∈ a.effects, cV n e.when_
  many : a.effects.length ≤ 1000
theorem append_V {n : Int} {f g : List (List FLit)} (hf : vF n f) (hg : vF n g) : vF n (f ++ g) := by
  intro l hl
  rcases List.mem_append.1 hl with h | h
  · exact hf l h
  · exact hg l h
theorem one_V {n : Int} {l : List FLit} (h : cV n l) : vF n [l] := by intro l' hl; rw [List.mem_singleton.1 hl]; exact h
def c_before : CCode := .seq (.ops [⟨some 2, .box (.tmp 0), none, []⟩, ⟨some 3, .box (.tmp 1), none, []⟩, ⟨some 4, .move (.lit (.slice .nil [])), none, []⟩, ⟨some 5, .move (.lit (.bool false)), none, []⟩]) (.seq (.ops [⟨some 15, .bslice 1 [] false, none, []⟩, ⟨some 16, .bslice 1 [] false, none, []⟩, ⟨some 6, .move (.tmp 15), none, []⟩, ⟨some 7, .move (.tmp 16), none, []⟩]) (.seq (.seq (.ops [⟨some 17, .faddr 3 (.tmp 2), none, []⟩, ⟨some 18, .load none (.tmp 17), none, []⟩, ⟨some 19, .blen 1 (.tmp 18), none, []⟩, ⟨some 20, .move (.lit (.int .i64 0)), none, []⟩]) (.block 0 (.loop (.seq (.ops [⟨some 21, .bin .lss .none (.tmp 20) (.tmp 19), none, []⟩]) (.seq (.cond (.tmp 21) .skip (.exit 0)) (.seq (.block 1 (.seq (.ops [⟨some 22, .iaddr 3 (.tmp 18) (.tmp 20), none, []⟩, ⟨some 23, .load (some 3) (.tmp 22), none, []⟩, ⟨some 9, .alloc (.agg [.slice .nil [], .int .i64 0, .bool false]), none, []⟩, ⟨none, .store 3 (.tmp 9) (.tmp 23), none, []⟩]) (.seq (.seq (.ops [⟨some 24, .faddr 1 (.tmp 9), none, []⟩, ⟨some 25, .faddr 0 (.tmp 24), none, []⟩, ⟨some 26, .load none (.tmp 25), none, []⟩, ⟨some 27, .faddr 0 (.tmp 3), none, []⟩, ⟨some 28, .load none (.tmp 27), none, []⟩, ⟨some 29, .bin .eql .none (.tmp 26) (.tmp 28), none, []⟩, ⟨some 30, .move (.tmp 29), none, []⟩, ⟨some 31, .faddr 1 (.tmp 9), some (some 30, true), []⟩, ⟨some 32, .faddr 1 (.tmp 31), some (some 30, true), []⟩, ⟨some 33, .load none (.tmp 32), some (some 30, true), []⟩, ⟨some 34, .pick (.tmp 30) (.tmp 33) (.lit (.bool false)), none, []⟩]) (.cond (.tmp 34) (.ops [⟨some 35, .move (.tmp 7), none, []⟩, ⟨some 36, .faddr 0 (.tmp 9), none, []⟩, ⟨some 37, .load none (.tmp 36), none, []⟩, ⟨some 38, .bslice 1 [.tmp 37] false, none, []⟩, ⟨some 39, .bappend 1 24 (.tmp 35) (.tmp 38) false, none, []⟩, ⟨some 7, .move (.tmp 39), none, []⟩]) .skip)) (.seq (.ops [⟨some 40, .faddr 1 (.tmp 9), none, []⟩, ⟨some 41, .faddr 0 (.tmp 40), none, []⟩, ⟨some 42, .load none (.tmp 41), none, []⟩, ⟨some 43, .faddr 0 (.tmp 3), none, []⟩, ⟨some 44, .load none (.tmp 43), none, []⟩, ⟨some 45, .bin .eql .none (.tmp 42) (.tmp 44), none, []⟩, ⟨some 46, .move (.tmp 45), none, []⟩, ⟨some 47, .faddr 1 (.tmp 9), some (some 46, true), []⟩, ⟨some 48, .faddr 1 (.tmp 47), some (some 46, true), []⟩, ⟨some 49, .load none (.tmp 48), some (some 46, true), []⟩, ⟨some 50, .un .not (.tmp 49), some (some 46, true), []⟩, ⟨some 51, .pick (.tmp 46) (.tmp 50) (.lit (.bool false)), none, []⟩]) (.cond (.tmp 51) (.ops [⟨some 52, .move (.tmp 6), none, []⟩, ⟨some 53, .faddr 0 (.tmp 9), none, []⟩, ⟨some 54, .load none (.tmp 53), none, []⟩, ⟨some 55, .bslice 1 [.tmp 54] false, none, []⟩, ⟨some 56, .bappend 1 24 (.tmp 52) (.tmp 55) false, none, []⟩, ⟨some 6, .move (.tmp 56), none, []⟩]) .skip))))) (.ops [⟨some 57, .bin .add .none (.tmp 20) (.lit (.int .i64 1)), none, []⟩, ⟨some 20, .move (.tmp 57), none, []⟩]))))))) (.seq (.ops [⟨some 58, .faddr 0 (.tmp 3), none, []⟩, ⟨some 59, .load none (.tmp 58), none, []⟩, ⟨some 60, .faddr 1 (.tmp 3), none, []⟩, ⟨some 61, .load none (.tmp 60), none, []⟩, ⟨some 62, .build [.int .i64 0, .bool false] [(0, 1, .tmp 59), (1, 1, .tmp 61)], none, []⟩, ⟨some 63, .bslice 2 [.tmp 62] false, none, []⟩, ⟨some 64, .bslice 1 [.tmp 63] false, none, []⟩, ⟨some 10, .move (.tmp 64), none, []⟩]) (.seq (.seq (.ops [⟨some 65, .faddr 1 (.tmp 3), none, []⟩, ⟨some 66, .load none (.tmp 65), none, []⟩]) (.cond (.tmp 66) (.seq (.ops [⟨some 68, .move (.tmp 6), none, []⟩, ⟨some 69, .call (.lit (.func 48 [])) [.tmp 68], none, []⟩, ⟨some 67, .move (.tmp 69), none, []⟩, ⟨some 70, .extract (.tmp 67) 0, none, []⟩, ⟨some 71, .extract (.tmp 67) 1, none, []⟩, ⟨some 11, .move (.tmp 70), none, []⟩, ⟨some 12, .move (.tmp 71), none, []⟩]) (.seq (.seq (.ops [⟨some 72, .move (.tmp 12), none, []⟩, ⟨some 73, .un .not (.tmp 72), none, []⟩]) (.cond (.tmp 73) (.seq (.ops [⟨some 4, .move (.lit (.slice .nil [])), none, []⟩, ⟨some 5, .move (.lit (.bool false)), none, []⟩]) .ret) .skip)) (.seq (.ops [⟨some 74, .move (.tmp 11), none, []⟩, ⟨some 75, .move (.tmp 7), none, []⟩, ⟨some 76, .move (.tmp 10), none, []⟩, ⟨some 77, .bappend 1 24 (.tmp 75) (.tmp 76) false, none, []⟩, ⟨some 78, .call (.lit (.func 46 [])) [.tmp 77], none, []⟩, ⟨some 79, .call (.lit (.func 45 [])) [.tmp 74, .tmp 78], none, []⟩, ⟨some 80, .extract (.tmp 79) 0, none, []⟩, ⟨some 81, .extract (.tmp 79) 1, none, []⟩, ⟨some 4, .move (.tmp 80), none, []⟩, ⟨some 5, .move (.tmp 81), none, []⟩]) .ret))) .skip)) (.seq (.ops [⟨some 83, .move (.tmp 7), none, []⟩, ⟨some 84, .call (.lit (.func 48 [])) [.tmp 83], none, []⟩, ⟨some 82, .move (.tmp 84), none, []⟩, ⟨some 85, .extract (.tmp 82) 0, none, []⟩, ⟨some 86, .extract (.tmp 82) 1, none, []⟩, ⟨some 13, .move (.tmp 85), none, []⟩, ⟨some 14, .move (.tmp 86), none, []⟩]) (.seq (.seq (.ops [⟨some 87, .move (.tmp 14), none, []⟩, ⟨some 88, .un .not (.tmp 87), none, []⟩]) (.cond (.tmp 88) (.seq (.ops [⟨some 4, .move (.lit (.slice .nil [])), none, []⟩, ⟨some 5, .move (.lit (.bool false)), none, []⟩]) .ret) .skip)) (.seq (.ops [⟨some 90, .move (.tmp 13), none, []⟩, ⟨some 91, .move (.tmp 10), none, []⟩, ⟨some 92, .call (.lit (.func 45 [])) [.tmp 90, .tmp 91], none, []⟩, ⟨some 89, .move (.tmp 92), none, []⟩, ⟨some 93, .extract (.tmp 89) 0, none, []⟩, ⟨some 94, .extract (.tmp 89) 1, none, []⟩, ⟨some 13, .move (.tmp 93), none, []⟩, ⟨some 14, .move (.tmp 94), none, []⟩]) (.seq (.ops [⟨some 95, .move (.tmp 6), none, []⟩, ⟨some 96, .move (.tmp 13), none, []⟩, ⟨some 97, .bappend 1 24 (.tmp 95) (.tmp 96) false, none, []⟩, ⟨some 98, .call (.lit (.func 46 [])) [.tmp 97], none, []⟩, ⟨some 99, .move (.tmp 14), none, []⟩, ⟨some 4, .move (.tmp 98), none, []⟩, ⟨some 5, .move (.tmp 99), none, []⟩]) .ret))))))))
set_option maxRecDepth 20000 in
set_option maxHeartbeats 1000000 in
theorem before_spec (n : Int) (hn : n ≤ 1000000) (a : FAct) (x : FLit) (σ : Store) (ha : AV_ n a) (hx : cV n [x]) :
    ACalls Try.prog 65 [.agg (encA a), .agg (encLit x)] σ (isR (retO (beforeF a x)) σ) := by
  refine ACalls.intro (rs := [(.tmp 4), (.tmp 5)]) (by kernel_rfl) { own := [], ghosts := [] } Try.func65 (c := Try.f65.body.getD .skip) (by kernel_rfl) (by decide) (by rw [show Try.f65.ntmps = 100 by kernel_rfl]; exact Nat.le_of_ble_eq_true rfl) (by kernel_rfl) ?_
  intro hσ hids
  rw [show comp Try.prog { own := [], ghosts := [] } (Try.f65.body.getD .skip) = c_before by kernel_rfl, show Try.f65.ntmps = 100 by kernel_rfl]
  unfold c_before
  have hmany := ha.many
  have hs4 : ∀ k j, IdsS (σ ++ [AObj.row (encA a), AObj.row (encLit x), AObj.grow 1 k, AObj.grow 1 j]).length (σ ++ [AObj.row (encA a), AObj.row (encLit x), AObj.grow 1 k, AObj.grow 1 j]) := fun k j => idsS_app _ hσ (all_cons' (idsO_row (ids_encA a)) (all_cons' (idsO_row (ids_encLit x)) (all_cons' trivial (all_cons' trivial all_nil'))))
  simp only [go_sem, Int.reduceToNat, Int.reduceLE, Int.reduceLT, Nat.reduceBEq, Nat.reduceLT, Nat.reduceAdd, Nat.reduceLeDiff, encA, encLit]
  refine wpc_while (fun (i : Nat) => [(3, .ptr (σ.length + 1) 0), (6, .slice (.grow (σ.length + 2)) ((whenL x false (a.effects.take i)).map encC)), (7, .slice (.grow (σ.length + 3)) ((whenL x true (a.effects.take i)).map encC)), (18, .slice .unk (a.effects.map encE)), (19, .int .i64 a.effects.length), (20, .int .i64 (i : Nat))])
    (fun i => σ ++ [.row (encA a), .row (encLit x), .grow 1 (whenL x false (a.effects.take i)).length, .grow 1 (whenL x true (a.effects.take i)).length]) (fun i => i ≤ a.effects.length) (fun i => a.effects.length - i) 0 (Nat.zero_le _) (by (try dsimp only); first | exact ghL (hs4 0 0) | exact ghL0 (hs4 0 0)) ?_
  intro i hi K hK hE hR
  by_cases h : i < a.effects.length
  · obtain ⟨e, he⟩ := get_ex h
    have hlt : ((i : Int) < (a.effects.length : Int)) := by omega
    have hw : IntKind.i64.wrap ((i : Int) + 1) = ((i + 1 : Nat) : Int) := by rw [wrap_ok (by omega)]; omega
    have l1 := whenL_len x false (a.effects.take i)
    have l2 := whenL_len x true (a.effects.take i)
    rw [List.length_take_of_le hi] at l1 l2
    have s1 := whenL_succ (x := x) (neg := false) he
    have s2 := whenL_succ (x := x) (neg := true) he
    by_cases c1 : e.lit.fact = x.fact
    · have c1' : (e.lit.fact == x.fact) = true := by simpa using c1
      cases c2 : e.lit.neg
      · rw [if_pos ⟨c1, c2⟩] at s1
        rw [if_neg (by rw [c2]; simp), List.append_nil] at s2
        have hc : (whenL x false (a.effects.take i)).map encC ++ [[AV.slice .unk (e.when_.map encLit)]] = (whenL x false (a.effects.take (i + 1))).map encC := by rw [s1]; simp [encC]
        have hbig : bigLen ((whenL x false (a.effects.take i)).length + 1) 24 := big_ok (by omega) (by omega)
        simp only [go_sem, Int.reduceToNat, Int.reduceLE, Int.reduceLT, Nat.reduceBEq, Nat.reduceLT, Nat.reduceAdd, Nat.reduceLeDiff, hlt, he, encE, encLit, c1', c2, hc, hbig]
        refine hK _ _ (i + 1) (by omega) (by omega) ?_
        rw [s2, show (whenL x false (a.effects.take (i + 1))).length = (whenL x false (a.effects.take i)).length + 1 by rw [s1]; simp]
        exact (by (try dsimp only); (try simp only [ hw]); first | exact ghL (hs4 ((whenL x false (a.effects.take i)).length + 1) (whenL x true (a.effects.take i)).length) | exact ghL0 (hs4 ((whenL x false (a.effects.take i)).length + 1) (whenL x true (a.effects.take i)).length))
      · rw [if_pos ⟨c1, c2⟩] at s2
        rw [if_neg (by rw [c2]; simp), List.append_nil] at s1
        have hc : (whenL x true (a.effects.take i)).map encC ++ [[AV.slice .unk (e.when_.map encLit)]] = (whenL x true (a.effects.take (i + 1))).map encC := by rw [s2]; simp [encC]
        have hbig : bigLen ((whenL x true (a.effects.take i)).length + 1) 24 := big_ok (by omega) (by omega)
        simp only [go_sem, Int.reduceToNat, Int.reduceLE, Int.reduceLT, Nat.reduceBEq, Nat.reduceLT, Nat.reduceAdd, Nat.reduceLeDiff, hlt, he, encE, encLit, c1', c2, hc, hbig]
        refine hK _ _ (i + 1) (by omega) (by omega) ?_
        rw [s1, show (whenL x true (a.effects.take (i + 1))).length = (whenL x true (a.effects.take i)).length + 1 by rw [s2]; simp]
        exact (by (try dsimp only); (try simp only [ hw]); first | exact ghL (hs4 (whenL x false (a.effects.take i)).length ((whenL x true (a.effects.take i)).length + 1)) | exact ghL0 (hs4 (whenL x false (a.effects.take i)).length ((whenL x true (a.effects.take i)).length + 1)))
    · have c1' : (e.lit.fact == x.fact) = false := by simpa using c1
      rw [if_neg (fun q => c1 q.1), List.append_nil] at s1 s2
      simp only [go_sem, Int.reduceToNat, Int.reduceLE, Int.reduceLT, Nat.reduceBEq, Nat.reduceLT, Nat.reduceAdd, Nat.reduceLeDiff, hlt, he, encE, encLit, c1']
      refine hK _ _ (i + 1) (by omega) (by omega) ?_
      rw [s1, s2]
      exact (by (try dsimp only); (try simp only [ hw]); first | exact ghL (hs4 (whenL x false (a.effects.take i)).length (whenL x true (a.effects.take i)).length) | exact ghL0 (hs4 (whenL x false (a.effects.take i)).length (whenL x true (a.effects.take i)).length))
  · have hlt : ¬ ((i : Int) < (a.effects.length : Int)) := by omega
    have ht : a.effects.take i = a.effects := List.take_of_length_le (by omega)
    rw [ht]
    have l1 := whenL_len x false a.effects
    have l2 := whenL_len x true a.effects
    have v1 := whenL_V (x := x) (neg := false) ha.whens
    have v2 := whenL_V (x := x) (neg := true) ha.whens
    cases hneg : x.neg
    · simp only [go_sem, Int.reduceToNat, Int.reduceLE, Int.reduceLT, Nat.reduceBEq, Nat.reduceLT, Nat.reduceAdd, Nat.reduceLeDiff, hlt, hE, encLit, hneg]
      refine (negated_spec n hn _ _ _ (by omega) v2).mono ?_
      have hb : beforeF a x = match negF (whenL x true a.effects) with
          | none => none
          | some kept => match bothF kept [[x]] with
            | none => none
            | some k => if k.length ≤ 400 then some (reducedL (whenL x false a.effects ++ k)) else none := by unfold beforeF; rw [hneg]; rfl
      cases h1 : negF (whenL x true a.effects) with
      | none =>
        rintro _ _ ⟨rfl, rfl⟩
        rw [h1] at hb
        simp only [go_sem, Int.reduceToNat, Int.reduceLE, Int.reduceLT, Nat.reduceBEq, Nat.reduceLT, Nat.reduceAdd, Nat.reduceLeDiff]
        rw [show beforeF a x = none from hb]
        first | exact rtl (.any) (.bool false) ⟨rfl, rfl⟩ | exact rtl0 (.any) (.bool false) ⟨rfl, rfl⟩
      | some kept =>
        rintro _ _ ⟨rfl, rfl⟩
        rw [h1] at hb
        simp only at hb
        have hnl := negF_len h1
        simp only [go_sem, Int.reduceToNat, Int.reduceLE, Int.reduceLT, Nat.reduceBEq, Nat.reduceLT, Nat.reduceAdd, Nat.reduceLeDiff]
        refine ACalls.mono (ACalls.wk (Both_spec n hn kept [[x]] .unk .unk _ (by omega) (by simp) (negF_V v2 h1) (one_V hx)) ?_) ?_
        · exact (.cons (Wk.unk _ _) (WkL.one (by rw [show ([[x]].map encC) = [[AV.slice .unk [[.int .i64 x.fact, .bool x.neg]]]] from rfl, hneg]; exact Wk.sl _ (WkLL.one (WkL.one (Wk.unk _ _))))))
        cases h2 : bothF kept [[x]] with
        | none =>
          rintro _ _ ⟨rfl, rfl⟩
          rw [h2] at hb
          have hbig : bigLen (whenL x false a.effects).length 24 := big_ok (by omega) (by omega)
          simp only [go_sem, Int.reduceToNat, Int.reduceLE, Int.reduceLT, Nat.reduceBEq, Nat.reduceLT, Nat.reduceAdd, Nat.reduceLeDiff, hbig]
          refine (reduced_spec _ _ _ (v1.ok hn (by omega))).mono ?_
          rintro _ _ ⟨rfl, rfl⟩
          simp only [go_sem, Int.reduceToNat, Int.reduceLE, Int.reduceLT, Nat.reduceBEq, Nat.reduceLT, Nat.reduceAdd, Nat.reduceLeDiff]
          rw [show beforeF a x = none from hb]
          first | exact rtl (.any) (.bool false) ⟨rfl, rfl⟩ | exact rtl0 (.any) (.bool false) ⟨rfl, rfl⟩
        | some k =>
          rintro _ _ ⟨rfl, rfl⟩
          rw [h2] at hb
          simp only at hb
          have hbl := bothF_len h2
          have hbig : bigLen ((whenL x false a.effects).length + k.length) 24 := big_ok (by omega) (by omega)
          have hall : ∀ y ∈ k, (encC y).length = 1 ∧ (encC y).all AV.one = true := fun y _ => ⟨rfl, rfl⟩
          simp only [go_sem, Int.reduceToNat, Int.reduceLE, Int.reduceLT, Nat.reduceBEq, Nat.reduceLT, Nat.reduceAdd, Nat.reduceLeDiff, hbig, ← List.map_append]
          refine ⟨hall, ?_⟩
          refine (reduced_spec _ _ _ ((append_V v1 (bothF_V h2 (negF_V v2 h1) (one_V hx))).ok hn (by rw [List.length_append]; omega))).mono ?_
          rintro _ _ ⟨rfl, rfl⟩
          by_cases h4 : k.length ≤ 400
          · rw [if_pos h4] at hb
            simp only [go_sem, Int.reduceToNat, Int.reduceLE, Int.reduceLT, Nat.reduceBEq, Nat.reduceLT, Nat.reduceAdd, Nat.reduceLeDiff, decide_eq_true h4]
            rw [hb]
            first | exact rtl (.slice .unk ((reducedL (whenL x false a.effects ++ k)).map encC)) (.bool true) ⟨rfl, rfl⟩ | exact rtl0 (.slice .unk ((reducedL (whenL x false a.effects ++ k)).map encC)) (.bool true) ⟨rfl, rfl⟩
          · rw [if_neg h4] at hb
            simp only [go_sem, Int.reduceToNat, Int.reduceLE, Int.reduceLT, Nat.reduceBEq, Nat.reduceLT, Nat.reduceAdd, Nat.reduceLeDiff, decide_eq_false h4]
            rw [hb]
            first | exact rtl (.any) (.bool false) ⟨rfl, rfl⟩ | exact rtl0 (.any) (.bool false) ⟨rfl, rfl⟩
    · simp only [go_sem, Int.reduceToNat, Int.reduceLE, Int.reduceLT, Nat.reduceBEq, Nat.reduceLT, Nat.reduceAdd, Nat.reduceLeDiff, hlt, hE, encLit, hneg]
      refine (negated_spec n hn _ _ _ (by omega) v1).mono ?_
      have hb : beforeF a x = match negF (whenL x false a.effects) with
          | none => none
          | some kept => match bothF kept (reducedL (whenL x true a.effects ++ [[x]])) with
            | none => none
            | some h => if h.length ≤ 400 then some h else none := by unfold beforeF; rw [hneg]; rfl
      cases h1 : negF (whenL x false a.effects) with
      | none =>
        rintro _ _ ⟨rfl, rfl⟩
        rw [h1] at hb
        simp only [go_sem, Int.reduceToNat, Int.reduceLE, Int.reduceLT, Nat.reduceBEq, Nat.reduceLT, Nat.reduceAdd, Nat.reduceLeDiff]
        rw [show beforeF a x = none from hb]
        first | exact rtl (.any) (.bool false) ⟨rfl, rfl⟩ | exact rtl0 (.any) (.bool false) ⟨rfl, rfl⟩
      | some kept =>
        rintro _ _ ⟨rfl, rfl⟩
        rw [h1] at hb
        simp only at hb
        have hnl := negF_len h1
        have hbig : bigLen ((whenL x true a.effects).length + 1) 24 := big_ok (by omega) (by omega)
        simp only [go_sem, Int.reduceToNat, Int.reduceLE, Int.reduceLT, Nat.reduceBEq, Nat.reduceLT, Nat.reduceAdd, Nat.reduceLeDiff, hbig]
        refine ACalls.mono (ACalls.wk (reduced_spec (whenL x true a.effects ++ [[x]]) .unk _ ((append_V v2 (one_V hx)).ok hn (by simp; omega))) ?_) ?_
        · exact (WkL.one (by rw [List.map_append, show ([[x]].map encC) = [[AV.slice .unk [[.int .i64 x.fact, .bool x.neg]]]] from rfl, hneg]; exact Wk.sl _ (.append (.refl _) (WkLL.one (WkL.one (Wk.unk _ _))))))
        rintro _ _ ⟨rfl, rfl⟩
        have lr := reducedL_len (whenL x true a.effects ++ [[x]])
        rw [List.length_append, List.length_singleton] at lr
        simp only [go_sem, Int.reduceToNat, Int.reduceLE, Int.reduceLT, Nat.reduceBEq, Nat.reduceLT, Nat.reduceAdd, Nat.reduceLeDiff]
        refine (Both_spec n hn kept (reducedL (whenL x true a.effects ++ [[x]])) _ _ _ (by omega) (by omega) (negF_V v1 h1) (reducedL_V (append_V v2 (one_V hx)))).mono ?_
        cases h2 : bothF kept (reducedL (whenL x true a.effects ++ [[x]])) with
        | none =>
          rintro _ _ ⟨rfl, rfl⟩
          rw [h2] at hb
          simp only [go_sem, Int.reduceToNat, Int.reduceLE, Int.reduceLT, Nat.reduceBEq, Nat.reduceLT, Nat.reduceAdd, Nat.reduceLeDiff]
          rw [show beforeF a x = none from hb]
          first | exact rtl (.any) (.bool false) ⟨rfl, rfl⟩ | exact rtl0 (.any) (.bool false) ⟨rfl, rfl⟩
        | some k =>
          rintro _ _ ⟨rfl, rfl⟩
          rw [h2] at hb
          simp only at hb
          by_cases h4 : k.length ≤ 400
          · rw [if_pos h4] at hb
            simp only [go_sem, Int.reduceToNat, Int.reduceLE, Int.reduceLT, Nat.reduceBEq, Nat.reduceLT, Nat.reduceAdd, Nat.reduceLeDiff, decide_eq_true h4]
            rw [hb]
            first | exact rtl (.slice .unk (k.map encC)) (.bool true) ⟨rfl, rfl⟩ | exact rtl0 (.slice .unk (k.map encC)) (.bool true) ⟨rfl, rfl⟩
          · rw [if_neg h4] at hb
            simp only [go_sem, Int.reduceToNat, Int.reduceLE, Int.reduceLT, Nat.reduceBEq, Nat.reduceLT, Nat.reduceAdd, Nat.reduceLeDiff, decide_eq_false h4]
            rw [hb]
            first | exact rtl (.any) (.bool false) ⟨rfl, rfl⟩ | exact rtl0 (.any) (.bool false) ⟨rfl, rfl⟩
end Go.Proofs.Ytbnhijapbnfohaa
namespace Go.Proofs.Ytbnhijapbnfohaa
open Go.Ahl
theorem beforeF_V {n : Int} {a : FAct} {x : FLit} {h : List (List FLit)} (ha : AV_ n a) (hx : cV n [x]) (e : beforeF a x = some h) : vF n h := by
  have v1 := whenL_V (x := x) (neg := false) ha.whens
  have v2 := whenL_V (x := x) (neg := true) ha.whens
  unfold beforeF at e
  split at e
  · cases h1 : negF (whenL x false a.effects) with
    | none => rw [h1] at e; simp at e
    | some kept =>
      rw [h1] at e; simp only at e
      cases h2 : bothF kept (reducedL (whenL x true a.effects ++ [[x]])) with
      | none => rw [h2] at e; simp at e
      | some k =>
        rw [h2] at e; simp only at e
        split at e
        · injection e with e; subst e; exact bothF_V h2 (negF_V v1 h1) (reducedL_V (append_V v2 (one_V hx)))
        · simp at e
  · cases h1 : negF (whenL x true a.effects) with
    | none => rw [h1] at e; simp at e
    | some kept =>
      rw [h1] at e; simp only at e
      cases h2 : bothF kept [[x]] with
      | none => rw [h2] at e; simp at e
      | some k =>
        rw [h2] at e; simp only at e
        split at e
        · injection e with e; subst e; exact reducedL_V (append_V v1 (bothF_V h2 (negF_V v2 h1) (one_V hx)))
        · simp at e
theorem beforeF_len {a : FAct} {x : FLit} {h : List (List FLit)} (ha : a.effects.length ≤ 1000) (e : beforeF a x = some h) : h.length ≤ 1400 := by
  unfold beforeF at e
  split at e
  · cases h1 : negF (whenL x false a.effects) with
    | none => rw [h1] at e; simp at e
    | some kept =>
      rw [h1] at e; simp only at e
      cases h2 : bothF kept (reducedL (whenL x true a.effects ++ [[x]])) with
      | none => rw [h2] at e; simp at e
      | some k =>
        rw [h2] at e; simp only at e
        split at e
        · injection e with e; subst e; omega
        · simp at e
  · cases h1 : negF (whenL x true a.effects) with
    | none => rw [h1] at e; simp at e
    | some kept =>
      rw [h1] at e; simp only at e
      cases h2 : bothF kept [[x]] with
      | none => rw [h2] at e; simp at e
      | some k =>
        rw [h2] at e; simp only at e
        split at e
        · injection e with e; subst e
          have l1 := whenL_len x false a.effects
          have l2 := reducedL_len (whenL x false a.effects ++ k)
          rw [List.length_append] at l2; omega
        · simp at e
def backTerm (a : FAct) (g : List (List FLit)) : List FLit → Option (List (List FLit))
  | [] => some g
  | x :: l => match beforeF a x with
    | none => none
    | some h => match bothF g h with
      | none => none
      | some g' => if g'.length ≤ 400 then backTerm a g' l else none
def backFrom (a : FAct) (out : List (List FLit)) : List (List FLit) → Option (List (List FLit))
  | [] => if (reducedL out).length ≤ 400 then some (reducedL out) else none
  | l :: f => match backTerm a [a.pre] l with
    | none => none
    | some g => if 40000 < out.length + g.length then none else backFrom a (out ++ g) f
/-- The regression of a formula; none: too many terms. -/
def backF (a : FAct) (f : List (List FLit)) : Option (List (List FLit)) := backFrom a [] f
theorem lit_V {n : Int} {l : List FLit} (h : cV n l) {x : FLit} (hx : x ∈ l) : cV n [x] := by
  have := condB_mem h x hx
  exact condB_mk this.1 this.2 rfl
def c_Back : CCode := .seq (.ops [⟨some 2, .box (.tmp 0), none, []⟩, ⟨some 4, .move (.lit (.slice .nil [])), none, []⟩, ⟨some 5, .move (.lit (.bool false)), none, []⟩]) (.seq (.ops [⟨some 6, .move (.lit (.slice .nil [])), none, []⟩]) (.seq (.seq (.ops [⟨some 14, .move (.tmp 1), none, []⟩, ⟨some 15, .blen 1 (.tmp 14), none, []⟩, ⟨some 16, .move (.lit (.int .i64 0)), none, []⟩]) (.block 0 (.loop (.seq (.ops [⟨some 17, .bin .lss .none (.tmp 16) (.tmp 15), none, []⟩]) (.seq (.cond (.tmp 17) .skip (.exit 0)) (.seq (.block 1 (.seq (.ops [⟨some 18, .iaddr 1 (.tmp 14) (.tmp 16), none, []⟩, ⟨some 19, .load none (.tmp 18), none, []⟩, ⟨some 8, .move (.tmp 19), none, []⟩]) (.seq (.ops [⟨some 20, .faddr 2 (.tmp 2), none, []⟩, ⟨some 21, .load none (.tmp 20), none, []⟩, ⟨some 22, .bslice 1 [.tmp 21] false, none, []⟩, ⟨some 9, .move (.tmp 22), none, []⟩]) (.seq (.seq (.ops [⟨some 23, .move (.tmp 8), none, []⟩, ⟨some 24, .blen 1 (.tmp 23), none, []⟩, ⟨some 25, .move (.lit (.int .i64 0)), none, []⟩]) (.block 2 (.loop (.seq (.ops [⟨some 26, .bin .lss .none (.tmp 25) (.tmp 24), none, []⟩]) (.seq (.cond (.tmp 26) .skip (.exit 2)) (.seq (.block 3 (.seq (.ops [⟨some 27, .iaddr 2 (.tmp 23) (.tmp 25), none, []⟩, ⟨some 28, .load (some 2) (.tmp 27), none, []⟩, ⟨some 11, .alloc (.agg [.int .i64 0, .bool false]), none, []⟩, ⟨none, .store 2 (.tmp 11) (.tmp 28), none, []⟩]) (.seq (.ops [⟨some 30, .load (some 4) (.tmp 2), none, []⟩, ⟨some 31, .load (some 2) (.tmp 11), none, []⟩, ⟨some 32, .call (.lit (.func 65 [])) [.tmp 30, .tmp 31], none, []⟩, ⟨some 29, .move (.tmp 32), none, []⟩, ⟨some 33, .extract (.tmp 29) 0, none, []⟩, ⟨some 34, .extract (.tmp 29) 1, none, []⟩, ⟨some 12, .move (.tmp 33), none, []⟩, ⟨some 13, .move (.tmp 34), none, []⟩]) (.seq (.seq (.ops [⟨some 35, .move (.tmp 13), none, []⟩, ⟨some 36, .un .not (.tmp 35), none, []⟩]) (.cond (.tmp 36) (.seq (.ops [⟨some 4, .move (.lit (.slice .nil [])), none, []⟩, ⟨some 5, .move (.lit (.bool false)), none, []⟩]) .ret) .skip)) (.seq (.ops [⟨some 38, .move (.tmp 9), none, []⟩, ⟨some 39, .move (.tmp 12), none, []⟩, ⟨some 40, .call (.lit (.func 45 [])) [.tmp 38, .tmp 39], none, []⟩, ⟨some 37, .move (.tmp 40), none, []⟩, ⟨some 41, .extract (.tmp 37) 0, none, []⟩, ⟨some 42, .extract (.tmp 37) 1, none, []⟩, ⟨some 9, .move (.tmp 41), none, []⟩, ⟨some 13, .move (.tmp 42), none, []⟩]) (.seq (.ops [⟨some 43, .move (.tmp 13), none, []⟩, ⟨some 44, .un .not (.tmp 43), none, []⟩]) (.cond (.tmp 44) (.seq (.ops [⟨some 4, .move (.lit (.slice .nil [])), none, []⟩, ⟨some 5, .move (.lit (.bool false)), none, []⟩]) .ret) .skip))))))) (.ops [⟨some 45, .bin .add .none (.tmp 25) (.lit (.int .i64 1)), none, []⟩, ⟨some 25, .move (.tmp 45), none, []⟩]))))))) (.seq (.ops [⟨some 46, .move (.tmp 6), none, []⟩, ⟨some 47, .move (.tmp 9), none, []⟩, ⟨some 48, .bappend 1 24 (.tmp 46) (.tmp 47) false, none, []⟩, ⟨some 6, .move (.tmp 48), none, []⟩]) (.seq (.ops [⟨some 49, .move (.tmp 6), none, []⟩, ⟨some 50, .blen 1 (.tmp 49), none, []⟩, ⟨some 51, .bin .gtr .none (.tmp 50) (.lit (.int .i64 40000)), none, []⟩]) (.cond (.tmp 51) (.seq (.ops [⟨some 4, .move (.lit (.slice .nil [])), none, []⟩, ⟨some 5, .move (.lit (.bool false)), none, []⟩]) .ret) .skip))))))) (.ops [⟨some 52, .bin .add .none (.tmp 16) (.lit (.int .i64 1)), none, []⟩, ⟨some 16, .move (.tmp 52), none, []⟩]))))))) (.seq (.ops [⟨some 53, .move (.tmp 6), none, []⟩, ⟨some 54, .call (.lit (.func 46 [])) [.tmp 53], none, []⟩, ⟨some 6, .move (.tmp 54), none, []⟩]) (.seq (.ops [⟨some 55, .move (.tmp 6), none, []⟩, ⟨some 56, .move (.tmp 6), none, []⟩, ⟨some 57, .blen 1 (.tmp 56), none, []⟩, ⟨some 58, .bin .leq .none (.tmp 57) (.lit (.int .i64 400)), none, []⟩, ⟨some 4, .move (.tmp 55), none, []⟩, ⟨some 5, .move (.tmp 58), none, []⟩]) .ret))))
set_option maxRecDepth 20000 in
set_option maxHeartbeats 1000000 in
theorem Back_specF (n : Int) (hn : n ≤ 1000000) (a : FAct) (f : List (List FLit)) (tok : Tok) (σ : Store) (ha : AV_ n a) (hf : f.length ≤ 1000000) (vf : vF n f) :
    ACalls Try.prog 40 [.agg (encA a), .slice tok (f.map encC)] σ (isR (retOf (backF a f)) σ) := by
  refine ACalls.intro (rs := [(.tmp 4), (.tmp 5)]) (by kernel_rfl) { own := [], ghosts := [] } Try.func40 (c := Try.f40.body.getD .skip) (by kernel_rfl) (by decide) (by rw [show Try.f40.ntmps = 59 by kernel_rfl]; exact Nat.le_of_ble_eq_true rfl) (by kernel_rfl) ?_
  intro hσ hids
  rw [show comp Try.prog { own := [], ghosts := [] } (Try.f40.body.getD .skip) = c_Back by kernel_rfl, show Try.f40.ntmps = 59 by kernel_rfl]
  unfold c_Back
  have hif : Ids σ.length (.slice tok (f.map encC)) := hids _ (by simp)
  have hs1 : IdsS (σ ++ [AObj.row (encA a)]).length (σ ++ [AObj.row (encA a)]) := ids_grow hσ (ids_encA a)
  have hs2 : ∀ k, IdsS (σ ++ [AObj.row (encA a), AObj.grow 1 k]).length (σ ++ [AObj.row (encA a), AObj.grow 1 k]) := fun k => idsS_app _ hσ (all_cons' (idsO_row (ids_encA a)) (all_cons' trivial all_nil'))
  simp only [go_sem, Int.reduceToNat, Int.reduceLE, Int.reduceLT, Nat.reduceBEq, Nat.reduceLT, Nat.reduceAdd, Nat.reduceLeDiff]
  refine wpc_while (fun (q : Nat × List (List FLit)) => [(6, .slice (.grow (σ.length + 1)) (q.2.map encC)), (2, .ptr σ.length 0), (14, .slice tok (f.map encC)), (15, .int .i64 f.length), (16, .int .i64 q.1)]) (fun q => σ ++ [.row (encA a), .grow 1 q.2.length])
    (fun q => q.1 ≤ f.length ∧ q.2.length ≤ 40000 ∧ vF n q.2 ∧ backF a f = backFrom a q.2 (f.drop q.1)) (fun q => f.length - q.1) (0, []) ⟨Nat.zero_le _, by simp, by intro l hl; simp at hl, rfl⟩ (.begin1 6 1 _ (Nat.le_refl _) tellT hs1) ?_
  rintro ⟨i, out⟩ ⟨hi, ho, hvo, hv⟩ K hK hE hR
  dsimp only at hi ho hvo hv ⊢
  by_cases h : i < f.length
  · obtain ⟨l, hx⟩ := get_ex h; have hlt : ((i : Int) < (f.length : Int)) := (by omega); have hw : IntKind.i64.wrap ((i : Int) + 1) = ((i + 1 : Nat) : Int) := (by rw [wrap_ok (by omega)]; omega)
    have hl := vf l (List.mem_of_getElem? hx)
    have hll := cV_len hn hl
    rw [drop_cons hx, backFrom] at hv
    simp only [go_sem, Int.reduceToNat, Int.reduceLE, Int.reduceLT, Nat.reduceBEq, Nat.reduceLT, Nat.reduceAdd, Nat.reduceLeDiff, hlt, hx, encC, encA]
    refine wpc_while (fun (q : Nat × List (List FLit)) => [(9, .slice .unk (q.2.map encC)), (6, .slice (.grow (σ.length + 1)) (out.map encC)), (2, .ptr σ.length 0), (14, .slice tok (f.map encC)), (15, .int .i64 f.length), (16, .int .i64 i), (23, .slice .unk (l.map encLit)), (24, .int .i64 l.length), (25, .int .i64 q.1)]) (fun q => σ ++ [.row (encA a), .grow 1 out.length])
      (fun q => q.1 ≤ l.length ∧ q.2.length ≤ 400 ∧ vF n q.2 ∧ backTerm a [a.pre] l = backTerm a q.2 (l.drop q.1)) (fun q => l.length - q.1) (0, [a.pre]) ⟨Nat.zero_le _, by simp, one_V ha.pre, rfl⟩ (by (try dsimp only); first | exact ghL (hs2 out.length) | exact ghL0 (hs2 out.length)) ?_
    rintro ⟨j, g⟩ ⟨hj', hgl, hvg, hvj⟩ K' hK' hE' hR'
    dsimp only at hj' hgl hvg hvj ⊢
    by_cases hj : j < l.length
    · obtain ⟨x, hxj⟩ := get_ex hj; have hltj : ((j : Int) < (l.length : Int)) := (by omega); have hwj : IntKind.i64.wrap ((j : Int) + 1) = ((j + 1 : Nat) : Int) := (by rw [wrap_ok (by omega)]; omega)
      have hvx := lit_V hl (List.mem_of_getElem? hxj)
      rw [drop_cons hxj, backTerm] at hvj
      simp only [go_sem, Int.reduceToNat, Int.reduceLE, Int.reduceLT, Nat.reduceBEq, Nat.reduceLT, Nat.reduceAdd, Nat.reduceLeDiff, hltj, hxj, encLit, encA]
      refine (before_spec n hn a x _ ha hvx).is ?_
      cases hb : beforeF a x with
      | none =>
        rw [hb] at hvj
        rw [show backTerm a [a.pre] l = none from hvj] at hv
        simp only [go_sem, Int.reduceToNat, Int.reduceLE, Int.reduceLT, Nat.reduceBEq, Nat.reduceLT, Nat.reduceAdd, Nat.reduceLeDiff, retO, hR', hR]
        rw [show backF a f = none from hv]
        first | exact rtl (.any) (.bool false) ⟨rfl, rfl⟩ | exact rtl0 (.any) (.bool false) ⟨rfl, rfl⟩
      | some h =>
        rw [hb] at hvj; simp only at hvj
        simp only [go_sem, Int.reduceToNat, Int.reduceLE, Int.reduceLT, Nat.reduceBEq, Nat.reduceLT, Nat.reduceAdd, Nat.reduceLeDiff, retO]
        have hhl := beforeF_len ha.many hb
        refine (Both_spec n hn g h _ _ _ (by omega) (by omega) hvg (beforeF_V ha hvx hb)).mono ?_
        cases hc : bothF g h with
        | none =>
          rintro _ _ ⟨rfl, rfl⟩
          rw [hc] at hvj
          rw [show backTerm a [a.pre] l = none from hvj] at hv
          simp only [go_sem, Int.reduceToNat, Int.reduceLE, Int.reduceLT, Nat.reduceBEq, Nat.reduceLT, Nat.reduceAdd, Nat.reduceLeDiff, hR', hR]
          rw [show backF a f = none from hv]
          first | exact rtl (.any) (.bool false) ⟨rfl, rfl⟩ | exact rtl0 (.any) (.bool false) ⟨rfl, rfl⟩
        | some g' =>
          rintro _ _ ⟨rfl, rfl⟩
          rw [hc] at hvj; simp only at hvj
          by_cases h4 : g'.length ≤ 400
          · rw [if_pos h4] at hvj
            simp only [go_sem, Int.reduceToNat, Int.reduceLE, Int.reduceLT, Nat.reduceBEq, Nat.reduceLT, Nat.reduceAdd, Nat.reduceLeDiff, decide_eq_true h4]
            refine hK' _ _ (j + 1, g') ⟨by simp only []; omega, h4, bothF_V hc hvg (beforeF_V ha hvx hb), hvj⟩ (by simp only []; omega) ?_
            exact (by (try dsimp only); (try simp only [ hwj]); first | exact ghL (hs2 out.length) | exact ghL0 (hs2 out.length))
          · rw [if_neg h4] at hvj
            rw [show backTerm a [a.pre] l = none from hvj] at hv
            simp only [go_sem, Int.reduceToNat, Int.reduceLE, Int.reduceLT, Nat.reduceBEq, Nat.reduceLT, Nat.reduceAdd, Nat.reduceLeDiff, decide_eq_false h4, hR', hR]
            rw [show backF a f = none from hv]
            first | exact rtl (.any) (.bool false) ⟨rfl, rfl⟩ | exact rtl0 (.any) (.bool false) ⟨rfl, rfl⟩
    · have hltj : ¬ ((j : Int) < (l.length : Int)) := by omega
      rw [drop_len hj, backTerm] at hvj
      rw [hvj] at hv; simp only at hv
      have hbig : bigLen (out.length + g.length) 24 := big_ok (by omega) (by omega)
      have hall : ∀ y ∈ g, (encC y).length = 1 ∧ (encC y).all AV.one = true := fun y _ => ⟨rfl, rfl⟩
      by_cases h5 : ((out.length + g.length : Nat) : Int) > 40000
      · rw [if_pos (by omega)] at hv
        simp only [go_sem, Int.reduceToNat, Int.reduceLE, Int.reduceLT, Nat.reduceBEq, Nat.reduceLT, Nat.reduceAdd, Nat.reduceLeDiff, hltj, hE', hbig, h5, hR, ← List.map_append]
        refine ⟨hall, ?_⟩
        rw [show backF a f = none from hv]
        first | exact rtl (.any) (.bool false) ⟨rfl, rfl⟩ | exact rtl0 (.any) (.bool false) ⟨rfl, rfl⟩
      · rw [if_neg (by omega)] at hv
        simp only [go_sem, Int.reduceToNat, Int.reduceLE, Int.reduceLT, Nat.reduceBEq, Nat.reduceLT, Nat.reduceAdd, Nat.reduceLeDiff, hltj, hE', hbig, h5, ← List.map_append]
        refine ⟨hall, ?_⟩
        refine hK _ _ (i + 1, out ++ g) ⟨by simp only []; omega, by rw [List.length_append]; omega, append_V hvo hvg, hv⟩ (by simp only []; omega) ?_
        simp only [List.length_append]
        exact (by (try dsimp only); (try simp only [ hw]); first | exact ghL (hs2 (out.length + g.length)) | exact ghL0 (hs2 (out.length + g.length)))
  · have hlt : ¬ ((i : Int) < (f.length : Int)) := by omega
    rw [drop_len h, backFrom] at hv
    simp only [go_sem, Int.reduceToNat, Int.reduceLE, Int.reduceLT, Nat.reduceBEq, Nat.reduceLT, Nat.reduceAdd, Nat.reduceLeDiff, hlt, hE]
    refine (reduced_specF out _ _ (hvo.ok hn (by omega))).mono ?_
    rintro _ _ ⟨rfl, rfl⟩
    by_cases h4 : (reducedL out).length ≤ 400
    · rw [if_pos h4] at hv
      have h4' : ((reducedL out).length : Int) ≤ 400 := by omega
      simp only [go_sem, Int.reduceToNat, Int.reduceLE, Int.reduceLT, Nat.reduceBEq, Nat.reduceLT, Nat.reduceAdd, Nat.reduceLeDiff, h4']
      rw [hv]
      first | exact rtl (.slice .fresh ((reducedL out).map encCf)) (.bool true) ⟨rfl, rfl⟩ | exact rtl0 (.slice .fresh ((reducedL out).map encCf)) (.bool true) ⟨rfl, rfl⟩
    · rw [if_neg h4] at hv
      have h4' : ¬ ((reducedL out).length : Int) ≤ 400 := by omega
      simp only [go_sem, Int.reduceToNat, Int.reduceLE, Int.reduceLT, Nat.reduceBEq, Nat.reduceLT, Nat.reduceAdd, Nat.reduceLeDiff, h4']
      rw [hv]
      first | exact rtl (.any) (.bool false) ⟨rfl, rfl⟩ | exact rtl0 (.any) (.bool false) ⟨rfl, rfl⟩
theorem Back_spec (n : Int) (hn : n ≤ 1000000) (a : FAct) (f : List (List FLit)) (tok : Tok) (σ : Store) (ha : AV_ n a) (hf : f.length ≤ 1000000) (vf : vF n f) :
    ACalls Try.prog 40 [.agg (encA a), .slice tok (f.map encC)] σ (isR (retO (backF a f)) σ) := (Back_specF n hn a f tok σ ha hf vf).wkR (retOf_wk _)
end Go.Proofs.Ytbnhijapbnfohaa
namespace Go.Proofs.Ytbnhijapbnfohaa
open Go.Ahl
theorem backTerm_V {n : Int} {a : FAct} (ha : AV_ n a) : ∀ {l : List FLit} {g h : List (List FLit)}, (∀ x ∈ l, cV n [x]) → vF n g → backTerm a g l = some h → vF n h
  | [], g, h, _, hg, e => by simp [backTerm] at e; subst e; exact hg
  | x :: l, g, h, hl, hg, e => by
    rw [backTerm] at e
    cases h1 : beforeF a x with
    | none => rw [h1] at e; simp at e
    | some b =>
      rw [h1] at e; simp only at e
      cases h2 : bothF g b with
      | none => rw [h2] at e; simp at e
      | some k =>
        rw [h2] at e; simp only at e
        split at e
        · exact backTerm_V ha (fun y hy => hl y (List.mem_cons_of_mem _ hy)) (bothF_V h2 hg (beforeF_V ha (hl x List.mem_cons_self) h1)) e
        · simp at e
theorem backFrom_V {n : Int} {a : FAct} (ha : AV_ n a) : ∀ {f out h : List (List FLit)}, vF n f → vF n out → backFrom a out f = some h → vF n h ∧ h.length ≤ 400
  | [], out, h, _, ho, e => by
    rw [backFrom] at e
    split at e
    · injection e with e; subst e; exact ⟨reducedL_V ho, ‹_›⟩
    · simp at e
  | l :: f, out, h, hf, ho, e => by
    rw [backFrom] at e
    cases h1 : backTerm a [a.pre] l with
    | none => rw [h1] at e; simp at e
    | some g =>
      rw [h1] at e; simp only at e
      split at e
      · simp at e
      · have hl := hf l List.mem_cons_self
        exact backFrom_V ha (fun l hl => hf l (List.mem_cons_of_mem _ hl)) (append_V ho (backTerm_V ha (fun x hx => lit_V hl hx) (one_V ha.pre) h1)) e
theorem backF_V {n : Int} {a : FAct} (ha : AV_ n a) {f h : List (List FLit)} (hf : vF n f) (e : backF a f = some h) : vF n h ∧ h.length ≤ 400 := backFrom_V ha hf (by intro l hl; simp at hl) e
/-- The negation of one condition is not large. -/
theorem neg_one {n : Int} (hn : n ≤ 400) {l : List FLit} (h : cV n l) : ∃ k, negF [l] = some k := by
  have hl : l.length ≤ 400 := by
    rcases condB_len h with rfl | h
    · simp
    · omega
  have hb : bigL [[]] (negL l) = ([[]], negL l) := by unfold bigL; rw [if_neg (by simp [negL]; omega)]
  have h1 : bothF [[]] (negL l) = some (reducedL (prodL [[]] (negL l))) := by
    unfold bothF; rw [hb]; dsimp only; rw [if_neg (by simp [negL]; omega)]
  have h2 := reducedL_len (prodL [[]] (negL l))
  have h3 := prodL_len [[]] (negL l)
  have h4 : (negL l).length = l.length := by simp [negL]
  exact ⟨_, by rw [negF, negFrom, h1]; simp only; rw [if_pos (by simp at h3; omega)]; rfl⟩
/-- The weakest precondition; none: too many terms. -/
def aheadF (a : FAct) (f : List (List FLit)) : Option (List (List FLit)) :=
  match backF a f with
  | none => none
  | some g => let r := reducedL ((negF [a.pre]).getD [] ++ g); if r.length ≤ 400 then some r else none
def c_Ahead : CCode := .seq (.ops [⟨some 2, .box (.tmp 0), none, []⟩, ⟨some 4, .move (.lit (.slice .nil [])), none, []⟩, ⟨some 5, .move (.lit (.bool false)), none, []⟩]) (.seq (.ops [⟨some 12, .load (some 4) (.tmp 2), none, []⟩, ⟨some 13, .move (.tmp 1), none, []⟩, ⟨some 14, .call (.lit (.func 40 [])) [.tmp 12, .tmp 13], none, []⟩, ⟨some 11, .move (.tmp 14), none, []⟩, ⟨some 15, .extract (.tmp 11) 0, none, []⟩, ⟨some 16, .extract (.tmp 11) 1, none, []⟩, ⟨some 6, .move (.tmp 15), none, []⟩, ⟨some 7, .move (.tmp 16), none, []⟩]) (.seq (.seq (.ops [⟨some 17, .move (.tmp 7), none, []⟩, ⟨some 18, .un .not (.tmp 17), none, []⟩]) (.cond (.tmp 18) (.seq (.ops [⟨some 4, .move (.lit (.slice .nil [])), none, []⟩, ⟨some 5, .move (.lit (.bool false)), none, []⟩]) .ret) .skip)) (.seq (.ops [⟨some 20, .faddr 2 (.tmp 2), none, []⟩, ⟨some 21, .load none (.tmp 20), none, []⟩, ⟨some 22, .bslice 1 [.tmp 21] false, none, []⟩, ⟨some 23, .call (.lit (.func 48 [])) [.tmp 22], none, []⟩, ⟨some 19, .move (.tmp 23), none, []⟩, ⟨some 24, .extract (.tmp 19) 0, none, []⟩, ⟨some 25, .extract (.tmp 19) 1, none, []⟩, ⟨some 8, .move (.tmp 24), none, []⟩, ⟨some 9, .move (.tmp 25), none, []⟩]) (.seq (.ops [⟨some 26, .move (.tmp 8), none, []⟩, ⟨some 27, .move (.tmp 6), none, []⟩, ⟨some 28, .bappend 1 24 (.tmp 26) (.tmp 27) false, none, []⟩, ⟨some 29, .call (.lit (.func 46 [])) [.tmp 28], none, []⟩, ⟨some 10, .move (.tmp 29), none, []⟩]) (.seq (.ops [⟨some 30, .move (.tmp 10), none, []⟩, ⟨some 31, .move (.tmp 10), none, []⟩, ⟨some 32, .blen 1 (.tmp 31), none, []⟩, ⟨some 33, .bin .leq .none (.tmp 32) (.lit (.int .i64 400)), none, []⟩, ⟨some 4, .move (.tmp 30), none, []⟩, ⟨some 5, .move (.tmp 33), none, []⟩]) .ret)))))
set_option maxRecDepth 20000 in
theorem Ahead_specF (n : Int) (hn : n ≤ 400) (a : FAct) (f : List (List FLit)) (tok : Tok) (σ : Store) (ha : AV_ n a) (hf : f.length ≤ 1000000) (vf : vF n f) :
    ACalls Try.prog 41 [.agg (encA a), .slice tok (f.map encC)] σ (isR (retOf (aheadF a f)) σ) := by
  refine ACalls.intro (rs := [(.tmp 4), (.tmp 5)]) (by kernel_rfl) { own := [], ghosts := [] } Try.func41 (c := Try.f41.body.getD .skip) (by kernel_rfl) (by decide) (by rw [show Try.f41.ntmps = 34 by kernel_rfl]; exact Nat.le_of_ble_eq_true rfl) (by kernel_rfl) ?_
  intro hσ hids
  rw [show comp Try.prog { own := [], ghosts := [] } (Try.f41.body.getD .skip) = c_Ahead by kernel_rfl, show Try.f41.ntmps = 34 by kernel_rfl]
  unfold c_Ahead
  simp only [go_sem, Int.reduceToNat, Int.reduceLE, Int.reduceLT, Nat.reduceBEq, Nat.reduceLT, Nat.reduceAdd, Nat.reduceLeDiff, encA]
  refine (Back_spec n (by omega) a f tok _ ha hf vf).is ?_
  cases hb : backF a f with
  | none =>
    simp only [go_sem, Int.reduceToNat, Int.reduceLE, Int.reduceLT, Nat.reduceBEq, Nat.reduceLT, Nat.reduceAdd, Nat.reduceLeDiff, retO, retOf]
    first | exact rtl (.any) (.bool false) ⟨by rw [aheadF, hb], rfl⟩ | exact rtl0 (.any) (.bool false) ⟨by rw [aheadF, hb], rfl⟩
  | some g =>
    have hg := backF_V ha vf hb
    obtain ⟨k, hk⟩ := neg_one hn ha.pre
    have hkl := negF_len hk
    simp only [go_sem, Int.reduceToNat, Int.reduceLE, Int.reduceLT, Nat.reduceBEq, Nat.reduceLT, Nat.reduceAdd, Nat.reduceLeDiff, retO, retOf]
    refine ((negated_spec n (by omega) [a.pre] _ _ (by simp) (one_V ha.pre))).mono ?_
    rw [hk]
    rintro _ _ ⟨rfl, rfl⟩
    have hbig : bigLen (k.length + g.length) 24 := big_ok (by omega) (by omega)
    have hall : ∀ y ∈ g, (encC y).length = 1 ∧ (encC y).all AV.one = true := fun y _ => ⟨rfl, rfl⟩
    simp only [go_sem, Int.reduceToNat, Int.reduceLE, Int.reduceLT, Nat.reduceBEq, Nat.reduceLT, Nat.reduceAdd, Nat.reduceLeDiff, hbig, ← List.map_append]
    refine ⟨hall, ?_⟩
    refine (reduced_specF (k ++ g) _ _ ((append_V (negF_V (one_V ha.pre) hk) hg.1).ok (by omega) (by rw [List.length_append]; omega))).mono ?_
    rintro _ _ ⟨rfl, rfl⟩
    have he : aheadF a f = if (reducedL (k ++ g)).length ≤ 400 then some (reducedL (k ++ g)) else none := by rw [aheadF, hb, hk]; rfl
    by_cases h4 : (reducedL (k ++ g)).length ≤ 400
    · have h4' : ((reducedL (k ++ g)).length : Int) ≤ 400 := by omega
      simp only [go_sem, Int.reduceToNat, Int.reduceLE, Int.reduceLT, Nat.reduceBEq, Nat.reduceLT, Nat.reduceAdd, Nat.reduceLeDiff, h4']
      rw [he, if_pos h4]
      first | exact rtl (.slice .fresh ((reducedL (k ++ g)).map encCf)) (.bool true) ⟨rfl, rfl⟩ | exact rtl0 (.slice .fresh ((reducedL (k ++ g)).map encCf)) (.bool true) ⟨rfl, rfl⟩
    · have h4' : ¬ ((reducedL (k ++ g)).length : Int) ≤ 400 := by omega
      simp only [go_sem, Int.reduceToNat, Int.reduceLE, Int.reduceLT, Nat.reduceBEq, Nat.reduceLT, Nat.reduceAdd, Nat.reduceLeDiff, h4']
      rw [he, if_neg h4]
      first | exact rtl (.any) (.bool false) ⟨rfl, rfl⟩ | exact rtl0 (.any) (.bool false) ⟨rfl, rfl⟩
def c_toldA : CCode := .seq (.ops [⟨some 4, .move (.lit (.slice .nil [])), none, []⟩, ⟨some 5, .move (.lit (.int .i64 0)), none, []⟩]) (.seq (.seq (.ops [⟨some 6, .move (.tmp 1), none, []⟩, ⟨some 7, .un .not (.tmp 6), none, []⟩, ⟨some 8, .move (.tmp 7), none, []⟩, ⟨some 9, .move (.tmp 0), some (some 8, false), []⟩, ⟨some 10, .blen 1 (.tmp 9), some (some 8, false), []⟩, ⟨some 11, .bin .gtr .none (.tmp 10) (.lit (.int .i64 400)), some (some 8, false), []⟩, ⟨some 12, .pick (.tmp 8) (.lit (.bool true)) (.tmp 11), none, []⟩]) (.cond (.tmp 12) (.seq (.ops [⟨some 4, .move (.lit (.slice .nil [])), none, []⟩, ⟨some 5, .move (.lit (.int .i64 2)), none, []⟩]) .ret) .skip)) (.seq (.ops [⟨some 13, .move (.tmp 0), none, []⟩, ⟨some 4, .move (.tmp 13), none, []⟩, ⟨some 5, .move (.lit (.int .i64 0)), none, []⟩]) .ret))
set_option maxRecDepth 20000 in
theorem told_any (σ : Store) : ACalls Try.prog 39 [.any, .bool false] σ (isR (.tuple [.slice .nil [], .int .i64 2]) σ) := by
  refine ACalls.intro (rs := [(.tmp 4), (.tmp 5)]) (by kernel_rfl) { own := [], ghosts := [] } Try.func39 (c := Try.f39.body.getD .skip) (by kernel_rfl) (by decide) (by rw [show Try.f39.ntmps = 14 by kernel_rfl]; exact Nat.le_of_ble_eq_true rfl) (by kernel_rfl) ?_
  intro hσ hids
  rw [show comp Try.prog { own := [], ghosts := [] } (Try.f39.body.getD .skip) = c_toldA by kernel_rfl, show Try.f39.ntmps = 14 by kernel_rfl]
  unfold c_toldA
  simp only [go_sem, Int.reduceToNat, Int.reduceLE, Int.reduceLT, Nat.reduceBEq, Nat.reduceLT, Nat.reduceAdd, Nat.reduceLeDiff]
  first | exact rtl (.slice .nil []) (.int .i64 2) ⟨rfl, rfl⟩ | exact rtl0 (.slice .nil []) (.int .i64 2) ⟨rfl, rfl⟩
def actE (t : FTask) (i : Int) (f : List (List FLit)) : Int := if checkE t f = 0 then (if 0 ≤ i ∧ i < t.actions.length then 0 else 1) else checkE t f
def c_act : CCode := .seq (.ops [⟨some 3, .box (.tmp 0), none, []⟩, ⟨some 6, .move (.lit (.int .i64 0)), none, []⟩]) (.seq (.seq (.ops [⟨some 8, .load (some 4) (.tmp 3), none, []⟩, ⟨some 9, .move (.tmp 2), none, []⟩, ⟨some 10, .call (.lit (.func 26 [])) [.tmp 8, .tmp 9], none, []⟩, ⟨some 7, .move (.tmp 10), none, []⟩]) (.seq (.ops [⟨some 11, .move (.tmp 7), none, []⟩, ⟨some 12, .bin .neq .none (.tmp 11) (.lit (.int .i64 0)), none, []⟩]) (.cond (.tmp 12) (.seq (.ops [⟨some 13, .move (.tmp 7), none, []⟩, ⟨some 6, .move (.tmp 13), none, []⟩]) .ret) .skip))) (.seq (.seq (.ops [⟨some 14, .move (.tmp 1), none, []⟩, ⟨some 15, .bin .lss .none (.tmp 14) (.lit (.int .i64 0)), none, []⟩, ⟨some 16, .move (.tmp 15), none, []⟩, ⟨some 17, .move (.tmp 1), some (some 16, false), []⟩, ⟨some 18, .faddr 3 (.tmp 3), some (some 16, false), []⟩, ⟨some 19, .load none (.tmp 18), some (some 16, false), []⟩, ⟨some 20, .blen 1 (.tmp 19), some (some 16, false), []⟩, ⟨some 21, .bin .geq .none (.tmp 17) (.tmp 20), some (some 16, false), []⟩, ⟨some 22, .pick (.tmp 16) (.lit (.bool true)) (.tmp 21), none, []⟩]) (.cond (.tmp 22) (.seq (.ops [⟨some 6, .move (.lit (.int .i64 1)), none, []⟩]) .ret) .skip)) (.seq (.ops [⟨some 6, .move (.lit (.int .i64 0)), none, []⟩]) .ret)))
set_option maxRecDepth 20000 in
theorem act_spec (t : FTask) (i : Int) (f : List (List FLit)) (tok : Tok) (σ : Store) (ht : TB t) (hf : f.length ≤ 140737488355328) (hl : ∀ l ∈ f, l.length ≤ 140737488355328) :
    ACalls Try.prog 38 [.agg (encTask t), .int .i64 i, .slice tok (f.map encC)] σ (isR (.int .i64 (actE t i f)) σ) := by
  refine ACalls.intro (rs := [(.tmp 6)]) (by kernel_rfl) { own := [], ghosts := [] } Try.func38 (c := Try.f38.body.getD .skip) (by kernel_rfl) (by decide) (by rw [show Try.f38.ntmps = 23 by kernel_rfl]; exact Nat.le_of_ble_eq_true rfl) (by kernel_rfl) ?_
  intro hσ hids
  rw [show comp Try.prog { own := [], ghosts := [] } (Try.f38.body.getD .skip) = c_act by kernel_rfl, show Try.f38.ntmps = 23 by kernel_rfl]
  unfold c_act
  simp only [go_sem, Int.reduceToNat, Int.reduceLE, Int.reduceLT, Nat.reduceBEq, Nat.reduceLT, Nat.reduceAdd, Nat.reduceLeDiff, encTask]
  refine (check07_spec t f tok _ ht hf hl).is ?_
  by_cases h1 : checkE t f = 0
  · rw [h1]
    by_cases h2 : i < 0
    · simp only [go_sem, Int.reduceToNat, Int.reduceLE, Int.reduceLT, Nat.reduceBEq, Nat.reduceLT, Nat.reduceAdd, Nat.reduceLeDiff, h2]
      first | exact rtk (.int .i64 1) ⟨by rw [actE, if_pos h1, if_neg (by omega)], rfl⟩ | exact rtk0 (.int .i64 1) ⟨by rw [actE, if_pos h1, if_neg (by omega)], rfl⟩
    by_cases h3 : i ≥ t.actions.length
    · simp only [go_sem, Int.reduceToNat, Int.reduceLE, Int.reduceLT, Nat.reduceBEq, Nat.reduceLT, Nat.reduceAdd, Nat.reduceLeDiff, h2, h3]
      first | exact rtk (.int .i64 1) ⟨by rw [actE, if_pos h1, if_neg (by omega)], rfl⟩ | exact rtk0 (.int .i64 1) ⟨by rw [actE, if_pos h1, if_neg (by omega)], rfl⟩
    · simp only [go_sem, Int.reduceToNat, Int.reduceLE, Int.reduceLT, Nat.reduceBEq, Nat.reduceLT, Nat.reduceAdd, Nat.reduceLeDiff, h2, h3]
      first | exact rtk (.int .i64 0) ⟨by rw [actE, if_pos h1, if_pos (by omega)], rfl⟩ | exact rtk0 (.int .i64 0) ⟨by rw [actE, if_pos h1, if_pos (by omega)], rfl⟩
  · have h1' : (checkE t f != 0) = true := by simpa using h1
    simp only [go_sem, Int.reduceToNat, Int.reduceLE, Int.reduceLT, Nat.reduceBEq, Nat.reduceLT, Nat.reduceAdd, Nat.reduceLeDiff, h1']
    first | exact rtw (v := .int .i64 _) wkS ⟨by rw [actE, if_neg h1], rfl⟩ | exact rtw0 (v := .int .i64 _) wkS ⟨by rw [actE, if_neg h1], rfl⟩
/-- What an exported function that makes a formula comes back as: the error ahead, or the formula, or 'too large'. -/
def retF (e : Int) (o : Option (List (List FLit))) : AV :=
  if e = 0 then (match o with | none => .tuple [.slice .nil [], .int .i64 2] | some h => .tuple [.slice .unk (h.map encC), .int .i64 0]) else .tuple [.slice .nil [], .int .i64 e]
def retFf (e : Int) (o : Option (List (List FLit))) : AV :=
  if e = 0 then (match o with | none => .tuple [.slice .nil [], .int .i64 2] | some h => .tuple [.slice .fresh (h.map encCf), .int .i64 0]) else .tuple [.slice .nil [], .int .i64 e]
theorem retFf_wk (e : Int) (o : Option (List (List FLit))) : Wk (retFf e o) (retF e o) := by
  unfold retFf retF
  by_cases h : e = 0
  · rw [if_pos h, if_pos h]
    cases o with
    | none => exact .refl _
    | some h => exact Wk.tuple (.cons (Wk.cfu _ _) (WkL.one (.refl _)))
  · rw [if_neg h, if_neg h]; exact .refl _
theorem retFf_ne {e : Int} (h : ¬ e = 0) (o : Option (List (List FLit))) : retFf e o = .tuple [.slice .nil [], .int .i64 e] := by unfold retFf; rw [if_neg h]
/-! ### What a valid task and formula are -/
theorem isForm_V {n : Int} {f : List (List FLit)} (h : isForm n f = true) : f.length ≤ 400 ∧ vF n f := by
  rw [isForm, Bool.and_eq_true] at h
  refine ⟨of_decide_eq_true h.1, fun l hl => ?_⟩
  exact List.all_eq_true.1 h.2 l hl
theorem checkE_zero {t : FTask} {f : List (List FLit)} (h : checkE t f = 0) : validB t = true ∧ isForm t.facts.length f = true := by
  unfold checkE at h
  cases h1 : validB t with
  | false => rw [h1] at h; simp at h
  | true =>
    cases h2 : isForm t.facts.length f with
    | false => rw [h1, h2] at h; simp at h
    | true => exact ⟨rfl, rfl⟩
theorem fineE_zero {t : FTask} : ∀ {fs : List (List (List FLit))}, fineE t fs = 0 → ∀ f ∈ fs, checkE t f = 0
  | [], _, f, hf => by simp at hf
  | g :: r, h, f, hf => by
    rw [fineE] at h
    by_cases h1 : checkE t g = 0
    · rw [if_pos h1] at h
      rcases List.mem_cons.1 hf with rfl | hf
      · exact h1
      · exact fineE_zero h f hf
    · rw [if_neg h1] at h; exact absurd h h1
theorem valid_facts {t : FTask} (h : validB t = true) : (t.facts.length : Int) ≤ 200 := by
  rw [validB, Bool.and_eq_true] at h
  have := of_decide_eq_true h.1; omega
theorem valid_act {t : FTask} (h : validB t = true) {a : FAct} (ha : a ∈ t.actions) : AV_ t.facts.length a := by
  simp only [validB, Bool.and_eq_true] at h
  have := List.all_eq_true.1 h.2.2.2.2.2.2 a ha
  simp only [actB, Bool.and_eq_true] at this
  obtain ⟨_, _, h3, h4, h5⟩ := this
  refine ⟨h3, fun e he => ?_, by have := of_decide_eq_true h4; omega⟩
  have := List.all_eq_true.1 h5 e he
  simp only [effB, Bool.and_eq_true] at this
  exact this.1
def c_Regress : CCode := .seq (.ops [⟨some 3, .box (.tmp 0), none, []⟩, ⟨some 6, .move (.lit (.slice .nil [])), none, []⟩, ⟨some 7, .move (.lit (.int .i64 0)), none, []⟩]) (.seq (.seq (.ops [⟨some 9, .load (some 4) (.tmp 3), none, []⟩, ⟨some 10, .move (.tmp 1), none, []⟩, ⟨some 11, .move (.tmp 2), none, []⟩, ⟨some 12, .call (.lit (.func 38 [])) [.tmp 9, .tmp 10, .tmp 11], none, []⟩, ⟨some 8, .move (.tmp 12), none, []⟩]) (.seq (.ops [⟨some 13, .move (.tmp 8), none, []⟩, ⟨some 14, .bin .neq .none (.tmp 13) (.lit (.int .i64 0)), none, []⟩]) (.cond (.tmp 14) (.seq (.ops [⟨some 15, .move (.tmp 8), none, []⟩, ⟨some 6, .move (.lit (.slice .nil [])), none, []⟩, ⟨some 7, .move (.tmp 15), none, []⟩]) .ret) .skip))) (.seq (.ops [⟨some 16, .faddr 3 (.tmp 3), none, []⟩, ⟨some 17, .load none (.tmp 16), none, []⟩, ⟨some 18, .move (.tmp 1), none, []⟩, ⟨some 19, .iaddr 4 (.tmp 17) (.tmp 18), none, []⟩, ⟨some 20, .load (some 4) (.tmp 19), none, []⟩, ⟨some 21, .move (.tmp 2), none, []⟩, ⟨some 22, .call (.lit (.func 40 [])) [.tmp 20, .tmp 21], none, []⟩, ⟨some 23, .extract (.tmp 22) 0, none, []⟩, ⟨some 24, .extract (.tmp 22) 1, none, []⟩, ⟨some 25, .call (.lit (.func 39 [])) [.tmp 23, .tmp 24], none, []⟩, ⟨some 26, .extract (.tmp 25) 0, none, []⟩, ⟨some 27, .extract (.tmp 25) 1, none, []⟩, ⟨some 6, .move (.tmp 26), none, []⟩, ⟨some 7, .move (.tmp 27), none, []⟩]) .ret))
set_option maxRecDepth 20000 in
theorem Regress_specF (t : FTask) (i : Int) (f : List (List FLit)) (tok : Tok) (σ : Store) (ht : TB t) (hf : FB f) :
    ACalls Try.prog 14 [.agg (encTask t), .int .i64 i, .slice tok (f.map encC)] σ (isR (retFf (actE t i f) (backF (t.actions.getD i.toNat ⟨.empty, 0, [], []⟩) f)) σ) := by
  refine ACalls.intro (rs := [(.tmp 6), (.tmp 7)]) (by kernel_rfl) { own := [], ghosts := [] } Try.func14 (c := Try.f14.body.getD .skip) (by kernel_rfl) (by decide) (by rw [show Try.f14.ntmps = 28 by kernel_rfl]; exact Nat.le_of_ble_eq_true rfl) (by kernel_rfl) ?_
  intro hσ hids
  rw [show comp Try.prog { own := [], ghosts := [] } (Try.f14.body.getD .skip) = c_Regress by kernel_rfl, show Try.f14.ntmps = 28 by kernel_rfl]
  unfold c_Regress
  simp only [go_sem, Int.reduceToNat, Int.reduceLE, Int.reduceLT, Nat.reduceBEq, Nat.reduceLT, Nat.reduceAdd, Nat.reduceLeDiff, encTask]
  refine (act_spec t i f tok _ ht hf.1 hf.2).is ?_
  by_cases h1 : actE t i f = 0
  · have h0 := h1
    unfold actE at h0
    by_cases hc : checkE t f = 0
    · rw [if_pos hc] at h0
      by_cases hi : 0 ≤ i ∧ i < t.actions.length
      · have hv := checkE_zero hc
        have hfv := isForm_V hv.2
        have hn := valid_facts hv.1
        obtain ⟨a, ha⟩ : ∃ a, t.actions[i.toNat]? = some a := get_ex (by omega)
        have hA := valid_act hv.1 (List.mem_of_getElem? ha)
        have hg : t.actions.getD i.toNat ⟨.empty, 0, [], []⟩ = a := by rw [List.getD_eq_getElem?_getD, ha]; rfl
        rw [hg, h1]
        simp only [go_sem, Int.reduceToNat, Int.reduceLE, Int.reduceLT, Nat.reduceBEq, Nat.reduceLT, Nat.reduceAdd, Nat.reduceLeDiff, hi.1, ha, encA]
        refine (Back_specF t.facts.length (by omega) a f tok _ hA (by have := hfv.1; omega) hfv.2).is ?_
        cases hb : backF a f with
        | none =>
          simp only [go_sem, Int.reduceToNat, Int.reduceLE, Int.reduceLT, Nat.reduceBEq, Nat.reduceLT, Nat.reduceAdd, Nat.reduceLeDiff, retO, retOf]
          refine (told_any _).is ?_
          simp only [go_sem, Int.reduceToNat, Int.reduceLE, Int.reduceLT, Nat.reduceBEq, Nat.reduceLT, Nat.reduceAdd, Nat.reduceLeDiff]
          first | exact rtl (.slice .nil []) (.int .i64 2) ⟨rfl, rfl⟩ | exact rtl0 (.slice .nil []) (.int .i64 2) ⟨rfl, rfl⟩
        | some h =>
          have hl := (backF_V hA hfv.2 hb).2
          simp only [go_sem, Int.reduceToNat, Int.reduceLE, Int.reduceLT, Nat.reduceBEq, Nat.reduceLT, Nat.reduceAdd, Nat.reduceLeDiff, retO, retOf]
          refine (told_spec _ _ true _).is ?_
          rw [if_pos ⟨rfl, by rw [List.length_map]; exact hl⟩]
          simp only [go_sem, Int.reduceToNat, Int.reduceLE, Int.reduceLT, Nat.reduceBEq, Nat.reduceLT, Nat.reduceAdd, Nat.reduceLeDiff]
          first | exact rtl (.slice .fresh (h.map encCf)) (.int .i64 0) ⟨rfl, rfl⟩ | exact rtl0 (.slice .fresh (h.map encCf)) (.int .i64 0) ⟨rfl, rfl⟩
      · rw [if_neg hi] at h0; simp at h0
    · rw [if_neg hc] at h0; exact absurd h0 hc
  · have h1' : (actE t i f != 0) = true := by simpa using h1
    simp only [go_sem, Int.reduceToNat, Int.reduceLE, Int.reduceLT, Nat.reduceBEq, Nat.reduceLT, Nat.reduceAdd, Nat.reduceLeDiff, h1']
    first | exact rtl (.slice .nil []) (.int .i64 (actE t i f)) ⟨(retFf_ne h1 _).symm, rfl⟩ | exact rtl0 (.slice .nil []) (.int .i64 (actE t i f)) ⟨(retFf_ne h1 _).symm, rfl⟩
def c_Weakest : CCode := .seq (.ops [⟨some 3, .box (.tmp 0), none, []⟩, ⟨some 6, .move (.lit (.slice .nil [])), none, []⟩, ⟨some 7, .move (.lit (.int .i64 0)), none, []⟩]) (.seq (.seq (.ops [⟨some 9, .load (some 4) (.tmp 3), none, []⟩, ⟨some 10, .move (.tmp 1), none, []⟩, ⟨some 11, .move (.tmp 2), none, []⟩, ⟨some 12, .call (.lit (.func 38 [])) [.tmp 9, .tmp 10, .tmp 11], none, []⟩, ⟨some 8, .move (.tmp 12), none, []⟩]) (.seq (.ops [⟨some 13, .move (.tmp 8), none, []⟩, ⟨some 14, .bin .neq .none (.tmp 13) (.lit (.int .i64 0)), none, []⟩]) (.cond (.tmp 14) (.seq (.ops [⟨some 15, .move (.tmp 8), none, []⟩, ⟨some 6, .move (.lit (.slice .nil [])), none, []⟩, ⟨some 7, .move (.tmp 15), none, []⟩]) .ret) .skip))) (.seq (.ops [⟨some 16, .faddr 3 (.tmp 3), none, []⟩, ⟨some 17, .load none (.tmp 16), none, []⟩, ⟨some 18, .move (.tmp 1), none, []⟩, ⟨some 19, .iaddr 4 (.tmp 17) (.tmp 18), none, []⟩, ⟨some 20, .load (some 4) (.tmp 19), none, []⟩, ⟨some 21, .move (.tmp 2), none, []⟩, ⟨some 22, .call (.lit (.func 41 [])) [.tmp 20, .tmp 21], none, []⟩, ⟨some 23, .extract (.tmp 22) 0, none, []⟩, ⟨some 24, .extract (.tmp 22) 1, none, []⟩, ⟨some 25, .call (.lit (.func 39 [])) [.tmp 23, .tmp 24], none, []⟩, ⟨some 26, .extract (.tmp 25) 0, none, []⟩, ⟨some 27, .extract (.tmp 25) 1, none, []⟩, ⟨some 6, .move (.tmp 26), none, []⟩, ⟨some 7, .move (.tmp 27), none, []⟩]) .ret))
set_option maxRecDepth 20000 in
theorem Weakest_specF (t : FTask) (i : Int) (f : List (List FLit)) (tok : Tok) (σ : Store) (ht : TB t) (hf : FB f) :
    ACalls Try.prog 15 [.agg (encTask t), .int .i64 i, .slice tok (f.map encC)] σ (isR (retFf (actE t i f) (aheadF (t.actions.getD i.toNat ⟨.empty, 0, [], []⟩) f)) σ) := by
  refine ACalls.intro (rs := [(.tmp 6), (.tmp 7)]) (by kernel_rfl) { own := [], ghosts := [] } Try.func15 (c := Try.f15.body.getD .skip) (by kernel_rfl) (by decide) (by rw [show Try.f15.ntmps = 28 by kernel_rfl]; exact Nat.le_of_ble_eq_true rfl) (by kernel_rfl) ?_
  intro hσ hids
  rw [show comp Try.prog { own := [], ghosts := [] } (Try.f15.body.getD .skip) = c_Weakest by kernel_rfl, show Try.f15.ntmps = 28 by kernel_rfl]
  unfold c_Weakest
  simp only [go_sem, Int.reduceToNat, Int.reduceLE, Int.reduceLT, Nat.reduceBEq, Nat.reduceLT, Nat.reduceAdd, Nat.reduceLeDiff, encTask]
  refine (act_spec t i f tok _ ht hf.1 hf.2).is ?_
  by_cases h1 : actE t i f = 0
  · have h0 := h1
    unfold actE at h0
    by_cases hc : checkE t f = 0
    · rw [if_pos hc] at h0
      by_cases hi : 0 ≤ i ∧ i < t.actions.length
      · have hv := checkE_zero hc
        have hfv := isForm_V hv.2
        have hn := valid_facts hv.1
        obtain ⟨a, ha⟩ : ∃ a, t.actions[i.toNat]? = some a := get_ex (by omega)
        have hA := valid_act hv.1 (List.mem_of_getElem? ha)
        have hg : t.actions.getD i.toNat ⟨.empty, 0, [], []⟩ = a := by rw [List.getD_eq_getElem?_getD, ha]; rfl
        rw [hg, h1]
        simp only [go_sem, Int.reduceToNat, Int.reduceLE, Int.reduceLT, Nat.reduceBEq, Nat.reduceLT, Nat.reduceAdd, Nat.reduceLeDiff, hi.1, ha, encA]
        refine (Ahead_specF t.facts.length (by omega) a f tok _ hA (by have := hfv.1; omega) hfv.2).is ?_
        cases hb : aheadF a f with
        | none =>
          simp only [go_sem, Int.reduceToNat, Int.reduceLE, Int.reduceLT, Nat.reduceBEq, Nat.reduceLT, Nat.reduceAdd, Nat.reduceLeDiff, retO, retOf]
          refine (told_any _).is ?_
          simp only [go_sem, Int.reduceToNat, Int.reduceLE, Int.reduceLT, Nat.reduceBEq, Nat.reduceLT, Nat.reduceAdd, Nat.reduceLeDiff]
          first | exact rtl (.slice .nil []) (.int .i64 2) ⟨rfl, rfl⟩ | exact rtl0 (.slice .nil []) (.int .i64 2) ⟨rfl, rfl⟩
        | some h =>
          have hl : h.length ≤ 400 := by
            unfold aheadF at hb
            cases hq : backF a f with
            | none => rw [hq] at hb; simp at hb
            | some g =>
              rw [hq] at hb; simp only at hb
              split at hb
              · injection hb with hb; subst hb; assumption
              · simp at hb
          simp only [go_sem, Int.reduceToNat, Int.reduceLE, Int.reduceLT, Nat.reduceBEq, Nat.reduceLT, Nat.reduceAdd, Nat.reduceLeDiff, retO, retOf]
          refine (told_spec _ _ true _).is ?_
          rw [if_pos ⟨rfl, by rw [List.length_map]; exact hl⟩]
          simp only [go_sem, Int.reduceToNat, Int.reduceLE, Int.reduceLT, Nat.reduceBEq, Nat.reduceLT, Nat.reduceAdd, Nat.reduceLeDiff]
          first | exact rtl (.slice .fresh (h.map encCf)) (.int .i64 0) ⟨rfl, rfl⟩ | exact rtl0 (.slice .fresh (h.map encCf)) (.int .i64 0) ⟨rfl, rfl⟩
      · rw [if_neg hi] at h0; simp at h0
    · rw [if_neg hc] at h0; exact absurd h0 hc
  · have h1' : (actE t i f != 0) = true := by simpa using h1
    simp only [go_sem, Int.reduceToNat, Int.reduceLE, Int.reduceLT, Nat.reduceBEq, Nat.reduceLT, Nat.reduceAdd, Nat.reduceLeDiff, h1']
    first | exact rtl (.slice .nil []) (.int .i64 (actE t i f)) ⟨(retFf_ne h1 _).symm, rfl⟩ | exact rtl0 (.slice .nil []) (.int .i64 (actE t i f)) ⟨(retFf_ne h1 _).symm, rfl⟩
theorem Regress_spec (t : FTask) (i : Int) (f : List (List FLit)) (tok : Tok) (σ : Store) (ht : TB t) (hf : FB f) :
    ACalls Try.prog 14 [.agg (encTask t), .int .i64 i, .slice tok (f.map encC)] σ (isR (retF (actE t i f) (backF (t.actions.getD i.toNat ⟨.empty, 0, [], []⟩) f)) σ) := (Regress_specF t i f tok σ ht hf).wkR (retFf_wk _ _)
theorem Weakest_spec (t : FTask) (i : Int) (f : List (List FLit)) (tok : Tok) (σ : Store) (ht : TB t) (hf : FB f) :
    ACalls Try.prog 15 [.agg (encTask t), .int .i64 i, .slice tok (f.map encC)] σ (isR (retF (actE t i f) (aheadF (t.actions.getD i.toNat ⟨.empty, 0, [], []⟩) f)) σ) := (Weakest_specF t i f tok σ ht hf).wkR (retFf_wk _ _)
end Go.Proofs.Ytbnhijapbnfohaa
namespace Go.Proofs.Ytbnhijapbnfohaa
open Go.Ahl
theorem wk_two (t1 t2 t3 : Tok) (f g : List (List FLit)) : Wk (.slice t3 [[.slice t1 (f.map encC)], [.slice t2 (g.map encC)]]) (.slice .unk ([f, g].map encF)) :=
  Wk.sl _ (.cons (WkL.one (Wk.unk _ _)) (WkLL.one (WkL.one (Wk.unk _ _))))
theorem wk_one (t1 t3 : Tok) (f : List (List FLit)) : Wk (.slice t3 [[.slice t1 (f.map encC)]]) (.slice .unk ([f].map encF)) :=
  Wk.sl _ (WkLL.one (WkL.one (Wk.unk _ _)))
theorem fine_two {t : FTask} {f g : List (List FLit)} (h : fineE t [f, g] = 0) : (t.facts.length : Int) ≤ 200 ∧ validB t = true ∧ f.length ≤ 400 ∧ g.length ≤ 400 ∧ vF t.facts.length f ∧ vF t.facts.length g := by
  have h1 := checkE_zero (fineE_zero h f (by simp))
  have h2 := checkE_zero (fineE_zero h g (by simp))
  have f1 := isForm_V h1.2
  have f2 := isForm_V h2.2
  exact ⟨valid_facts h1.1, h1.1, f1.1, f2.1, f1.2, f2.2⟩
theorem fine_one {t : FTask} {f : List (List FLit)} (h : fineE t [f] = 0) : (t.facts.length : Int) ≤ 200 ∧ validB t = true ∧ f.length ≤ 400 ∧ vF t.facts.length f := by
  have h1 := checkE_zero (fineE_zero h f (by simp))
  have f1 := isForm_V h1.2
  exact ⟨valid_facts h1.1, h1.1, f1.1, f1.2⟩
def upTo (o : Option (List (List FLit))) : Option (List (List FLit)) := match o with
  | none => none
  | some h => if h.length ≤ 400 then some h else none
def c_And : CCode := .seq (.ops [⟨some 3, .box (.tmp 0), none, []⟩, ⟨some 6, .move (.lit (.slice .nil [])), none, []⟩, ⟨some 7, .move (.lit (.int .i64 0)), none, []⟩]) (.seq (.seq (.ops [⟨some 9, .load (some 4) (.tmp 3), none, []⟩, ⟨some 10, .move (.tmp 1), none, []⟩, ⟨some 11, .move (.tmp 2), none, []⟩, ⟨some 12, .bslice 1 [.tmp 10, .tmp 11] false, none, []⟩, ⟨some 13, .call (.lit (.func 32 [])) [.tmp 9, .tmp 12], none, []⟩, ⟨some 8, .move (.tmp 13), none, []⟩]) (.seq (.ops [⟨some 14, .move (.tmp 8), none, []⟩, ⟨some 15, .bin .neq .none (.tmp 14) (.lit (.int .i64 0)), none, []⟩]) (.cond (.tmp 15) (.seq (.ops [⟨some 16, .move (.tmp 8), none, []⟩, ⟨some 6, .move (.lit (.slice .nil [])), none, []⟩, ⟨some 7, .move (.tmp 16), none, []⟩]) .ret) .skip))) (.seq (.ops [⟨some 17, .move (.tmp 1), none, []⟩, ⟨some 18, .move (.tmp 2), none, []⟩, ⟨some 19, .call (.lit (.func 45 [])) [.tmp 17, .tmp 18], none, []⟩, ⟨some 20, .extract (.tmp 19) 0, none, []⟩, ⟨some 21, .extract (.tmp 19) 1, none, []⟩, ⟨some 22, .call (.lit (.func 39 [])) [.tmp 20, .tmp 21], none, []⟩, ⟨some 23, .extract (.tmp 22) 0, none, []⟩, ⟨some 24, .extract (.tmp 22) 1, none, []⟩, ⟨some 6, .move (.tmp 23), none, []⟩, ⟨some 7, .move (.tmp 24), none, []⟩]) .ret))
set_option maxRecDepth 20000 in
theorem And_specF (t : FTask) (f g : List (List FLit)) (tok tok' : Tok) (σ : Store) (ht : TB t) (hf : FB f) (hg : FB g) :
    ACalls Try.prog 19 [.agg (encTask t), .slice tok (f.map encC), .slice tok' (g.map encC)] σ (isR (retFf (fineE t [f, g]) (upTo (bothF f g))) σ) := by
  refine ACalls.intro (rs := [(.tmp 6), (.tmp 7)]) (by kernel_rfl) { own := [], ghosts := [] } Try.func19 (c := Try.f19.body.getD .skip) (by kernel_rfl) (by decide) (by rw [show Try.f19.ntmps = 25 by kernel_rfl]; exact Nat.le_of_ble_eq_true rfl) (by kernel_rfl) ?_
  intro hσ hids
  rw [show comp Try.prog { own := [], ghosts := [] } (Try.f19.body.getD .skip) = c_And by kernel_rfl, show Try.f19.ntmps = 25 by kernel_rfl]
  unfold c_And
  simp only [go_sem, Int.reduceToNat, Int.reduceLE, Int.reduceLT, Nat.reduceBEq, Nat.reduceLT, Nat.reduceAdd, Nat.reduceLeDiff, encTask]
  refine ACalls.is (ACalls.wk (fine07_spec t [f, g] .unk _ ht (by simp) (by intro x hx; simp at hx; rcases hx with rfl | rfl; exact hf; exact hg)) (.cons (.refl _) (WkL.one (wk_two _ _ _ _ _)))) ?_
  by_cases h1 : fineE t [f, g] = 0
  · obtain ⟨hn, _, l1, l2, v1, v2⟩ := fine_two h1
    rw [h1]
    simp only [go_sem, Int.reduceToNat, Int.reduceLE, Int.reduceLT, Nat.reduceBEq, Nat.reduceLT, Nat.reduceAdd, Nat.reduceLeDiff]
    refine (Both_specF t.facts.length (by omega) f g _ _ _ (by omega) (by omega) v1 v2).mono ?_
    cases hb : bothF f g with
    | none =>
      rintro _ _ ⟨rfl, rfl⟩
      simp only [go_sem, Int.reduceToNat, Int.reduceLE, Int.reduceLT, Nat.reduceBEq, Nat.reduceLT, Nat.reduceAdd, Nat.reduceLeDiff]
      refine (told_spec [] .nil false _).is ?_
      rw [if_neg (by simp)]
      simp only [go_sem, Int.reduceToNat, Int.reduceLE, Int.reduceLT, Nat.reduceBEq, Nat.reduceLT, Nat.reduceAdd, Nat.reduceLeDiff]
      first | exact rtl (.slice .nil []) (.int .i64 2) ⟨rfl, rfl⟩ | exact rtl0 (.slice .nil []) (.int .i64 2) ⟨rfl, rfl⟩
    | some h =>
      rintro _ _ ⟨rfl, rfl⟩
      simp only [go_sem, Int.reduceToNat, Int.reduceLE, Int.reduceLT, Nat.reduceBEq, Nat.reduceLT, Nat.reduceAdd, Nat.reduceLeDiff]
      refine (told_spec (h.map encCf) _ _ _).is ?_
      by_cases h4 : h.length ≤ 400
      · rw [if_pos ⟨by simpa using h4, by rw [List.length_map]; exact h4⟩]
        simp only [go_sem, Int.reduceToNat, Int.reduceLE, Int.reduceLT, Nat.reduceBEq, Nat.reduceLT, Nat.reduceAdd, Nat.reduceLeDiff, upTo, h4]
        first | exact rtl (.slice .fresh (h.map encCf)) (.int .i64 0) ⟨rfl, rfl⟩ | exact rtl0 (.slice .fresh (h.map encCf)) (.int .i64 0) ⟨rfl, rfl⟩
      · rw [if_neg (fun q => h4 (by simpa using q.1))]
        simp only [go_sem, Int.reduceToNat, Int.reduceLE, Int.reduceLT, Nat.reduceBEq, Nat.reduceLT, Nat.reduceAdd, Nat.reduceLeDiff, upTo, h4]
        first | exact rtl (.slice .nil []) (.int .i64 2) ⟨rfl, rfl⟩ | exact rtl0 (.slice .nil []) (.int .i64 2) ⟨rfl, rfl⟩
  · have h1' : (fineE t [f, g] != 0) = true := by simpa using h1
    simp only [go_sem, Int.reduceToNat, Int.reduceLE, Int.reduceLT, Nat.reduceBEq, Nat.reduceLT, Nat.reduceAdd, Nat.reduceLeDiff, h1']
    first | exact rtl (.slice .nil []) (.int .i64 (fineE t [f, g])) ⟨(retFf_ne h1 _).symm, rfl⟩ | exact rtl0 (.slice .nil []) (.int .i64 (fineE t [f, g])) ⟨(retFf_ne h1 _).symm, rfl⟩
def c_Or : CCode := .seq (.ops [⟨some 3, .box (.tmp 0), none, []⟩, ⟨some 6, .move (.lit (.slice .nil [])), none, []⟩, ⟨some 7, .move (.lit (.int .i64 0)), none, []⟩]) (.seq (.seq (.ops [⟨some 9, .load (some 4) (.tmp 3), none, []⟩, ⟨some 10, .move (.tmp 1), none, []⟩, ⟨some 11, .move (.tmp 2), none, []⟩, ⟨some 12, .bslice 1 [.tmp 10, .tmp 11] false, none, []⟩, ⟨some 13, .call (.lit (.func 32 [])) [.tmp 9, .tmp 12], none, []⟩, ⟨some 8, .move (.tmp 13), none, []⟩]) (.seq (.ops [⟨some 14, .move (.tmp 8), none, []⟩, ⟨some 15, .bin .neq .none (.tmp 14) (.lit (.int .i64 0)), none, []⟩]) (.cond (.tmp 15) (.seq (.ops [⟨some 16, .move (.tmp 8), none, []⟩, ⟨some 6, .move (.lit (.slice .nil [])), none, []⟩, ⟨some 7, .move (.tmp 16), none, []⟩]) .ret) .skip))) (.seq (.ops [⟨some 17, .move (.tmp 1), none, []⟩, ⟨some 18, .call (.lit (.func 47 [])) [.tmp 17], none, []⟩, ⟨some 19, .move (.tmp 2), none, []⟩, ⟨some 20, .bappend 1 24 (.tmp 18) (.tmp 19) false, none, []⟩, ⟨some 21, .call (.lit (.func 46 [])) [.tmp 20], none, []⟩, ⟨some 22, .call (.lit (.func 39 [])) [.tmp 21, .lit (.bool true)], none, []⟩, ⟨some 23, .extract (.tmp 22) 0, none, []⟩, ⟨some 24, .extract (.tmp 22) 1, none, []⟩, ⟨some 6, .move (.tmp 23), none, []⟩, ⟨some 7, .move (.tmp 24), none, []⟩]) .ret))
set_option maxRecDepth 20000 in
theorem Or_specF (t : FTask) (f g : List (List FLit)) (tok tok' : Tok) (σ : Store) (ht : TB t) (hf : FB f) (hg : FB g) :
    ACalls Try.prog 20 [.agg (encTask t), .slice tok (f.map encC), .slice tok' (g.map encC)] σ (isR (retFf (fineE t [f, g]) (upTo (some (reducedL (f ++ g))))) σ) := by
  refine ACalls.intro (rs := [(.tmp 6), (.tmp 7)]) (by kernel_rfl) { own := [], ghosts := [] } Try.func20 (c := Try.f20.body.getD .skip) (by kernel_rfl) (by decide) (by rw [show Try.f20.ntmps = 25 by kernel_rfl]; exact Nat.le_of_ble_eq_true rfl) (by kernel_rfl) ?_
  intro hσ hids
  rw [show comp Try.prog { own := [], ghosts := [] } (Try.f20.body.getD .skip) = c_Or by kernel_rfl, show Try.f20.ntmps = 25 by kernel_rfl]
  unfold c_Or
  simp only [go_sem, Int.reduceToNat, Int.reduceLE, Int.reduceLT, Nat.reduceBEq, Nat.reduceLT, Nat.reduceAdd, Nat.reduceLeDiff, encTask]
  refine ACalls.is (ACalls.wk (fine07_spec t [f, g] .unk _ ht (by simp) (by intro x hx; simp at hx; rcases hx with rfl | rfl; exact hf; exact hg)) (.cons (.refl _) (WkL.one (wk_two _ _ _ _ _)))) ?_
  by_cases h1 : fineE t [f, g] = 0
  · obtain ⟨hn, _, l1, l2, v1, v2⟩ := fine_two h1
    rw [h1]
    simp only [go_sem, Int.reduceToNat, Int.reduceLE, Int.reduceLT, Nat.reduceBEq, Nat.reduceLT, Nat.reduceAdd, Nat.reduceLeDiff]
    refine (cloneT_spec f _ _ (by omega)).mono ?_
    rintro _ _ ⟨rfl, rfl⟩
    have hbig : bigLen (f.length + g.length) 24 := big_ok (by omega) (by omega)
    have hall : ∀ y ∈ g, (encC y).length = 1 ∧ (encC y).all AV.one = true := fun y _ => ⟨rfl, rfl⟩
    simp only [go_sem, Int.reduceToNat, Int.reduceLE, Int.reduceLT, Nat.reduceBEq, Nat.reduceLT, Nat.reduceAdd, Nat.reduceLeDiff, hbig, ← List.map_append]
    refine ⟨hall, ?_⟩
    refine (reduced_specF (f ++ g) _ _ ((append_V v1 v2).ok (by omega) (by rw [List.length_append]; omega))).mono ?_
    rintro _ _ ⟨rfl, rfl⟩
    generalize reducedL (f ++ g) = h
    simp only [go_sem, Int.reduceToNat, Int.reduceLE, Int.reduceLT, Nat.reduceBEq, Nat.reduceLT, Nat.reduceAdd, Nat.reduceLeDiff]
    refine (told_spec (h.map encCf) _ _ _).is ?_
    by_cases h4 : h.length ≤ 400
    · rw [if_pos ⟨rfl, by rw [List.length_map]; exact h4⟩]
      simp only [go_sem, Int.reduceToNat, Int.reduceLE, Int.reduceLT, Nat.reduceBEq, Nat.reduceLT, Nat.reduceAdd, Nat.reduceLeDiff, upTo, h4]
      first | exact rtl (.slice .fresh (h.map encCf)) (.int .i64 0) ⟨rfl, rfl⟩ | exact rtl0 (.slice .fresh (h.map encCf)) (.int .i64 0) ⟨rfl, rfl⟩
    · rw [if_neg (fun q => h4 (by simpa using q.2))]
      simp only [go_sem, Int.reduceToNat, Int.reduceLE, Int.reduceLT, Nat.reduceBEq, Nat.reduceLT, Nat.reduceAdd, Nat.reduceLeDiff, upTo, h4]
      first | exact rtl (.slice .nil []) (.int .i64 2) ⟨rfl, rfl⟩ | exact rtl0 (.slice .nil []) (.int .i64 2) ⟨rfl, rfl⟩
  · have h1' : (fineE t [f, g] != 0) = true := by simpa using h1
    simp only [go_sem, Int.reduceToNat, Int.reduceLE, Int.reduceLT, Nat.reduceBEq, Nat.reduceLT, Nat.reduceAdd, Nat.reduceLeDiff, h1']
    first | exact rtl (.slice .nil []) (.int .i64 (fineE t [f, g])) ⟨(retFf_ne h1 _).symm, rfl⟩ | exact rtl0 (.slice .nil []) (.int .i64 (fineE t [f, g])) ⟨(retFf_ne h1 _).symm, rfl⟩
def c_Not : CCode := .seq (.ops [⟨some 2, .box (.tmp 0), none, []⟩, ⟨some 4, .move (.lit (.slice .nil [])), none, []⟩, ⟨some 5, .move (.lit (.int .i64 0)), none, []⟩]) (.seq (.seq (.ops [⟨some 7, .load (some 4) (.tmp 2), none, []⟩, ⟨some 8, .move (.tmp 1), none, []⟩, ⟨some 9, .bslice 1 [.tmp 8] false, none, []⟩, ⟨some 10, .call (.lit (.func 32 [])) [.tmp 7, .tmp 9], none, []⟩, ⟨some 6, .move (.tmp 10), none, []⟩]) (.seq (.ops [⟨some 11, .move (.tmp 6), none, []⟩, ⟨some 12, .bin .neq .none (.tmp 11) (.lit (.int .i64 0)), none, []⟩]) (.cond (.tmp 12) (.seq (.ops [⟨some 13, .move (.tmp 6), none, []⟩, ⟨some 4, .move (.lit (.slice .nil [])), none, []⟩, ⟨some 5, .move (.tmp 13), none, []⟩]) .ret) .skip))) (.seq (.ops [⟨some 14, .move (.tmp 1), none, []⟩, ⟨some 15, .call (.lit (.func 48 [])) [.tmp 14], none, []⟩, ⟨some 16, .extract (.tmp 15) 0, none, []⟩, ⟨some 17, .extract (.tmp 15) 1, none, []⟩, ⟨some 18, .call (.lit (.func 39 [])) [.tmp 16, .tmp 17], none, []⟩, ⟨some 19, .extract (.tmp 18) 0, none, []⟩, ⟨some 20, .extract (.tmp 18) 1, none, []⟩, ⟨some 4, .move (.tmp 19), none, []⟩, ⟨some 5, .move (.tmp 20), none, []⟩]) .ret))
set_option maxRecDepth 20000 in
theorem Not_specF (t : FTask) (f : List (List FLit)) (tok : Tok) (σ : Store) (ht : TB t) (hf : FB f) :
    ACalls Try.prog 21 [.agg (encTask t), .slice tok (f.map encC)] σ (isR (retFf (fineE t [f]) (negF f)) σ) := by
  refine ACalls.intro (rs := [(.tmp 4), (.tmp 5)]) (by kernel_rfl) { own := [], ghosts := [] } Try.func21 (c := Try.f21.body.getD .skip) (by kernel_rfl) (by decide) (by rw [show Try.f21.ntmps = 21 by kernel_rfl]; exact Nat.le_of_ble_eq_true rfl) (by kernel_rfl) ?_
  intro hσ hids
  rw [show comp Try.prog { own := [], ghosts := [] } (Try.f21.body.getD .skip) = c_Not by kernel_rfl, show Try.f21.ntmps = 21 by kernel_rfl]
  unfold c_Not
  simp only [go_sem, Int.reduceToNat, Int.reduceLE, Int.reduceLT, Nat.reduceBEq, Nat.reduceLT, Nat.reduceAdd, Nat.reduceLeDiff, encTask]
  refine ACalls.is (ACalls.wk (fine07_spec t [f] .unk _ ht (by simp) (by intro x hx; simp at hx; subst hx; exact hf)) (.cons (.refl _) (WkL.one (wk_one _ _ _)))) ?_
  by_cases h1 : fineE t [f] = 0
  · obtain ⟨hn, _, l1, v1⟩ := fine_one h1
    rw [h1]
    simp only [go_sem, Int.reduceToNat, Int.reduceLE, Int.reduceLT, Nat.reduceBEq, Nat.reduceLT, Nat.reduceAdd, Nat.reduceLeDiff]
    refine (negated_specF t.facts.length (by omega) f _ _ (by omega) v1).mono ?_
    cases hb : negF f with
    | none =>
      rintro _ _ ⟨rfl, rfl⟩
      simp only [go_sem, Int.reduceToNat, Int.reduceLE, Int.reduceLT, Nat.reduceBEq, Nat.reduceLT, Nat.reduceAdd, Nat.reduceLeDiff]
      refine (told_spec [] .nil false _).is ?_
      rw [if_neg (by simp)]
      simp only [go_sem, Int.reduceToNat, Int.reduceLE, Int.reduceLT, Nat.reduceBEq, Nat.reduceLT, Nat.reduceAdd, Nat.reduceLeDiff]
      first | exact rtl (.slice .nil []) (.int .i64 2) ⟨rfl, rfl⟩ | exact rtl0 (.slice .nil []) (.int .i64 2) ⟨rfl, rfl⟩
    | some h =>
      rintro _ _ ⟨rfl, rfl⟩
      have h4 := negF_len hb
      simp only [go_sem, Int.reduceToNat, Int.reduceLE, Int.reduceLT, Nat.reduceBEq, Nat.reduceLT, Nat.reduceAdd, Nat.reduceLeDiff]
      refine (told_spec (h.map encCf) _ _ _).is ?_
      rw [if_pos ⟨rfl, by rw [List.length_map]; exact h4⟩]
      simp only [go_sem, Int.reduceToNat, Int.reduceLE, Int.reduceLT, Nat.reduceBEq, Nat.reduceLT, Nat.reduceAdd, Nat.reduceLeDiff]
      first | exact rtl (.slice .fresh (h.map encCf)) (.int .i64 0) ⟨rfl, rfl⟩ | exact rtl0 (.slice .fresh (h.map encCf)) (.int .i64 0) ⟨rfl, rfl⟩
  · have h1' : (fineE t [f] != 0) = true := by simpa using h1
    simp only [go_sem, Int.reduceToNat, Int.reduceLE, Int.reduceLT, Nat.reduceBEq, Nat.reduceLT, Nat.reduceAdd, Nat.reduceLeDiff, h1']
    first | exact rtl (.slice .nil []) (.int .i64 (fineE t [f])) ⟨(retFf_ne h1 _).symm, rfl⟩ | exact rtl0 (.slice .nil []) (.int .i64 (fineE t [f])) ⟨(retFf_ne h1 _).symm, rfl⟩
def c_Reduce : CCode := .seq (.ops [⟨some 2, .box (.tmp 0), none, []⟩, ⟨some 4, .move (.lit (.slice .nil [])), none, []⟩, ⟨some 5, .move (.lit (.int .i64 0)), none, []⟩]) (.seq (.seq (.ops [⟨some 7, .load (some 4) (.tmp 2), none, []⟩, ⟨some 8, .move (.tmp 1), none, []⟩, ⟨some 9, .bslice 1 [.tmp 8] false, none, []⟩, ⟨some 10, .call (.lit (.func 32 [])) [.tmp 7, .tmp 9], none, []⟩, ⟨some 6, .move (.tmp 10), none, []⟩]) (.seq (.ops [⟨some 11, .move (.tmp 6), none, []⟩, ⟨some 12, .bin .neq .none (.tmp 11) (.lit (.int .i64 0)), none, []⟩]) (.cond (.tmp 12) (.seq (.ops [⟨some 13, .move (.tmp 6), none, []⟩, ⟨some 4, .move (.lit (.slice .nil [])), none, []⟩, ⟨some 5, .move (.tmp 13), none, []⟩]) .ret) .skip))) (.seq (.ops [⟨some 14, .move (.tmp 1), none, []⟩, ⟨some 15, .call (.lit (.func 46 [])) [.tmp 14], none, []⟩, ⟨some 4, .move (.tmp 15), none, []⟩, ⟨some 5, .move (.lit (.int .i64 0)), none, []⟩]) .ret))
set_option maxRecDepth 20000 in
theorem Reduce_specF (t : FTask) (f : List (List FLit)) (tok : Tok) (σ : Store) (ht : TB t) (hf : FB f) :
    ACalls Try.prog 25 [.agg (encTask t), .slice tok (f.map encC)] σ (isR (retFf (fineE t [f]) (some (reducedL f))) σ) := by
  refine ACalls.intro (rs := [(.tmp 4), (.tmp 5)]) (by kernel_rfl) { own := [], ghosts := [] } Try.func25 (c := Try.f25.body.getD .skip) (by kernel_rfl) (by decide) (by rw [show Try.f25.ntmps = 16 by kernel_rfl]; exact Nat.le_of_ble_eq_true rfl) (by kernel_rfl) ?_
  intro hσ hids
  rw [show comp Try.prog { own := [], ghosts := [] } (Try.f25.body.getD .skip) = c_Reduce by kernel_rfl, show Try.f25.ntmps = 16 by kernel_rfl]
  unfold c_Reduce
  simp only [go_sem, Int.reduceToNat, Int.reduceLE, Int.reduceLT, Nat.reduceBEq, Nat.reduceLT, Nat.reduceAdd, Nat.reduceLeDiff, encTask]
  refine ACalls.is (ACalls.wk (fine07_spec t [f] .unk _ ht (by simp) (by intro x hx; simp at hx; subst hx; exact hf)) (.cons (.refl _) (WkL.one (wk_one _ _ _)))) ?_
  by_cases h1 : fineE t [f] = 0
  · obtain ⟨hn, _, l1, v1⟩ := fine_one h1
    rw [h1]
    simp only [go_sem, Int.reduceToNat, Int.reduceLE, Int.reduceLT, Nat.reduceBEq, Nat.reduceLT, Nat.reduceAdd, Nat.reduceLeDiff]
    refine (reduced_specF f _ _ (v1.ok (by omega) (by omega))).mono ?_
    rintro _ _ ⟨rfl, rfl⟩
    simp only [go_sem, Int.reduceToNat, Int.reduceLE, Int.reduceLT, Nat.reduceBEq, Nat.reduceLT, Nat.reduceAdd, Nat.reduceLeDiff]
    first | exact rtl (.slice .fresh ((reducedL f).map encCf)) (.int .i64 0) ⟨rfl, rfl⟩ | exact rtl0 (.slice .fresh ((reducedL f).map encCf)) (.int .i64 0) ⟨rfl, rfl⟩
  · have h1' : (fineE t [f] != 0) = true := by simpa using h1
    simp only [go_sem, Int.reduceToNat, Int.reduceLE, Int.reduceLT, Nat.reduceBEq, Nat.reduceLT, Nat.reduceAdd, Nat.reduceLeDiff, h1']
    first | exact rtl (.slice .nil []) (.int .i64 (fineE t [f])) ⟨(retFf_ne h1 _).symm, rfl⟩ | exact rtl0 (.slice .nil []) (.int .i64 (fineE t [f])) ⟨(retFf_ne h1 _).symm, rfl⟩
end Go.Proofs.Ytbnhijapbnfohaa
namespace Go.Proofs.Ytbnhijapbnfohaa
open Go.Ahl
theorem dec_cons {α : Type} [DecidableEq α] (x y : α) (l m : List α) : decide (x :: l = y :: m) = (decide (x = y) && decide (l = m)) := by
  by_cases h1 : x = y <;> by_cases h2 : l = m <;> simp [h1, h2]
def d_sameLits_0 : List COp := [⟨some 16, .move (.tmp 0), none, []⟩, ⟨some 17, .move (.tmp 5), none, []⟩, ⟨some 18, .iaddr 2 (.tmp 16) (.tmp 17), none, [0, 1]⟩, ⟨some 19, .load (some 2) (.tmp 18), none, [2]⟩, ⟨some 20, .move (.tmp 1), none, []⟩, ⟨some 21, .move (.tmp 5), none, []⟩, ⟨some 22, .iaddr 2 (.tmp 20) (.tmp 21), none, [4, 5]⟩, ⟨some 23, .load (some 2) (.tmp 22), none, [6]⟩, ⟨some 24, .bin .neq (.flat [1, 0]) (.tmp 19) (.tmp 23), none, [3, 7]⟩]
theorem dr_sameLits_0 (P : Program) (nt n0 : Nat) (Q : Post) (s : Slots) (σ : Store) : wpc P nt n0 (.draw d_sameLits_0) Q s σ = aOpsD P nt [⟨some 16, .move (.tmp 0), none, []⟩, ⟨some 17, .move (.tmp 5), none, []⟩, ⟨some 18, .iaddr 2 (.tmp 16) (.tmp 17), none, [0, 1]⟩, ⟨some 19, .load (some 2) (.tmp 18), none, [2]⟩, ⟨some 20, .move (.tmp 1), none, []⟩, ⟨some 21, .move (.tmp 5), none, []⟩, ⟨some 22, .iaddr 2 (.tmp 20) (.tmp 21), none, [4, 5]⟩, ⟨some 23, .load (some 2) (.tmp 22), none, [6]⟩, ⟨some 24, .bin .neq (.flat [1, 0]) (.tmp 19) (.tmp 23), none, [3, 7]⟩] (Q .normal) s σ := wpc_draw _ (by decide)
def c_sameLits : CCode := .seq (.ops [⟨some 4, .move (.lit (.bool false)), none, []⟩]) (.seq (.seq (.ops [⟨some 6, .move (.tmp 0), none, []⟩, ⟨some 7, .blen 1 (.tmp 6), none, []⟩, ⟨some 8, .move (.tmp 1), none, []⟩, ⟨some 9, .blen 1 (.tmp 8), none, []⟩, ⟨some 10, .bin .neq .none (.tmp 7) (.tmp 9), none, []⟩]) (.cond (.tmp 10) (.seq (.ops [⟨some 4, .move (.lit (.bool false)), none, []⟩]) .ret) .skip)) (.seq (.seq (.ops [⟨some 11, .move (.tmp 0), none, []⟩, ⟨some 12, .blen 1 (.tmp 11), none, []⟩, ⟨some 13, .move (.lit (.int .i64 0)), none, []⟩]) (.block 0 (.loop (.seq (.ops [⟨some 14, .bin .lss .none (.tmp 13) (.tmp 12), none, []⟩]) (.seq (.cond (.tmp 14) .skip (.exit 0)) (.seq (.block 1 (.seq (.ops [⟨some 15, .move (.tmp 13), none, []⟩, ⟨some 5, .move (.tmp 15), none, []⟩]) (.seq (.draw d_sameLits_0) (.cond (.tmp 24) (.seq (.ops [⟨some 4, .move (.lit (.bool false)), none, []⟩]) .ret) .skip)))) (.ops [⟨some 25, .bin .add .none (.tmp 13) (.lit (.int .i64 1)), none, []⟩, ⟨some 13, .move (.tmp 25), none, []⟩]))))))) (.seq (.ops [⟨some 4, .move (.lit (.bool true)), none, []⟩]) .ret)))
set_option maxRecDepth 20000 in
theorem sameLits_spec (l m : List FLit) (tok tok' : Tok) (σ : Store) (hl : l.length ≤ 140737488355328) (hm : m.length ≤ 140737488355328) :
    ACalls Try.prog 54 [.slice tok (l.map encLit), .slice tok' (m.map encLit)] σ (isR (.bool (decide (l = m))) σ) := by
  refine ACalls.intro (rs := [(.tmp 4)]) (by kernel_rfl) { own := [], ghosts := [] } Try.func54 (c := Try.f54.body.getD .skip) (by kernel_rfl) (by decide) (by rw [show Try.f54.ntmps = 26 by kernel_rfl]; exact Nat.le_of_ble_eq_true rfl) (by kernel_rfl) ?_
  intro hσ hids
  rw [show comp Try.prog { own := [], ghosts := [] } (Try.f54.body.getD .skip) = c_sameLits by kernel_rfl, show Try.f54.ntmps = 26 by kernel_rfl]
  unfold c_sameLits
  have hil : Ids σ.length (.slice tok (l.map encLit)) := hids _ (by simp)
  have him : Ids σ.length (.slice tok' (m.map encLit)) := hids _ (by simp)
  by_cases hlen : l.length = m.length
  · have h' : ((l.length : Int) != m.length) = false := by rw [hlen]; exact bne_self_eq_false _
    simp only [go_sem, Int.reduceToNat, Int.reduceLE, Int.reduceLT, Nat.reduceBEq, Nat.reduceLT, Nat.reduceAdd, Nat.reduceLeDiff, dr_sameLits_0, h']
    refine wpc_while (fun (i : Nat) => [(0, .slice tok (l.map encLit)), (1, .slice tok' (m.map encLit)), (12, .int .i64 l.length), (13, .int .i64 (i : Nat))]) (fun _ => σ) (fun i => i ≤ l.length ∧ decide (l = m) = decide (l.drop i = m.drop i)) (fun i => l.length - i) 0 ⟨Nat.zero_le _, rfl⟩ (by (try dsimp only); first | exact ghk | exact ghk0) ?_
    rintro i ⟨hi, hv⟩ K hK hE hR
    by_cases h : i < l.length
    · obtain ⟨x, hx⟩ := get_ex h; have hlt : ((i : Int) < (l.length : Int)) := (by omega); have hw : IntKind.i64.wrap ((i : Int) + 1) = ((i + 1 : Nat) : Int) := (by rw [wrap_ok (by omega)]; omega)
      obtain ⟨y, hy⟩ : ∃ y, m[i]? = some y := get_ex (by omega)
      rw [drop_cons hx, drop_cons hy, dec_cons] at hv
      have hf := flat_lit x y
      simp only [encLit] at hf
      by_cases h1 : x = y
      · rw [decide_eq_true h1] at hf
        simp only [go_sem, Int.reduceToNat, Int.reduceLE, Int.reduceLT, Nat.reduceBEq, Nat.reduceLT, Nat.reduceAdd, Nat.reduceLeDiff, dr_sameLits_0, hlt, hx, hy, encLit, hf]
        rw [decide_eq_true h1, Bool.true_and] at hv
        refine hK _ _ (i + 1) (⟨by omega, hv⟩) (by first | omega | (simp only []; omega) | (simp; omega)) ?_; (try dsimp only); (try simp only [ hw]); first | exact ghk | exact ghk0
      · rw [decide_eq_false h1] at hf
        simp only [go_sem, Int.reduceToNat, Int.reduceLE, Int.reduceLT, Nat.reduceBEq, Nat.reduceLT, Nat.reduceAdd, Nat.reduceLeDiff, dr_sameLits_0, hlt, hx, hy, encLit, hf, hR]
        rw [decide_eq_false h1, Bool.false_and] at hv
        first | exact rtk (.bool false) ⟨by rw [hv], rfl⟩ | exact rtk0 (.bool false) ⟨by rw [hv], rfl⟩
    · have hlt : ¬ ((i : Int) < (l.length : Int)) := by omega
      rw [drop_len h, drop_len (by omega : ¬ i < m.length)] at hv
      simp only [go_sem, Int.reduceToNat, Int.reduceLE, Int.reduceLT, Nat.reduceBEq, Nat.reduceLT, Nat.reduceAdd, Nat.reduceLeDiff, dr_sameLits_0, hlt, hE]
      first | exact rtk (.bool true) ⟨by rw [hv]; rfl, rfl⟩ | exact rtk0 (.bool true) ⟨by rw [hv]; rfl, rfl⟩
  · have h' : ((l.length : Int) != m.length) = true := by simp; omega
    simp only [go_sem, Int.reduceToNat, Int.reduceLE, Int.reduceLT, Nat.reduceBEq, Nat.reduceLT, Nat.reduceAdd, Nat.reduceLeDiff, dr_sameLits_0, h']
    first | exact rtk (.bool false) ⟨by rw [decide_eq_false (fun e => hlen (by rw [e]))], rfl⟩ | exact rtk0 (.bool false) ⟨by rw [decide_eq_false (fun e => hlen (by rw [e]))], rfl⟩
def d_same07_0 : List COp := [⟨some 16, .move (.tmp 0), none, []⟩, ⟨some 17, .move (.tmp 5), none, []⟩, ⟨some 18, .iaddr 1 (.tmp 16) (.tmp 17), none, [0, 1]⟩, ⟨some 19, .load none (.tmp 18), none, [2]⟩, ⟨some 20, .move (.tmp 1), none, []⟩, ⟨some 21, .move (.tmp 5), none, []⟩, ⟨some 22, .iaddr 1 (.tmp 20) (.tmp 21), none, [4, 5]⟩, ⟨some 23, .load none (.tmp 22), none, [6]⟩, ⟨some 24, .call (.lit (.func 54 [])) [.tmp 19, .tmp 23], none, [3, 7]⟩, ⟨some 25, .un .not (.tmp 24), none, [8]⟩]
theorem dr_same07_0 (P : Program) (nt n0 : Nat) (Q : Post) (s : Slots) (σ : Store) : wpc P nt n0 (.draw d_same07_0) Q s σ = aOpsD P nt [⟨some 16, .move (.tmp 0), none, []⟩, ⟨some 17, .move (.tmp 5), none, []⟩, ⟨some 18, .iaddr 1 (.tmp 16) (.tmp 17), none, [0, 1]⟩, ⟨some 19, .load none (.tmp 18), none, [2]⟩, ⟨some 20, .move (.tmp 1), none, []⟩, ⟨some 21, .move (.tmp 5), none, []⟩, ⟨some 22, .iaddr 1 (.tmp 20) (.tmp 21), none, [4, 5]⟩, ⟨some 23, .load none (.tmp 22), none, [6]⟩, ⟨some 24, .call (.lit (.func 54 [])) [.tmp 19, .tmp 23], none, [3, 7]⟩, ⟨some 25, .un .not (.tmp 24), none, [8]⟩] (Q .normal) s σ := wpc_draw _ (by decide)
def c_same07 : CCode := .seq (.ops [⟨some 4, .move (.lit (.bool false)), none, []⟩]) (.seq (.seq (.ops [⟨some 6, .move (.tmp 0), none, []⟩, ⟨some 7, .blen 1 (.tmp 6), none, []⟩, ⟨some 8, .move (.tmp 1), none, []⟩, ⟨some 9, .blen 1 (.tmp 8), none, []⟩, ⟨some 10, .bin .neq .none (.tmp 7) (.tmp 9), none, []⟩]) (.cond (.tmp 10) (.seq (.ops [⟨some 4, .move (.lit (.bool false)), none, []⟩]) .ret) .skip)) (.seq (.seq (.ops [⟨some 11, .move (.tmp 0), none, []⟩, ⟨some 12, .blen 1 (.tmp 11), none, []⟩, ⟨some 13, .move (.lit (.int .i64 0)), none, []⟩]) (.block 0 (.loop (.seq (.ops [⟨some 14, .bin .lss .none (.tmp 13) (.tmp 12), none, []⟩]) (.seq (.cond (.tmp 14) .skip (.exit 0)) (.seq (.block 1 (.seq (.ops [⟨some 15, .move (.tmp 13), none, []⟩, ⟨some 5, .move (.tmp 15), none, []⟩]) (.seq (.draw d_same07_0) (.cond (.tmp 25) (.seq (.ops [⟨some 4, .move (.lit (.bool false)), none, []⟩]) .ret) .skip)))) (.ops [⟨some 26, .bin .add .none (.tmp 13) (.lit (.int .i64 1)), none, []⟩, ⟨some 13, .move (.tmp 26), none, []⟩]))))))) (.seq (.ops [⟨some 4, .move (.lit (.bool true)), none, []⟩]) .ret)))
set_option maxRecDepth 20000 in
theorem same07_spec (l m : List (List FLit)) (tok tok' : Tok) (σ : Store) (hl : FB l) (hm : FB m) :
    ACalls Try.prog 28 [.slice tok (l.map encC), .slice tok' (m.map encC)] σ (isR (.bool (decide (l = m))) σ) := by
  refine ACalls.intro (rs := [(.tmp 4)]) (by kernel_rfl) { own := [], ghosts := [] } Try.func28 (c := Try.f28.body.getD .skip) (by kernel_rfl) (by decide) (by rw [show Try.f28.ntmps = 27 by kernel_rfl]; exact Nat.le_of_ble_eq_true rfl) (by kernel_rfl) ?_
  intro hσ hids
  rw [show comp Try.prog { own := [], ghosts := [] } (Try.f28.body.getD .skip) = c_same07 by kernel_rfl, show Try.f28.ntmps = 27 by kernel_rfl]
  unfold c_same07
  have hl1 := hl.1
  have hil : Ids σ.length (.slice tok (l.map encC)) := hids _ (by simp)
  have him : Ids σ.length (.slice tok' (m.map encC)) := hids _ (by simp)
  by_cases hlen : l.length = m.length
  · have h' : ((l.length : Int) != m.length) = false := by rw [hlen]; exact bne_self_eq_false _
    simp only [go_sem, Int.reduceToNat, Int.reduceLE, Int.reduceLT, Nat.reduceBEq, Nat.reduceLT, Nat.reduceAdd, Nat.reduceLeDiff, dr_same07_0, h']
    refine wpc_while (fun (i : Nat) => [(0, .slice tok (l.map encC)), (1, .slice tok' (m.map encC)), (12, .int .i64 l.length), (13, .int .i64 (i : Nat))]) (fun _ => σ) (fun i => i ≤ l.length ∧ decide (l = m) = decide (l.drop i = m.drop i)) (fun i => l.length - i) 0 ⟨Nat.zero_le _, rfl⟩ (by (try dsimp only); first | exact ghk | exact ghk0) ?_
    rintro i ⟨hi, hv⟩ K hK hE hR
    by_cases h : i < l.length
    · obtain ⟨x, hx⟩ := get_ex h; have hlt : ((i : Int) < (l.length : Int)) := (by omega); have hw : IntKind.i64.wrap ((i : Int) + 1) = ((i + 1 : Nat) : Int) := (by rw [wrap_ok (by omega)]; omega)
      obtain ⟨y, hy⟩ : ∃ y, m[i]? = some y := get_ex (by omega)
      rw [drop_cons hx, drop_cons hy, dec_cons] at hv
      simp only [go_sem, Int.reduceToNat, Int.reduceLE, Int.reduceLT, Nat.reduceBEq, Nat.reduceLT, Nat.reduceAdd, Nat.reduceLeDiff, dr_same07_0, hlt, hx, hy, encC]
      refine ⟨_, sameLits_spec x y .unk .unk _ (hl.2 x (List.mem_of_getElem? hx)) (hm.2 y (List.mem_of_getElem? hy)), ?_⟩
      cases h1 : decide (x = y)
      · rw [h1, Bool.false_and] at hv
        simp only [go_sem, Int.reduceToNat, Int.reduceLE, Int.reduceLT, Nat.reduceBEq, Nat.reduceLT, Nat.reduceAdd, Nat.reduceLeDiff, dr_same07_0, hR]
        first | exact rtk (.bool false) ⟨by rw [hv], rfl⟩ | exact rtk0 (.bool false) ⟨by rw [hv], rfl⟩
      · rw [h1, Bool.true_and] at hv
        simp only [go_sem, Int.reduceToNat, Int.reduceLE, Int.reduceLT, Nat.reduceBEq, Nat.reduceLT, Nat.reduceAdd, Nat.reduceLeDiff, dr_same07_0]
        refine hK _ _ (i + 1) (⟨by omega, hv⟩) (by first | omega | (simp only []; omega) | (simp; omega)) ?_; (try dsimp only); (try simp only [ hw]); first | exact ghk | exact ghk0
    · have hlt : ¬ ((i : Int) < (l.length : Int)) := by omega
      rw [drop_len h, drop_len (by omega : ¬ i < m.length)] at hv
      simp only [go_sem, Int.reduceToNat, Int.reduceLE, Int.reduceLT, Nat.reduceBEq, Nat.reduceLT, Nat.reduceAdd, Nat.reduceLeDiff, dr_same07_0, hlt, hE]
      first | exact rtk (.bool true) ⟨by rw [hv]; rfl, rfl⟩ | exact rtk0 (.bool true) ⟨by rw [hv]; rfl, rfl⟩
  · have h' : ((l.length : Int) != m.length) = true := by simp; omega
    simp only [go_sem, Int.reduceToNat, Int.reduceLE, Int.reduceLT, Nat.reduceBEq, Nat.reduceLT, Nat.reduceAdd, Nat.reduceLeDiff, dr_same07_0, h']
    first | exact rtk (.bool false) ⟨by rw [decide_eq_false (fun e => hlen (by rw [e]))], rfl⟩ | exact rtk0 (.bool false) ⟨by rw [decide_eq_false (fun e => hlen (by rw [e]))], rfl⟩
def c_copyLits : CCode := .seq (.ops [⟨some 2, .move (.lit (.slice .nil [])), none, []⟩]) (.seq (.ops [⟨some 3, .move (.tmp 0), none, []⟩, ⟨some 4, .bappend 2 16 (.lit (.slice .nil [])) (.tmp 3) false, none, []⟩, ⟨some 2, .move (.tmp 4), none, []⟩]) .ret)
set_option maxRecDepth 20000 in
theorem copyLits_spec (l : List FLit) (tok : Tok) (σ : Store) (hl : l.length ≤ 1073741824) :
    ACalls Try.prog 49 [.slice tok (l.map encLit)] σ (isR (.slice .unk (l.map encLit)) σ) := by
  refine ACalls.intro (rs := [(.tmp 2)]) (by kernel_rfl) { own := [], ghosts := [] } Try.func49 (c := Try.f49.body.getD .skip) (by kernel_rfl) (by decide) (by rw [show Try.f49.ntmps = 5 by kernel_rfl]; exact Nat.le_of_ble_eq_true rfl) (by kernel_rfl) ?_
  intro hσ hids
  rw [show comp Try.prog { own := [], ghosts := [] } (Try.f49.body.getD .skip) = c_copyLits by kernel_rfl, show Try.f49.ntmps = 5 by kernel_rfl]
  unfold c_copyLits
  have hbig : bigLen l.length 16 := big_ok (by omega) (by omega)
  have hall : ∀ x ∈ l, (encLit x).length = 2 ∧ (encLit x).all AV.one = true := fun x _ => ⟨rfl, rfl⟩
  simp only [go_sem, Int.reduceToNat, Int.reduceLE, Int.reduceLT, Nat.reduceBEq, Nat.reduceLT, Nat.reduceAdd, Nat.reduceLeDiff, hbig]
  refine ⟨hall, ?_⟩
  first | exact rtk (.slice .unk (l.map encLit)) ⟨rfl, rfl⟩ | exact rtk0 (.slice .unk (l.map encLit)) ⟨rfl, rfl⟩
end Go.Proofs.Ytbnhijapbnfohaa
namespace Go.Proofs.Ytbnhijapbnfohaa
open Go.Ahl
/-! ### Assignments with open facts: 0 open, 1 true, -1 false -/
def valAt (w : List Int) (i : Int) : Int := (w[i.toNat]?).getD 0
def litV (w : List Int) (x : FLit) : Int := if x.neg then -valAt w x.fact else valAt w x.fact
def Tri (w : List Int) : Prop := ∀ y ∈ w, y = -1 ∨ y = 0 ∨ y = 1
def opens (w : List Int) : Nat := (w.filter (fun y => y == 0)).length
/-- Is the fact true in every assignment a that completes w? -/
def Comp (w : List Int) (a : Int → Bool) : Prop := ∀ (i : Nat) y, w[i]? = some y → (y = 1 → a i = true) ∧ (y = -1 → a i = false)
def litT (a : Int → Bool) (x : FLit) : Bool := a x.fact != x.neg
def termT (a : Int → Bool) (l : List FLit) : Bool := l.all (litT a)
/-- w' is w with some open facts set. -/
def ExtW (w w' : List Int) : Prop := w'.length = w.length ∧ ∀ (i : Nat) y, w[i]? = some y → y ≠ 0 → w'[i]? = some y
/-- The value that makes a literal true. -/
def sgn (x : FLit) : Int := if x.neg then -1 else 1
def inR (n : Nat) (x : FLit) : Prop := 0 ≤ x.fact ∧ x.fact < n
theorem ExtW.refl (w : List Int) : ExtW w w := ⟨rfl, fun _ _ h _ => h⟩
theorem ExtW.trans {a b c : List Int} (h : ExtW a b) (k : ExtW b c) : ExtW a c := ⟨k.1.trans h.1, fun i y e n => k.2 i y (h.2 i y e n) n⟩
theorem valAt_get {w : List Int} {x : FLit} (h : inR w.length x) : w[x.fact.toNat]? = some (valAt w x.fact) := by
  unfold valAt
  have : x.fact.toNat < w.length := by have := h.1; have := h.2; omega
  rw [List.getElem?_eq_getElem this]; rfl
theorem valAt_tri {w : List Int} (hw : Tri w) (i : Int) : valAt w i = -1 ∨ valAt w i = 0 ∨ valAt w i = 1 := by
  unfold valAt
  cases h : w[i.toNat]? with
  | none => exact .inr (.inl rfl)
  | some y => exact hw y (List.mem_of_getElem? h)
theorem litV_tri {w : List Int} (hw : Tri w) (x : FLit) : litV w x = -1 ∨ litV w x = 0 ∨ litV w x = 1 := by
  unfold litV
  rcases valAt_tri hw x.fact with h | h | h <;> rw [h] <;> split <;> simp
theorem sgn_ne (x : FLit) : sgn x = 1 ∨ sgn x = -1 := by unfold sgn; split <;> simp
theorem litV_set {w : List Int} {x : FLit} (h : inR w.length x) (s : Int) : litV (w.set x.fact.toNat s) x = if x.neg then -s else s := by
  have h2 : x.fact.toNat < w.length := by have := h.1; have := h.2; omega
  unfold litV valAt
  rw [List.getElem?_set_self h2]; rfl
theorem tri_set {w : List Int} (hw : Tri w) (i : Nat) {s : Int} (hs : s = -1 ∨ s = 0 ∨ s = 1) : Tri (w.set i s) := by
  intro y hy
  rcases List.mem_or_eq_of_mem_set hy with h | h
  · exact hw y h
  · subst h; exact hs
theorem opens_set {w : List Int} {i : Nat} (h : w[i]? = some 0) {s : Int} (hs : s ≠ 0) : opens (w.set i s) + 1 = opens w := by
  induction w generalizing i with
  | nil => simp at h
  | cons y w ih =>
    cases i with
    | zero =>
      simp at h; subst h
      have hs' : (s == 0) = false := by simpa using hs
      simp [opens, hs']
    | succ i =>
      simp at h
      have := ih h
      simp only [opens, List.set_cons_succ, List.filter_cons] at this ⊢
      split <;> (try simp only [List.length_cons]) <;> omega
theorem ext_set {w : List Int} {i : Nat} (h : w[i]? = some 0) (s : Int) : ExtW w (w.set i s) := by
  refine ⟨by simp, fun j y e n => ?_⟩
  by_cases hj : i = j
  · subst hj; rw [h] at e; injection e with e; exact absurd e.symm n
  · rw [List.getElem?_set_ne hj]; exact e
theorem comp_set {w : List Int} {a : Int → Bool} {x : FLit} (hx : inR w.length x) (h : Comp w a) (ht : litT a x = true) : Comp (w.set x.fact.toNat (sgn x)) a := by
  intro i y e
  rcases Go.Ahl.get_set e with ⟨rfl, rfl⟩ | ⟨_, e⟩
  · have h3 : ((x.fact.toNat : Nat) : Int) = x.fact := by have := hx.1; omega
    rw [h3]
    unfold litT at ht
    unfold sgn
    cases hn : x.neg <;> rw [hn] at ht <;> simp at ht ⊢ <;> exact ht
  · exact h i y e
theorem comp_neg {w : List Int} {a : Int → Bool} {x : FLit} (hx : inR w.length x) (h : Comp w a) (ht : litT a x = false) : Comp (w.set x.fact.toNat (-sgn x)) a := by
  intro i y e
  rcases Go.Ahl.get_set e with ⟨rfl, rfl⟩ | ⟨_, e⟩
  · have h3 : ((x.fact.toNat : Nat) : Int) = x.fact := by have := hx.1; omega
    rw [h3]
    unfold litT at ht
    unfold sgn
    cases hn : x.neg <;> rw [hn] at ht <;> simp at ht ⊢ <;> exact ht
  · exact h i y e
theorem comp_lit {w : List Int} {a : Int → Bool} {x : FLit} (hx : inR w.length x) (h : Comp w a) : (litV w x = 1 → litT a x = true) ∧ (litV w x = -1 → litT a x = false) := by
  have h3 : ((x.fact.toNat : Nat) : Int) = x.fact := by have := hx.1; omega
  have h4 := h _ _ (valAt_get hx)
  rw [h3] at h4
  unfold litV litT
  cases hn : x.neg
  · simp only [Bool.false_eq_true, if_false, Bool.bne_false]; exact h4
  · simp only [if_true, Bool.bne_true, Bool.not_eq_true', Bool.not_eq_false']
    exact ⟨fun e => h4.2 (by omega), fun e => h4.1 (by omega)⟩
theorem opens_le (w : List Int) : opens w ≤ w.length := List.length_filter_le _ _
/-- Is a term not false yet? -/
def liveT (w : List Int) (l : List FLit) : Bool := !(l.any fun x => decide (litV w x < 0))
/-- What a search comes back with. -/
structure SPost (g : List (List FLit)) (w : List Int) (left : Int) (b : Bool) (w' : List Int) (left' : Int) : Prop where
  tri : Tri w'
  ext : ExtW w w'
  lo : left - (2 ^ opens w : Nat) ≤ left'
  hi : left' ≤ left
  yes : b = true → ∀ l ∈ g, ∃ x ∈ l, litV w' x < 0
  no : b = false → w' = w ∧ ∀ a, Comp w a → ∃ l ∈ g, termT a l = true
theorem idxFrom_some {α : Type} (p : α → Bool) : ∀ (l : List α) (k : Int), 0 ≤ k → (idxFrom p k l = -1 ∧ ∀ x ∈ l, p x = false) ∨ ∃ i : Nat, idxFrom p k l = k + i ∧ ∃ x, l[i]? = some x ∧ p x = true
  | [], k, h => .inl ⟨rfl, by simp⟩
  | x :: l, k, h => by
    rw [idxFrom]
    cases hx : p x
    · rcases idxFrom_some p l (k + 1) (by omega) with ⟨h1, h2⟩ | ⟨i, h1, y, h2, h3⟩
      · exact .inl ⟨by simpa using h1, fun y hy => by rcases List.mem_cons.1 hy with rfl | hy; exact hx; exact h2 y hy⟩
      · exact .inr ⟨i + 1, by simp only [Bool.false_eq_true, if_false, h1]; omega, y, by simpa using h2, h3⟩
    · exact .inr ⟨0, by simp, x, by simp, hx⟩
/-- Where the loop over the literals of a term stands: j are through, those of 'set' have been made true. -/
structure SLoop (g : List (List FLit)) (l : List FLit) (w0 : List Int) (left0 : Int) (j : Nat) (set : List Int) (w : List Int) (left : Int) : Prop where
  jl : j ≤ l.length
  tri : Tri w
  ext : ExtW w0 w
  ops : opens w + set.length = opens w0
  lo : left0 - 1 - (2 ^ opens w0 : Nat) + (2 ^ opens w : Nat) ≤ left
  hi : left ≤ left0
  old : ∀ f ∈ set, 0 ≤ f ∧ f < w0.length ∧ w0[f.toNat]? = some 0
  back : ∀ (i : Nat) y, w[i]? = some y → (∀ f ∈ set, f.toNat ≠ i) → w0[i]? = some y
  rest : ∀ x ∈ l.drop j, ∀ f ∈ set, f ≠ x.fact
  all : ∀ a, Comp w0 a → (∀ t ∈ g, termT a t = false) → Comp w a ∧ ∀ x ∈ l.take j, litT a x = true
/-- All facts of a list set to open again. -/
def resetW : List Int → List Int → List Int
  | w, [] => w
  | w, f :: r => resetW (w.set f.toNat 0) r
theorem resetW_len : ∀ (r w : List Int), (resetW w r).length = w.length
  | [], w => rfl
  | f :: r, w => by rw [resetW, resetW_len]; simp
theorem resetW_get : ∀ (r w : List Int) (i : Nat), i < w.length → (resetW w r)[i]? = if ∃ f ∈ r, f.toNat = i then some 0 else w[i]?
  | [], w, i, h => by simp [resetW]
  | f :: r, w, i, h => by
    rw [resetW, resetW_get r _ i (by simpa using h)]
    by_cases h1 : ∃ q ∈ r, q.toNat = i
    · rw [if_pos h1, if_pos]
      obtain ⟨q, hq, e⟩ := h1
      exact ⟨q, List.mem_cons_of_mem _ hq, e⟩
    · rw [if_neg h1]
      by_cases h2 : f.toNat = i
      · subst h2
        rw [if_pos ⟨f, List.mem_cons_self, rfl⟩, List.getElem?_set_self h]
      · rw [List.getElem?_set_ne h2, if_neg]
        rintro ⟨q, hq, e⟩
        rcases List.mem_cons.1 hq with rfl | hq
        · exact h2 e
        · exact h1 ⟨q, hq, e⟩
theorem SLoop.reset {g : List (List FLit)} {l : List FLit} {w0 : List Int} {left0 : Int} {j : Nat} {set w : List Int} {left : Int} (h : SLoop g l w0 left0 j set w left) : resetW w set = w0 := by
  apply List.ext_getElem?
  intro i
  by_cases hi : i < w.length
  · rw [resetW_get set w i hi]
    by_cases h1 : ∃ f ∈ set, f.toNat = i
    · rw [if_pos h1]
      obtain ⟨f, hf, rfl⟩ := h1
      exact (h.old f hf).2.2.symm
    · rw [if_neg h1]
      obtain ⟨y, hy⟩ : ∃ y, w[i]? = some y := get_ex hi
      rw [hy]
      exact (h.back i y hy (fun f hf e => h1 ⟨f, hf, e⟩)).symm
  · rw [List.getElem?_eq_none (by rw [resetW_len]; omega), List.getElem?_eq_none (by have := h.ext.1; omega)]
theorem SLoop.begin {g : List (List FLit)} {l : List FLit} {w : List Int} {left : Int} (ht : Tri w) : SLoop g l w left 0 [] w (left - 1) where
  jl := Nat.zero_le _
  tri := ht
  ext := .refl _
  ops := rfl
  lo := by omega
  hi := by omega
  old := by simp
  back := fun i y e _ => e
  rest := by simp
  all := fun a hc _ => ⟨hc, by simp⟩
theorem liveT_nn {w : List Int} {l : List FLit} (h : liveT w l = true) {x : FLit} (hx : x ∈ l) : 0 ≤ litV w x := by
  unfold liveT at h
  simp only [Bool.not_eq_true', List.any_eq_false, decide_eq_true_eq] at h
  have := h x hx; omega
/-- A literal that is not open is true already. -/
theorem SLoop.skip {g : List (List FLit)} {l : List FLit} {w0 : List Int} {left0 : Int} {j : Nat} {set w : List Int} {left : Int} (h : SLoop g l w0 left0 j set w left) {x : FLit} (hx : l[j]? = some x) (hr : inR w0.length x)
    (hl : liveT w0 l = true) (hv : litV w x ≠ 0) : SLoop g l w0 left0 (j + 1) set w left where
  jl := lt_of_get hx
  tri := h.tri
  ext := h.ext
  ops := h.ops
  lo := h.lo
  hi := h.hi
  old := h.old
  back := h.back
  rest := fun y hy => h.rest y (by rw [drop_cons hx]; exact List.mem_cons_of_mem _ hy)
  all := by
    intro a hc hg
    obtain ⟨h1, h2⟩ := h.all a hc hg
    refine ⟨h1, fun y hy => ?_⟩
    rw [take_succ' hx] at hy
    rcases List.mem_append.1 hy with hy | hy
    · exact h2 y hy
    · rw [List.mem_singleton] at hy; subst hy
      have hr' : inR w.length y := ⟨hr.1, by rw [h.ext.1]; exact hr.2⟩
      have hn := liveT_nn hl (List.mem_of_getElem? hx)
      have hno : ∀ f ∈ set, f.toNat ≠ y.fact.toNat := by
        intro f hf e
        have h3 := h.rest y (by rw [drop_cons hx]; exact List.mem_cons_self) f hf
        have h4 := (h.old f hf).1
        have := hr.1; omega
      have h5 := h.back _ _ (valAt_get hr') hno
      have h6 : valAt w0 y.fact = valAt w y.fact := by unfold valAt at h5 ⊢; rw [h5]; rfl
      have h7 : litV w0 y = litV w y := by unfold litV; rw [h6]
      rcases litV_tri h.tri y with h8 | h8 | h8
      · omega
      · exact absurd h8 hv
      · exact (comp_lit hr' h1).1 h8
/-- The literals of a condition have facts that rise. -/
theorem cond_apart {n : Int} : ∀ {l : List FLit} {p : Int}, condB n p l = true → (∀ x ∈ l, p < x.fact ∧ x.fact < n) ∧ ∀ (j : Nat) x, l[j]? = some x → ∀ y ∈ l.drop (j + 1), x.fact ≠ y.fact
  | [], p, h => ⟨by simp, by simp⟩
  | z :: l, p, h => by
    rw [condB, Bool.and_eq_true, Bool.and_eq_true, decide_eq_true_eq, decide_eq_true_eq] at h
    obtain ⟨⟨h1, h2⟩, h3⟩ := h
    obtain ⟨h4, h5⟩ := cond_apart h3
    refine ⟨fun x hx => ?_, fun j x hx y hy => ?_⟩
    · rcases List.mem_cons.1 hx with rfl | hx
      · exact ⟨h1, h2⟩
      · have := h4 x hx; omega
    · cases j with
      | zero => simp at hx hy; subst hx; have := h4 y hy; omega
      | succ j => simp at hx hy; exact h5 j x hx y hy
/-- An open literal was made false in vain: it is made true. -/
theorem SLoop.step {g : List (List FLit)} {l : List FLit} {w0 : List Int} {left0 : Int} {j : Nat} {set w : List Int} {left : Int} (h : SLoop g l w0 left0 j set w left) {x : FLit} (hx : l[j]? = some x) (hr : inR w0.length x)
    {n : Int} (hc : condB n (-1) l = true) (hv : litV w x = 0) {w' : List Int} {left' : Int} (hp : SPost g (w.set x.fact.toNat (-sgn x)) left false w' left') :
    SLoop g l w0 left0 (j + 1) (set ++ [x.fact]) (w'.set x.fact.toNat (sgn x)) left' := by
  have hr' : inR w.length x := ⟨hr.1, by rw [h.ext.1]; exact hr.2⟩
  have hk : x.fact.toNat < w.length := by have := hr'.1; have := hr'.2; omega
  have h0 : valAt w x.fact = 0 := by unfold litV at hv; split at hv <;> omega
  have hg0 : w[x.fact.toNat]? = some 0 := by rw [valAt_get hr', h0]
  have hs := sgn_ne x
  obtain ⟨rfl, hno⟩ := hp.no rfl
  rw [List.set_set]
  have ho1 := opens_set (s := -sgn x) hg0 (by omega)
  have ho2 := opens_set (s := sgn x) hg0 (by omega)
  have hpow : (2 : Nat) ^ opens w = 2 ^ opens (w.set x.fact.toNat (sgn x)) + 2 ^ opens (w.set x.fact.toNat (sgn x)) := by
    rw [← ho2, Nat.pow_succ]; omega
  have hpe : opens (w.set x.fact.toNat (-sgn x)) = opens (w.set x.fact.toNat (sgn x)) := by omega
  have hlo := hp.lo
  rw [hpe] at hlo
  refine ⟨lt_of_get hx, tri_set h.tri _ (by omega), h.ext.trans (ext_set hg0 _), by rw [List.length_append, List.length_singleton]; have := h.ops; omega, ?_, by have := hp.hi; have := h.hi; omega, ?_, ?_, ?_, ?_⟩
  · have := h.lo; omega
  · intro f hf
    rcases List.mem_append.1 hf with hf | hf
    · exact h.old f hf
    · rw [List.mem_singleton] at hf; subst hf
      refine ⟨hr.1, hr.2, ?_⟩
      refine h.back _ _ hg0 (fun f hf e => ?_)
      have h3 := h.rest x (by rw [drop_cons hx]; exact List.mem_cons_self) f hf
      have h4 := (h.old f hf).1
      have := hr.1; omega
  · intro i y e hf
    rcases Go.Ahl.get_set e with ⟨rfl, _⟩ | ⟨hne, e⟩
    · exact absurd rfl (hf x.fact (by simp))
    · exact h.back i y e (fun f hq => hf f (List.mem_append_left _ hq))
  · intro y hy f hf
    rcases List.mem_append.1 hf with hf | hf
    · exact h.rest y (by rw [drop_cons hx]; exact List.mem_cons_of_mem _ hy) f hf
    · rw [List.mem_singleton] at hf; subst hf
      exact (cond_apart hc).2 j x hx y hy
  · intro a hca hga
    obtain ⟨h1, h2⟩ := h.all a hca hga
    have htx : litT a x = true := by
      cases hq : litT a x with
      | true => rfl
      | false =>
        obtain ⟨t, ht, e⟩ := hno a (comp_neg hr' h1 hq)
        rw [hga t ht] at e; exact absurd e (by simp)
    refine ⟨comp_set hr' h1 htx, fun y hy => ?_⟩
    rw [take_succ' hx] at hy
    rcases List.mem_append.1 hy with hy | hy
    · exact h2 y hy
    · rw [List.mem_singleton] at hy; subst hy; exact htx
/-- What is asked ahead of a search within the loop. -/
theorem SLoop.ahead {g : List (List FLit)} {l : List FLit} {w0 : List Int} {left0 : Int} {j : Nat} {set w : List Int} {left : Int} (h : SLoop g l w0 left0 j set w left) {x : FLit} (hr : inR w0.length x) (hv : litV w x = 0) (h0 : ((2 ^ opens w0 : Nat) : Int) ≤ left0) :
    Tri (w.set x.fact.toNat (-sgn x)) ∧ opens (w.set x.fact.toNat (-sgn x)) < opens w0 ∧ ((2 ^ opens (w.set x.fact.toNat (-sgn x)) : Nat) : Int) ≤ left ∧ (w.set x.fact.toNat (-sgn x)).length = w0.length := by
  have hr' : inR w.length x := ⟨hr.1, by rw [h.ext.1]; exact hr.2⟩
  have hg0 : valAt w x.fact = 0 := by unfold litV at hv; split at hv <;> omega
  have hg0 : w[x.fact.toNat]? = some 0 := by rw [valAt_get hr', hg0]
  have hs := sgn_ne x
  have ho1 := opens_set (s := -sgn x) hg0 (by omega)
  have hpow : (2 : Nat) ^ opens w = 2 ^ opens (w.set x.fact.toNat (-sgn x)) + 2 ^ opens (w.set x.fact.toNat (-sgn x)) := by
    rw [← ho1, Nat.pow_succ]; omega
  have hpp : 0 < 2 ^ opens (w.set x.fact.toNat (-sgn x)) := Nat.pow_pos (by omega)
  refine ⟨tri_set h.tri _ (by omega), by have := h.ops; omega, by have := h.lo; omega, by rw [List.length_set]; exact h.ext.1⟩
/-- Found within the loop. -/
theorem SLoop.found {g : List (List FLit)} {l : List FLit} {w0 : List Int} {left0 : Int} {j : Nat} {set w : List Int} {left : Int} (h : SLoop g l w0 left0 j set w left) {x : FLit} (hr : inR w0.length x) (hv : litV w x = 0)
    {w' : List Int} {left' : Int} (hp : SPost g (w.set x.fact.toNat (-sgn x)) left true w' left') (h0 : ((2 ^ opens w0 : Nat) : Int) ≤ left0) : SPost g w0 left0 true w' left' := by
  have hr' : inR w.length x := ⟨hr.1, by rw [h.ext.1]; exact hr.2⟩
  have hg0 : valAt w x.fact = 0 := by unfold litV at hv; split at hv <;> omega
  have hg0 : w[x.fact.toNat]? = some 0 := by rw [valAt_get hr', hg0]
  have hs := sgn_ne x
  have ho1 := opens_set (s := -sgn x) hg0 (by omega)
  have hpow : (2 : Nat) ^ opens w = 2 ^ opens (w.set x.fact.toNat (-sgn x)) + 2 ^ opens (w.set x.fact.toNat (-sgn x)) := by
    rw [← ho1, Nat.pow_succ]; omega
  have hpp : 0 < 2 ^ opens (w.set x.fact.toNat (-sgn x)) := Nat.pow_pos (by omega)
  exact ⟨hp.tri, h.ext.trans ((ext_set hg0 _).trans hp.ext), by have := hp.lo; have := h.lo; omega, by have := hp.hi; have := h.hi; omega, hp.yes, by simp⟩
/-- All literals are through. -/
theorem SLoop.done {g : List (List FLit)} {l : List FLit} {w0 : List Int} {left0 : Int} {set w : List Int} {left : Int} (h : SLoop g l w0 left0 l.length set w left) (hl : l ∈ g) (ht : Tri w0) : SPost g w0 left0 false w0 left := by
  refine ⟨ht, .refl _, ?_, h.hi, by simp, fun _ => ⟨rfl, fun a hc => ?_⟩⟩
  · have := h.lo
    have hpp : 0 < 2 ^ opens w := Nat.pow_pos (by omega)
    omega
  · by_cases hg : ∀ t ∈ g, termT a t = false
    · refine ⟨l, hl, ?_⟩
      have h2 := (h.all a hc hg).2
      rw [List.take_length] at h2
      exact List.all_eq_true.2 h2
    · have ⟨t, hq⟩ := Classical.not_forall.1 hg
      have ⟨h3, h4⟩ := Classical.not_imp.1 hq
      exact ⟨t, h3, by simpa using h4⟩
end Go.Proofs.Ytbnhijapbnfohaa
/- The abstract layer, part 25: two cells of the store that a family of closures turns: a row of numbers and a number. -/
namespace Go.Ahl
def ai (n : Int) : AV := .int .i64 n
theorem mset (w : List Int) (k : Nat) (y : Int) : (w.map ai).set k (.int .i64 y) = (w.set k y).map ai := by rw [List.map_set]; rfl
/-- The store with row R and number L turned. -/
def upd (S : Store) (R L : Nat) (w : List Int) (n : Int) : Store := (S.set R (.row (w.map ai))).set L (.row [.int .i64 n])
section
variable {S : Store} {R L : Nat}
theorem upd_len (w : List Int) (n : Int) : (upd S R L w n).length = S.length := by simp [upd]
theorem upd_get {i : Nat} {o : AObj} (h : S[i]? = some o) (h1 : R ≠ i) (h2 : L ≠ i) (w : List Int) (n : Int) : (upd S R L w n)[i]? = some o := by
  rw [upd, List.getElem?_set_ne h2, List.getElem?_set_ne h1]; exact h
theorem upd_get' {i : Nat} {o : AObj} (h : S[i]? = some o) (h1 : R ≠ i) (h2 : L ≠ i) (w : List Int) (n : Int) (t : Store) : (upd S R L w n ++ t)[i]? = some o := by
  rw [List.getElem?_append_left (by rw [upd_len]; exact lt_of_get h)]; exact upd_get h h1 h2 w n
theorem upd_R (hR : R < S.length) (hne : R ≠ L) (w : List Int) (n : Int) : (upd S R L w n)[R]? = some (.row (w.map ai)) := by
  rw [upd, List.getElem?_set_ne (Ne.symm hne), List.getElem?_set_self hR]
theorem upd_R' (hR : R < S.length) (hne : R ≠ L) (w : List Int) (n : Int) (t : Store) : (upd S R L w n ++ t)[R]? = some (.row (w.map ai)) := by
  rw [List.getElem?_append_left (by rw [upd_len]; exact hR)]; exact upd_R hR hne w n
theorem upd_L (hL : L < S.length) (w : List Int) (n : Int) : (upd S R L w n)[L]? = some (.row [.int .i64 n]) := by
  rw [upd, List.getElem?_set_self (by simpa using hL)]
theorem upd_L' (hL : L < S.length) (w : List Int) (n : Int) (t : Store) : (upd S R L w n ++ t)[L]? = some (.row [.int .i64 n]) := by
  rw [List.getElem?_append_left (by rw [upd_len]; exact hL)]; exact upd_L hL w n
theorem upd_setL (w : List Int) (n k : Int) : (upd S R L w n).set L (.row [.int .i64 k]) = upd S R L w k := by rw [upd, upd, List.set_set]
theorem upd_setR (hne : R ≠ L) (w w' : List Int) (n : Int) : (upd S R L w n).set R (.row (w'.map ai)) = upd S R L w' n := by
  rw [upd, upd, List.set_comm _ _ (Ne.symm hne), List.set_set]
theorem upd_setR' (hR : R < S.length) (hne : R ≠ L) (w w' : List Int) (n : Int) (t : Store) : (upd S R L w n ++ t).set R (.row (w'.map ai)) = upd S R L w' n ++ t := by
  rw [List.set_append_left _ _ (by rw [upd_len]; exact hR), upd_setR hne]
theorem upd_app (hR : R < S.length) (hL : L < S.length) (w : List Int) (n : Int) (t : Store) : upd S R L w n ++ t = upd (S ++ t) R L w n := by
  rw [upd, upd, List.set_append_left _ _ hR, List.set_append_left _ _ (by simpa using hL)]
theorem upd_end (w : List Int) (n : Int) (x : AObj) (t : Store) : (upd S R L w n ++ x :: t)[S.length]? = some x := by
  rw [List.getElem?_append_right (by rw [upd_len]; omega), upd_len, Nat.sub_self]; rfl
theorem upd_endk (w : List Int) (n : Int) (t : Store) (k : Nat) : (upd S R L w n ++ t)[S.length + k]? = t[k]? := by
  rw [List.getElem?_append_right (by rw [upd_len]; omega), upd_len]; congr 1; omega
theorem upd_setEk (w : List Int) (n : Int) (y : AObj) (t : Store) (k : Nat) : (upd S R L w n ++ t).set (S.length + k) y = upd S R L w n ++ t.set k y := by
  rw [List.set_append_right _ _ (by rw [upd_len]; omega), upd_len]; congr 2; omega
theorem upd_setE (w : List Int) (n : Int) (x y : AObj) (t : Store) : (upd S R L w n ++ x :: t).set S.length y = upd S R L w n ++ y :: t := by
  rw [List.set_append_right _ _ (by rw [upd_len]; omega), upd_len, Nat.sub_self]; rfl
theorem ids_ai {n : Nat} (w : List Int) : IdsO n (.row (w.map ai)) := idsO_row (by intro x hx; obtain ⟨y, _, rfl⟩ := List.mem_map.1 hx; exact .int _ _)
theorem ids_upd {w w' : List Int} {n n' : Int} (h : IdsS S.length (upd S R L w n)) : IdsS S.length (upd S R L w' n') := by
  intro i o e
  by_cases h1 : L = i
  · subst h1
    rw [upd] at e
    rcases get_set e with ⟨_, rfl⟩ | ⟨h, _⟩
    · exact idsO_row (by intro x hx; simp at hx; subst hx; exact .int _ _)
    · exact absurd rfl h
  by_cases h2 : R = i
  · subst h2
    rw [upd, List.getElem?_set_ne h1] at e
    rcases get_set e with ⟨_, rfl⟩ | ⟨h, _⟩
    · exact ids_ai w'
    · exact absurd rfl h
  · rw [upd, List.getElem?_set_ne h1, List.getElem?_set_ne h2] at e
    exact h i o (by rw [upd, List.getElem?_set_ne h1, List.getElem?_set_ne h2]; exact e)
theorem ret_upd {nt t : Nat} {s : Slots} {g : Store} {Q : Cont} {w w' : List Int} {n n' : Int} (v : AV) (h : Q v (upd S R L w' n')) (hs : IdsS S.length (upd S R L w n)) (hw : Wk (lk s t) v := by exact Wk.refl _) (hi : Ids S.length v := by exact .bool _) :
    bodyK [.tmp t] S.length nt Q .ret s (upd S R L w' n' ++ g) := by
  have hs' : IdsS (upd S R L w' n').length (upd S R L w' n') := by rw [upd_len]; exact ids_upd hs
  refine ret_gh (v := v) (σ' := upd S R L w' n') (.keep g (by rw [upd_len]; omega) ⟨⟨hw, by rw [upd_len]; exact hi⟩, trivial⟩ hs') (by rw [upd_len]; omega) hs' (by rw [upd_len]; exact hi) h
theorem ret_upd0 {nt t : Nat} {s : Slots} {Q : Cont} {w w' : List Int} {n n' : Int} (v : AV) (h : Q v (upd S R L w' n')) (hs : IdsS S.length (upd S R L w n)) (hw : Wk (lk s t) v := by exact Wk.refl _) (hi : Ids S.length v := by exact .bool _) :
    bodyK [.tmp t] S.length nt Q .ret s (upd S R L w' n') := by
  have := ret_upd (g := []) (nt := nt) (n' := n') v h hs hw hi
  rwa [List.append_nil] at this
end
section
variable {n0 nt : Nat} {s s' : Slots} {σ : Store}
/-- The end of a function with three results. -/
theorem ret_gh3 {t u x : Nat} {v v1 v2 : AV} {σ' : Store} {R : Cont} {n0 : Nat} (hg : Ghost n0 nt s σ [(t, v), (u, v1), (x, v2)] σ') (h1 : (t == u) = false) (h2 : (t == x) = false) (h3 : (u == x) = false) (hn : n0 ≤ σ'.length) (hσ : IdsS σ'.length σ')
    (hi : Ids σ'.length v) (hj : Ids σ'.length v1) (hk : Ids σ'.length v2) (h : R (.tuple [v, v1, v2]) σ') : bodyK [.tmp t, .tmp u, .tmp x] n0 nt R .ret s σ := by
  refine ⟨_, _, hg, σ'.length, hn, by simpa using hσ, ?_⟩
  simp only [one, Ahl.lk, h1, h2, h3, beq_self_eq_true, cond_true, cond_false, List.take_length]
  exact ⟨.tuple _ (fun j y hy => by match j, hy with | 0, hy => simp at hy; subst hy; exact hi | 1, hy => simp at hy; subst hy; exact hj | 2, hy => simp at hy; subst hy; exact hk), h⟩
end
section -- ghosts
variable {S : Store} {R L : Nat} {nt : Nat} {s s' : Slots} {g : Store} {w w1 : List Int} {n n1 : Int}
theorem ghU_begin {n0 : Nat} (t sz : Nat) (r : Slots) (hs : IdsS S.length (upd S R L w1 n1)) (h1 : TellW s S.length ((t, .slice .nil []) :: r) := by simp only [TellW, lk, Nat.reduceBEq, cond_true, cond_false, and_true, List.length_cons, List.length_nil, Nat.reduceAdd]; and_intros <;> first | exact Wk.refl _ | exact Wk.unk _ _ | exact Wk.fresh _ _ | exact Wk.fresh0 _ | exact Wk.slice _ (WkLL.one (WkL.one (Wk.unk _ _))) | exact Wk.slice _ (WkLL.one (WkL.one (Wk.fresh _ _))) | exact Wk.any _ | first | assumption | exact .int _ _ | exact .bool _ | exact .str _ | exact .any | exact .mapnil | exact .ptr _ _ (by omega) | exact .ref _ _ _ _ (by omega) | exact .vec _ _ _ (by omega) | exact .map _ (by omega) | exact ids_mapE _ | exact ids_mapF _ | exact ids_growE (by omega) _ | exact ids_aggE _ | (refine ids_up ?_ (by assumption); omega) | exact ids_func0 _ | exact ids_nil _ (by simp) | (simp only [encLit, encI, encT, encC, encA, encE, encL, encTask, encB]; done)) (hn : n0 ≤ S.length := by first | exact Nat.le_refl _ | omega) : Ghost n0 nt s (upd S R L w n ++ g) ((t, .slice (.grow S.length) []) :: r) (upd S R L w n ++ [.grow sz 0]) := by
  have hl := upd_len (S := S) (R := R) (L := L) w n
  have := Ghost.begin (nt := nt) (n0 := n0) (σ := upd S R L w n) (g := g) (s := s) t sz r (by omega) (by rw [hl]; exact h1) (by rw [hl]; exact ids_upd hs)
  rwa [hl] at this
theorem ghU_begin0 {n0 : Nat} (t sz : Nat) (r : Slots) (hs : IdsS S.length (upd S R L w1 n1)) (h1 : TellW s S.length ((t, .slice .nil []) :: r) := by simp only [TellW, lk, Nat.reduceBEq, cond_true, cond_false, and_true, List.length_cons, List.length_nil, Nat.reduceAdd]; and_intros <;> first | exact Wk.refl _ | exact Wk.unk _ _ | exact Wk.fresh _ _ | exact Wk.fresh0 _ | exact Wk.slice _ (WkLL.one (WkL.one (Wk.unk _ _))) | exact Wk.slice _ (WkLL.one (WkL.one (Wk.fresh _ _))) | exact Wk.any _ | first | assumption | exact .int _ _ | exact .bool _ | exact .str _ | exact .any | exact .mapnil | exact .ptr _ _ (by omega) | exact .ref _ _ _ _ (by omega) | exact .vec _ _ _ (by omega) | exact .map _ (by omega) | exact ids_mapE _ | exact ids_mapF _ | exact ids_growE (by omega) _ | exact ids_aggE _ | (refine ids_up ?_ (by assumption); omega) | exact ids_func0 _ | exact ids_nil _ (by simp) | (simp only [encLit, encI, encT, encC, encA, encE, encL, encTask, encB]; done)) (hn : n0 ≤ S.length := by first | exact Nat.le_refl _ | omega) : Ghost n0 nt s (upd S R L w n) ((t, .slice (.grow S.length) []) :: r) (upd S R L w n ++ [.grow sz 0]) := by
  have := ghU_begin (g := []) (nt := nt) (w := w) (n := n) t sz r hs h1 hn
  rwa [List.append_nil] at this
theorem ghU {n0 : Nat} (l : Store) (hs : IdsS S.length (upd S R L w1 n1)) (hl : ∀ o ∈ l, IdsO (S.length + l.length) o) (h1 : TellW s (S.length + l.length) s' := by simp only [TellW, lk, Nat.reduceBEq, cond_true, cond_false, and_true, List.length_cons, List.length_nil, Nat.reduceAdd]; and_intros <;> first | exact Wk.refl _ | exact Wk.unk _ _ | exact Wk.fresh _ _ | exact Wk.fresh0 _ | exact Wk.slice _ (WkLL.one (WkL.one (Wk.unk _ _))) | exact Wk.slice _ (WkLL.one (WkL.one (Wk.fresh _ _))) | exact Wk.any _ | first | assumption | exact .int _ _ | exact .bool _ | exact .str _ | exact .any | exact .mapnil | exact .ptr _ _ (by omega) | exact .ref _ _ _ _ (by omega) | exact .vec _ _ _ (by omega) | exact .map _ (by omega) | exact ids_mapE _ | exact ids_mapF _ | exact ids_growE (by omega) _ | exact ids_aggE _ | (refine ids_up ?_ (by assumption); omega) | exact ids_func0 _ | exact ids_nil _ (by simp) | (simp only [encLit, encI, encT, encC, encA, encE, encL, encTask, encB]; done)) (hn : n0 ≤ S.length := by first | exact Nat.le_refl _ | omega) : Ghost n0 nt s (upd S R L w n ++ (l ++ g)) s' (upd S R L w n ++ l) := by
  have hl' := upd_len (S := S) (R := R) (L := L) w n
  exact Ghost.keepL l rfl (by omega) (by rw [hl']; exact h1) (idsS_app l (by rw [hl']; exact ids_upd hs) (by rw [hl']; exact hl))
theorem ghU0 {n0 : Nat} (l : Store) (hs : IdsS S.length (upd S R L w1 n1)) (hl : ∀ o ∈ l, IdsO (S.length + l.length) o) (h1 : TellW s (S.length + l.length) s' := by simp only [TellW, lk, Nat.reduceBEq, cond_true, cond_false, and_true, List.length_cons, List.length_nil, Nat.reduceAdd]; and_intros <;> first | exact Wk.refl _ | exact Wk.unk _ _ | exact Wk.fresh _ _ | exact Wk.fresh0 _ | exact Wk.slice _ (WkLL.one (WkL.one (Wk.unk _ _))) | exact Wk.slice _ (WkLL.one (WkL.one (Wk.fresh _ _))) | exact Wk.any _ | first | assumption | exact .int _ _ | exact .bool _ | exact .str _ | exact .any | exact .mapnil | exact .ptr _ _ (by omega) | exact .ref _ _ _ _ (by omega) | exact .vec _ _ _ (by omega) | exact .map _ (by omega) | exact ids_mapE _ | exact ids_mapF _ | exact ids_growE (by omega) _ | exact ids_aggE _ | (refine ids_up ?_ (by assumption); omega) | exact ids_func0 _ | exact ids_nil _ (by simp) | (simp only [encLit, encI, encT, encC, encA, encE, encL, encTask, encB]; done)) (hn : n0 ≤ S.length := by first | exact Nat.le_refl _ | omega) : Ghost n0 nt s (upd S R L w n ++ l) s' (upd S R L w n ++ l) := by
  have := ghU (g := []) (nt := nt) (w := w) (n := n) l hs hl h1 hn
  rwa [List.append_nil] at this
theorem ghUn {n0 : Nat} (hs : IdsS S.length (upd S R L w1 n1)) (h1 : TellW s S.length s' := by simp only [TellW, lk, Nat.reduceBEq, cond_true, cond_false, and_true, List.length_cons, List.length_nil, Nat.reduceAdd]; and_intros <;> first | exact Wk.refl _ | exact Wk.unk _ _ | exact Wk.fresh _ _ | exact Wk.fresh0 _ | exact Wk.slice _ (WkLL.one (WkL.one (Wk.unk _ _))) | exact Wk.slice _ (WkLL.one (WkL.one (Wk.fresh _ _))) | exact Wk.any _ | first | assumption | exact .int _ _ | exact .bool _ | exact .str _ | exact .any | exact .mapnil | exact .ptr _ _ (by omega) | exact .ref _ _ _ _ (by omega) | exact .vec _ _ _ (by omega) | exact .map _ (by omega) | exact ids_mapE _ | exact ids_mapF _ | exact ids_growE (by omega) _ | exact ids_aggE _ | (refine ids_up ?_ (by assumption); omega) | exact ids_func0 _ | exact ids_nil _ (by simp) | (simp only [encLit, encI, encT, encC, encA, encE, encL, encTask, encB]; done)) (hn : n0 ≤ S.length := by first | exact Nat.le_refl _ | omega) : Ghost n0 nt s (upd S R L w n ++ g) s' (upd S R L w n) := by
  have := ghU (g := g) (nt := nt) (w := w) (n := n) [] hs (by simp) h1 hn
  rwa [List.nil_append, List.append_nil] at this
theorem ghUn0 {n0 : Nat} (hs : IdsS S.length (upd S R L w1 n1)) (h1 : TellW s S.length s' := by simp only [TellW, lk, Nat.reduceBEq, cond_true, cond_false, and_true, List.length_cons, List.length_nil, Nat.reduceAdd]; and_intros <;> first | exact Wk.refl _ | exact Wk.unk _ _ | exact Wk.fresh _ _ | exact Wk.fresh0 _ | exact Wk.slice _ (WkLL.one (WkL.one (Wk.unk _ _))) | exact Wk.slice _ (WkLL.one (WkL.one (Wk.fresh _ _))) | exact Wk.any _ | first | assumption | exact .int _ _ | exact .bool _ | exact .str _ | exact .any | exact .mapnil | exact .ptr _ _ (by omega) | exact .ref _ _ _ _ (by omega) | exact .vec _ _ _ (by omega) | exact .map _ (by omega) | exact ids_mapE _ | exact ids_mapF _ | exact ids_growE (by omega) _ | exact ids_aggE _ | (refine ids_up ?_ (by assumption); omega) | exact ids_func0 _ | exact ids_nil _ (by simp) | (simp only [encLit, encI, encT, encC, encA, encE, encL, encTask, encB]; done)) (hn : n0 ≤ S.length := by first | exact Nat.le_refl _ | omega) : Ghost n0 nt s (upd S R L w n) s' (upd S R L w n) := by
  have := ghUn (g := []) (nt := nt) (w := w) (n := n) hs h1 hn
  rwa [List.append_nil] at this
end
section
variable {nt t u x : Nat} {s : Slots} {σ S : Store} {R : Cont}
/-- The end of a function with three results whose store begins as it was. -/
theorem ret3 (v v1 v2 : AV) (ht : S.take σ.length = σ) (h : R (.tuple [v, v1, v2]) σ) (hσ : IdsS σ.length σ := by assumption) (h1 : (t == u) = false := by rfl) (h2 : (t == x) = false := by rfl) (h3 : (u == x) = false := by rfl)
    (hw : Wk (lk s t) v := by first | exact Wk.refl _ | exact Wk.unk _ _ | exact Wk.fresh _ _ | exact Wk.fresh0 _ | exact Wk.any _) (hw1 : Wk (lk s u) v1 := by first | exact Wk.refl _ | exact Wk.unk _ _ | exact Wk.fresh _ _ | exact Wk.fresh0 _ | exact Wk.any _) (hw2 : Wk (lk s x) v2 := by first | exact Wk.refl _ | exact Wk.unk _ _ | exact Wk.fresh _ _ | exact Wk.fresh0 _ | exact Wk.any _) (hi : Ids σ.length v := by first | assumption | exact .int _ _ | exact .bool _ | exact .str _ | exact .any | exact .mapnil | exact .ptr _ _ (by omega) | exact .ref _ _ _ _ (by omega) | exact .vec _ _ _ (by omega) | exact .map _ (by omega) | exact ids_mapE _ | exact ids_mapF _ | exact ids_growE (by omega) _ | exact ids_aggE _ | (refine ids_up ?_ (by assumption); omega) | exact ids_func0 _ | exact ids_nil _ (by simp) | (simp only [encLit, encI, encT, encC, encA, encE, encL, encTask, encB]; done)) (hj : Ids σ.length v1 := by first | assumption | exact .int _ _ | exact .bool _ | exact .str _ | exact .any | exact .mapnil | exact .ptr _ _ (by omega) | exact .ref _ _ _ _ (by omega) | exact .vec _ _ _ (by omega) | exact .map _ (by omega) | exact ids_mapE _ | exact ids_mapF _ | exact ids_growE (by omega) _ | exact ids_aggE _ | (refine ids_up ?_ (by assumption); omega) | exact ids_func0 _ | exact ids_nil _ (by simp) | (simp only [encLit, encI, encT, encC, encA, encE, encL, encTask, encB]; done)) (hk : Ids σ.length v2 := by first | assumption | exact .int _ _ | exact .bool _ | exact .str _ | exact .any | exact .mapnil | exact .ptr _ _ (by omega) | exact .ref _ _ _ _ (by omega) | exact .vec _ _ _ (by omega) | exact .map _ (by omega) | exact ids_mapE _ | exact ids_mapF _ | exact ids_growE (by omega) _ | exact ids_aggE _ | (refine ids_up ?_ (by assumption); omega) | exact ids_func0 _ | exact ids_nil _ (by simp) | (simp only [encLit, encI, encT, encC, encA, encE, encL, encTask, encB]; done)) : bodyK [.tmp t, .tmp u, .tmp x] σ.length nt R .ret s S := by
  refine ret_gh3 (v := v) (v1 := v1) (v2 := v2) (σ' := σ) ?_ h1 h2 h3 (Nat.le_refl _) hσ hi hj hk h
  have := Ghost.cut (n0 := σ.length) (nt := nt) (σ := S) (s := s) [(t, v), (u, v1), (x, v2)] σ.length (Nat.le_refl _) ⟨⟨hw, hi⟩, ⟨hw1, hj⟩, ⟨hw2, hk⟩, trivial⟩ (by rw [ht]; exact hσ)
  rwa [ht] at this
end
end Go.Ahl
namespace Go.Proofs.Ytbnhijapbnfohaa
open Go.Ahl
def c_esc1 : CCode := .seq (.ops [⟨some 2, .box (.tmp 0), none, []⟩, ⟨some 3, .move (.lit (.int .i64 0)), none, []⟩]) (.seq (.seq (.ops [⟨some 4, .faddr 1 (.tmp 2), none, []⟩, ⟨some 5, .load none (.tmp 4), none, []⟩]) (.cond (.tmp 5) (.seq (.ops [⟨some 6, .load none (.tmp 1), none, []⟩, ⟨some 7, .faddr 0 (.tmp 2), none, []⟩, ⟨some 8, .load none (.tmp 7), none, []⟩, ⟨some 9, .iaddr 1 (.tmp 6) (.tmp 8), none, []⟩, ⟨some 10, .load none (.tmp 9), none, []⟩, ⟨some 11, .un .neg (.tmp 10), none, []⟩, ⟨some 3, .move (.tmp 11), none, []⟩]) .ret) .skip)) (.seq (.ops [⟨some 12, .load none (.tmp 1), none, []⟩, ⟨some 13, .faddr 0 (.tmp 2), none, []⟩, ⟨some 14, .load none (.tmp 13), none, []⟩, ⟨some 15, .iaddr 1 (.tmp 12) (.tmp 14), none, []⟩, ⟨some 16, .load none (.tmp 15), none, []⟩, ⟨some 3, .move (.tmp 16), none, []⟩]) .ret))
set_option maxRecDepth 20000 in
theorem esc1_spec (V R : Nat) (w : List Int) (x : FLit) (σ : Store) (hV : σ[V]? = some (.row [.ref R 1 0 w.length])) (hR : σ[R]? = some (.row (w.map ai))) (hx : inR w.length x) (hw : Tri w) :
    ACalls Try.prog 56 [.agg (encLit x), .ptr V 0] σ (isR (.int .i64 (litV w x)) σ) := by
  refine ACalls.intro (rs := [(.tmp 3)]) (by kernel_rfl) { own := [], ghosts := [] } Try.func56 (c := Try.f56.body.getD .skip) (by kernel_rfl) (by decide) (by rw [show Try.f56.ntmps = 17 by kernel_rfl]; exact Nat.le_of_ble_eq_true rfl) (by kernel_rfl) ?_
  intro hσ hids
  rw [show comp Try.prog { own := [], ghosts := [] } (Try.f56.body.getD .skip) = c_esc1 by kernel_rfl, show Try.f56.ntmps = 17 by kernel_rfl]
  unfold c_esc1
  have hV' : ∀ l, (σ ++ l)[V]? = some (.row [.ref R 1 0 w.length]) := fun l => by rw [List.getElem?_append_left (lt_of_get hV)]; exact hV
  have hR' : ∀ l, (σ ++ l)[R]? = some (.row (w.map ai)) := fun l => by rw [List.getElem?_append_left (lt_of_get hR)]; exact hR
  have h0 := hx.1
  have h1 : x.fact.toNat < w.length := by have := hx.2; omega
  have hg := valAt_get hx
  have ht := valAt_tri hw x.fact
  have hwn : IntKind.i64.wrap (0 - valAt w x.fact) = -valAt w x.fact := by rw [wrap_ok (by omega)]; omega
  unfold litV
  cases hn : x.neg
  · simp only [go_sem, Int.reduceToNat, Int.reduceLE, Int.reduceLT, Nat.reduceBEq, Nat.reduceLT, Nat.reduceAdd, Nat.reduceLeDiff, encLit, hn, hV', hR', h0, h1, hg, ai]
    first | exact rtk (.int .i64 (valAt w x.fact)) ⟨rfl, rfl⟩ | exact rtk0 (.int .i64 (valAt w x.fact)) ⟨rfl, rfl⟩
  · simp only [go_sem, Int.reduceToNat, Int.reduceLE, Int.reduceLT, Nat.reduceBEq, Nat.reduceLT, Nat.reduceAdd, Nat.reduceLeDiff, encLit, hn, hV', hR', h0, h1, hg, ai, hwn]
    first | exact rtk (.int .i64 (-valAt w x.fact)) ⟨rfl, rfl⟩ | exact rtk0 (.int .i64 (-valAt w x.fact)) ⟨rfl, rfl⟩
def c_esc211 : CCode := .seq (.ops [⟨some 2, .box (.tmp 0), none, []⟩, ⟨some 3, .move (.lit (.bool false)), none, []⟩]) (.seq (.ops [⟨some 4, .load none (.tmp 1), none, []⟩, ⟨some 5, .load (some 2) (.tmp 2), none, []⟩, ⟨some 6, .call (.tmp 4) [.tmp 5], none, []⟩, ⟨some 7, .bin .lss .none (.tmp 6) (.lit (.int .i64 0)), none, []⟩, ⟨some 3, .move (.tmp 7), none, []⟩]) .ret)
set_option maxRecDepth 20000 in
theorem esc211_spec (V R H : Nat) (w : List Int) (x : FLit) (σ : Store) (hV : σ[V]? = some (.row [.ref R 1 0 w.length])) (hR : σ[R]? = some (.row (w.map ai))) (hH : σ[H]? = some (.row [.func 56 [.ptr V 0]])) (hx : inR w.length x) (hw : Tri w) :
    ACalls Try.prog 61 [.agg (encLit x), .ptr H 0] σ (isR (.bool (decide (litV w x < 0))) σ) := by
  refine ACalls.intro (rs := [(.tmp 3)]) (by kernel_rfl) { own := [], ghosts := [] } Try.func61 (c := Try.f61.body.getD .skip) (by kernel_rfl) (by decide) (by rw [show Try.f61.ntmps = 8 by kernel_rfl]; exact Nat.le_of_ble_eq_true rfl) (by kernel_rfl) ?_
  intro hσ hids
  rw [show comp Try.prog { own := [], ghosts := [] } (Try.f61.body.getD .skip) = c_esc211 by kernel_rfl, show Try.f61.ntmps = 8 by kernel_rfl]
  unfold c_esc211
  have hV' : ∀ l, (σ ++ l)[V]? = some (.row [.ref R 1 0 w.length]) := fun l => by rw [List.getElem?_append_left (lt_of_get hV)]; exact hV
  have hR' : ∀ l, (σ ++ l)[R]? = some (.row (w.map ai)) := fun l => by rw [List.getElem?_append_left (lt_of_get hR)]; exact hR
  have hH' : ∀ l, (σ ++ l)[H]? = some (.row [.func 56 [.ptr V 0]]) := fun l => by rw [List.getElem?_append_left (lt_of_get hH)]; exact hH
  simp only [go_sem, Int.reduceToNat, Int.reduceLE, Int.reduceLT, Nat.reduceBEq, Nat.reduceLT, Nat.reduceAdd, Nat.reduceLeDiff, encLit, hH']
  refine (esc1_spec V R w x _ (hV' _) (hR' _) hx hw).is ?_
  simp only [go_sem, Int.reduceToNat, Int.reduceLE, Int.reduceLT, Nat.reduceBEq, Nat.reduceLT, Nat.reduceAdd, Nat.reduceLeDiff]
  first | exact rtw (v := .bool _) wkS ⟨rfl, rfl⟩ | exact rtw0 (v := .bool _) wkS ⟨rfl, rfl⟩
def c_esc21 : CCode := .seq (.ops [⟨some 3, .move (.lit (.bool false)), none, []⟩]) (.seq (.ops [⟨some 4, .move (.tmp 0), none, []⟩, ⟨some 5, .mkfunc 61 [.tmp 1], none, []⟩, ⟨some 6, .call (.lit (.func 60 [])) [.tmp 4, .tmp 5], none, []⟩, ⟨some 7, .un .not (.tmp 6), none, []⟩, ⟨some 3, .move (.tmp 7), none, []⟩]) .ret)
set_option maxRecDepth 20000 in
theorem esc21_spec (V R H : Nat) (w : List Int) (l : List FLit) (σ : Store) (hV : σ[V]? = some (.row [.ref R 1 0 w.length])) (hR : σ[R]? = some (.row (w.map ai))) (hH : σ[H]? = some (.row [.func 56 [.ptr V 0]])) (hx : ∀ x ∈ l, inR w.length x) (hw : Tri w) (hl : l.length ≤ 140737488355328) :
    ACalls Try.prog 59 [.slice .unk (l.map encLit), .ptr H 0] σ (isR (.bool (liveT w l)) σ) := by
  refine ACalls.intro (rs := [(.tmp 3)]) (by kernel_rfl) { own := [], ghosts := [] } Try.func59 (c := Try.f59.body.getD .skip) (by kernel_rfl) (by decide) (by rw [show Try.f59.ntmps = 8 by kernel_rfl]; exact Nat.le_of_ble_eq_true rfl) (by kernel_rfl) ?_
  intro hσ hids
  rw [show comp Try.prog { own := [], ghosts := [] } (Try.f59.body.getD .skip) = c_esc21 by kernel_rfl, show Try.f59.ntmps = 8 by kernel_rfl]
  unfold c_esc21
  have hii : Ids σ.length (.ptr H 0) := .ptr _ _ (lt_of_get hH)
  simp only [go_sem, Int.reduceToNat, Int.reduceLE, Int.reduceLT, Nat.reduceBEq, Nat.reduceLT, Nat.reduceAdd, Nat.reduceLeDiff]
  refine (containsFuncL_spec l _ [.ptr H 0] (fun x => decide (litV w x < 0)) .unk σ hl (fun x hm => esc211_spec V R H w x σ hV hR hH (hx x hm) hw)).is ?_
  simp only [go_sem, Int.reduceToNat, Int.reduceLE, Int.reduceLT, Nat.reduceBEq, Nat.reduceLT, Nat.reduceAdd, Nat.reduceLeDiff]
  first | exact rtw (v := .bool _) wkS ⟨rfl, rfl⟩ | exact rtw0 (v := .bool _) wkS ⟨rfl, rfl⟩
/-- The cells of a search. -/
structure EscE (S : Store) (V R L G H Z n : Nat) (gt : Tok) (g : List (List FLit)) : Prop where
  v : S[V]? = some (.row [.ref R 1 0 n])
  r : R < S.length
  l : L < S.length
  g : S[G]? = some (.row [.slice gt (g.map encC)])
  h : S[H]? = some (.row [.func 56 [.ptr V 0]])
  z : S[Z]? = some (.row [.func 57 [.ptr L 0, .ptr G 0, .ptr H 0, .ptr V 0, .ptr Z 0]])
  rl : R ≠ L
  rv : R ≠ V
  lv : L ≠ V
  rg : R ≠ G
  lg : L ≠ G
  rh : R ≠ H
  lh : L ≠ H
  rz : R ≠ Z
  lz : L ≠ Z
theorem EscE.app {S : Store} {V R L G H Z n : Nat} {gt : Tok} {g : List (List FLit)} (e : EscE S V R L G H Z n gt g) (t : Store) : EscE (S ++ t) V R L G H Z n gt g where
  v := by rw [List.getElem?_append_left (lt_of_get e.v)]; exact e.v
  r := by have := e.r; simp; omega
  l := by have := e.l; simp; omega
  g := by rw [List.getElem?_append_left (lt_of_get e.g)]; exact e.g
  h := by rw [List.getElem?_append_left (lt_of_get e.h)]; exact e.h
  z := by rw [List.getElem?_append_left (lt_of_get e.z)]; exact e.z
  rl := e.rl
  rv := e.rv
  lv := e.lv
  rg := e.rg
  lg := e.lg
  rh := e.rh
  lh := e.lh
  rz := e.rz
  lz := e.lz
def c_esc2 : CCode := .seq (.ops [⟨some 5, .move (.lit (.bool false)), none, []⟩]) (.seq (.seq (.ops [⟨some 14, .load none (.tmp 0), none, []⟩, ⟨some 15, .bin .sub .none (.tmp 14) (.lit (.int .i64 1)), none, []⟩, ⟨none, .store 1 (.tmp 0) (.tmp 15), none, []⟩]) (.seq (.ops [⟨some 16, .load none (.tmp 0), none, []⟩, ⟨some 17, .bin .lss .none (.tmp 16) (.lit (.int .i64 0)), none, []⟩]) (.cond (.tmp 17) (.seq (.ops [⟨some 5, .move (.lit (.bool true)), none, []⟩]) .ret) .skip))) (.seq (.ops [⟨some 18, .load none (.tmp 1), none, []⟩, ⟨some 19, .mkfunc 59 [.tmp 2], none, []⟩, ⟨some 20, .call (.lit (.func 58 [])) [.tmp 18, .tmp 19], none, []⟩, ⟨some 6, .move (.tmp 20), none, []⟩]) (.seq (.seq (.ops [⟨some 21, .move (.tmp 6), none, []⟩, ⟨some 22, .bin .lss .none (.tmp 21) (.lit (.int .i64 0)), none, []⟩]) (.cond (.tmp 22) (.seq (.ops [⟨some 5, .move (.lit (.bool true)), none, []⟩]) .ret) .skip)) (.seq (.ops [⟨some 7, .move (.lit (.slice .nil [])), none, []⟩]) (.seq (.ops [⟨some 8, .move (.lit (.bool false)), none, []⟩]) (.seq (.seq (.ops [⟨some 23, .load none (.tmp 1), none, []⟩, ⟨some 24, .move (.tmp 6), none, []⟩, ⟨some 25, .iaddr 1 (.tmp 23) (.tmp 24), none, []⟩, ⟨some 26, .load none (.tmp 25), none, []⟩, ⟨some 27, .blen 1 (.tmp 26), none, []⟩, ⟨some 28, .move (.lit (.int .i64 0)), none, []⟩]) (.block 0 (.loop (.seq (.ops [⟨some 29, .bin .lss .none (.tmp 28) (.tmp 27), none, []⟩]) (.seq (.cond (.tmp 29) .skip (.exit 0)) (.seq (.block 1 (.seq (.ops [⟨some 30, .iaddr 2 (.tmp 26) (.tmp 28), none, []⟩, ⟨some 31, .load (some 2) (.tmp 30), none, []⟩, ⟨some 10, .alloc (.agg [.int .i64 0, .bool false]), none, []⟩, ⟨none, .store 2 (.tmp 10) (.tmp 31), none, []⟩]) (.seq (.seq (.ops [⟨some 32, .load none (.tmp 2), none, []⟩, ⟨some 33, .load (some 2) (.tmp 10), none, []⟩, ⟨some 34, .call (.tmp 32) [.tmp 33], none, []⟩, ⟨some 35, .bin .neq .none (.tmp 34) (.lit (.int .i64 0)), none, []⟩]) (.cond (.tmp 35) (.exit 1) .skip)) (.seq (.ops [⟨some 11, .move (.lit (.int .i64 1)), none, []⟩]) (.seq (.seq (.ops [⟨some 36, .faddr 1 (.tmp 10), none, []⟩, ⟨some 37, .load none (.tmp 36), none, []⟩]) (.cond (.tmp 37) (.ops [⟨some 11, .move (.lit (.int .i64 (-1))), none, []⟩]) .skip)) (.seq (.ops [⟨some 38, .load none (.tmp 3), none, []⟩, ⟨some 39, .faddr 0 (.tmp 10), none, []⟩, ⟨some 40, .load none (.tmp 39), none, []⟩, ⟨some 41, .move (.tmp 11), none, []⟩, ⟨some 42, .un .neg (.tmp 41), none, []⟩, ⟨some 43, .iaddr 1 (.tmp 38) (.tmp 40), none, []⟩, ⟨none, .store 1 (.tmp 43) (.tmp 42), none, []⟩]) (.seq (.seq (.ops [⟨some 44, .load none (.tmp 4), none, []⟩, ⟨some 45, .call (.tmp 44) [], none, []⟩, ⟨some 8, .move (.tmp 45), none, []⟩]) (.seq (.ops [⟨some 46, .move (.tmp 8), none, []⟩]) (.cond (.tmp 46) (.exit 0) .skip))) (.seq (.ops [⟨some 47, .load none (.tmp 3), none, []⟩, ⟨some 48, .faddr 0 (.tmp 10), none, []⟩, ⟨some 49, .load none (.tmp 48), none, []⟩, ⟨some 50, .move (.tmp 11), none, []⟩, ⟨some 51, .iaddr 1 (.tmp 47) (.tmp 49), none, []⟩, ⟨none, .store 1 (.tmp 51) (.tmp 50), none, []⟩]) (.ops [⟨some 52, .move (.tmp 7), none, []⟩, ⟨some 53, .faddr 0 (.tmp 10), none, []⟩, ⟨some 54, .load none (.tmp 53), none, []⟩, ⟨some 55, .bslice 1 [.tmp 54] false, none, []⟩, ⟨some 56, .bappend 1 8 (.tmp 52) (.tmp 55) false, none, []⟩, ⟨some 7, .move (.tmp 56), none, []⟩]))))))))) (.ops [⟨some 57, .bin .add .none (.tmp 28) (.lit (.int .i64 1)), none, []⟩, ⟨some 28, .move (.tmp 57), none, []⟩]))))))) (.seq (.seq (.ops [⟨some 58, .move (.tmp 8), none, []⟩, ⟨some 59, .un .not (.tmp 58), none, []⟩]) (.cond (.tmp 59) (.seq (.ops [⟨some 60, .move (.tmp 7), none, []⟩, ⟨some 61, .blen 1 (.tmp 60), none, []⟩, ⟨some 62, .move (.lit (.int .i64 0)), none, []⟩]) (.block 2 (.loop (.seq (.ops [⟨some 63, .bin .lss .none (.tmp 62) (.tmp 61), none, []⟩]) (.seq (.cond (.tmp 63) .skip (.exit 2)) (.seq (.block 3 (.seq (.ops [⟨some 64, .iaddr 1 (.tmp 60) (.tmp 62), none, []⟩, ⟨some 65, .load none (.tmp 64), none, []⟩, ⟨some 13, .move (.tmp 65), none, []⟩]) (.ops [⟨some 66, .load none (.tmp 3), none, []⟩, ⟨some 67, .move (.tmp 13), none, []⟩, ⟨some 68, .iaddr 1 (.tmp 66) (.tmp 67), none, []⟩, ⟨none, .store 1 (.tmp 68) (.lit (.int .i64 0)), none, []⟩]))) (.ops [⟨some 69, .bin .add .none (.tmp 62) (.lit (.int .i64 1)), none, []⟩, ⟨some 62, .move (.tmp 69), none, []⟩]))))))) .skip)) (.seq (.ops [⟨some 70, .move (.tmp 8), none, []⟩, ⟨some 5, .move (.tmp 70), none, []⟩]) .ret))))))))
set_option maxRecDepth 20000 in
set_option maxHeartbeats 1000000 in
theorem esc2_spec (V R L G H Z n : Nat) (gt : Tok) (g : List (List FLit)) (hg : ∀ l ∈ g, condB n (-1) l = true) (hgl : g.length ≤ 1048576) (hn : n ≤ 1048576) :
    ∀ (o : Nat) (S : Store) (w : List Int) (left : Int), EscE S V R L G H Z n gt g → w.length = n → Tri w → opens w = o → ((2 ^ o : Nat) : Int) ≤ left → left ≤ 9223372036854775807 →
      ACalls Try.prog 57 [.ptr L 0, .ptr G 0, .ptr H 0, .ptr V 0, .ptr Z 0] (upd S R L w left) (fun r σ' => ∃ b w' left', r = .bool b ∧ σ' = upd S R L w' left' ∧ SPost g w left b w' left') := by
  intro o
  induction o using Nat.strongRecOn with
  | ind o ih =>
  intro S w0 left0 e hw0 ht0 ho hl0 hl1
  have hp0 : 0 < 2 ^ o := Nat.pow_pos (by omega)
  have hp1 : 0 < 2 ^ opens w0 := Nat.pow_pos (by omega)
  have hinR : ∀ l ∈ g, ∀ x ∈ l, inR n x := fun l hl x hx => by have := (cond_apart (hg l hl)).1 x hx; exact ⟨by omega, this.2⟩
  have hlen : ∀ l ∈ g, l.length ≤ 1048577 := fun l hl => by
    rcases condB_len (hg l hl) with h | h
    · rw [h]; simp
    · omega
  refine ACalls.intro (rs := [(.tmp 5)]) (by kernel_rfl) { own := [], ghosts := [] } Try.func57 (c := Try.f57.body.getD .skip) (by kernel_rfl) (by decide) (by rw [show Try.f57.ntmps = 71 by kernel_rfl]; exact Nat.le_of_ble_eq_true rfl) (by kernel_rfl) ?_
  intro hσ hids
  rw [show comp Try.prog { own := [], ghosts := [] } (Try.f57.body.getD .skip) = c_esc2 by kernel_rfl, show Try.f57.ntmps = 71 by kernel_rfl]
  unfold c_esc2
  rw [upd_len] at hσ hids ⊢
  have iV := lt_of_get e.v
  have iH := lt_of_get e.h
  have iZ := lt_of_get e.z
  have gV := upd_get e.v e.rv e.lv
  have gV' := upd_get' e.v e.rv e.lv
  have gG := upd_get e.g e.rg e.lg
  have gH := upd_get e.h e.rh e.lh
  have gH' := upd_get' e.h e.rh e.lh
  have gZ' := upd_get' e.z e.rz e.lz
  have gR := upd_R e.r e.rl
  have gR' := upd_R' e.r e.rl
  have gL := upd_L (R := R) e.l
  have sL := @upd_setL S R L
  have sR' := @upd_setR' S R L e.r e.rl
  have hwl : IntKind.i64.wrap (left0 - 1) = left0 - 1 := wrap_ok (by omega)
  have hnl : ¬ (left0 - 1 < 0) := by omega
  simp only [go_sem, Int.reduceToNat, Int.reduceLE, Int.reduceLT, Nat.reduceBEq, Nat.reduceLT, Nat.reduceAdd, Nat.reduceLeDiff, gL, sL, hwl, hnl, gG]
  have hp := fun l (hl : l ∈ g) => esc21_spec V R H w0 l (upd S R L w0 (left0 - 1)) (by rw [hw0]; exact gV _ _) (gR _ _) (gH _ _) (by rw [hw0]; exact hinR l hl) ht0 (by have := hlen l hl; omega)
  refine (indexFuncC_spec (fun l : List FLit => .slice .unk (l.map encLit)) g 59 [.ptr H 0] (liveT w0) gt _ (by omega) hp).is ?_
  rcases idxFrom_some (liveT w0) g 0 (by omega) with ⟨h1, h2⟩ | ⟨i, h1, l, h2, h3⟩
  · rw [h1]
    simp only [go_sem, Int.reduceToNat, Int.reduceLE, Int.reduceLT, Nat.reduceBEq, Nat.reduceLT, Nat.reduceAdd, Nat.reduceLeDiff]
    refine ret_upd0 _ ⟨true, w0, left0 - 1, rfl, rfl, ht0, .refl _, by omega, by omega, fun _ l hl => ?_, by simp⟩ hσ
    have := h2 l hl
    simp only [liveT, Bool.not_eq_false', List.any_eq_true, decide_eq_true_eq] at this
    exact this
  · have hm := List.mem_of_getElem? h2
    have hll := hlen l hm
    have hi : i < g.length := lt_of_get h2
    have hni : ¬ ((i : Int) < 0) := by omega
    rw [h1, Int.zero_add]
    simp only [go_sem, Int.reduceToNat, Int.reduceLE, Int.reduceLT, Nat.reduceBEq, Nat.reduceLT, Nat.reduceAdd, Nat.reduceLeDiff, hni, gG, h2, encC]
    have sE := @upd_setE S R L
    have gE := @upd_end S R L
    have hgr : ∀ k : Nat, ∀ o ∈ [AObj.grow 1 k], IdsO (S.length + 1) o := fun k o ho => by simp at ho; subst ho; trivial
    refine wpc_while (α := Nat × List Int × List Int × Int) (fun q => [(7, .slice (.grow S.length) (q.2.1.map Ahl.encI)), (2, .ptr H 0), (3, .ptr V 0), (4, .ptr Z 0), (8, .bool false), (26, .slice .unk (l.map encLit)), (27, .int .i64 l.length), (28, .int .i64 q.1)])
      (fun q => upd S R L q.2.2.1 q.2.2.2 ++ [.grow 1 q.2.1.length]) (fun q => SLoop g l w0 left0 q.1 q.2.1 q.2.2.1 q.2.2.2) (fun q => l.length - q.1) (0, [], w0, left0 - 1) (.begin ht0) ?_ ?_
    · first | exact ghU_begin0 7 1 _ hσ | exact ghU_begin 7 1 _ hσ
    rintro ⟨j, set, w, left⟩ hJ K hK hE hR
    dsimp only at hJ ⊢
    have hwn : w.length = n := by rw [hJ.ext.1]; exact hw0
    by_cases hj : j < l.length
    · obtain ⟨x, hxj⟩ := get_ex hj; have hltj : ((j : Int) < (l.length : Int)) := (by omega); have hwj : IntKind.i64.wrap ((j : Int) + 1) = ((j + 1 : Nat) : Int) := (by rw [wrap_ok (by omega)]; omega)
      have hxr := hinR l hm x (List.mem_of_getElem? hxj)
      have hx1 : x.fact.toNat < n := by have := hxr.1; have := hxr.2; omega
      have hx2 : x.fact.toNat + 1 ≤ w.length := by omega
      have hx0 := hxr.1
      have hxr0 : inR w0.length x := by rw [hw0]; exact hxr
      have n1 : IntKind.i64.wrap (0 - 1) = -1 := by rw [wrap_ok (by omega)]; rfl
      have n2 : IntKind.i64.wrap (0 - -1) = 1 := by rw [wrap_ok (by omega)]; rfl
      simp only [go_sem, Int.reduceToNat, Int.reduceLE, Int.reduceLT, Nat.reduceBEq, Nat.reduceLT, Nat.reduceAdd, Nat.reduceLeDiff, hltj, hxj, encLit, gH', upd_len, upd_endk, upd_setEk]
      refine (esc1_spec V R w x _ (by rw [hwn]; exact gV' _ _ _) (gR' _ _ _) (by rw [hwn]; exact hxr) hJ.tri).is ?_
      by_cases hv : litV w x = 0
      · have hv' : (litV w x != 0) = false := by simpa using hv
        obtain ⟨a1, a2, a3, a4⟩ := hJ.ahead hxr0 hv (by rw [ho]; exact hl0)
        have hl0' : ((2 ^ opens w0 : Nat) : Int) ≤ left0 := by rw [ho]; exact hl0
        have hfnd := @SLoop.found g l w0 left0 j set w left hJ x hxr0 hv
        have hstp := @SLoop.step g l w0 left0 j set w left hJ x hxj hxr0 n (hg l hm) hv
        have hso : set.length ≤ n := by have := hJ.ops; have := opens_le w0; omega
        cases hng : x.neg
        · have hsg : sgn x = 1 := by simp [sgn, hng]
          rw [hsg] at a1 a2 a3 a4 hfnd hstp
          (try rw [Int.neg_neg] at a1 a2 a3 a4 hfnd hstp)
          have a2' := a2
          rw [ho] at a2'
          simp only [go_sem, Int.reduceToNat, Int.reduceLE, Int.reduceLT, Nat.reduceBEq, Nat.reduceLT, Nat.reduceAdd, Nat.reduceLeDiff, hv', hng, n1, n2, upd_len, upd_endk, upd_setEk, gV', gR', hx0, hx1, hx2, mset, sR', gZ']
          rw [upd_app e.r e.l]
          refine ACalls.mono (ih _ a2' _ _ left (e.app _) (by rw [a4]; exact hw0) a1 rfl a3 (by have := hJ.hi; omega)) ?_
          rintro _ _ ⟨b, w', left', rfl, rfl, hp⟩
          rw [← upd_app e.r e.l]
          cases b
          · have hb1 : bigLen (set.length + 1) 8 := big_ok (by omega) (by omega)
            have hw'l : x.fact.toNat + 1 ≤ w'.length := by rw [(hp.no rfl).1]; simp; omega
            simp only [go_sem, Int.reduceToNat, Int.reduceLE, Int.reduceLT, Nat.reduceBEq, Nat.reduceLT, Nat.reduceAdd, Nat.reduceLeDiff, gV', gR', hx0, hx1, hw'l, upd_len, upd_endk, upd_setEk, mset, sR', gE, sE, hb1]
            refine hK _ _ (j + 1, set ++ [x.fact], w'.set x.fact.toNat _, left') (hstp hp) (by simp only []; omega) ?_
            have hc : set.map Ahl.encI ++ [[AV.int .i64 x.fact]] = (set ++ [x.fact]).map Ahl.encI := by simp [Ahl.encI]
            have hcl : (set ++ [x.fact]).length = set.length + 1 := by simp
            (try dsimp only); simp only [hwj, hc, hcl]; exact ghU [.grow 1 (set.length + 1)] hσ (hgr _)
          · simp only [go_sem, Int.reduceToNat, Int.reduceLE, Int.reduceLT, Nat.reduceBEq, Nat.reduceLT, Nat.reduceAdd, Nat.reduceLeDiff, hE]
            exact ret_upd _ ⟨true, w', left', rfl, rfl, hfnd hp hl0'⟩ hσ
        · have hsg : sgn x = -1 := by simp [sgn, hng]
          rw [hsg] at a1 a2 a3 a4 hfnd hstp
          (try rw [Int.neg_neg] at a1 a2 a3 a4 hfnd hstp)
          have a2' := a2
          rw [ho] at a2'
          simp only [go_sem, Int.reduceToNat, Int.reduceLE, Int.reduceLT, Nat.reduceBEq, Nat.reduceLT, Nat.reduceAdd, Nat.reduceLeDiff, hv', hng, n1, n2, upd_len, upd_endk, upd_setEk, gV', gR', hx0, hx1, hx2, mset, sR', gZ']
          rw [upd_app e.r e.l]
          refine ACalls.mono (ih _ a2' _ _ left (e.app _) (by rw [a4]; exact hw0) a1 rfl a3 (by have := hJ.hi; omega)) ?_
          rintro _ _ ⟨b, w', left', rfl, rfl, hp⟩
          rw [← upd_app e.r e.l]
          cases b
          · have hb1 : bigLen (set.length + 1) 8 := big_ok (by omega) (by omega)
            have hw'l : x.fact.toNat + 1 ≤ w'.length := by rw [(hp.no rfl).1]; simp; omega
            simp only [go_sem, Int.reduceToNat, Int.reduceLE, Int.reduceLT, Nat.reduceBEq, Nat.reduceLT, Nat.reduceAdd, Nat.reduceLeDiff, gV', gR', hx0, hx1, hw'l, upd_len, upd_endk, upd_setEk, mset, sR', gE, sE, hb1]
            refine hK _ _ (j + 1, set ++ [x.fact], w'.set x.fact.toNat _, left') (hstp hp) (by simp only []; omega) ?_
            have hc : set.map Ahl.encI ++ [[AV.int .i64 x.fact]] = (set ++ [x.fact]).map Ahl.encI := by simp [Ahl.encI]
            have hcl : (set ++ [x.fact]).length = set.length + 1 := by simp
            (try dsimp only); simp only [hwj, hc, hcl]; exact ghU [.grow 1 (set.length + 1)] hσ (hgr _)
          · simp only [go_sem, Int.reduceToNat, Int.reduceLE, Int.reduceLT, Nat.reduceBEq, Nat.reduceLT, Nat.reduceAdd, Nat.reduceLeDiff, hE]
            exact ret_upd _ ⟨true, w', left', rfl, rfl, hfnd hp hl0'⟩ hσ
      · have hv' : (litV w x != 0) = true := by simpa using hv
        simp only [go_sem, Int.reduceToNat, Int.reduceLE, Int.reduceLT, Nat.reduceBEq, Nat.reduceLT, Nat.reduceAdd, Nat.reduceLeDiff, hv', encLit, upd_len, upd_endk, upd_setEk]
        refine hK _ _ (j + 1, set, w, left) (hJ.skip hxj hxr0 h3 hv) (by simp only []; omega) ?_
        (try dsimp only); (try simp only [hwj]); first | exact ghU [.grow 1 set.length] hσ (hgr _) | exact ghU0 [.grow 1 set.length] hσ (hgr _)
    · have hltj : ¬ ((j : Int) < (l.length : Int)) := by omega
      have hjl : j = l.length := by have := hJ.jl; omega
      subst hjl
      simp only [go_sem, Int.reduceToNat, Int.reduceLE, Int.reduceLT, Nat.reduceBEq, Nat.reduceLT, Nat.reduceAdd, Nat.reduceLeDiff, hltj, hE]
      refine wpc_while (α := Nat × List Int) (fun q => [(3, .ptr V 0), (8, .bool false), (60, .slice (.grow S.length) (set.map Ahl.encI)), (61, .int .i64 set.length), (62, .int .i64 q.1)])
        (fun q => upd S R L q.2 left ++ [.grow 1 set.length]) (fun q => q.1 ≤ set.length ∧ q.2.length = n ∧ resetW q.2 (set.drop q.1) = w0) (fun q => set.length - q.1) (0, w) ⟨Nat.zero_le _, hwn, hJ.reset⟩ ?_ ?_
      · first | exact ghU [.grow 1 set.length] hσ (hgr _) | exact ghU0 [.grow 1 set.length] hσ (hgr _)
      rintro ⟨k, w1⟩ ⟨hk1, hk2, hk3⟩ K2 hK2 hE2 hR2
      dsimp only at hk1 hk2 hk3 ⊢
      have hso : set.length ≤ n := by have := hJ.ops; have := opens_le w0; omega
      by_cases hk : k < set.length
      · obtain ⟨f, hxk⟩ := get_ex hk; have hltk : ((k : Int) < (set.length : Int)) := (by omega); have hwk : IntKind.i64.wrap ((k : Int) + 1) = ((k + 1 : Nat) : Int) := (by rw [wrap_ok (by omega)]; omega)
        obtain ⟨o1, o2, o3⟩ := hJ.old f (List.mem_of_getElem? hxk)
        rw [drop_cons hxk, resetW] at hk3
        have q1 : f.toNat < n := by omega
        have q2 : f.toNat + 1 ≤ w1.length := by omega
        simp only [go_sem, Int.reduceToNat, Int.reduceLE, Int.reduceLT, Nat.reduceBEq, Nat.reduceLT, Nat.reduceAdd, Nat.reduceLeDiff, hltk, hxk, Ahl.encI, gV', o1, q1, gR', q2, mset, sR']
        refine hK2 _ _ (k + 1, w1.set f.toNat 0) ⟨by simp only []; omega, by simpa using hk2, hk3⟩ (by simp only []; omega) ?_
        (try dsimp only); simp only [hwk]; first | exact ghU [.grow 1 set.length] hσ (hgr _) | exact ghU0 [.grow 1 set.length] hσ (hgr _)
      · have hltk : ¬ ((k : Int) < (set.length : Int)) := by omega
        rw [drop_len hk, resetW] at hk3
        subst hk3
        simp only [go_sem, Int.reduceToNat, Int.reduceLE, Int.reduceLT, Nat.reduceBEq, Nat.reduceLT, Nat.reduceAdd, Nat.reduceLeDiff, hltk, hE2]
        exact ret_upd _ ⟨false, w1, left, rfl, rfl, hJ.done hm ht0⟩ hσ
end Go.Proofs.Ytbnhijapbnfohaa
namespace Go.Proofs.Ytbnhijapbnfohaa
open Go.Ahl
/-- The numbers of the facts that are true. -/
def posFrom : Int → List Int → List Int
  | _, [] => []
  | k, y :: r => if y > 0 then k :: posFrom (k + 1) r else posFrom (k + 1) r
theorem posFrom_mem : ∀ (w : List Int) (k x : Int), x ∈ posFrom k w ↔ k ≤ x ∧ ∃ y, w[(x - k).toNat]? = some y ∧ y > 0
  | [], k, x => by simp [posFrom]
  | y :: r, k, x => by
    have ih := posFrom_mem r (k + 1) x
    have key : x ∈ posFrom (k + 1) r ↔ k + 1 ≤ x ∧ ∃ z, (y :: r)[(x - k).toNat]? = some z ∧ z > 0 := by
      rw [ih]
      constructor
      · rintro ⟨h1, z, h2, h3⟩
        refine ⟨h1, z, ?_, h3⟩
        have : (x - k).toNat = (x - (k + 1)).toNat + 1 := by omega
        rw [this, List.getElem?_cons_succ]; exact h2
      · rintro ⟨h1, z, h2, h3⟩
        refine ⟨h1, z, ?_, h3⟩
        have : (x - k).toNat = (x - (k + 1)).toNat + 1 := by omega
        rw [this, List.getElem?_cons_succ] at h2; exact h2
    rw [posFrom]
    split
    · rename_i hy
      rw [List.mem_cons, key]
      constructor
      · rintro (rfl | ⟨h1, h2⟩)
        · exact ⟨Int.le_refl _, y, by simp, hy⟩
        · exact ⟨by omega, h2⟩
      · rintro ⟨h1, h2⟩
        by_cases e : x = k
        · exact .inl e
        · exact .inr ⟨by omega, h2⟩
    · rename_i hy
      rw [key]
      constructor
      · rintro ⟨h1, h2⟩; exact ⟨by omega, h2⟩
      · rintro ⟨h1, h2⟩
        by_cases e : x = k
        · subst e
          obtain ⟨z, h3, h4⟩ := h2
          simp at h3; subst h3; exact absurd h4 hy
        · exact ⟨by omega, h2⟩
theorem posFrom_rising (n : Int) : ∀ (w : List Int) (k p : Int), p < k → k + w.length ≤ n → risingB n p (posFrom k w) = true
  | [], k, p, h, hn => rfl
  | y :: r, k, p, h, hn => by
    rw [List.length_cons] at hn
    rw [posFrom]
    split
    · rw [risingB, Bool.and_eq_true, Bool.and_eq_true]
      exact ⟨⟨by simpa using h, by simp; omega⟩, posFrom_rising n r (k + 1) k (by omega) (by omega)⟩
    · exact posFrom_rising n r (k + 1) p (by omega) (by omega)
theorem posFrom_len : ∀ (w : List Int) (k : Int), (posFrom k w).length ≤ w.length
  | [], k => by simp [posFrom]
  | y :: r, k => by
    rw [posFrom]; have := posFrom_len r (k + 1)
    split <;> simp <;> omega
theorem posFrom_lit {w : List Int} (hw : Tri w) {x : FLit} (hx : inR w.length x) : (litV w x = 1 → litT (fun i => (posFrom 0 w).contains i) x = true) ∧ (litV w x < 0 → litT (fun i => (posFrom 0 w).contains i) x = false) := by
  have hc : (posFrom 0 w).contains x.fact = decide (valAt w x.fact = 1) := by
    rw [List.contains_eq_mem]
    apply decide_eq_decide.2
    rw [posFrom_mem, Int.sub_zero, valAt_get hx]
    have := hx.1
    have ht := valAt_tri hw x.fact
    constructor
    · rintro ⟨_, y, h1, h2⟩; injection h1 with h1; omega
    · intro h; exact ⟨this, _, rfl, by omega⟩
  have ht := valAt_tri hw x.fact
  unfold litT litV
  dsimp only
  rw [hc]
  cases hn : x.neg
  · simp only [Bool.false_eq_true, if_false, Bool.bne_false, decide_eq_true_eq, decide_eq_false_iff_not]
    exact ⟨fun h => h, fun h => by omega⟩
  · simp only [if_true, Bool.bne_true, Bool.not_eq_true', decide_eq_false_iff_not, Bool.not_eq_false', decide_eq_true_eq]
    exact ⟨fun h => by omega, fun h => by omega⟩
theorem ids_func {n : Nat} {f : FuncId} {c : List AV} (h : IdsL n c) : Ids n (.func f c) := .func f c fun j x e => h x (List.mem_of_getElem? e)
theorem Ghost.castl {n0 nt : Nat} {s s' : Slots} {a b c : Store} (h : a = b) (g : Ghost n0 nt s b s' c) : Ghost n0 nt s a s' c := h ▸ g
theorem ExtW.lit {w w' : List Int} (h : ExtW w w') {x : FLit} (hx : inR w.length x) (hv : litV w x = 1) : litV w' x = 1 := by
  have hne : valAt w x.fact ≠ 0 := by intro e; unfold litV at hv; rw [e] at hv; split at hv <;> simp at hv
  have h1 := h.2 _ _ (valAt_get hx) hne
  have h2 : valAt w' x.fact = valAt w x.fact := by rw [valAt, h1]; rfl
  unfold litV at hv ⊢; rw [h2]; exact hv
/-- What Escape comes back with. -/
def EscPost (n : Nat) (f g : List (List FLit)) (r : AV) : Prop :=
  (r = .tuple [.slice .nil [], .bool false, .bool true] ∧ ∀ l ∈ f, ∀ a, termT a l = true → ∃ t ∈ g, termT a t = true) ∨
  ∃ w, Tri w ∧ w.length = n ∧ r = .tuple [.slice .fresh ((posFrom 0 w).map Ahl.encI), .bool true, .bool true] ∧ (∃ l ∈ f, ∀ x ∈ l, litV w x = 1) ∧ ∀ l ∈ g, ∃ x ∈ l, litV w x < 0
theorem rep_ai (n : Nat) : (List.replicate n [AV.int .i64 0]).flatten = (List.replicate n 0).map ai := by
  induction n with
  | zero => rfl
  | succ n ih => rw [List.replicate_succ, List.flatten_cons, ih, List.replicate_succ]; rfl
theorem setAll_ai : ∀ (z w p : List Int), w.length = z.length → setAll ((p ++ w).map ai) p.length (z.map ai) = (p ++ z).map ai
  | [], w, p, h => by
    have : w = [] := List.length_eq_zero_iff.1 h
    subst this; rfl
  | y :: z, w, p, h => by
    cases w with
    | nil => simp at h
    | cons v w =>
      rw [List.map_cons, setAll]
      have h1 : ((p ++ v :: w).map ai).set p.length (ai y) = ((p ++ [y]) ++ w).map ai := by
        rw [← List.map_set]; congr 1
        rw [List.set_append_right _ _ (Nat.le_refl _), Nat.sub_self]; simp
      have h2 := setAll_ai z w (p ++ [y]) (by simpa using h)
      rw [h1, show p.length + 1 = (p ++ [y]).length by simp, h2]
      simp
theorem clr_ai {w : List Int} {n : Nat} (h : w.length = n) : setAll (w.map ai) 0 (List.replicate n [AV.int .i64 0]).flatten = (List.replicate n 0).map ai := by
  rw [rep_ai]
  have := setAll_ai (List.replicate n 0) w [] (by simpa using h)
  simpa using this
/-- Where the setting of a term's literals stands. -/
structure SetJ (n : Nat) (l : List FLit) (k : Nat) (w : List Int) : Prop where
  kl : k ≤ l.length
  len : w.length = n
  tri : Tri w
  on : ∀ x ∈ l.take k, litV w x = 1
  comp : ∀ a, (∀ x ∈ l.take k, litT a x = true) → Comp w a
theorem SetJ.begin (n : Nat) (l : List FLit) : SetJ n l 0 (List.replicate n 0) where
  kl := Nat.zero_le _
  len := by simp
  tri := by intro y hy; exact .inr (.inl (List.eq_of_mem_replicate hy))
  on := by simp
  comp := by
    intro a _ i y h
    have := List.eq_of_mem_replicate (List.mem_of_getElem? h)
    subst this; simp
theorem SetJ.step {n : Nat} {l : List FLit} {k : Nat} {w : List Int} (h : SetJ n l k w) {x : FLit} (hx : l[k]? = some x) (hc : condB n (-1) l = true) : SetJ n l (k + 1) (w.set x.fact.toNat (sgn x)) := by
  have hr := (cond_apart hc).1 x (List.mem_of_getElem? hx)
  have hxr : inR w.length x := ⟨by omega, by rw [h.len]; exact hr.2⟩
  have hs := sgn_ne x
  refine ⟨lt_of_get hx, by simpa using h.len, tri_set h.tri _ (by omega), ?_, ?_⟩
  · intro y hy
    rw [take_succ' hx] at hy
    rcases List.mem_append.1 hy with hy | hy
    · obtain ⟨j, hj, e⟩ := List.mem_iff_getElem.1 hy
      rw [List.length_take] at hj
      have hyg : l[j]? = some y := by
        rw [List.getElem_take] at e
        rw [List.getElem?_eq_getElem (by omega), e]
      have hne := (cond_apart hc).2 j y hyg x (by
        refine List.mem_of_getElem? (i := k - (j + 1)) ?_
        rw [List.getElem?_drop, show j + 1 + (k - (j + 1)) = k by omega]; exact hx)
      have hyr := (cond_apart hc).1 y (List.mem_of_getElem? hyg)
      have h1 : litV (w.set x.fact.toNat (sgn x)) y = litV w y := by
        have : valAt (w.set x.fact.toNat (sgn x)) y.fact = valAt w y.fact := by
          unfold valAt; rw [List.getElem?_set_ne (by omega)]
        unfold litV; rw [this]
      rw [h1]; exact h.on y hy
    · rw [List.mem_singleton] at hy; subst hy
      rw [litV_set hxr]; unfold sgn; split <;> rfl
  · intro a ha
    rw [take_succ' hx] at ha
    exact comp_set hxr (h.comp a (fun y hy => ha y (List.mem_append_left _ hy))) (ha x (by simp))
def c_Escape : CCode := .seq (.ops [⟨some 3, .box (.tmp 0), none, []⟩, ⟨some 5, .box (.tmp 2), none, []⟩, ⟨some 6, .move (.lit (.slice .nil [])), none, []⟩, ⟨some 7, .move (.lit (.bool false)), none, []⟩, ⟨some 8, .move (.lit (.bool false)), none, []⟩]) (.seq (.ops [⟨some 19, .faddr 0 (.tmp 3), none, []⟩, ⟨some 20, .load none (.tmp 19), none, []⟩, ⟨some 21, .blen 1 (.tmp 20), none, []⟩, ⟨some 22, .mkslice 1 8 [.int .i64 0] (.tmp 21) (.tmp 21) true, none, []⟩, ⟨some 9, .alloc (.slice .nil []), none, []⟩, ⟨none, .store 1 (.tmp 9) (.tmp 22), none, []⟩]) (.seq (.ops [⟨some 10, .alloc (.int .i64 0), none, []⟩, ⟨none, .store 1 (.tmp 10) (.lit (.int .i64 2000000)), none, []⟩]) (.seq (.seq (.ops [⟨some 23, .faddr 0 (.tmp 3), none, []⟩, ⟨some 24, .load none (.tmp 23), none, []⟩, ⟨some 25, .blen 1 (.tmp 24), none, []⟩, ⟨some 26, .bin .leq .none (.tmp 25) (.lit (.int .i64 16)), none, []⟩]) (.cond (.tmp 26) (.ops [⟨none, .store 1 (.tmp 10) (.lit (.int .i64 9223372036854775807)), none, []⟩]) .skip)) (.seq (.ops [⟨some 27, .mkfunc 56 [.tmp 9], none, []⟩, ⟨some 11, .alloc (.conc Value.nilFunc), none, []⟩, ⟨none, .store 1 (.tmp 11) (.tmp 27), none, []⟩]) (.seq (.ops [⟨some 12, .alloc (.conc Value.nilFunc), none, []⟩]) (.seq (.ops [⟨some 28, .mkfunc 57 [.tmp 10, .tmp 5, .tmp 11, .tmp 9, .tmp 12], none, []⟩, ⟨none, .store 1 (.tmp 12) (.tmp 28), none, []⟩]) (.seq (.seq (.ops [⟨some 29, .move (.tmp 1), none, []⟩, ⟨some 30, .blen 1 (.tmp 29), none, []⟩, ⟨some 31, .move (.lit (.int .i64 0)), none, []⟩]) (.block 0 (.loop (.seq (.ops [⟨some 32, .bin .lss .none (.tmp 31) (.tmp 30), none, []⟩]) (.seq (.cond (.tmp 32) .skip (.exit 0)) (.seq (.block 1 (.seq (.ops [⟨some 33, .iaddr 1 (.tmp 29) (.tmp 31), none, []⟩, ⟨some 34, .load none (.tmp 33), none, []⟩, ⟨some 14, .move (.tmp 34), none, []⟩]) (.seq (.ops [⟨some 35, .load none (.tmp 9), none, []⟩, ⟨none, .bclear [.int .i64 0] (.tmp 35), none, []⟩]) (.seq (.seq (.ops [⟨some 36, .move (.tmp 14), none, []⟩, ⟨some 37, .blen 1 (.tmp 36), none, []⟩, ⟨some 38, .move (.lit (.int .i64 0)), none, []⟩]) (.block 2 (.loop (.seq (.ops [⟨some 39, .bin .lss .none (.tmp 38) (.tmp 37), none, []⟩]) (.seq (.cond (.tmp 39) .skip (.exit 2)) (.seq (.block 3 (.seq (.ops [⟨some 40, .iaddr 2 (.tmp 36) (.tmp 38), none, []⟩, ⟨some 41, .load (some 2) (.tmp 40), none, []⟩, ⟨some 16, .alloc (.agg [.int .i64 0, .bool false]), none, []⟩, ⟨none, .store 2 (.tmp 16) (.tmp 41), none, []⟩]) (.seq (.ops [⟨some 42, .load none (.tmp 9), none, []⟩, ⟨some 43, .faddr 0 (.tmp 16), none, []⟩, ⟨some 44, .load none (.tmp 43), none, []⟩, ⟨some 45, .iaddr 1 (.tmp 42) (.tmp 44), none, []⟩, ⟨none, .store 1 (.tmp 45) (.lit (.int .i64 1)), none, []⟩]) (.seq (.ops [⟨some 46, .faddr 1 (.tmp 16), none, []⟩, ⟨some 47, .load none (.tmp 46), none, []⟩]) (.cond (.tmp 47) (.ops [⟨some 48, .load none (.tmp 9), none, []⟩, ⟨some 49, .faddr 0 (.tmp 16), none, []⟩, ⟨some 50, .load none (.tmp 49), none, []⟩, ⟨some 51, .iaddr 1 (.tmp 48) (.tmp 50), none, []⟩, ⟨none, .store 1 (.tmp 51) (.lit (.int .i64 (-1))), none, []⟩]) .skip))))) (.ops [⟨some 52, .bin .add .none (.tmp 38) (.lit (.int .i64 1)), none, []⟩, ⟨some 38, .move (.tmp 52), none, []⟩]))))))) (.seq (.seq (.ops [⟨some 53, .load none (.tmp 12), none, []⟩, ⟨some 54, .call (.tmp 53) [], none, []⟩, ⟨some 55, .un .not (.tmp 54), none, []⟩]) (.cond (.tmp 55) (.exit 1) .skip)) (.seq (.seq (.ops [⟨some 56, .load none (.tmp 10), none, []⟩, ⟨some 57, .bin .lss .none (.tmp 56) (.lit (.int .i64 0)), none, []⟩]) (.cond (.tmp 57) (.seq (.ops [⟨some 6, .move (.lit (.slice .nil [])), none, []⟩, ⟨some 7, .move (.lit (.bool false)), none, []⟩, ⟨some 8, .move (.lit (.bool false)), none, []⟩]) .ret) .skip)) (.seq (.seq (.ops [⟨some 58, .load none (.tmp 9), none, []⟩, ⟨some 59, .blen 1 (.tmp 58), none, []⟩, ⟨some 60, .move (.lit (.int .i64 0)), none, []⟩]) (.block 4 (.loop (.seq (.ops [⟨some 61, .bin .lss .none (.tmp 60) (.tmp 59), none, []⟩]) (.seq (.cond (.tmp 61) .skip (.exit 4)) (.seq (.block 5 (.seq (.ops [⟨some 62, .move (.tmp 60), none, []⟩, ⟨some 63, .iaddr 1 (.tmp 58) (.tmp 60), none, []⟩, ⟨some 64, .load none (.tmp 63), none, []⟩, ⟨some 17, .move (.tmp 62), none, []⟩, ⟨some 18, .move (.tmp 64), none, []⟩]) (.seq (.ops [⟨some 65, .move (.tmp 18), none, []⟩, ⟨some 66, .bin .gtr .none (.tmp 65) (.lit (.int .i64 0)), none, []⟩]) (.cond (.tmp 66) (.ops [⟨some 67, .move (.tmp 6), none, []⟩, ⟨some 68, .move (.tmp 17), none, []⟩, ⟨some 69, .bslice 1 [.tmp 68] false, none, []⟩, ⟨some 70, .bappend 1 8 (.tmp 67) (.tmp 69) false, none, []⟩, ⟨some 6, .move (.tmp 70), none, []⟩]) .skip)))) (.ops [⟨some 71, .bin .add .none (.tmp 60) (.lit (.int .i64 1)), none, []⟩, ⟨some 60, .move (.tmp 71), none, []⟩]))))))) (.seq (.ops [⟨some 72, .move (.tmp 6), none, []⟩, ⟨some 6, .move (.tmp 72), none, []⟩, ⟨some 7, .move (.lit (.bool true)), none, []⟩, ⟨some 8, .move (.lit (.bool true)), none, []⟩]) .ret)))))))) (.ops [⟨some 73, .bin .add .none (.tmp 31) (.lit (.int .i64 1)), none, []⟩, ⟨some 31, .move (.tmp 73), none, []⟩]))))))) (.seq (.ops [⟨some 6, .move (.lit (.slice .nil [])), none, []⟩, ⟨some 7, .move (.lit (.bool false)), none, []⟩, ⟨some 8, .move (.lit (.bool true)), none, []⟩]) .ret))))))))
set_option maxRecDepth 20000 in
set_option maxHeartbeats 1000000 in
theorem Escape_spec (t : FTask) (f g : List (List FLit)) (gt gt' : Tok) (σ : Store) (hn : t.facts.length ≤ 16) (hf : f.length ≤ 400) (vf : vF t.facts.length f) (hg : g.length ≤ 400) (vg : vF t.facts.length g) :
    ACalls Try.prog 33 [.agg (encTask t), .slice gt' (f.map encC), .slice gt (g.map encC)] σ (fun r σ' => σ' = σ ∧ EscPost t.facts.length f g r) := by
  refine ACalls.intro (rs := [(.tmp 6), (.tmp 7), (.tmp 8)]) (by kernel_rfl) { own := [(0, 3), (1, 3), (2, 3), (3, 3), (4, 3), (5, 3)], ghosts := [] } Try.func33 (c := Try.f33.body.getD .skip) (by kernel_rfl) (by decide) (by rw [show Try.f33.ntmps = 74 by kernel_rfl]; exact Nat.le_of_ble_eq_true rfl) (by kernel_rfl) ?_
  intro hσ hids
  rw [show comp Try.prog { own := [(0, 3), (1, 3), (2, 3), (3, 3), (4, 3), (5, 3)], ghosts := [] } (Try.f33.body.getD .skip) = c_Escape by kernel_rfl, show Try.f33.ntmps = 74 by kernel_rfl]
  unfold c_Escape
  have hn' : (t.facts.length : Int) ≤ 16 := by omega
  have hnf : Value.nilFunc.oneCell' = true := rfl
  simp only [go_sem, Int.reduceToNat, Int.reduceLE, Int.reduceLT, Nat.reduceBEq, Nat.reduceLT, Nat.reduceAdd, Nat.reduceLeDiff, encTask, aMkslice, hn', rep_ai, hnf]
  refine ⟨Int.le_refl _, by omega, by omega, ?_⟩
  generalize hN : t.facts.length = n at *
  generalize hS : (σ ++ _ : Store) = S
  have hSl : S.length = σ.length + 7 := by rw [← hS]; simp
  have hv : S[σ.length + 3]? = some (.row [.ref (σ.length + 2) 1 0 n]) := by rw [← hS, g_get]; rfl
  have hr : S[σ.length + 2]? = some (.row ((List.replicate n 0).map ai)) := by rw [← hS, g_get]; rfl
  have hl : S[σ.length + 4]? = some (.row [.int .i64 9223372036854775807]) := by rw [← hS, g_get]; rfl
  have e : EscE S (σ.length + 3) (σ.length + 2) (σ.length + 4) (σ.length + 1) (σ.length + 5) (σ.length + 6) n gt g :=
    ⟨hv, by omega, by omega, by rw [← hS, g_get]; rfl, by rw [← hS, g_get]; rfl, by rw [← hS, g_get]; rfl, by omega, by omega, by omega, by omega, by omega, by omega, by omega, by omega, by omega⟩
  have hself : upd S (σ.length + 2) (σ.length + 4) (List.replicate n 0) 9223372036854775807 = S := by
    rw [upd, set_same hr, set_same hl]
  have hI : IdsS S.length (upd S (σ.length + 2) (σ.length + 4) (List.replicate n 0) 9223372036854775807) := by
    rw [hself, ← hS]
    refine idsS_app _ hσ ?_
    intro o ho
    simp only [List.mem_cons, List.not_mem_nil, or_false] at ho
    rcases ho with rfl | rfl | rfl | rfl | rfl | rfl | rfl
    · exact idsO_row (ids_encTask t)
    · exact idsO_row (idsL_cons (ids_up (by simp) (hids _ (by simp))) idsL_nil)
    · exact ids_ai _
    · exact idsO_row (idsL_cons (.ref _ _ _ _ (by simp)) idsL_nil)
    · exact idsO_row (idsL_cons (.int _ _) idsL_nil)
    · exact idsO_row (idsL_cons (ids_func (idsL_cons (.ptr _ _ (by simp)) idsL_nil)) idsL_nil)
    · exact idsO_row (idsL_cons (ids_func (idsL_cons (.ptr _ _ (by simp)) (idsL_cons (.ptr _ _ (by simp)) (idsL_cons (.ptr _ _ (by simp)) (idsL_cons (.ptr _ _ (by simp)) (idsL_cons (.ptr _ _ (by simp)) idsL_nil)))))) idsL_nil)
  have htake : ∀ w m t, (upd S (σ.length + 2) (σ.length + 4) w m ++ t).take σ.length = σ := by
    intro w m t
    rw [upd, List.take_append_of_le_length (by simp; omega), List.take_set_of_le (by omega), List.take_set_of_le (by omega), ← hS, List.take_left']
    rfl
  have htake0 : ∀ w m, (upd S (σ.length + 2) (σ.length + 4) w m).take σ.length = σ := fun w m => by have := htake w m []; rwa [List.append_nil] at this
  have gV := upd_get e.v e.rv e.lv
  have gV' := upd_get' e.v e.rv e.lv
  have gZ := upd_get e.z e.rz e.lz
  have gZ' := upd_get' e.z e.rz e.lz
  have gR := upd_R e.r e.rl
  have gR' := upd_R' e.r e.rl
  have gL := upd_L (R := σ.length + 2) e.l
  have gL' := upd_L' (R := σ.length + 2) e.l
  have sR := @upd_setR S (σ.length + 2) (σ.length + 4) e.rl
  have sR' := @upd_setR' S (σ.length + 2) (σ.length + 4) e.r e.rl
  have hil : Ids S.length (.slice gt' (f.map encC)) := ids_up (by omega) (hids _ (by simp))
  refine wpc_while (α := Nat × List Int × Int) (fun q => [(6, .slice .nil []), (9, .ptr (σ.length + 3) 0), (10, .ptr (σ.length + 4) 0), (12, .ptr (σ.length + 6) 0), (29, .slice gt' (f.map encC)), (30, .int .i64 f.length), (31, .int .i64 q.1)])
    (fun q => upd S (σ.length + 2) (σ.length + 4) q.2.1 q.2.2) (fun q => q.1 ≤ f.length ∧ q.2.1.length = n ∧ (9223372036854775807 - 65536 * (q.1 : Int)) ≤ q.2.2 ∧ q.2.2 ≤ 9223372036854775807 ∧ ∀ l ∈ f.take q.1, ∀ a, termT a l = true → ∃ t ∈ g, termT a t = true) (fun q => f.length - q.1)
    (0, List.replicate n 0, 9223372036854775807) ⟨Nat.zero_le _, by simp, by simp, by simp, by simp⟩ ?_ ?_
  · exact Ghost.castl hself.symm (ghUn0 hI)
  rintro ⟨i, w, left⟩ ⟨hi, hwl, hl1, hl2, hno⟩ K hK hE hR
  dsimp only at hi hwl hl1 hl2 hno ⊢
  by_cases h : i < f.length
  · obtain ⟨l, hx⟩ := get_ex h; have hlt : ((i : Int) < (f.length : Int)) := (by omega); have hw : IntKind.i64.wrap ((i : Int) + 1) = ((i + 1 : Nat) : Int) := (by rw [wrap_ok (by omega)]; omega)
    have hlm := List.mem_of_getElem? hx
    have hcl := vf l hlm
    have hll : l.length ≤ 17 := by rcases condB_len hcl with h | h; simp [h]; omega
    have hclr := clr_ai hwl
    have hwn : n ≤ w.length := by omega
    simp only [go_sem, Int.reduceToNat, Int.reduceLE, Int.reduceLT, Nat.reduceBEq, Nat.reduceLT, Nat.reduceAdd, Nat.reduceLeDiff, hlt, hx, encC, gV, gR, hclr, hwn, sR]
    refine wpc_while (α := Nat × List Int) (fun q => [(6, .slice .nil []), (9, .ptr (σ.length + 3) 0), (10, .ptr (σ.length + 4) 0), (12, .ptr (σ.length + 6) 0), (29, .slice gt' (f.map encC)), (30, .int .i64 f.length), (31, .int .i64 i), (36, .slice .unk (l.map encLit)), (37, .int .i64 l.length), (38, .int .i64 q.1)])
      (fun q => upd S (σ.length + 2) (σ.length + 4) q.2 left) (fun q => SetJ n l q.1 q.2) (fun q => l.length - q.1) (0, List.replicate n 0) (SetJ.begin n l) ?_ ?_
    · first | exact ghUn0 hI | exact ghUn hI
    rintro ⟨k, w1⟩ hJ K' hK' hE' hR'
    dsimp only at hJ ⊢
    by_cases hk : k < l.length
    · obtain ⟨x, hxk⟩ := get_ex hk; have hltk : ((k : Int) < (l.length : Int)) := (by omega); have hwk : IntKind.i64.wrap ((k : Int) + 1) = ((k + 1 : Nat) : Int) := (by rw [wrap_ok (by omega)]; omega)
      have hxr := (cond_apart hcl).1 x (List.mem_of_getElem? hxk)
      have hx0 : 0 ≤ x.fact := by omega
      have hx1 : x.fact.toNat < n := by omega
      have hx2 : x.fact.toNat + 1 ≤ w1.length := by rw [hJ.len]; omega
      have hx3 : x.fact.toNat + 1 ≤ (w1.set x.fact.toNat 1).length := by simpa using hx2
      cases hng : x.neg
      · have hsg : sgn x = 1 := by simp [sgn, hng]
        simp only [go_sem, Int.reduceToNat, Int.reduceLE, Int.reduceLT, Nat.reduceBEq, Nat.reduceLT, Nat.reduceAdd, Nat.reduceLeDiff, hltk, hxk, encLit, gV', gR', gV, gR, hx0, hx1, hx2, hx3, mset, sR', sR, hng, upd_len, upd_endk, upd_setEk, upd_end, upd_setE]
        refine hK' _ _ (k + 1, w1.set x.fact.toNat (sgn x)) (hJ.step hxk hcl) (by simp only []; omega) ?_
        (try dsimp only); simp only [hwk, hsg, List.set_set]; first | exact ghUn hI | exact ghUn0 hI
      · have hsg : sgn x = -1 := by simp [sgn, hng]
        simp only [go_sem, Int.reduceToNat, Int.reduceLE, Int.reduceLT, Nat.reduceBEq, Nat.reduceLT, Nat.reduceAdd, Nat.reduceLeDiff, hltk, hxk, encLit, gV', gR', gV, gR, hx0, hx1, hx2, hx3, mset, sR', sR, hng, upd_len, upd_endk, upd_setEk, upd_end, upd_setE]
        refine hK' _ _ (k + 1, w1.set x.fact.toNat (sgn x)) (hJ.step hxk hcl) (by simp only []; omega) ?_
        (try dsimp only); simp only [hwk, hsg, List.set_set]; first | exact ghUn hI | exact ghUn0 hI
    · have hltk : ¬ ((k : Int) < (l.length : Int)) := by omega
      have hkl : k = l.length := by have := hJ.kl; omega
      subst hkl
      simp only [go_sem, Int.reduceToNat, Int.reduceLE, Int.reduceLT, Nat.reduceBEq, Nat.reduceLT, Nat.reduceAdd, Nat.reduceLeDiff, hltk, hE', gZ]
      have hop : opens w1 ≤ 16 := by have := opens_le w1; have := hJ.len; omega
      have hpw : (2 : Nat) ^ opens w1 ≤ 65536 := Nat.pow_le_pow_right (n := 2) (by omega) hop
      refine ACalls.mono (esc2_spec (σ.length + 3) (σ.length + 2) (σ.length + 4) (σ.length + 1) (σ.length + 5) (σ.length + 6) n gt g vg (by omega) (by omega) (opens w1) S w1 left e hJ.len hJ.tri rfl (by omega) hl2) ?_
      rintro _ _ ⟨b, w2, left2, rfl, rfl, hp⟩
      have hlo := hp.lo
      have hhi := hp.hi
      have hnl : ¬ (left2 < 0) := by omega
      cases b
      · obtain ⟨rfl, hq⟩ := hp.no rfl
        simp only [go_sem, Int.reduceToNat, Int.reduceLE, Int.reduceLT, Nat.reduceBEq, Nat.reduceLT, Nat.reduceAdd, Nat.reduceLeDiff]
        refine hK _ _ (i + 1, w2, left2) ⟨by simp only []; omega, hJ.len, by simp only []; omega, by simp only []; omega, ?_⟩ (by simp only []; omega) ?_
        · intro l' hl' a ha
          rw [take_succ' hx] at hl'
          rcases List.mem_append.1 hl' with hl' | hl'
          · exact hno l' hl' a ha
          · rw [List.mem_singleton] at hl'; subst hl'
            refine hq a (hJ.comp a (fun x hx => ?_))
            rw [List.take_length] at hx
            exact List.all_eq_true.1 ha x hx
        · (try dsimp only); simp only [hw]; first | exact ghUn hI | exact ghUn0 hI
      · simp only [go_sem, Int.reduceToNat, Int.reduceLE, Int.reduceLT, Nat.reduceBEq, Nat.reduceLT, Nat.reduceAdd, Nat.reduceLeDiff, gL, hnl, gV]
        have hw2 : w2.length = n := by rw [hp.ext.1]; exact hJ.len
        have hon : ∀ x ∈ l, litV w2 x = 1 := fun x hx => by
          have hxr := (cond_apart hcl).1 x hx
          exact hp.ext.lit ⟨by omega, by rw [hJ.len]; exact hxr.2⟩ (hJ.on x (by rw [List.take_length]; exact hx))
        refine wpc_while (α := Nat × List Int) (fun q => [(6, .slice (.grow S.length) (q.2.map Ahl.encI)), (58, .ref (σ.length + 2) 1 0 n), (59, .int .i64 n), (60, .int .i64 q.1)])
          (fun q => upd S (σ.length + 2) (σ.length + 4) w2 left2 ++ [.grow 1 q.2.length]) (fun q => q.1 ≤ n ∧ q.2.length ≤ q.1 ∧ q.2 ++ posFrom q.1 (w2.drop q.1) = posFrom 0 w2) (fun q => n - q.1) (0, []) ⟨Nat.zero_le _, Nat.le_refl _, rfl⟩ ?_ ?_
        · first | exact ghU_begin0 6 1 _ hI | exact ghU_begin 6 1 _ hI
        rintro ⟨k, out⟩ ⟨hk1, hk2, hk3⟩ K2 hK2 hE2 hR2
        dsimp only at hk1 hk2 hk3 ⊢
        have hgr : ∀ k : Nat, ∀ o ∈ [AObj.grow 1 k], IdsO (S.length + 1) o := fun k o ho => by simp at ho; subst ho; trivial
        by_cases hk : k < n
        · obtain ⟨y, hy⟩ : ∃ y, w2[k]? = some y := get_ex (by omega)
          have hltk : ((k : Int) < (n : Int)) := by omega
          have hwk : IntKind.i64.wrap ((k : Int) + 1) = ((k + 1 : Nat) : Int) := by rw [wrap_ok (by omega)]; omega
          rw [drop_cons hy, posFrom] at hk3
          have hb1 : bigLen (out.length + 1) 8 := big_ok (by omega) (by omega)
          have hgt : ∀ z : Int, (decide (z > 0)) = decide (z > 0) := fun _ => rfl
          by_cases hy0 : y > 0
          · rw [if_pos hy0] at hk3
            simp only [go_sem, Int.reduceToNat, Int.reduceLE, Int.reduceLT, Nat.reduceBEq, Nat.reduceLT, Nat.reduceAdd, Nat.reduceLeDiff, hltk, hk, hy, ai, gR', hy0, upd_len, upd_endk, upd_setEk, upd_end, upd_setE, hb1]
            have hc : out.map Ahl.encI ++ [[AV.int .i64 k]] = (out ++ [(k : Int)]).map Ahl.encI := by simp [Ahl.encI]
            have hcl' : (out ++ [(k : Int)]).length = out.length + 1 := by simp
            refine hK2 _ _ (k + 1, out ++ [(k : Int)]) ⟨by simp only []; omega, by simp only []; omega, by simp only []; rw [← hk3]; simp⟩ (by simp only []; omega) ?_
            (try dsimp only); simp only [hwk, hc, hcl']; exact ghU [.grow 1 (out.length + 1)] hI (hgr _)
          · rw [if_neg hy0] at hk3
            simp only [go_sem, Int.reduceToNat, Int.reduceLE, Int.reduceLT, Nat.reduceBEq, Nat.reduceLT, Nat.reduceAdd, Nat.reduceLeDiff, hltk, hk, hy, ai, gR', hy0, upd_len, upd_endk, upd_setEk, upd_end, upd_setE, hb1]
            refine hK2 _ _ (k + 1, out) ⟨by simp only []; omega, by simp only []; omega, by simp only []; rw [← hk3]; simp⟩ (by simp only []; omega) ?_
            (try dsimp only); simp only [hwk]; first | exact ghU [.grow 1 out.length] hI (hgr _) | exact ghU0 [.grow 1 out.length] hI (hgr _)
        · have hltk : ¬ ((k : Int) < (n : Int)) := by omega
          rw [List.drop_eq_nil_of_le (by omega), posFrom, List.append_nil] at hk3
          simp only [go_sem, Int.reduceToNat, Int.reduceLE, Int.reduceLT, Nat.reduceBEq, Nat.reduceLT, Nat.reduceAdd, Nat.reduceLeDiff, hltk, hE2, hR]
          subst hk3
          exact ret3 (.slice .fresh ((posFrom 0 w2).map Ahl.encI)) (.bool true) (.bool true) (htake _ _ _) ⟨rfl, .inr ⟨w2, hp.tri, hw2, rfl, ⟨l, hlm, hon⟩, hp.yes rfl⟩⟩
  · have hlt : ¬ ((i : Int) < (f.length : Int)) := by omega
    rw [List.take_of_length_le (by omega)] at hno
    simp only [go_sem, Int.reduceToNat, Int.reduceLE, Int.reduceLT, Nat.reduceBEq, Nat.reduceLT, Nat.reduceAdd, Nat.reduceLeDiff, hlt, hE]
    exact ret3 (.slice .nil []) (.bool false) (.bool true) (htake0 _ _) ⟨rfl, .inl ⟨rfl, hno⟩⟩
end Go.Proofs.Ytbnhijapbnfohaa
namespace Go.Proofs.Ytbnhijapbnfohaa
open Go.Ahl
/-- Does a condition precede another one? -/
def befL : List FLit → List FLit → Bool
  | x :: l, y :: m => if x.fact = y.fact then (if x.neg = y.neg then befL l m else !x.neg) else decide (x.fact < y.fact)
  | _, _ => false
def befB (l m : List FLit) : Bool := if l.length = m.length then befL l m else decide (l.length < m.length)
end Go.Proofs.Ytbnhijapbnfohaa
namespace Go.Proofs.Ytbnhijapbnfohaa
open Go.Ahl
def insB (l : List FLit) : List (List FLit) → List (List FLit)
  | [] => [l]
  | y :: r => if befB y l then y :: insB l r else l :: y :: r
/-- Is no term that is stronger in f, from number k on? -/
def keepAt (i : Nat) (l : List FLit) : Nat → List (List FLit) → Bool
  | _, [] => true
  | k, m :: r => !(withinB m l && (decide (m.length < l.length) || (decide (k < i) && decide (m.length = l.length)))) && keepAt i l (k + 1) r
def refFrom (f : List (List FLit)) : Nat → List (List FLit) → List (List FLit) → List (List FLit)
  | _, out, [] => out
  | i, out, l :: r => refFrom f (i + 1) (if keepAt i l 0 f then insB l out else out) r
/-- The reference's reduced form. -/
def refRed (f : List (List FLit)) : List (List FLit) := refFrom f 0 [] f
end Go.Proofs.Ytbnhijapbnfohaa
namespace Go.Proofs.Ytbnhijapbnfohaa
open Go.Ahl
/-! ### The two reduced forms are one -/
/-- On conditions the reference's order is the program's. -/
theorem befL_eq : ∀ {l m : List FLit}, l.length = m.length → befL l m = decide (cmpLits l m < 0)
  | [], [], _ => by simp [befL, cmpLits]
  | x :: l, y :: m, h => by
    have ih := befL_eq (l := l) (m := m) (by simpa using h)
    rw [befL, cmpLits]
    by_cases h1 : x.fact = y.fact
    · rw [if_pos h1]
      by_cases h2 : x.neg = y.neg
      · rw [if_pos h2, if_pos (by unfold lessI; rw [if_pos h1, if_pos h2]), ih]
      · rw [if_neg h2]
        have : lessI x y = if y.neg then -1 else 1 := by unfold lessI; rw [if_pos h1, if_neg h2]
        rw [this]
        cases hx : x.neg <;> cases hy : y.neg <;> rw [hx, hy] at h2 <;> simp at h2 ⊢
    · rw [if_neg h1]
      have : lessI x y = x.fact - y.fact := by unfold lessI; rw [if_neg h1]
      rw [this, if_neg (by omega)]
      apply decide_eq_decide.2; omega
  | [], _ :: _, h => by simp at h
  | _ :: _, [], h => by simp at h
theorem befB_eq (l m : List FLit) : befB l m = decide (orderI l m < 0) := by
  unfold befB orderI
  by_cases h : l.length = m.length
  · rw [if_pos h, if_pos h]; exact befL_eq h
  · rw [if_neg h, if_neg h]; apply decide_eq_decide.2; omega
theorem withinB_iff {a b : List FLit} : withinB a b = true ↔ ∀ x ∈ a, x ∈ b := by
  unfold withinB
  rw [any_not, List.all_eq_true]
  simp
/-- Of two conditions of one length the one that is within the other is the other. -/
theorem within_eq {n : Int} : ∀ {p q : Int} {a b : List FLit}, condB n p a = true → condB n q b = true → (∀ x ∈ a, x ∈ b) → b.length ≤ a.length → a = b
  | p, q, [], [], _, _, _, _ => rfl
  | p, q, [], _ :: _, _, _, _, h => by simp at h
  | p, q, x :: a, [], _, _, h, _ => by have := h x List.mem_cons_self; simp at this
  | p, q, x :: a, y :: b, ha, hb, h, hl => by
    obtain ⟨a1, a2, a3⟩ := condB_cons ha
    obtain ⟨b1, b2, b3⟩ := condB_cons hb
    rcases List.mem_cons.1 (h x List.mem_cons_self) with hxy | hxb
    · subst hxy
      rw [within_eq a3 b3 (fun z hz => by
        rcases List.mem_cons.1 (h z (List.mem_cons_of_mem _ hz)) with e | e
        · subst e; have := (condB_mem a3 z hz).1; omega
        · exact e) (by simpa using hl)]
    · -- x is behind y: then all of a is behind y
      exfalso
      have hsub : ∀ z ∈ x :: a, z ∈ b := by
        intro z hz
        rcases List.mem_cons.1 (h z hz) with e | e
        · subst e
          have hx := (condB_mem b3 x hxb).1
          rcases List.mem_cons.1 hz with e | e
          · subst e; omega
          · have := (condB_mem a3 z e).1; omega
        · exact e
      have key : ∀ {r : Int} {c d : List FLit}, condB n r c = true → (∀ z ∈ c, z ∈ d) → c.length ≤ d.length := by
        intro r c
        induction c generalizing r with
        | nil => intro d _ _; simp
        | cons z c ih =>
          intro d hc hd
          obtain ⟨c1, c2, c3⟩ := condB_cons hc
          have hz := hd z List.mem_cons_self
          have := ih (d := d.erase z) c3 (fun w hw => by
            have hne : w ≠ z := fun e => by subst e; have := (condB_mem c3 w hw).1; omega
            exact (List.mem_erase_of_ne hne).2 (hd w (List.mem_cons_of_mem _ hw)))
          rw [List.length_erase_of_mem hz] at this
          have := List.length_pos_of_mem hz
          simp; omega
      have := key ha hsub
      simp at this hl; omega
end Go.Proofs.Ytbnhijapbnfohaa
namespace Go.Proofs.Ytbnhijapbnfohaa
open Go.Ahl
theorem within_refl (a : List FLit) : withinB a a = true := withinB_iff.2 fun _ h => h
theorem within_trans {a b c : List FLit} (h : withinB a b = true) (k : withinB b c = true) : withinB a c = true :=
  withinB_iff.2 fun x hx => withinB_iff.1 k x (withinB_iff.1 h x hx)
theorem within_len {n : Int} : ∀ {r : Int} {c d : List FLit}, condB n r c = true → (∀ z ∈ c, z ∈ d) → c.length ≤ d.length := by
  intro r c
  induction c generalizing r with
  | nil => intro d _ _; simp
  | cons z c ih =>
    intro d hc hd
    obtain ⟨c1, c2, c3⟩ := condB_cons hc
    have hz := hd z List.mem_cons_self
    have := ih (d := d.erase z) c3 (fun w hw => by
      have hne : w ≠ z := fun e => by subst e; have := (condB_mem c3 w hw).1; omega
      exact (List.mem_erase_of_ne hne).2 (hd w (List.mem_cons_of_mem _ hw)))
    rw [List.length_erase_of_mem hz] at this
    have := List.length_pos_of_mem hz
    simp; omega
/-- A term that no shorter one of f is within. -/
def minimal (f : List (List FLit)) (l : List FLit) : Prop := l ∈ f ∧ ∀ m ∈ f, withinB m l = true → ¬ m.length < l.length
theorem order_len {a b : List FLit} (h : orderI a b ≤ 0) : a.length ≤ b.length := by
  unfold orderI at h
  by_cases hl : a.length = b.length
  · omega
  · rw [if_neg hl] at h; omega
def apart (a b : List FLit) : Prop := orderI a b ≤ 0 ∧ ¬ withinB a b = true
theorem redLoop_cover : ∀ (l out : List (List FLit)) x, (x ∈ out ∨ x ∈ l) → ∃ y ∈ redLoop out l, withinB y x = true
  | [], out, x, h => by
    rcases h with h | h
    · exact ⟨x, h, within_refl x⟩
    · simp at h
  | z :: l, out, x, h => by
    rw [redLoop]
    split
    · rename_i hz
      rcases h with h | h
      · exact redLoop_cover l out x (.inl h)
      · rcases List.mem_cons.1 h with rfl | h
        · obtain ⟨y, hy, hw⟩ := List.any_eq_true.1 hz
          obtain ⟨u, hu, hw'⟩ := redLoop_cover l out y (.inl hy)
          exact ⟨u, hu, within_trans hw' hw⟩
        · exact redLoop_cover l out x (.inr h)
    · rcases h with h | h
      · exact redLoop_cover l _ x (.inl (List.mem_append_left _ h))
      · rcases List.mem_cons.1 h with rfl | h
        · exact redLoop_cover l _ x (.inl (List.mem_append_right _ (List.mem_singleton.2 rfl)))
        · exact redLoop_cover l _ x (.inr h)
theorem redLoop_apart : ∀ (l out : List (List FLit)), out.Pairwise apart → (out ++ l).Pairwise leO → (redLoop out l).Pairwise apart
  | [], out, h, _ => h
  | z :: l, out, h, hs => by
    rw [redLoop]
    have hs' : (out ++ [z] ++ l).Pairwise leO := by rw [List.append_assoc]; exact hs
    split
    · refine redLoop_apart l out h ?_
      exact hs.sublist (List.Sublist.append_left (List.sublist_cons_self z l) out)
    · rename_i hz
      refine redLoop_apart l _ ?_ hs'
      rw [List.pairwise_append]
      refine ⟨h, by simp, fun a ha b hb => ?_⟩
      rw [List.mem_singleton.1 hb]
      refine ⟨(List.pairwise_append.1 hs).2.2 a ha z List.mem_cons_self, fun hw => hz (List.any_eq_true.2 ⟨a, ha, hw⟩)⟩
theorem reducedL_apart (f : List (List FLit)) : (reducedL f).Pairwise apart := redLoop_apart _ [] .nil (by simpa using sortO_sorted f)
theorem pair_cases {α : Type} {R : α → α → Prop} : ∀ {l : List α}, l.Pairwise R → ∀ x ∈ l, ∀ y ∈ l, x = y ∨ R x y ∨ R y x
  | [], _, x, hx, _, _ => by simp at hx
  | z :: l, h, x, hx, y, hy => by
    rw [List.pairwise_cons] at h
    rcases List.mem_cons.1 hx with e | hx'
    · rcases List.mem_cons.1 hy with e' | hy'
      · exact .inl (e.trans e'.symm)
      · rw [e]; exact .inr (.inl (h.1 y hy'))
    · rcases List.mem_cons.1 hy with e' | hy'
      · rw [e']; exact .inr (.inr (h.1 x hx'))
      · exact pair_cases h.2 x hx' y hy'
theorem reducedL_minimal {n : Int} {f : List (List FLit)} (hf : vF n f) (x : List FLit) : x ∈ reducedL f ↔ minimal f x := by
  have hcov : ∀ z ∈ f, ∃ y ∈ reducedL f, withinB y z = true := fun z hz => redLoop_cover _ [] z (.inr ((sortO_perm f).mem_iff.2 hz))
  constructor
  · intro hx
    refine ⟨reducedL_mem hx, fun m hm hw hlt => ?_⟩
    obtain ⟨y, hy, hym⟩ := hcov m hm
    have h1 := within_len (hf y (reducedL_mem hy)) (withinB_iff.1 hym)
    have hyx := within_trans hym hw
    rcases pair_cases (reducedL_apart f) x hx y hy with e | e | e
    · subst e; omega
    · have := order_len e.1; omega
    · exact e.2 hyx
  · rintro ⟨hx, hmin⟩
    obtain ⟨y, hy, hyx⟩ := hcov x hx
    have hyf := reducedL_mem hy
    have h1 := hmin y hyf hyx
    rw [← within_eq (hf y hyf) (hf x hx) (withinB_iff.1 hyx) (by omega)]
    exact hy
def ltO (a b : List FLit) : Prop := orderI a b < 0
theorem reducedL_strict (f : List (List FLit)) : (reducedL f).Pairwise ltO := (reducedL_apart f).imp fun {a b} h => by
  rcases Int.lt_or_eq_of_le h.1 with q | q
  · exact q
  · exact absurd (by rw [order_anti q]; exact within_refl b) h.2
theorem ltO_irrefl (a : List FLit) : ¬ ltO a a := by unfold ltO; rw [order_refl]; omega
theorem strict_unique : ∀ {a b : List (List FLit)}, a.Pairwise ltO → b.Pairwise ltO → (∀ x, x ∈ a ↔ x ∈ b) → a = b
  | [], [], _, _, _ => rfl
  | [], y :: b, _, _, h => by have := (h y).2 List.mem_cons_self; simp at this
  | x :: a, [], _, _, h => by have := (h x).1 List.mem_cons_self; simp at this
  | x :: a, y :: b, ha, hb, h => by
    rw [List.pairwise_cons] at ha hb
    have hxy : x = y := by
      rcases List.mem_cons.1 ((h x).1 List.mem_cons_self) with e | e
      · exact e
      · rcases List.mem_cons.1 ((h y).2 List.mem_cons_self) with e' | e'
        · exact e'.symm
        · exact absurd (order_trans (hb.1 x e) (ha.1 y e')) (ltO_irrefl y)
    subst hxy
    rw [strict_unique ha.2 hb.2 fun z => by
      constructor
      · intro hz
        rcases List.mem_cons.1 ((h z).1 (List.mem_cons_of_mem _ hz)) with e | e
        · subst e; exact absurd (ha.1 z hz) (ltO_irrefl z)
        · exact e
      · intro hz
        rcases List.mem_cons.1 ((h z).2 (List.mem_cons_of_mem _ hz)) with e | e
        · subst e; exact absurd (hb.1 z hz) (ltO_irrefl z)
        · exact e]
end Go.Proofs.Ytbnhijapbnfohaa
namespace Go.Proofs.Ytbnhijapbnfohaa
open Go.Ahl
theorem keepAt_iff (i : Nat) (l : List FLit) : ∀ (r : List (List FLit)) (k : Nat), keepAt i l k r = true ↔ ∀ (j : Nat) m, r[j]? = some m → withinB m l = true → ¬ m.length < l.length ∧ ¬ (k + j < i ∧ m.length = l.length)
  | [], k => by simp [keepAt]
  | m :: r, k => by
    rw [keepAt, Bool.and_eq_true, keepAt_iff i l r (k + 1)]
    constructor
    · rintro ⟨h1, h2⟩ j u hu hw
      cases j with
      | zero =>
        simp at hu; subst hu
        rw [hw, Bool.true_and] at h1
        simp at h1
        exact ⟨by omega, fun q => h1.2.elim (fun e => by omega) (fun e => e q.2)⟩
      | succ j =>
        simp at hu
        have := h2 j u hu hw
        exact ⟨this.1, fun q => this.2 ⟨by omega, q.2⟩⟩
    · intro h
      refine ⟨?_, fun j u hu hw => ?_⟩
      · cases hw : withinB m l
        · rfl
        · have := h 0 m rfl hw
          rw [decide_eq_false this.1]
          by_cases hk : k < i
          · rw [decide_eq_true hk, decide_eq_false (fun q => this.2 ⟨by omega, q⟩)]; rfl
          · rw [decide_eq_false hk]; rfl
      · have := h (j + 1) u (by simpa using hu) hw
        exact ⟨this.1, fun q => this.2 ⟨by omega, q.2⟩⟩
theorem insB_iff (l : List FLit) : ∀ r x, x ∈ insB l r ↔ x = l ∨ x ∈ r
  | [], x => by simp [insB]
  | y :: r, x => by
    rw [insB]
    split
    · rw [List.mem_cons, insB_iff l r x, List.mem_cons]
      constructor
      · rintro (h | h | h)
        · exact .inr (.inl h)
        · exact .inl h
        · exact .inr (.inr h)
      · rintro (h | h | h)
        · exact .inr (.inl h)
        · exact .inl h
        · exact .inr (.inr h)
    · rw [List.mem_cons]
theorem insB_strict (l : List FLit) : ∀ {r}, r.Pairwise ltO → l ∉ r → (insB l r).Pairwise ltO
  | [], _, _ => by simp [insB]
  | y :: r, h, hl => by
    rw [insB, befB_eq]
    rw [List.pairwise_cons] at h
    have hne : y ≠ l := fun e => hl (by rw [e]; exact List.mem_cons_self)
    split
    · rename_i hb
      have hb := of_decide_eq_true hb
      refine List.pairwise_cons.2 ⟨fun z hz => ?_, insB_strict l h.2 (fun q => hl (List.mem_cons_of_mem _ q))⟩
      rcases (insB_iff l r z).1 hz with e | hz
      · rw [e]; exact hb
      · exact h.1 z hz
    · rename_i hb
      have hly : ltO l y := by
        have h0 : ¬ orderI y l < 0 := fun q => hb (decide_eq_true q)
        rcases Int.lt_trichotomy (orderI l y) 0 with q | q | q
        · exact q
        · exact absurd (order_anti q).symm hne
        · exact absurd (order_swap.2 q) h0
      refine List.pairwise_cons.2 ⟨fun z hz => ?_, List.pairwise_cons.2 h⟩
      rcases List.mem_cons.1 hz with e | hz
      · rw [e]; exact hly
      · exact order_trans hly (h.1 z hz)
/-- The first occurrence of a term that no stronger one of f is within, among the first i. -/
theorem refFrom_spec {n : Int} {f : List (List FLit)} (hf : vF n f) : ∀ (r : List (List FLit)) (i : Nat) (out : List (List FLit)), r = f.drop i → i ≤ f.length → out.Pairwise ltO → (∀ x, x ∈ out ↔ minimal f x ∧ x ∈ f.take i) →
    (refFrom f i out r).Pairwise ltO ∧ ∀ x, x ∈ refFrom f i out r ↔ minimal f x
  | [], i, out, hr, hi, hp, hm => by
    have hlen : f.length ≤ i := List.drop_eq_nil_iff.1 hr.symm
    refine ⟨hp, fun x => ?_⟩
    rw [refFrom, hm x, List.take_of_length_le hlen]
    exact ⟨fun h => h.1, fun h => ⟨h, h.1⟩⟩
  | l :: r, i, out, hr, hi, hp, hm => by
    have hlt : i < f.length := by
      rcases Nat.lt_or_ge i f.length with q | q
      · exact q
      · rw [List.drop_eq_nil_iff.2 q] at hr; simp at hr
    have hx : f[i]? = some l := by
      have := congrArg (·[0]?) hr
      simp at this; exact this.symm
    have hr' : r = f.drop (i + 1) := by
      rw [drop_cons hx] at hr; injection hr
    have hlf : l ∈ f := List.mem_of_getElem? hx
    have hts := take_succ' hx
    rw [refFrom]
    by_cases hk : keepAt i l 0 f = true
    · rw [if_pos hk]
      have hk' := (keepAt_iff i l f 0).1 hk
      have hmin : minimal f l := ⟨hlf, fun m hm' hw => by
        obtain ⟨j, hj, rfl⟩ := List.mem_iff_getElem.1 hm'
        exact (hk' j _ (List.getElem?_eq_getElem hj) hw).1⟩
      have hnot : l ∉ out := by
        intro hl
        have := ((hm l).1 hl).2
        obtain ⟨j, hj, he⟩ := List.mem_iff_getElem.1 this
        have hji : j < i := by rw [List.length_take] at hj; omega
        rw [List.getElem_take] at he
        exact (hk' j l (by rw [List.getElem?_eq_getElem (by omega), he]) (within_refl l)).2 ⟨by omega, rfl⟩
      refine refFrom_spec hf r (i + 1) _ hr' (by omega) (insB_strict l hp hnot) fun x => ?_
      rw [insB_iff, hm x, hts, List.mem_append, List.mem_singleton]
      constructor
      · rintro (h | h)
        · subst h; exact ⟨hmin, .inr rfl⟩
        · exact ⟨h.1, .inl h.2⟩
      · rintro ⟨h, h' | h'⟩
        · exact .inr ⟨h, h'⟩
        · exact .inl h'
    · rw [if_neg hk]
      refine refFrom_spec hf r (i + 1) _ hr' (by omega) hp fun x => ?_
      rw [hm x, hts, List.mem_append, List.mem_singleton]
      constructor
      · rintro ⟨h, h'⟩; exact ⟨h, .inl h'⟩
      · rintro ⟨h, h' | h'⟩
        · exact ⟨h, h'⟩
        · subst h'
          refine ⟨h, ?_⟩
          -- it is minimal, yet not kept: an equal one stands ahead
          refine Classical.byContradiction fun hno => hk ((keepAt_iff i x f 0).2 fun j m hj hw => ⟨h.2 m (List.mem_of_getElem? hj) hw, fun q => hno ?_⟩)
          have he := within_eq (hf m (List.mem_of_getElem? hj)) (hf x hlf) (withinB_iff.1 hw) (by omega)
          subst he
          exact List.mem_iff_getElem?.2 ⟨j, by rw [List.getElem?_take, if_pos (by omega)]; exact hj⟩
theorem refRed_eq {n : Int} {f : List (List FLit)} (hf : vF n f) : refRed f = reducedL f := by
  have h := refFrom_spec hf f 0 [] (by simp) (Nat.zero_le _) .nil (by simp)
  exact strict_unique h.1 (reducedL_strict f) fun x => by
    rw [reducedL_minimal hf x]; exact h.2 x
end Go.Proofs.Ytbnhijapbnfohaa
namespace Go.Proofs.Ytbnhijapbnfohaa
open Go.Ahl
theorem FB.of {f : List (List FLit)} (h : f.length ≤ 1073741824 ∧ ∀ l ∈ f, l.length ≤ 1073741824) : FB f := ⟨by have := h.1; omega, fun l hl => by have := h.2 l hl; omega⟩
def goodB (n : Int) (f : List (List FLit)) : Bool := isForm n f && decide (f = refRed f)
end Go.Proofs.Ytbnhijapbnfohaa
namespace Go.Proofs.Ytbnhijapbnfohaa
open Go.Ahl
def whenSize (es : List FEff) : Nat := (es.map fun e => e.when_.length).sum
def actSize (a : FAct) : Nat := a.pre.length + a.effects.length + whenSize a.effects
def taskSize (t : FTask) : Nat := t.facts.length + t.init.length + t.goal.length + t.actions.length + (t.actions.map actSize).sum
/-- At most n parts, and names of at most n bytes. -/
def fewT (n : Nat) (t : FTask) : Bool := decide (taskSize t ≤ n) && (t.facts.all (fun s => decide (s.data.toList.length ≤ n)) && t.actions.all (fun a => decide (a.name.data.toList.length ≤ n)))
theorem actSum_cons (a : FAct) (l : List FAct) : ((a :: l).map actSize).sum = actSize a + (l.map actSize).sum := by simp
theorem whenSize_cons (e : FEff) (l : List FEff) : whenSize (e :: l) = e.when_.length + whenSize l := by simp [whenSize]
theorem fewT_big {n : Nat} {t : FTask} (h : n < taskSize t) : fewT n t = false := by unfold fewT; rw [decide_eq_false (by omega)]; rfl
def c_few01 : CCode := .seq (.ops [⟨some 2, .box (.tmp 0), none, []⟩, ⟨some 4, .move (.lit (.bool false)), none, []⟩]) (.seq (.ops [⟨some 12, .faddr 0 (.tmp 2), none, []⟩, ⟨some 13, .load none (.tmp 12), none, []⟩, ⟨some 14, .blen 1 (.tmp 13), none, []⟩, ⟨some 15, .faddr 1 (.tmp 2), none, []⟩, ⟨some 16, .load none (.tmp 15), none, []⟩, ⟨some 17, .blen 1 (.tmp 16), none, []⟩, ⟨some 18, .bin .add .none (.tmp 14) (.tmp 17), none, []⟩, ⟨some 19, .faddr 2 (.tmp 2), none, []⟩, ⟨some 20, .load none (.tmp 19), none, []⟩, ⟨some 21, .blen 1 (.tmp 20), none, []⟩, ⟨some 22, .bin .add .none (.tmp 18) (.tmp 21), none, []⟩, ⟨some 23, .faddr 3 (.tmp 2), none, []⟩, ⟨some 24, .load none (.tmp 23), none, []⟩, ⟨some 25, .blen 1 (.tmp 24), none, []⟩, ⟨some 26, .bin .add .none (.tmp 22) (.tmp 25), none, []⟩, ⟨some 5, .move (.tmp 26), none, []⟩]) (.seq (.seq (.ops [⟨some 27, .move (.tmp 5), none, []⟩, ⟨some 28, .move (.tmp 1), none, []⟩, ⟨some 29, .bin .gtr .none (.tmp 27) (.tmp 28), none, []⟩]) (.cond (.tmp 29) (.seq (.ops [⟨some 4, .move (.lit (.bool false)), none, []⟩]) .ret) .skip)) (.seq (.seq (.ops [⟨some 30, .faddr 0 (.tmp 2), none, []⟩, ⟨some 31, .load none (.tmp 30), none, []⟩, ⟨some 32, .blen 1 (.tmp 31), none, []⟩, ⟨some 33, .move (.lit (.int .i64 0)), none, []⟩]) (.block 0 (.loop (.seq (.ops [⟨some 34, .bin .lss .none (.tmp 33) (.tmp 32), none, []⟩]) (.seq (.cond (.tmp 34) .skip (.exit 0)) (.seq (.block 1 (.seq (.ops [⟨some 35, .iaddr 1 (.tmp 31) (.tmp 33), none, []⟩, ⟨some 36, .load none (.tmp 35), none, []⟩, ⟨some 7, .move (.tmp 36), none, []⟩]) (.seq (.ops [⟨some 37, .move (.tmp 7), none, []⟩, ⟨some 38, .blen 0 (.tmp 37), none, []⟩, ⟨some 39, .move (.tmp 1), none, []⟩, ⟨some 40, .bin .gtr .none (.tmp 38) (.tmp 39), none, []⟩]) (.cond (.tmp 40) (.seq (.ops [⟨some 4, .move (.lit (.bool false)), none, []⟩]) .ret) .skip)))) (.ops [⟨some 41, .bin .add .none (.tmp 33) (.lit (.int .i64 1)), none, []⟩, ⟨some 33, .move (.tmp 41), none, []⟩]))))))) (.seq (.seq (.ops [⟨some 42, .faddr 3 (.tmp 2), none, []⟩, ⟨some 43, .load none (.tmp 42), none, []⟩, ⟨some 44, .blen 1 (.tmp 43), none, []⟩, ⟨some 45, .move (.lit (.int .i64 0)), none, []⟩]) (.block 2 (.loop (.seq (.ops [⟨some 46, .bin .lss .none (.tmp 45) (.tmp 44), none, []⟩]) (.seq (.cond (.tmp 46) .skip (.exit 2)) (.seq (.block 3 (.seq (.ops [⟨some 47, .iaddr 4 (.tmp 43) (.tmp 45), none, []⟩, ⟨some 48, .load (some 4) (.tmp 47), none, []⟩, ⟨some 9, .alloc (.agg [.str (bys []), .int .i64 0, .slice .nil [], .slice .nil []]), none, []⟩, ⟨none, .store 4 (.tmp 9) (.tmp 48), none, []⟩]) (.seq (.ops [⟨some 49, .move (.tmp 5), none, []⟩, ⟨some 50, .faddr 2 (.tmp 9), none, []⟩, ⟨some 51, .load none (.tmp 50), none, []⟩, ⟨some 52, .blen 1 (.tmp 51), none, []⟩, ⟨some 53, .faddr 3 (.tmp 9), none, []⟩, ⟨some 54, .load none (.tmp 53), none, []⟩, ⟨some 55, .blen 1 (.tmp 54), none, []⟩, ⟨some 56, .bin .add .none (.tmp 52) (.tmp 55), none, []⟩, ⟨some 57, .bin .add .none (.tmp 49) (.tmp 56), none, []⟩, ⟨some 5, .move (.tmp 57), none, []⟩]) (.seq (.seq (.ops [⟨some 58, .move (.tmp 5), none, []⟩, ⟨some 59, .move (.tmp 1), none, []⟩, ⟨some 60, .bin .gtr .none (.tmp 58) (.tmp 59), none, []⟩, ⟨some 61, .move (.tmp 60), none, []⟩, ⟨some 62, .faddr 0 (.tmp 9), some (some 61, false), []⟩, ⟨some 63, .load none (.tmp 62), some (some 61, false), []⟩, ⟨some 64, .blen 0 (.tmp 63), some (some 61, false), []⟩, ⟨some 65, .move (.tmp 1), some (some 61, false), []⟩, ⟨some 66, .bin .gtr .none (.tmp 64) (.tmp 65), some (some 61, false), []⟩, ⟨some 67, .pick (.tmp 61) (.lit (.bool true)) (.tmp 66), none, []⟩]) (.cond (.tmp 67) (.seq (.ops [⟨some 4, .move (.lit (.bool false)), none, []⟩]) .ret) .skip)) (.seq (.ops [⟨some 68, .faddr 3 (.tmp 9), none, []⟩, ⟨some 69, .load none (.tmp 68), none, []⟩, ⟨some 70, .blen 1 (.tmp 69), none, []⟩, ⟨some 71, .move (.lit (.int .i64 0)), none, []⟩]) (.block 4 (.loop (.seq (.ops [⟨some 72, .bin .lss .none (.tmp 71) (.tmp 70), none, []⟩]) (.seq (.cond (.tmp 72) .skip (.exit 4)) (.seq (.block 5 (.seq (.ops [⟨some 73, .iaddr 3 (.tmp 69) (.tmp 71), none, []⟩, ⟨some 74, .load (some 3) (.tmp 73), none, []⟩, ⟨some 11, .alloc (.agg [.slice .nil [], .int .i64 0, .bool false]), none, []⟩, ⟨none, .store 3 (.tmp 11) (.tmp 74), none, []⟩]) (.ops [⟨some 75, .move (.tmp 5), none, []⟩, ⟨some 76, .faddr 0 (.tmp 11), none, []⟩, ⟨some 77, .load none (.tmp 76), none, []⟩, ⟨some 78, .blen 1 (.tmp 77), none, []⟩, ⟨some 79, .bin .add .none (.tmp 75) (.tmp 78), none, []⟩, ⟨some 5, .move (.tmp 79), none, []⟩]))) (.ops [⟨some 80, .bin .add .none (.tmp 71) (.lit (.int .i64 1)), none, []⟩, ⟨some 71, .move (.tmp 80), none, []⟩]))))))))))) (.ops [⟨some 81, .bin .add .none (.tmp 45) (.lit (.int .i64 1)), none, []⟩, ⟨some 45, .move (.tmp 81), none, []⟩]))))))) (.seq (.ops [⟨some 82, .move (.tmp 5), none, []⟩, ⟨some 83, .move (.tmp 1), none, []⟩, ⟨some 84, .bin .leq .none (.tmp 82) (.tmp 83), none, []⟩, ⟨some 4, .move (.tmp 84), none, []⟩]) .ret)))))
set_option maxRecDepth 20000 in
set_option maxHeartbeats 1000000 in
theorem few01_spec (t : FTask) (n : Nat) (σ : Store) (ht : TB t) (hn : n ≤ 4096) :
    ACalls Try.prog 29 [.agg (encTask t), .int .i64 n] σ (isR (.bool (fewT n t)) σ) := by
  refine ACalls.intro (rs := [(.tmp 4)]) (by kernel_rfl) { own := [], ghosts := [] } Try.func29 (c := Try.f29.body.getD .skip) (by kernel_rfl) (by decide) (by rw [show Try.f29.ntmps = 85 by kernel_rfl]; exact Nat.le_of_ble_eq_true rfl) (by kernel_rfl) ?_
  intro hσ hids
  rw [show comp Try.prog { own := [], ghosts := [] } (Try.f29.body.getD .skip) = c_few01 by kernel_rfl, show Try.f29.ntmps = 85 by kernel_rfl]
  unfold c_few01
  have hσ1 := ids_grow hσ (ids_encTask t)
  obtain ⟨T, hT⟩ : ∃ T : Nat, T = 140737488355328 := ⟨_, rfl⟩
  have hnT := mulTop (T := T) hn
  have b1 := ht.facts; have b2 := ht.init; have b3 := ht.goal; have b4 := ht.actions
  have hsz : taskSize t = t.facts.length + t.init.length + t.goal.length + t.actions.length + (t.actions.map actSize).sum := rfl
  have w1 : IntKind.i64.wrap ((t.facts.length : Int) + t.init.length) = ((t.facts.length + t.init.length : Nat) : Int) := by rw [wrap_ok (by omega)]; omega
  have w2 : IntKind.i64.wrap (((t.facts.length + t.init.length : Nat) : Int) + t.goal.length) = ((t.facts.length + t.init.length + t.goal.length : Nat) : Int) := by rw [wrap_ok (by omega)]; omega
  have w3 : IntKind.i64.wrap (((t.facts.length + t.init.length + t.goal.length : Nat) : Int) + t.actions.length) = ((t.facts.length + t.init.length + t.goal.length + t.actions.length : Nat) : Int) := by rw [wrap_ok (by omega)]; omega
  by_cases h1 : ((t.facts.length + t.init.length + t.goal.length + t.actions.length : Nat) : Int) > n
  · simp only [go_sem, Int.reduceToNat, Int.reduceLE, Int.reduceLT, Nat.reduceBEq, Nat.reduceLT, Nat.reduceAdd, Nat.reduceLeDiff, encTask, w1, w2, w3, h1]
    first | exact rtk (.bool false) ⟨by rw [fewT_big (by omega)], rfl⟩ | exact rtk0 (.bool false) ⟨by rw [fewT_big (by omega)], rfl⟩
  simp only [go_sem, Int.reduceToNat, Int.reduceLE, Int.reduceLT, Nat.reduceBEq, Nat.reduceLT, Nat.reduceAdd, Nat.reduceLeDiff, encTask, w1, w2, w3, h1]
  generalize hs0 : t.facts.length + t.init.length + t.goal.length + t.actions.length = s0 at *
  refine wpc_while (fun i => [(1, .int .i64 n), (2, .ptr σ.length 0), (5, .int .i64 s0), (31, .slice .unk (t.facts.map encT)), (32, .int .i64 t.facts.length), (33, .int .i64 (i : Nat))]) (fun _ => σ ++ [.row (encTask t)])
    (fun i => i ≤ t.facts.length ∧ t.facts.all (fun s => decide (s.data.toList.length ≤ n)) = (t.facts.drop i).all (fun s => decide (s.data.toList.length ≤ n))) (fun i => t.facts.length - i) 0 ⟨Nat.zero_le _, rfl⟩ (by (try dsimp only); exact ghk1) ?_
  rintro i ⟨hi, hv⟩ K hK hE hR
  by_cases h : i < t.facts.length
  · obtain ⟨y, hx⟩ := get_ex h; have hlt : ((i : Int) < (t.facts.length : Int)) := (by omega); have hw : IntKind.i64.wrap ((i : Int) + 1) = ((i + 1 : Nat) : Int) := (by rw [wrap_ok (by omega)]; omega)
    have hb : y.size = y.data.toList.length := rfl
    have hyb := ht.names y (List.mem_of_getElem? hx)
    rw [drop_cons hx, List.all_cons] at hv
    by_cases h2 : ((y.data.toList.length : Nat) : Int) > n
    · simp only [go_sem, Int.reduceToNat, Int.reduceLE, Int.reduceLT, Nat.reduceBEq, Nat.reduceLT, Nat.reduceAdd, Nat.reduceLeDiff, hlt, hx, encT, hb, h2, hR]
      rw [decide_eq_false (by omega), Bool.false_and] at hv
      first | exact rtk (.bool false) ⟨by rw [fewT, hv, Bool.false_and, Bool.and_false], rfl⟩ | exact rtk0 (.bool false) ⟨by rw [fewT, hv, Bool.false_and, Bool.and_false], rfl⟩
    · simp only [go_sem, Int.reduceToNat, Int.reduceLE, Int.reduceLT, Nat.reduceBEq, Nat.reduceLT, Nat.reduceAdd, Nat.reduceLeDiff, hlt, hx, encT, hb, h2]
      rw [decide_eq_true (by omega), Bool.true_and] at hv
      refine hK _ _ (i + 1) (⟨by omega, hv⟩) (by first | omega | (simp only []; omega) | (simp; omega)) ?_; (try dsimp only); (try simp only [ hw]); exact ghk1
  · have hlt : ¬ ((i : Int) < (t.facts.length : Int)) := by omega
    rw [drop_len h, List.all_nil] at hv
    simp only [go_sem, Int.reduceToNat, Int.reduceLE, Int.reduceLT, Nat.reduceBEq, Nat.reduceLT, Nat.reduceAdd, Nat.reduceLeDiff, hlt, hE, encTask]
    have hfv : fewT n t = (decide (taskSize t ≤ n) && t.actions.all (fun a => decide (a.name.data.toList.length ≤ n))) := by rw [fewT, hv, Bool.true_and]
    clear hK hE hR hv
    refine wpc_while (fun (q : Nat × Nat) => [(1, .int .i64 n), (5, .int .i64 q.2), (43, .slice .unk (t.actions.map encA)), (44, .int .i64 t.actions.length), (45, .int .i64 q.1)]) (fun _ => σ)
      (fun q => q.1 ≤ t.actions.length ∧ q.2 ≤ n + n * T ∧ taskSize t = q.2 + ((t.actions.drop q.1).map actSize).sum ∧ t.actions.all (fun a => decide (a.name.data.toList.length ≤ n)) = (t.actions.drop q.1).all (fun a => decide (a.name.data.toList.length ≤ n))) (fun q => t.actions.length - q.1) (0, s0) ⟨Nat.zero_le _, by simp only []; omega, by rw [hsz]; rfl, rfl⟩ (by (try dsimp only); first | exact ghk | exact ghk0) ?_
    rintro ⟨j, a⟩ ⟨hj', haa, hva, hvn⟩ K hK hE hR
    dsimp only at hj' haa hva hvn ⊢
    by_cases hj : j < t.actions.length
    · obtain ⟨x, hxj⟩ := get_ex hj; have hltj : ((j : Int) < (t.actions.length : Int)) := (by omega); have hwj : IntKind.i64.wrap ((j : Int) + 1) = ((j + 1 : Nat) : Int) := (by rw [wrap_ok (by omega)]; omega)
      have hb : x.name.size = x.name.data.toList.length := rfl
      have hxm := List.mem_of_getElem? hxj
      have c1 := ht.pre x hxm; have c2 := ht.effects x hxm; have c3 := ht.whens x hxm; have c4 := ht.name x hxm
      rw [drop_cons hxj, actSum_cons, actSize] at hva
      rw [drop_cons hxj, List.all_cons] at hvn
      have w4 : IntKind.i64.wrap ((x.pre.length : Int) + x.effects.length) = ((x.pre.length + x.effects.length : Nat) : Int) := by rw [wrap_ok (by omega)]; omega
      have w5 : IntKind.i64.wrap ((a : Int) + ((x.pre.length + x.effects.length : Nat) : Int)) = ((a + (x.pre.length + x.effects.length) : Nat) : Int) := by rw [wrap_ok (by omega)]; omega
      by_cases h3 : ((a + (x.pre.length + x.effects.length) : Nat) : Int) > n
      · simp only [go_sem, Int.reduceToNat, Int.reduceLE, Int.reduceLT, Nat.reduceBEq, Nat.reduceLT, Nat.reduceAdd, Nat.reduceLeDiff, hltj, hxj, encA, w4, w5, h3, hR]
        first | exact rtk (.bool false) ⟨by rw [fewT_big (by omega)], rfl⟩ | exact rtk0 (.bool false) ⟨by rw [fewT_big (by omega)], rfl⟩
      by_cases h4 : ((x.name.data.toList.length : Nat) : Int) > n
      · simp only [go_sem, Int.reduceToNat, Int.reduceLE, Int.reduceLT, Nat.reduceBEq, Nat.reduceLT, Nat.reduceAdd, Nat.reduceLeDiff, hltj, hxj, encA, w4, w5, h3, hb, h4, hR]
        rw [decide_eq_false (by omega), Bool.false_and] at hvn
        first | exact rtk (.bool false) ⟨by rw [hfv, hvn, Bool.and_false], rfl⟩ | exact rtk0 (.bool false) ⟨by rw [hfv, hvn, Bool.and_false], rfl⟩
      rw [decide_eq_true (by omega), Bool.true_and] at hvn
      simp only [go_sem, Int.reduceToNat, Int.reduceLE, Int.reduceLT, Nat.reduceBEq, Nat.reduceLT, Nat.reduceAdd, Nat.reduceLeDiff, hltj, hxj, encA, w4, w5, h3, hb, h4]
      refine wpc_while (fun (q : Nat × Nat) => [(1, .int .i64 n), (5, .int .i64 q.2), (43, .slice .unk (t.actions.map encA)), (44, .int .i64 t.actions.length), (45, .int .i64 j), (69, .slice .unk (x.effects.map encE)), (70, .int .i64 x.effects.length), (71, .int .i64 q.1)]) (fun _ => σ)
        (fun q => q.1 ≤ x.effects.length ∧ q.2 ≤ n + q.1 * T ∧ taskSize t = q.2 + whenSize (x.effects.drop q.1) + ((t.actions.drop (j + 1)).map actSize).sum) (fun q => x.effects.length - q.1) (0, a + (x.pre.length + x.effects.length)) ⟨Nat.zero_le _, by simp only []; omega, by rw [List.drop_zero]; omega⟩ (by (try dsimp only); first | exact ghk | exact ghk0) ?_
      rintro ⟨k, b⟩ ⟨hk', hbb, hvb⟩ K' hK' hE' hR'
      dsimp only at hk' hbb hvb ⊢
      have hfn : x.effects.length ≤ n := by omega
      have hjm := mulTop (T := T) (Nat.le_trans hk' hfn)
      by_cases hk : k < x.effects.length
      · obtain ⟨e, hxk⟩ := get_ex hk; have hltk : ((k : Int) < (x.effects.length : Int)) := (by omega); have hwk : IntKind.i64.wrap ((k : Int) + 1) = ((k + 1 : Nat) : Int) := (by rw [wrap_ok (by omega)]; omega)
        have c5 := c3 e (List.mem_of_getElem? hxk)
        rw [drop_cons hxk, whenSize_cons] at hvb
        have w6 : IntKind.i64.wrap ((b : Int) + e.when_.length) = ((b + e.when_.length : Nat) : Int) := by rw [wrap_ok (by omega)]; omega
        simp only [go_sem, Int.reduceToNat, Int.reduceLE, Int.reduceLT, Nat.reduceBEq, Nat.reduceLT, Nat.reduceAdd, Nat.reduceLeDiff, hltk, hxk, encE, w6]
        refine hK' _ _ (k + 1, b + e.when_.length) ⟨by simp only []; omega, by simp only [Nat.add_mul]; omega, by simp only []; omega⟩ (by simp only []; omega) ?_
        exact (by (try dsimp only); (try simp only [hwk]); first | exact ghk | exact ghk0)
      · have hltk : ¬ ((k : Int) < (x.effects.length : Int)) := by omega
        rw [drop_len hk] at hvb
        simp only [go_sem, Int.reduceToNat, Int.reduceLE, Int.reduceLT, Nat.reduceBEq, Nat.reduceLT, Nat.reduceAdd, Nat.reduceLeDiff, hltk, hE']
        refine hK _ _ ((j + 1, b)) (⟨by simp only []; omega, by simp only []; omega, by simpa [whenSize] using hvb, hvn⟩) (by first | omega | (simp only []; omega) | (simp; omega)) ?_; (try dsimp only); (try simp only [ hwj]); first | exact ghk | exact ghk0
    · have hltj : ¬ ((j : Int) < (t.actions.length : Int)) := by omega
      rw [drop_len hj, List.map_nil, List.sum_nil] at hva
      rw [drop_len hj, List.all_nil] at hvn
      simp only [go_sem, Int.reduceToNat, Int.reduceLE, Int.reduceLT, Nat.reduceBEq, Nat.reduceLT, Nat.reduceAdd, Nat.reduceLeDiff, hltj, hE]
      first | exact rtk (.bool (decide ((a : Int) ≤ n))) ⟨by rw [hfv, hvn, Bool.and_true]; congr 1; apply decide_eq_decide.2; omega, rfl⟩ | exact rtk0 (.bool (decide ((a : Int) ≤ n))) ⟨by rw [hfv, hvn, Bool.and_true]; congr 1; apply decide_eq_decide.2; omega, rfl⟩
def fewB (t : FTask) (fs : List (List (List FLit))) : Bool := fewT 400 t && decide ((fs.map formSize).sum ≤ 2400)
def c_few : CCode := .seq (.ops [⟨some 2, .box (.tmp 0), none, []⟩, ⟨some 4, .move (.lit (.bool false)), none, []⟩]) (.seq (.ops [⟨some 5, .load (some 4) (.tmp 2), none, []⟩, ⟨some 6, .call (.lit (.func 29 [])) [.tmp 5, .lit (.int .i64 400)], none, []⟩, ⟨some 7, .move (.tmp 6), none, []⟩, ⟨some 8, .move (.tmp 1), some (some 7, true), []⟩, ⟨some 9, .call (.lit (.func 30 [])) [.lit (.int .i64 2400), .tmp 8], some (some 7, true), []⟩, ⟨some 10, .pick (.tmp 7) (.tmp 9) (.lit (.bool false)), none, []⟩, ⟨some 4, .move (.tmp 10), none, []⟩]) .ret)
set_option maxRecDepth 20000 in
theorem few_spec (t : FTask) (fs : List (List (List FLit))) (tok : Tok) (σ : Store) (ht : TB t) (hf : fs.length ≤ 140737488355328) (hl : ∀ f ∈ fs, FB f) :
    ACalls Try.prog 7 [.agg (encTask t), .slice tok (fs.map encF)] σ (isR (.bool (fewB t fs)) σ) := by
  refine ACalls.intro (rs := [(.tmp 4)]) (by kernel_rfl) { own := [], ghosts := [] } Try.func7 (c := Try.f7.body.getD .skip) (by kernel_rfl) (by decide) (by rw [show Try.f7.ntmps = 11 by kernel_rfl]; exact Nat.le_of_ble_eq_true rfl) (by kernel_rfl) ?_
  intro hσ hids
  rw [show comp Try.prog { own := [], ghosts := [] } (Try.f7.body.getD .skip) = c_few by kernel_rfl, show Try.f7.ntmps = 11 by kernel_rfl]
  unfold c_few
  simp only [go_sem, Int.reduceToNat, Int.reduceLE, Int.reduceLT, Nat.reduceBEq, Nat.reduceLT, Nat.reduceAdd, Nat.reduceLeDiff, encTask]
  refine (few01_spec t 400 _ ht (by omega)).is ?_
  cases h1 : fewT 400 t
  · simp only [go_sem, Int.reduceToNat, Int.reduceLE, Int.reduceLT, Nat.reduceBEq, Nat.reduceLT, Nat.reduceAdd, Nat.reduceLeDiff]
    first | exact rtk (.bool false) ⟨by rw [fewB, h1]; rfl, rfl⟩ | exact rtk0 (.bool false) ⟨by rw [fewB, h1]; rfl, rfl⟩
  · simp only [go_sem, Int.reduceToNat, Int.reduceLE, Int.reduceLT, Nat.reduceBEq, Nat.reduceLT, Nat.reduceAdd, Nat.reduceLeDiff]
    refine (few07_spec 2400 (by omega) fs tok _ hf hl).is ?_
    simp only [go_sem, Int.reduceToNat, Int.reduceLE, Int.reduceLT, Nat.reduceBEq, Nat.reduceLT, Nat.reduceAdd, Nat.reduceLeDiff]
    first | exact rtw (v := .bool _) wkS ⟨by rw [fewB, h1]; rfl, rfl⟩ | exact rtw0 (v := .bool _) wkS ⟨by rw [fewB, h1]; rfl, rfl⟩
end Go.Proofs.Ytbnhijapbnfohaa
namespace Go.Proofs.Ytbnhijapbnfohaa
open Go.Ahl
/-- What Implies comes back with, if there is no error. -/
def ImpPost (n : Nat) (f g : List (List FLit)) (r : AV) : Prop :=
  (r = .tuple [.bool true, .slice .nil [], .int .i64 0] ∧ ∀ l ∈ f, ∀ a, termT a l = true → ∃ t ∈ g, termT a t = true) ∨
  ∃ s, risingB n (-1) s = true ∧ s.length ≤ n ∧ r = .tuple [.bool false, .slice .unk (s.map Ahl.encI), .int .i64 0] ∧ formHolds s f = true ∧ formHolds s g = false
/-- The same, with the state in new memory. -/
def ImpPostF (n : Nat) (f g : List (List FLit)) (r : AV) : Prop :=
  (r = .tuple [.bool true, .slice .nil [], .int .i64 0] ∧ ∀ l ∈ f, ∀ a, termT a l = true → ∃ t ∈ g, termT a t = true) ∨
  ∃ s, risingB n (-1) s = true ∧ s.length ≤ n ∧ r = .tuple [.bool false, .slice .fresh (s.map Ahl.encI), .int .i64 0] ∧ formHolds s f = true ∧ formHolds s g = false
theorem condHolds_term (s : List Int) (l : List FLit) : condHolds s l = termT (fun i => s.contains i) l := rfl
theorem esc_state {n : Nat} {f g : List (List FLit)} {w : List Int} (vf : vF n f) (vg : vF n g) (hw : Tri w) (hl : w.length = n) (h1 : ∃ l ∈ f, ∀ x ∈ l, litV w x = 1) (h2 : ∀ l ∈ g, ∃ x ∈ l, litV w x < 0) :
    risingB n (-1) (posFrom 0 w) = true ∧ (posFrom 0 w).length ≤ n ∧ formHolds (posFrom 0 w) f = true ∧ formHolds (posFrom 0 w) g = false := by
  have hr : ∀ l, condB n (-1) l = true → ∀ x ∈ l, inR w.length x := fun l hc x hx => by
    have := (cond_apart hc).1 x hx
    exact ⟨by omega, by rw [hl]; exact this.2⟩
  refine ⟨posFrom_rising n w 0 (-1) (by omega) (by omega), by have := posFrom_len w 0; omega, ?_, ?_⟩
  · obtain ⟨l, hm, hx⟩ := h1
    refine List.any_eq_true.2 ⟨l, hm, ?_⟩
    rw [condHolds_term]
    exact List.all_eq_true.2 fun x hxl => (posFrom_lit hw (hr l (vf l hm) x hxl)).1 (hx x hxl)
  · refine List.any_eq_false.2 fun l hm => ?_
    rw [condHolds_term]
    obtain ⟨x, hx, hv⟩ := h2 l hm
    intro hall
    have h3 := List.all_eq_true.1 hall x hx
    rw [(posFrom_lit hw (hr l (vg l hm) x hx)).2 hv] at h3
    exact absurd h3 (by simp)
def c_Implies : CCode := .seq (.ops [⟨some 3, .box (.tmp 0), none, []⟩, ⟨some 6, .move (.lit (.bool false)), none, []⟩, ⟨some 7, .move (.lit (.slice .nil [])), none, []⟩, ⟨some 8, .move (.lit (.int .i64 0)), none, []⟩]) (.seq (.seq (.ops [⟨some 13, .load (some 4) (.tmp 3), none, []⟩, ⟨some 14, .move (.tmp 1), none, []⟩, ⟨some 15, .move (.tmp 2), none, []⟩, ⟨some 16, .bslice 1 [.tmp 14, .tmp 15] false, none, []⟩, ⟨some 17, .call (.lit (.func 32 [])) [.tmp 13, .tmp 16], none, []⟩, ⟨some 9, .move (.tmp 17), none, []⟩]) (.seq (.ops [⟨some 18, .move (.tmp 9), none, []⟩, ⟨some 19, .bin .neq .none (.tmp 18) (.lit (.int .i64 0)), none, []⟩]) (.cond (.tmp 19) (.seq (.ops [⟨some 20, .move (.tmp 9), none, []⟩, ⟨some 6, .move (.lit (.bool false)), none, []⟩, ⟨some 7, .move (.lit (.slice .nil [])), none, []⟩, ⟨some 8, .move (.tmp 20), none, []⟩]) .ret) .skip))) (.seq (.ops [⟨some 22, .load (some 4) (.tmp 3), none, []⟩, ⟨some 23, .move (.tmp 1), none, []⟩, ⟨some 24, .move (.tmp 2), none, []⟩, ⟨some 25, .call (.lit (.func 33 [])) [.tmp 22, .tmp 23, .tmp 24], none, []⟩, ⟨some 21, .move (.tmp 25), none, []⟩, ⟨some 26, .extract (.tmp 21) 0, none, []⟩, ⟨some 27, .extract (.tmp 21) 1, none, []⟩, ⟨some 28, .extract (.tmp 21) 2, none, []⟩, ⟨some 10, .move (.tmp 26), none, []⟩, ⟨some 11, .move (.tmp 27), none, []⟩, ⟨some 12, .move (.tmp 28), none, []⟩]) (.seq (.seq (.ops [⟨some 29, .move (.tmp 12), none, []⟩, ⟨some 30, .un .not (.tmp 29), none, []⟩]) (.cond (.tmp 30) (.seq (.ops [⟨some 6, .move (.lit (.bool false)), none, []⟩, ⟨some 7, .move (.lit (.slice .nil [])), none, []⟩, ⟨some 8, .move (.lit (.int .i64 3)), none, []⟩]) .ret) .skip)) (.seq (.ops [⟨some 31, .move (.tmp 11), none, []⟩, ⟨some 32, .un .not (.tmp 31), none, []⟩, ⟨some 33, .move (.tmp 10), none, []⟩, ⟨some 6, .move (.tmp 32), none, []⟩, ⟨some 7, .move (.tmp 33), none, []⟩, ⟨some 8, .move (.lit (.int .i64 0)), none, []⟩]) .ret))))
set_option maxRecDepth 20000 in
theorem Implies_specF (t : FTask) (f g : List (List FLit)) (tok tok' : Tok) (σ : Store) (ht : TB t) (hf : FB f) (hg : FB g) (h16 : t.facts.length ≤ 16) :
    ACalls Try.prog 9 [.agg (encTask t), .slice tok (f.map encC), .slice tok' (g.map encC)] σ (fun r σ' => σ' = σ ∧ ((fineE t [f, g] ≠ 0 ∧ r = .tuple [.bool false, .slice .nil [], .int .i64 (fineE t [f, g])]) ∨ (fineE t [f, g] = 0 ∧ ImpPostF t.facts.length f g r))) := by
  refine ACalls.intro (rs := [(.tmp 6), (.tmp 7), (.tmp 8)]) (by kernel_rfl) { own := [], ghosts := [] } Try.func9 (c := Try.f9.body.getD .skip) (by kernel_rfl) (by decide) (by rw [show Try.f9.ntmps = 34 by kernel_rfl]; exact Nat.le_of_ble_eq_true rfl) (by kernel_rfl) ?_
  intro hσ hids
  rw [show comp Try.prog { own := [], ghosts := [] } (Try.f9.body.getD .skip) = c_Implies by kernel_rfl, show Try.f9.ntmps = 34 by kernel_rfl]
  unfold c_Implies
  simp only [go_sem, Int.reduceToNat, Int.reduceLE, Int.reduceLT, Nat.reduceBEq, Nat.reduceLT, Nat.reduceAdd, Nat.reduceLeDiff, encTask]
  refine ACalls.is (ACalls.wk (fine07_spec t [f, g] .unk _ ht (by simp) (by intro x hx; simp at hx; rcases hx with rfl | rfl; exact hf; exact hg)) (.cons (.refl _) (WkL.one (wk_two _ _ _ _ _)))) ?_
  by_cases h1 : fineE t [f, g] = 0
  · obtain ⟨hn, _, l1, l2, v1, v2⟩ := fine_two h1
    rw [h1]
    simp only [go_sem, Int.reduceToNat, Int.reduceLE, Int.reduceLT, Nat.reduceBEq, Nat.reduceLT, Nat.reduceAdd, Nat.reduceLeDiff]
    refine (Escape_spec t f g _ _ _ h16 l1 v1 l2 v2).mono ?_
    rintro _ _ ⟨rfl, ⟨rfl, hno⟩ | ⟨w, hw, hl, rfl, h3, h4⟩⟩
    · simp only [go_sem, Int.reduceToNat, Int.reduceLE, Int.reduceLT, Nat.reduceBEq, Nat.reduceLT, Nat.reduceAdd, Nat.reduceLeDiff]
      exact ret3 (.bool true) (.slice .nil []) (.int .i64 0) List.take_left ⟨rfl, .inr (.inl ⟨rfl, hno⟩)⟩
    · obtain ⟨a1, a2, a3, a4⟩ := esc_state v1 v2 hw hl h3 h4
      simp only [go_sem, Int.reduceToNat, Int.reduceLE, Int.reduceLT, Nat.reduceBEq, Nat.reduceLT, Nat.reduceAdd, Nat.reduceLeDiff]
      exact ret3 (.bool false) (.slice .fresh ((posFrom 0 w).map Ahl.encI)) (.int .i64 0) List.take_left ⟨rfl, .inr (.inr ⟨_, a1, a2, rfl, a3, a4⟩)⟩
  · have h1' : (fineE t [f, g] != 0) = true := by simpa using h1
    simp only [go_sem, Int.reduceToNat, Int.reduceLE, Int.reduceLT, Nat.reduceBEq, Nat.reduceLT, Nat.reduceAdd, Nat.reduceLeDiff, h1']
    exact ret3 (.bool false) (.slice .nil []) (.int .i64 (fineE t [f, g])) List.take_left ⟨rfl, .inl ⟨h1, rfl⟩⟩
theorem Implies_spec (t : FTask) (f g : List (List FLit)) (tok tok' : Tok) (σ : Store) (ht : TB t) (hf : FB f) (hg : FB g) (h16 : t.facts.length ≤ 16) :
    ACalls Try.prog 9 [.agg (encTask t), .slice tok (f.map encC), .slice tok' (g.map encC)] σ (fun r σ' => σ' = σ ∧ ((fineE t [f, g] ≠ 0 ∧ r = .tuple [.bool false, .slice .nil [], .int .i64 (fineE t [f, g])]) ∨ (fineE t [f, g] = 0 ∧ ImpPost t.facts.length f g r))) := by
  refine (Implies_specF t f g tok tok' σ ht hf hg h16).wkC ?_
  rintro r σ' ⟨rfl, h | ⟨h0, h | ⟨s, a1, a2, rfl, a3, a4⟩⟩⟩
  · exact ⟨r, .refl _, rfl, .inl h⟩
  · exact ⟨r, .refl _, rfl, .inr ⟨h0, .inl h⟩⟩
  · exact ⟨_, Wk.tuple (.cons (.refl _) (.cons (Wk.unk _ _) (WkL.one (.refl _)))), rfl, .inr ⟨h0, .inr ⟨s, a1, a2, rfl, a3, a4⟩⟩⟩
end Go.Proofs.Ytbnhijapbnfohaa
namespace Go.Proofs.Ytbnhijapbnfohaa
open Go.Ahl
def t0 : FTask := ⟨[bys [104, 101, 114, 101], bys [116, 104, 101, 114, 101]], [0], [⟨1, false⟩], [⟨bys [103, 111], 2, [⟨0, false⟩], [⟨[], ⟨0, true⟩⟩, ⟨[], ⟨1, false⟩⟩]⟩]⟩
theorem t0_TB : TB t0 := ⟨by decide, by decide, by decide, by decide, by decide, by decide, by decide, by decide, by decide⟩
theorem t0_reg : retF (actE t0 0 [[⟨1, false⟩]]) (backF (t0.actions.getD (0 : Int).toNat ⟨.empty, 0, [], []⟩) [[⟨1, false⟩]]) = .tuple [.slice .unk ([[⟨0, false⟩]].map encC), .int .i64 0] := by kernel_rfl
theorem t0_weak : retF (actE t0 0 []) (aheadF (t0.actions.getD (0 : Int).toNat ⟨.empty, 0, [], []⟩) []) = .tuple [.slice .unk ([[⟨0, true⟩]].map encC), .int .i64 0] := by kernel_rfl
theorem t0_fine : fineE t0 [[[]], [[⟨0, false⟩]]] = 0 := by kernel_rfl
theorem t0_check : checkE t0 [[⟨2, false⟩]] = 70 := by kernel_rfl
theorem FB_small {f : List (List FLit)} (h : f.length ≤ 1000 ∧ ∀ l ∈ f, l.length ≤ 1000) : FB f := ⟨by have := h.1; omega, fun l hl => by have := h.2 l hl; omega⟩
def c_awake : CCode := .seq (.ops [⟨some 0, .move (.lit (.bool false)), none, []⟩]) (.seq (.ops [⟨some 9, .bslice 1 [.lit (.str (bys [104, 101, 114, 101])), .lit (.str (bys [116, 104, 101, 114, 101]))] false, none, []⟩, ⟨some 10, .bslice 1 [.lit (.int .i64 0)] false, none, []⟩, ⟨some 11, .build [.int .i64 0, .bool false] [(0, 1, .lit (.int .i64 1))], none, []⟩, ⟨some 12, .bslice 2 [.tmp 11] false, none, []⟩, ⟨some 13, .build [.int .i64 0, .bool false] [(0, 1, .lit (.int .i64 0))], none, []⟩, ⟨some 14, .bslice 2 [.tmp 13] false, none, []⟩, ⟨some 15, .build [.int .i64 0, .bool false] [(0, 1, .lit (.int .i64 0)), (1, 1, .lit (.bool true))], none, []⟩, ⟨some 16, .build [.slice .nil [], .int .i64 0, .bool false] [(1, 2, .tmp 15)], none, []⟩, ⟨some 17, .build [.int .i64 0, .bool false] [(0, 1, .lit (.int .i64 1))], none, []⟩, ⟨some 18, .build [.slice .nil [], .int .i64 0, .bool false] [(1, 2, .tmp 17)], none, []⟩, ⟨some 19, .bslice 3 [.tmp 16, .tmp 18] false, none, []⟩, ⟨some 20, .build [.str (bys []), .int .i64 0, .slice .nil [], .slice .nil []] [(0, 1, .lit (.str (bys [103, 111]))), (1, 1, .lit (.int .i64 2)), (2, 1, .tmp 14), (3, 1, .tmp 19)], none, []⟩, ⟨some 21, .bslice 4 [.tmp 20] false, none, []⟩, ⟨some 22, .build [.slice .nil [], .slice .nil [], .slice .nil [], .slice .nil []] [(0, 1, .tmp 9), (1, 1, .tmp 10), (2, 1, .tmp 12), (3, 1, .tmp 21)], none, []⟩, ⟨some 1, .alloc (.agg [.slice .nil [], .slice .nil [], .slice .nil [], .slice .nil []]), none, []⟩, ⟨none, .store 4 (.tmp 1) (.tmp 22), none, []⟩]) (.seq (.ops [⟨some 24, .load (some 4) (.tmp 1), none, []⟩, ⟨some 25, .build [.int .i64 0, .bool false] [(0, 1, .lit (.int .i64 1))], none, []⟩, ⟨some 26, .bslice 2 [.tmp 25] false, none, []⟩, ⟨some 27, .bslice 1 [.tmp 26] false, none, []⟩, ⟨some 28, .call (.lit (.func 14 [])) [.tmp 24, .lit (.int .i64 0), .tmp 27], none, []⟩, ⟨some 23, .move (.tmp 28), none, []⟩, ⟨some 29, .extract (.tmp 23) 0, none, []⟩, ⟨some 30, .extract (.tmp 23) 1, none, []⟩, ⟨some 2, .move (.tmp 29), none, []⟩, ⟨some 3, .move (.tmp 30), none, []⟩]) (.seq (.ops [⟨some 32, .load (some 4) (.tmp 1), none, []⟩, ⟨some 33, .call (.lit (.func 15 [])) [.tmp 32, .lit (.int .i64 0), .lit (.slice .nil [])], none, []⟩, ⟨some 31, .move (.tmp 33), none, []⟩, ⟨some 34, .extract (.tmp 31) 0, none, []⟩, ⟨some 35, .extract (.tmp 31) 1, none, []⟩, ⟨some 4, .move (.tmp 34), none, []⟩, ⟨some 5, .move (.tmp 35), none, []⟩]) (.seq (.ops [⟨some 37, .load (some 4) (.tmp 1), none, []⟩, ⟨some 38, .bslice 1 [.lit (.slice .nil [])] false, none, []⟩, ⟨some 39, .build [.int .i64 0, .bool false] [(0, 1, .lit (.int .i64 0))], none, []⟩, ⟨some 40, .bslice 2 [.tmp 39] false, none, []⟩, ⟨some 41, .bslice 1 [.tmp 40] false, none, []⟩, ⟨some 42, .call (.lit (.func 9 [])) [.tmp 37, .tmp 38, .tmp 41], none, []⟩, ⟨some 36, .move (.tmp 42), none, []⟩, ⟨some 43, .extract (.tmp 36) 0, none, []⟩, ⟨some 44, .extract (.tmp 36) 1, none, []⟩, ⟨some 45, .extract (.tmp 36) 2, none, []⟩, ⟨some 6, .move (.tmp 43), none, []⟩, ⟨some 7, .move (.tmp 44), none, []⟩, ⟨some 8, .move (.tmp 45), none, []⟩]) (.seq (.ops [⟨some 46, .move (.tmp 3), none, []⟩, ⟨some 47, .bin .eql .none (.tmp 46) (.lit (.int .i64 0)), none, []⟩, ⟨some 48, .move (.tmp 47), none, []⟩, ⟨some 49, .move (.tmp 2), some (some 48, true), []⟩, ⟨some 50, .build [.int .i64 0, .bool false] [(0, 1, .lit (.int .i64 0))], some (some 48, true), []⟩, ⟨some 51, .bslice 2 [.tmp 50] false, some (some 48, true), []⟩, ⟨some 52, .bslice 1 [.tmp 51] false, some (some 48, true), []⟩, ⟨some 53, .call (.lit (.func 28 [])) [.tmp 49, .tmp 52], some (some 48, true), []⟩, ⟨some 54, .pick (.tmp 48) (.tmp 53) (.lit (.bool false)), none, []⟩, ⟨some 55, .move (.tmp 54), none, []⟩, ⟨some 56, .move (.tmp 5), some (some 55, true), []⟩, ⟨some 57, .bin .eql .none (.tmp 56) (.lit (.int .i64 0)), some (some 55, true), []⟩, ⟨some 58, .pick (.tmp 55) (.tmp 57) (.lit (.bool false)), none, []⟩, ⟨some 59, .move (.tmp 58), none, []⟩, ⟨some 60, .move (.tmp 4), some (some 59, true), []⟩, ⟨some 61, .build [.int .i64 0, .bool false] [(0, 1, .lit (.int .i64 0)), (1, 1, .lit (.bool true))], some (some 59, true), []⟩, ⟨some 62, .bslice 2 [.tmp 61] false, some (some 59, true), []⟩, ⟨some 63, .bslice 1 [.tmp 62] false, some (some 59, true), []⟩, ⟨some 64, .call (.lit (.func 28 [])) [.tmp 60, .tmp 63], some (some 59, true), []⟩, ⟨some 65, .pick (.tmp 59) (.tmp 64) (.lit (.bool false)), none, []⟩, ⟨some 66, .move (.tmp 65), none, []⟩, ⟨some 67, .move (.tmp 6), some (some 66, true), []⟩, ⟨some 68, .un .not (.tmp 67), some (some 66, true), []⟩, ⟨some 69, .pick (.tmp 66) (.tmp 68) (.lit (.bool false)), none, []⟩, ⟨some 70, .move (.tmp 69), none, []⟩, ⟨some 71, .move (.tmp 8), some (some 70, true), []⟩, ⟨some 72, .bin .eql .none (.tmp 71) (.lit (.int .i64 0)), some (some 70, true), []⟩, ⟨some 73, .pick (.tmp 70) (.tmp 72) (.lit (.bool false)), none, []⟩, ⟨some 74, .move (.tmp 73), none, []⟩, ⟨some 75, .move (.tmp 7), some (some 74, true), []⟩, ⟨some 76, .call (.lit (.func 31 [])) [.tmp 75, .lit (.int .i64 0)], some (some 74, true), []⟩, ⟨some 77, .un .not (.tmp 76), some (some 74, true), []⟩, ⟨some 78, .pick (.tmp 74) (.tmp 77) (.lit (.bool false)), none, []⟩, ⟨some 79, .move (.tmp 78), none, []⟩, ⟨some 80, .load (some 4) (.tmp 1), some (some 79, true), []⟩, ⟨some 81, .build [.int .i64 0, .bool false] [(0, 1, .lit (.int .i64 2))], some (some 79, true), []⟩, ⟨some 82, .bslice 2 [.tmp 81] false, some (some 79, true), []⟩, ⟨some 83, .bslice 1 [.tmp 82] false, some (some 79, true), []⟩, ⟨some 84, .call (.lit (.func 26 [])) [.tmp 80, .tmp 83], some (some 79, true), []⟩, ⟨some 85, .bin .eql .none (.tmp 84) (.lit (.int .i64 70)), some (some 79, true), []⟩, ⟨some 86, .pick (.tmp 79) (.tmp 85) (.lit (.bool false)), none, []⟩, ⟨some 0, .move (.tmp 86), none, []⟩]) .ret)))))
set_option maxRecDepth 20000 in
set_option maxHeartbeats 1000000 in
theorem awake_spec (σ : Store) : ACalls Try.prog 8 [] σ (isR (.bool true) σ) := by
  refine ACalls.intro (rs := [(.tmp 0)]) (by kernel_rfl) { own := [], ghosts := [] } Try.func8 (c := Try.f8.body.getD .skip) (by kernel_rfl) (by decide) (by rw [show Try.f8.ntmps = 87 by kernel_rfl]; exact Nat.le_of_ble_eq_true rfl) (by kernel_rfl) ?_
  intro hσ hids
  rw [show comp Try.prog { own := [], ghosts := [] } (Try.f8.body.getD .skip) = c_awake by kernel_rfl, show Try.f8.ntmps = 87 by kernel_rfl]
  unfold c_awake
  simp only [go_sem, Int.reduceToNat, Int.reduceLE, Int.reduceLT, Nat.reduceBEq, Nat.reduceLT, Nat.reduceAdd, Nat.reduceLeDiff]
  have e1 := Regress_spec t0 0 [[⟨1, false⟩]] .unk
  rw [t0_reg] at e1
  refine ACalls.is (ACalls.wk (e1 _ t0_TB (FB_small (by decide))) ?_) ?_
  · repeat (first | exact Wk.refl _ | exact WkL.nil | exact WkLL.nil | exact WkL.refl _ | refine Wk.agg ?_ | refine Wk.sl _ ?_ | refine WkL.cons ?_ ?_ | refine WkLL.cons ?_ ?_)
  simp only [go_sem, Int.reduceToNat, Int.reduceLE, Int.reduceLT, Nat.reduceBEq, Nat.reduceLT, Nat.reduceAdd, Nat.reduceLeDiff]
  have e2 := Weakest_spec t0 0 [] .nil
  rw [t0_weak] at e2
  refine ACalls.is (ACalls.wk (e2 _ t0_TB (FB_small (by decide))) ?_) ?_
  · repeat (first | exact Wk.refl _ | exact WkL.nil | exact WkLL.nil | exact WkL.refl _ | refine Wk.agg ?_ | refine Wk.sl _ ?_ | refine WkL.cons ?_ ?_ | refine WkLL.cons ?_ ?_)
  simp only [go_sem, Int.reduceToNat, Int.reduceLE, Int.reduceLT, Nat.reduceBEq, Nat.reduceLT, Nat.reduceAdd, Nat.reduceLeDiff]
  refine ACalls.mono (ACalls.wk (Implies_spec t0 [[]] [[⟨0, false⟩]] .unk .unk _ t0_TB (FB_small (by decide)) (FB_small (by decide)) (by decide)) ?_) ?_
  · repeat (first | exact Wk.refl _ | exact WkL.nil | exact WkLL.nil | exact WkL.refl _ | refine Wk.agg ?_ | refine Wk.sl _ ?_ | refine WkL.cons ?_ ?_ | refine WkLL.cons ?_ ?_)
  rintro _ _ ⟨rfl, ⟨h1, _⟩ | ⟨_, ⟨_, hno⟩ | ⟨s, hs1, hs2, rfl, hs3, hs4⟩⟩⟩
  · exact absurd t0_fine h1
  · obtain ⟨t, ht, e⟩ := hno [] (by simp) (fun _ => false) rfl
    simp at ht; subst ht
    exact absurd e (by decide)
  · have hc : s.contains 0 = false := by
      have := List.any_eq_false.1 hs4 [⟨0, false⟩] (by simp)
      simpa [condHolds] using this
    have hsl : s.length ≤ 2 := hs2
    simp only [go_sem, Int.reduceToNat, Int.reduceLE, Int.reduceLT, Nat.reduceBEq, Nat.reduceLT, Nat.reduceAdd, Nat.reduceLeDiff]
    refine ACalls.is (ACalls.wk (same07_spec [[⟨0, false⟩]] [[⟨0, false⟩]] .unk .unk _ (FB_small (by decide)) (FB_small (by decide))) ?_) ?_
    · repeat (first | exact Wk.refl _ | exact WkL.nil | exact WkLL.nil | exact WkL.refl _ | refine Wk.agg ?_ | refine Wk.sl _ ?_ | refine WkL.cons ?_ ?_ | refine WkLL.cons ?_ ?_)
    simp only [go_sem, Int.reduceToNat, Int.reduceLE, Int.reduceLT, Nat.reduceBEq, Nat.reduceLT, Nat.reduceAdd, Nat.reduceLeDiff]
    refine ACalls.is (ACalls.wk (same07_spec [[⟨0, true⟩]] [[⟨0, true⟩]] .unk .unk _ (FB_small (by decide)) (FB_small (by decide))) ?_) ?_
    · repeat (first | exact Wk.refl _ | exact WkL.nil | exact WkLL.nil | exact WkL.refl _ | refine Wk.agg ?_ | refine Wk.sl _ ?_ | refine WkL.cons ?_ ?_ | refine WkLL.cons ?_ ?_)
    simp only [go_sem, Int.reduceToNat, Int.reduceLE, Int.reduceLT, Nat.reduceBEq, Nat.reduceLT, Nat.reduceAdd, Nat.reduceLeDiff]
    refine (has_spec s 0 .unk _ (by omega)).is ?_
    rw [hc]
    simp only [go_sem, Int.reduceToNat, Int.reduceLE, Int.reduceLT, Nat.reduceBEq, Nat.reduceLT, Nat.reduceAdd, Nat.reduceLeDiff]
    have e3 := check07_spec t0 [[⟨2, false⟩]] .unk
    rw [t0_check] at e3
    refine ACalls.is (ACalls.wk (e3 _ t0_TB (by decide) (by decide)) ?_) ?_
    · repeat (first | exact Wk.refl _ | exact WkL.nil | exact WkLL.nil | exact WkL.refl _ | refine Wk.agg ?_ | refine Wk.sl _ ?_ | refine WkL.cons ?_ ?_ | refine WkLL.cons ?_ ?_)
    simp only [go_sem, Int.reduceToNat, Int.reduceLE, Int.reduceLT, Nat.reduceBEq, Nat.reduceLT, Nat.reduceAdd, Nat.reduceLeDiff]
    first | exact rtk (.bool true) ⟨rfl, rfl⟩ | exact rtk0 (.bool true) ⟨rfl, rfl⟩
end Go.Proofs.Ytbnhijapbnfohaa
namespace Go.Proofs.Ytbnhijapbnfohaa
open Go.Ahl
def ab (b : Bool) : AV := .bool b
end Go.Proofs.Ytbnhijapbnfohaa
namespace Go.Proofs.Ytbnhijapbnfohaa
open Go.Ahl
/-! ### What the operations mean -/
/-! ### Reduced form -/
theorem reducedL_idem {n : Int} {f : List (List FLit)} (hf : vF n f) : reducedL (reducedL f) = reducedL f :=
  strict_unique (reducedL_strict _) (reducedL_strict _) fun x => by
    rw [reducedL_minimal (reducedL_V hf)]
    constructor
    · exact fun h => h.1
    · intro h
      exact ⟨h, fun m hm hw => ((reducedL_minimal hf x).1 h).2 m (reducedL_mem hm) hw⟩
/-- A formula of n facts in reduced form. -/
def RedF (n : Int) (h : List (List FLit)) : Prop := ∃ k, vF n k ∧ h = reducedL k
theorem RedF.V {n : Int} {h : List (List FLit)} (r : RedF n h) : vF n h := by obtain ⟨k, hk, rfl⟩ := r; exact reducedL_V hk
theorem RedF.good {n : Int} {h : List (List FLit)} (r : RedF n h) (hl : h.length ≤ 400) : goodB n h = true := by
  have hv := r.V
  obtain ⟨k, hk, rfl⟩ := r
  rw [goodB, isForm, refRed_eq hv, reducedL_idem hk]
  have : formB n (reducedL k) = true := List.all_eq_true.2 fun l hl => hv l hl
  rw [this]; simp [hl]
end Go.Proofs.Ytbnhijapbnfohaa
namespace Go.Proofs.Ytbnhijapbnfohaa
open Go.Ahl
/-! ### Of four facts there are 81 conditions -/
/-! ### The state after an action -/
end Go.Proofs.Ytbnhijapbnfohaa
namespace Go.Proofs.Ytbnhijapbnfohaa
open Go.Ahl
theorem fewB_size {t : FTask} {fs : List (List (List FLit))} (h : fewB t fs = true) : taskSize t ≤ 400 ∧ (fs.map formSize).sum ≤ 2400 := by
  rw [fewB, fewT, Bool.and_eq_true, Bool.and_eq_true, decide_eq_true_eq, decide_eq_true_eq] at h
  exact ⟨h.1.1, h.2⟩
/-! ### What a call that makes a formula comes back with -/
def outF (o : Option (List (List FLit))) : List (List FLit) := o.getD []
theorem vF_size {n : Int} (hn : n ≤ 1000000) {h : List (List FLit)} (hv : vF n h) (hl : h.length ≤ 400) : FB h ∧ FB (refRed h) ∧ h.length ≤ 1073741824 ∧ ∀ l ∈ h, l.length ≤ 1073741824 := by
  have h1 : ∀ l, cV n l → l.length ≤ 1000000 := fun l hl => by rcases condB_len hl with h | h; simp [h]; omega
  refine ⟨⟨by omega, fun l hl => by have := h1 l (hv l hl); omega⟩, ?_, by omega, fun l hl => by have := h1 l (hv l hl); omega⟩
  rw [refRed_eq hv]
  exact ⟨by have := reducedL_len h; omega, fun l hl => by have := h1 l (reducedL_V hv l hl); omega⟩
/-- A formula that was returned is as it should be, or there is none and that is permitted. -/
structure OutOk (n : Int) (o : Option (List (List FLit))) (large : Bool) : Prop where
  red : ∀ h, o = some h → RedF n h ∧ h.length ≤ 400
  none_ : o = none → large = true
theorem OutOk.size {n : Int} {o : Option (List (List FLit))} {large : Bool} (h : OutOk n o large) (hn : n ≤ 1000000) : FB (outF o) ∧ FB (refRed (outF o)) ∧ (outF o).length ≤ 1073741824 ∧ ∀ l ∈ outF o, l.length ≤ 1073741824 := by
  cases o with
  | none => exact vF_size hn (h := []) (by intro l hl; simp at hl) (by simp)
  | some k => exact vF_size hn (h.red k rfl).1.V (h.red k rfl).2
end Go.Proofs.Ytbnhijapbnfohaa
namespace Go.Proofs.Ytbnhijapbnfohaa
open Go.Ahl
def d_sameInts_0 : List COp := [⟨some 16, .move (.tmp 0), none, []⟩, ⟨some 17, .move (.tmp 5), none, []⟩, ⟨some 18, .iaddr 1 (.tmp 16) (.tmp 17), none, [0, 1]⟩, ⟨some 19, .load none (.tmp 18), none, [2]⟩, ⟨some 20, .move (.tmp 1), none, []⟩, ⟨some 21, .move (.tmp 5), none, []⟩, ⟨some 22, .iaddr 1 (.tmp 20) (.tmp 21), none, [4, 5]⟩, ⟨some 23, .load none (.tmp 22), none, [6]⟩, ⟨some 24, .bin .neq .none (.tmp 19) (.tmp 23), none, [3, 7]⟩]
theorem dr_sameInts_0 (P : Program) (nt n0 : Nat) (Q : Post) (s : Slots) (σ : Store) : wpc P nt n0 (.draw d_sameInts_0) Q s σ = aOpsD P nt [⟨some 16, .move (.tmp 0), none, []⟩, ⟨some 17, .move (.tmp 5), none, []⟩, ⟨some 18, .iaddr 1 (.tmp 16) (.tmp 17), none, [0, 1]⟩, ⟨some 19, .load none (.tmp 18), none, [2]⟩, ⟨some 20, .move (.tmp 1), none, []⟩, ⟨some 21, .move (.tmp 5), none, []⟩, ⟨some 22, .iaddr 1 (.tmp 20) (.tmp 21), none, [4, 5]⟩, ⟨some 23, .load none (.tmp 22), none, [6]⟩, ⟨some 24, .bin .neq .none (.tmp 19) (.tmp 23), none, [3, 7]⟩] (Q .normal) s σ := wpc_draw _ (by decide)
def c_sameInts : CCode := .seq (.ops [⟨some 4, .move (.lit (.bool false)), none, []⟩]) (.seq (.seq (.ops [⟨some 6, .move (.tmp 0), none, []⟩, ⟨some 7, .blen 1 (.tmp 6), none, []⟩, ⟨some 8, .move (.tmp 1), none, []⟩, ⟨some 9, .blen 1 (.tmp 8), none, []⟩, ⟨some 10, .bin .neq .none (.tmp 7) (.tmp 9), none, []⟩]) (.cond (.tmp 10) (.seq (.ops [⟨some 4, .move (.lit (.bool false)), none, []⟩]) .ret) .skip)) (.seq (.seq (.ops [⟨some 11, .move (.tmp 0), none, []⟩, ⟨some 12, .blen 1 (.tmp 11), none, []⟩, ⟨some 13, .move (.lit (.int .i64 0)), none, []⟩]) (.block 0 (.loop (.seq (.ops [⟨some 14, .bin .lss .none (.tmp 13) (.tmp 12), none, []⟩]) (.seq (.cond (.tmp 14) .skip (.exit 0)) (.seq (.block 1 (.seq (.ops [⟨some 15, .move (.tmp 13), none, []⟩, ⟨some 5, .move (.tmp 15), none, []⟩]) (.seq (.draw d_sameInts_0) (.cond (.tmp 24) (.seq (.ops [⟨some 4, .move (.lit (.bool false)), none, []⟩]) .ret) .skip)))) (.ops [⟨some 25, .bin .add .none (.tmp 13) (.lit (.int .i64 1)), none, []⟩, ⟨some 13, .move (.tmp 25), none, []⟩]))))))) (.seq (.ops [⟨some 4, .move (.lit (.bool true)), none, []⟩]) .ret)))
set_option maxRecDepth 20000 in
theorem sameInts_spec (l m : List Int) (tok tok' : Tok) (σ : Store) (hl : l.length ≤ 140737488355328) (hm : m.length ≤ 140737488355328) :
    ACalls Try.prog 53 [.slice tok (l.map Ahl.encI), .slice tok' (m.map Ahl.encI)] σ (isR (.bool (decide (l = m))) σ) := by
  refine ACalls.intro (rs := [(.tmp 4)]) (by kernel_rfl) { own := [], ghosts := [] } Try.func53 (c := Try.f53.body.getD .skip) (by kernel_rfl) (by decide) (by rw [show Try.f53.ntmps = 26 by kernel_rfl]; exact Nat.le_of_ble_eq_true rfl) (by kernel_rfl) ?_
  intro hσ hids
  rw [show comp Try.prog { own := [], ghosts := [] } (Try.f53.body.getD .skip) = c_sameInts by kernel_rfl, show Try.f53.ntmps = 26 by kernel_rfl]
  unfold c_sameInts
  have hil : Ids σ.length (.slice tok (l.map Ahl.encI)) := hids _ (by simp)
  have him : Ids σ.length (.slice tok' (m.map Ahl.encI)) := hids _ (by simp)
  by_cases hlen : l.length = m.length
  · have h' : ((l.length : Int) != m.length) = false := by rw [hlen]; exact bne_self_eq_false _
    simp only [go_sem, Int.reduceToNat, Int.reduceLE, Int.reduceLT, Nat.reduceBEq, Nat.reduceLT, Nat.reduceAdd, Nat.reduceLeDiff, dr_sameInts_0, h']
    refine wpc_while (fun (i : Nat) => [(0, .slice tok (l.map Ahl.encI)), (1, .slice tok' (m.map Ahl.encI)), (12, .int .i64 l.length), (13, .int .i64 (i : Nat))]) (fun _ => σ) (fun i => i ≤ l.length ∧ decide (l = m) = decide (l.drop i = m.drop i)) (fun i => l.length - i) 0 ⟨Nat.zero_le _, rfl⟩ (by (try dsimp only); first | exact ghk | exact ghk0) ?_
    rintro i ⟨hi, hv⟩ K hK hE hR
    by_cases h : i < l.length
    · obtain ⟨x, hx⟩ := get_ex h; have hlt : ((i : Int) < (l.length : Int)) := (by omega); have hw : IntKind.i64.wrap ((i : Int) + 1) = ((i + 1 : Nat) : Int) := (by rw [wrap_ok (by omega)]; omega)
      obtain ⟨y, hy⟩ : ∃ y, m[i]? = some y := get_ex (by omega)
      rw [drop_cons hx, drop_cons hy, dec_cons] at hv
      by_cases h1 : x = y
      · have hf : (x != y) = false := by simpa using h1
        simp only [go_sem, Int.reduceToNat, Int.reduceLE, Int.reduceLT, Nat.reduceBEq, Nat.reduceLT, Nat.reduceAdd, Nat.reduceLeDiff, dr_sameInts_0, hlt, hx, hy, Ahl.encI, hf]
        rw [decide_eq_true h1, Bool.true_and] at hv
        refine hK _ _ (i + 1) (⟨by omega, hv⟩) (by first | omega | (simp only []; omega) | (simp; omega)) ?_; (try dsimp only); (try simp only [ hw]); first | exact ghk | exact ghk0
      · have hf : (x != y) = true := by simpa using h1
        simp only [go_sem, Int.reduceToNat, Int.reduceLE, Int.reduceLT, Nat.reduceBEq, Nat.reduceLT, Nat.reduceAdd, Nat.reduceLeDiff, dr_sameInts_0, hlt, hx, hy, Ahl.encI, hf, hR]
        rw [decide_eq_false h1, Bool.false_and] at hv
        first | exact rtk (.bool false) ⟨by rw [hv], rfl⟩ | exact rtk0 (.bool false) ⟨by rw [hv], rfl⟩
    · have hlt : ¬ ((i : Int) < (l.length : Int)) := by omega
      rw [drop_len h, drop_len (by omega : ¬ i < m.length)] at hv
      simp only [go_sem, Int.reduceToNat, Int.reduceLE, Int.reduceLT, Nat.reduceBEq, Nat.reduceLT, Nat.reduceAdd, Nat.reduceLeDiff, dr_sameInts_0, hlt, hE]
      first | exact rtk (.bool true) ⟨by rw [hv]; rfl, rfl⟩ | exact rtk0 (.bool true) ⟨by rw [hv]; rfl, rfl⟩
  · have h' : ((l.length : Int) != m.length) = true := by simp; omega
    simp only [go_sem, Int.reduceToNat, Int.reduceLE, Int.reduceLT, Nat.reduceBEq, Nat.reduceLT, Nat.reduceAdd, Nat.reduceLeDiff, dr_sameInts_0, h']
    first | exact rtk (.bool false) ⟨by rw [decide_eq_false (fun e => hlen (by rw [e]))], rfl⟩ | exact rtk0 (.bool false) ⟨by rw [decide_eq_false (fun e => hlen (by rw [e]))], rfl⟩
end Go.Proofs.Ytbnhijapbnfohaa
/- The abstract layer, part 26: the library's sorting of integers, told of rows of one's own. -/
namespace Go.Ahl
open Go.Sort Go.Shelf Go.RowKit Go.Lib Go.Proofs
variable {P : Program} {ρ : Ren}
end Go.Ahl
namespace Go.Ahl
/-- A row of one's own goes behind all else. -/
theorem Ghost.reown {n0 nt : Nat} {s : Slots} {σ : Store} (t : Nat) {id sz off len : Nat} {cells : List AV} (ht : lk s t = .ref id sz off len) (hs : σ[id]? = some (.row cells)) :
    Ghost n0 nt s σ ((t, .ref σ.length sz off len) :: s) (σ.set id .dead ++ [.row cells]) := by
  intro m loc w tm hl hS hr
  have hid : id < loc.length := by rw [hS.len]; exact lt_of_get hs
  have hrel := hr.rel t
  rw [ht] at hrel
  have hloc : loc[id]? = some loc[id] := List.getElem?_eq_getElem hid
  have hobj := hS.obj id _ _ hloc hs
  have hlen : (σ.set id .dead).length = loc.length := by simp [hS.len]
  have fin : ∀ l, SRel m (loc ++ [l]) (σ.set id .dead ++ [.row cells]) w → Ext n0 m loc w m (loc ++ [l]) w → Rel m (loc ++ [l]) (.ref σ.length sz off len) (tm.getD t undef) →
      ∃ m' loc', SRel m' loc' (σ.set id .dead ++ [.row cells]) w ∧ SlotRel m' loc' nt ((t, .ref σ.length sz off len) :: s) tm ∧ Ext n0 m loc w m' loc' w := by
    intro l g1 g2 g3
    refine ⟨m, _, g1, ⟨hr.size, fun i => ?_⟩, g2⟩
    simp only [Ahl.lk]
    by_cases e : t = i
    · subst e; simp only [beq_self_eq_true, cond_true]; exact g3
    · have : (t == i) = false := by simpa using e
      rw [this, cond_false]; exact (hr.rel i).mono (.refl m) (.app _ _ _)
  generalize hv : tm.getD t undef = v at hrel fin
  generalize loc[id] = l at hloc hobj
  cases l with
  | blk b =>
    obtain ⟨g1, g2⟩ := hS.reown n0 hloc hs
    refine fin _ g1 g2 ?_
    cases hrel with
    | ref _ _ _ _ cap b' n h1 h2 h3 h4 =>
      rw [hloc] at h1; injection h1 with h1; injection h1 with h1; subst h1
      exact .ref _ _ _ _ cap b n (by rw [← hS.len]; simp) h2 h3 h4
    | ref0 _ _ _ a _ => exact .ref0 _ _ _ a (by rw [← hS.len]; simp)
  | nowhere =>
    have hc : cells = [] := hobj
    subst hc
    obtain ⟨g1, g2⟩ := (hS.die id).row0 n0
    refine fin _ g1 g2 ?_
    cases hrel with
    | ref _ _ _ _ cap b' n h1 h2 h3 h4 => rw [hloc] at h1; simp at h1
    | ref0 _ _ _ a _ => exact .ref0 _ _ _ a (by rw [← hS.len]; simp)
  | tok _ _ => exact hobj.elim
end Go.Ahl
/- The abstract layer, part 27: words for rounds whose store begins with a part that is named. -/
namespace Go.Ahl
section
variable {n0 nt t : Nat} {s s' : Slots} {S σ g : Store} {R : Cont}
end
end Go.Ahl
/- The abstract layer, part 29: a row told as a shorter one; an answer told in another way. -/
namespace Go.Ahl
theorem own_row (l : Loc) (a b : List AV) : own l (.row a) = own l (.row b) := by cases l <;> rfl
theorem ACalls.to {P : Program} {f : FuncId} {args : List AV} {σ τ : Store} {v : AV} {K : Cont} (h : ACalls P f args σ (isR v τ)) (k : K v τ) : ACalls P f args σ K :=
  h.mono fun r σ' hr => by obtain ⟨rfl, rfl⟩ := hr; exact k
/-- An answer, told in another way. -/
theorem ACalls.ghost {P : Program} {f : FuncId} {args : List AV} {σ τ τ' : Store} {a b : AV} (h : ACalls P f args σ (isR a τ)) (hg : IdsS σ.length σ → Ghost σ.length 1 [(0, a)] τ [(0, b)] τ') : ACalls P f args σ (isR b τ') := by
  intro m loc w vs hs ha
  have key : ∀ v w', ARet loc m w (isR a τ) v w' → ARet loc m w (isR b τ') v w' := by
    rintro v w' ⟨r, σ', m', loc', ⟨rfl, rfl⟩, h2, h3, h4⟩
    have hn : σ.length ≤ loc'.length := by
      have := h4.len (Nat.le_refl _)
      rw [← hs.len]; exact this
    obtain ⟨m2, loc2, g1, g2, g3⟩ := hg hs.ids m' loc' w' #[v] hn h3 ⟨rfl, fun i => by
      cases i with
      | zero => exact h2
      | succ i => exact .any _⟩
    refine ⟨b, τ', m2, loc2, ⟨rfl, rfl⟩, g2.rel 0, g1, ?_⟩
    rw [← hs.len] at g3
    exact h4.trans g3
  rcases h m loc w vs hs ha with ⟨fn, h1, h2, h3, h4⟩ | ⟨v, w', h1, h2⟩
  · exact .inl ⟨fn, h1, h2, h3, h4.mono fun e w' ⟨v, e1, e2⟩ => ⟨v, e1, key _ _ e2⟩⟩
  · exact .inr ⟨v, w', h1, key _ _ h2⟩
end Go.Ahl
/- The abstract layer, part 30: a row becomes a slice that never changes, with the right to append to it. -/
namespace Go.Ahl
/-- A right to append to what never changes. -/
theorem SRel.right {m : Mem} {loc : List Loc} {σ : Store} {w : World} (h : SRel m loc σ w) (n0 sz len : Nat) {b i0 : Nat} {arr : Array Value} {ty : TypeId} (hl : loc[i0]? = some (.blk b)) (h1 : w.heap[b]? = some (.cells arr ty (0, 0))) (h2 : m.bs b = some arr.size)
    (h3 : ∀ o, sz * len ≤ o → m.im b o = none) (hno : ∀ (i : Nat) l o, loc[i]? = some l → σ[i]? = some o → own l o ≠ some b) :
    SRel m (loc ++ [.tok sz fun k => if k = len then some (some b) else none]) (σ ++ [.grow sz len]) w ∧ Ext n0 m loc w m (loc ++ [.tok sz fun k => if k = len then some (some b) else none]) w := by
  have hfl : (fun k => if k = len then some (some b) else none : Nat → Option (Option Nat)) len = some (some b) := by simp
  have hown : ∀ b', own (.tok sz fun k => if k = len then some (some b) else none) (.grow sz len) = some b' → b' = b := by
    intro b' e; simp [own] at e; exact e.symm
  have hnam : ∀ b', Names (loc ++ [.tok sz fun k => if k = len then some (some b) else none]) b' → Names loc b' := by
    intro b' e
    rcases e.app with e | e | ⟨sz', f, k, e, hk⟩
    · exact e
    · simp at e
    · injection e with e1 e2
      subst e2
      simp only at hk
      split at hk
      · simp at hk; subst hk; exact ⟨i0, .inl hl⟩
      · simp at hk
  refine ⟨⟨by simp [h.len], h.im, h.bs, ?_, ?_, fun b' e => h.lt b' (hnam b' e), h.mp, ?_, h.ok.names hnam⟩, ⟨rfl, rfl, rfl, Nat.le_refl _, Nat.le_refl _, .refl m, .app _ _ _, fun b' e => .inl (hnam b' e), fun _ _ _ _ => rfl, fun _ _ _ e => .inl e⟩⟩
  · intro i l o e1 e2
    rcases get_app e1 with e1 | ⟨hi, e1⟩
    · rcases get_app e2 with e2 | ⟨hi2, e2⟩
      · exact (h.obj i l o e1 e2).mono (.refl m) (.app _ _ _) (fun _ _ => rfl) (fun _ _ _ => rfl)
      · have := lt_of_get e1; have := h.len; omega
    · rcases get_app e2 with e2 | ⟨hi2, e2⟩
      · have := lt_of_get e2; have := h.len; omega
      · subst e1; subst e2
        exact ⟨rfl, fun k hk => by show (if k = len then some (some b) else none) = none; rw [if_neg (by omega)], .inr ⟨b, arr, ty, hfl, h1, h2, h3⟩⟩
  · intro i j l1 l2 o1 o2 b' e1 e2 e3 e4 w1 w2
    rcases get_app e1 with f1 | ⟨hi, f1⟩ <;> rcases get_app e2 with f2 | ⟨hj, f2⟩
    · rcases get_app e3 with f3 | ⟨hi3, f3⟩
      · rcases get_app e4 with f4 | ⟨hi4, f4⟩
        · exact h.inj i j l1 l2 o1 o2 b' f1 f2 f3 f4 w1 w2
        · have := lt_of_get f2; have := h.len; omega
      · have := lt_of_get f1; have := h.len; omega
    · rcases get_app e3 with f3 | ⟨hi3, f3⟩
      · rcases get_app e4 with f4 | ⟨hi4, f4⟩
        · have := lt_of_get f4; have := h.len; omega
        · subst f2; subst f4
          have := hown _ w2; subst this
          exact absurd w1 (hno i l1 o1 f1 f3)
      · have := lt_of_get f1; have := h.len; omega
    · rcases get_app e4 with f4 | ⟨hi4, f4⟩
      · rcases get_app e3 with f3 | ⟨hi3, f3⟩
        · have := lt_of_get f3; have := h.len; omega
        · subst f1; subst f3
          have := hown _ w1; subst this
          exact absurd w2 (hno j l2 o2 f2 f4)
      · have := lt_of_get f2; have := h.len; omega
    · omega
  · intro i l o b' e1 e2 w1
    rcases get_app e1 with e1 | ⟨hi, e1⟩
    · rcases get_app e2 with e2 | ⟨hi2, e2⟩
      · exact h.mpo i l o b' e1 e2 w1
      · have := lt_of_get e1; have := h.len; omega
    · rcases get_app e2 with e2 | ⟨hi2, e2⟩
      · have := lt_of_get e2; have := h.len; omega
      · subst e1; subst e2
        have := hown _ w1; subst this
        cases hq : m.mp b' with
        | none => rfl
        | some e => have := h.mp b' e hq; rw [h1] at this; simp at this
end Go.Ahl
/- The abstract layer, part 28: the bits of a number. -/
namespace Go.Ahl
end Go.Ahl
namespace Go.Ahl
end Go.Ahl
namespace Go.Ahl
end Go.Ahl
namespace Go.Ahl
/-- The end of a function whose result is an aggregate in cells. -/
theorem ret_cN {nt t id n : Nat} {s : Slots} {σ S : Store} {R : Cont} {cells : List AV} (h1 : lk s t = .ptr id 0) (h2 : S[id]? = some (.row cells)) (hn : cells.length = n) (ht : S.take σ.length = σ) (hσ : IdsS σ.length σ)
    (iv : Ids σ.length (.agg cells)) (h : R (.agg cells) σ) : bodyK [.cell (some n) t] σ.length nt R .ret s S := by
  refine ⟨s, S, Ghost.refl _ _ _ _, ?_⟩
  simp only [aRes, h1]
  rw [e_loadN_ptr, h2, rowK_some]
  refine ⟨by omega, ?_⟩
  rw [List.drop_zero, ← hn, List.take_length]
  refine ⟨σ.length, Nat.le_refl _, ?_⟩
  rw [ht]
  exact ⟨hσ, iv, h⟩
end Go.Ahl
/- The abstract layer, part 31: rows that grow in their place, in cells. -/
namespace Go.Ahl
section
variable {m : Mem} {loc : List Loc} {σ : Store} {w : World}
/-- One more place for what is there already. -/
theorem SRel.place (h : SRel m loc σ w) (n0 : Nat) (l : Loc) (o : AObj) (hnm : ∀ b, (l = .blk b ∨ ∃ sz g k, l = .tok sz g ∧ g k = some (some b)) → Names loc b)
    (ho : ObjRel m (loc ++ [l]) w l o) (hno : ∀ b, own l o = some b → (∀ (i : Nat) l' o', loc[i]? = some l' → σ[i]? = some o' → own l' o' ≠ some b) ∧ m.mp b = none) :
    SRel m (loc ++ [l]) (σ ++ [o]) w ∧ Ext n0 m loc w m (loc ++ [l]) w := by
  have hnam : ∀ b, Names (loc ++ [l]) b → Names loc b := by
    intro b e
    rcases e.app with e | e | e
    · exact e
    · exact hnm b (.inl e)
    · exact hnm b (.inr e)
  refine ⟨⟨by simp [h.len], h.im, h.bs, ?_, ?_, fun b' e => h.lt b' (hnam b' e), h.mp, ?_, h.ok.names hnam⟩, ⟨rfl, rfl, rfl, Nat.le_refl _, Nat.le_refl _, .refl m, .app _ _ _, fun b' e => .inl (hnam b' e), fun _ _ _ _ => rfl, fun _ _ _ e => .inl e⟩⟩
  · intro i l' o' e1 e2
    rcases get_app e1 with f1 | ⟨hi, f1⟩
    · rcases get_app e2 with f2 | ⟨hi2, f2⟩
      · exact (h.obj i l' o' f1 f2).mono (.refl m) (.app _ _ _) (fun _ _ => rfl) (fun _ _ _ => rfl)
      · have := lt_of_get f1; have := h.len; omega
    · rcases get_app e2 with f2 | ⟨hi2, f2⟩
      · have := lt_of_get f2; have := h.len; omega
      · subst f1; subst f2; exact ho
  · intro i j l1 l2 o1 o2 b e1 e2 e3 e4 w1 w2
    have hl := h.len
    rcases get_app e1 with f1 | ⟨hi, f1⟩ <;> rcases get_app e2 with f2 | ⟨hj, f2⟩ <;> rcases get_app e3 with f3 | ⟨hi3, f3⟩ <;> rcases get_app e4 with f4 | ⟨hi4, f4⟩
    · exact h.inj i j l1 l2 o1 o2 b f1 f2 f3 f4 w1 w2
    · have := lt_of_get f2; omega
    · have := lt_of_get f1; omega
    · have := lt_of_get f1; omega
    · have := lt_of_get f4; omega
    · subst f2; subst f4; exact absurd w1 ((hno b w2).1 i l1 o1 f1 f3)
    · have := lt_of_get f1; omega
    · have := lt_of_get f1; omega
    · have := lt_of_get f3; omega
    · have := lt_of_get f2; omega
    · subst f1; subst f3; exact absurd w2 ((hno b w1).1 j l2 o2 f2 f4)
    · have := lt_of_get f2; omega
    · omega
    · omega
    · omega
    · omega
  · intro i l' o' b e1 e2 w1
    rcases get_app e1 with f1 | ⟨hi, f1⟩
    · rcases get_app e2 with f2 | ⟨hi2, f2⟩
      · exact h.mpo i l' o' b f1 f2 w1
      · have := lt_of_get f1; have := h.len; omega
    · rcases get_app e2 with f2 | ⟨hi2, f2⟩
      · have := lt_of_get f2; have := h.len; omega
      · subst f1; subst f2; exact (hno b w1).2
end
end Go.Ahl
