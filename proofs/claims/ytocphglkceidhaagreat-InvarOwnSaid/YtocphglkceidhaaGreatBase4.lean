/- Contracts of the given program's functions, and an abstract layer over the model; no condition. -/
import Derived.Shelf.SortG.Plain
import Derived.Shelf.SortG.SortNone
import Derived.Ground.SlgnProg
import Derived.Test.YtocphglkceidhaaGreatBase3
set_option linter.unusedVariables false
set_option linter.unusedSimpArgs false
namespace Go.Proofs.YtocphglkceidhaaGreat
open Go.Ahl
def whenSize (es : List FEff) : Nat := (es.map fun e => e.when_.length).sum
def actSize (a : FAct) : Nat := a.pre.length + a.effects.length + whenSize a.effects
def taskSize (t : FTask) : Nat := t.facts.length + t.init.length + t.goal.length + t.actions.length + (t.actions.map actSize).sum
/-- At most n parts, and names of at most n bytes. -/
def fewT (n : Nat) (t : FTask) : Bool := decide (taskSize t ≤ n) && (t.facts.all (fun s => decide (s.data.toList.length ≤ n)) && t.actions.all (fun a => decide (a.name.data.toList.length ≤ n)))
theorem actSum_cons (a : FAct) (l : List FAct) : ((a :: l).map actSize).sum = actSize a + (l.map actSize).sum := by simp
theorem whenSize_cons (e : FEff) (l : List FEff) : whenSize (e :: l) = e.when_.length + whenSize l := by simp [whenSize]
theorem fewT_big {n : Nat} {t : FTask} (h : n < taskSize t) : fewT n t = false := by unfold fewT; rw [decide_eq_false (by omega)]; rfl
def c_few01 : CCode := .seq (.ops [⟨some 2, .box (.tmp 0), none, []⟩, ⟨some 4, .move (.lit (.bool false)), none, []⟩]) (.seq (.ops [⟨some 12, .faddr 0 (.tmp 2), none, []⟩, ⟨some 13, .load none (.tmp 12), none, []⟩, ⟨some 14, .blen 1 (.tmp 13), none, []⟩, ⟨some 15, .faddr 1 (.tmp 2), none, []⟩, ⟨some 16, .load none (.tmp 15), none, []⟩, ⟨some 17, .blen 1 (.tmp 16), none, []⟩, ⟨some 18, .bin .add .none (.tmp 14) (.tmp 17), none, []⟩, ⟨some 19, .faddr 2 (.tmp 2), none, []⟩, ⟨some 20, .load none (.tmp 19), none, []⟩, ⟨some 21, .blen 1 (.tmp 20), none, []⟩, ⟨some 22, .bin .add .none (.tmp 18) (.tmp 21), none, []⟩, ⟨some 23, .faddr 3 (.tmp 2), none, []⟩, ⟨some 24, .load none (.tmp 23), none, []⟩, ⟨some 25, .blen 1 (.tmp 24), none, []⟩, ⟨some 26, .bin .add .none (.tmp 22) (.tmp 25), none, []⟩, ⟨some 5, .move (.tmp 26), none, []⟩]) (.seq (.seq (.ops [⟨some 27, .move (.tmp 5), none, []⟩, ⟨some 28, .move (.tmp 1), none, []⟩, ⟨some 29, .bin .gtr .none (.tmp 27) (.tmp 28), none, []⟩]) (.cond (.tmp 29) (.seq (.ops [⟨some 4, .move (.lit (.bool false)), none, []⟩]) .ret) .skip)) (.seq (.seq (.ops [⟨some 30, .faddr 0 (.tmp 2), none, []⟩, ⟨some 31, .load none (.tmp 30), none, []⟩, ⟨some 32, .blen 1 (.tmp 31), none, []⟩, ⟨some 33, .move (.lit (.int .i64 0)), none, []⟩]) (.block 0 (.loop (.seq (.ops [⟨some 34, .bin .lss .none (.tmp 33) (.tmp 32), none, []⟩]) (.seq (.cond (.tmp 34) .skip (.exit 0)) (.seq (.block 1 (.seq (.ops [⟨some 35, .iaddr 1 (.tmp 31) (.tmp 33), none, []⟩, ⟨some 36, .load none (.tmp 35), none, []⟩, ⟨some 7, .move (.tmp 36), none, []⟩]) (.seq (.ops [⟨some 37, .move (.tmp 7), none, []⟩, ⟨some 38, .blen 0 (.tmp 37), none, []⟩, ⟨some 39, .move (.tmp 1), none, []⟩, ⟨some 40, .bin .gtr .none (.tmp 38) (.tmp 39), none, []⟩]) (.cond (.tmp 40) (.seq (.ops [⟨some 4, .move (.lit (.bool false)), none, []⟩]) .ret) .skip)))) (.ops [⟨some 41, .bin .add .none (.tmp 33) (.lit (.int .i64 1)), none, []⟩, ⟨some 33, .move (.tmp 41), none, []⟩]))))))) (.seq (.seq (.ops [⟨some 42, .faddr 3 (.tmp 2), none, []⟩, ⟨some 43, .load none (.tmp 42), none, []⟩, ⟨some 44, .blen 1 (.tmp 43), none, []⟩, ⟨some 45, .move (.lit (.int .i64 0)), none, []⟩]) (.block 2 (.loop (.seq (.ops [⟨some 46, .bin .lss .none (.tmp 45) (.tmp 44), none, []⟩]) (.seq (.cond (.tmp 46) .skip (.exit 2)) (.seq (.block 3 (.seq (.ops [⟨some 47, .iaddr 4 (.tmp 43) (.tmp 45), none, []⟩, ⟨some 48, .load (some 4) (.tmp 47), none, []⟩, ⟨some 9, .alloc (.agg [.str (bys []), .int .i64 0, .slice .nil [], .slice .nil []]), none, []⟩, ⟨none, .store 4 (.tmp 9) (.tmp 48), none, []⟩]) (.seq (.ops [⟨some 49, .move (.tmp 5), none, []⟩, ⟨some 50, .faddr 2 (.tmp 9), none, []⟩, ⟨some 51, .load none (.tmp 50), none, []⟩, ⟨some 52, .blen 1 (.tmp 51), none, []⟩, ⟨some 53, .faddr 3 (.tmp 9), none, []⟩, ⟨some 54, .load none (.tmp 53), none, []⟩, ⟨some 55, .blen 1 (.tmp 54), none, []⟩, ⟨some 56, .bin .add .none (.tmp 52) (.tmp 55), none, []⟩, ⟨some 57, .bin .add .none (.tmp 49) (.tmp 56), none, []⟩, ⟨some 5, .move (.tmp 57), none, []⟩]) (.seq (.seq (.ops [⟨some 58, .move (.tmp 5), none, []⟩, ⟨some 59, .move (.tmp 1), none, []⟩, ⟨some 60, .bin .gtr .none (.tmp 58) (.tmp 59), none, []⟩, ⟨some 61, .move (.tmp 60), none, []⟩, ⟨some 62, .faddr 0 (.tmp 9), some (some 61, false), []⟩, ⟨some 63, .load none (.tmp 62), some (some 61, false), []⟩, ⟨some 64, .blen 0 (.tmp 63), some (some 61, false), []⟩, ⟨some 65, .move (.tmp 1), some (some 61, false), []⟩, ⟨some 66, .bin .gtr .none (.tmp 64) (.tmp 65), some (some 61, false), []⟩, ⟨some 67, .pick (.tmp 61) (.lit (.bool true)) (.tmp 66), none, []⟩]) (.cond (.tmp 67) (.seq (.ops [⟨some 4, .move (.lit (.bool false)), none, []⟩]) .ret) .skip)) (.seq (.ops [⟨some 68, .faddr 3 (.tmp 9), none, []⟩, ⟨some 69, .load none (.tmp 68), none, []⟩, ⟨some 70, .blen 1 (.tmp 69), none, []⟩, ⟨some 71, .move (.lit (.int .i64 0)), none, []⟩]) (.block 4 (.loop (.seq (.ops [⟨some 72, .bin .lss .none (.tmp 71) (.tmp 70), none, []⟩]) (.seq (.cond (.tmp 72) .skip (.exit 4)) (.seq (.block 5 (.seq (.ops [⟨some 73, .iaddr 3 (.tmp 69) (.tmp 71), none, []⟩, ⟨some 74, .load (some 3) (.tmp 73), none, []⟩, ⟨some 11, .alloc (.agg [.slice .nil [], .int .i64 0, .bool false]), none, []⟩, ⟨none, .store 3 (.tmp 11) (.tmp 74), none, []⟩]) (.ops [⟨some 75, .move (.tmp 5), none, []⟩, ⟨some 76, .faddr 0 (.tmp 11), none, []⟩, ⟨some 77, .load none (.tmp 76), none, []⟩, ⟨some 78, .blen 1 (.tmp 77), none, []⟩, ⟨some 79, .bin .add .none (.tmp 75) (.tmp 78), none, []⟩, ⟨some 5, .move (.tmp 79), none, []⟩]))) (.ops [⟨some 80, .bin .add .none (.tmp 71) (.lit (.int .i64 1)), none, []⟩, ⟨some 71, .move (.tmp 80), none, []⟩]))))))))))) (.ops [⟨some 81, .bin .add .none (.tmp 45) (.lit (.int .i64 1)), none, []⟩, ⟨some 45, .move (.tmp 81), none, []⟩]))))))) (.seq (.ops [⟨some 82, .move (.tmp 5), none, []⟩, ⟨some 83, .move (.tmp 1), none, []⟩, ⟨some 84, .bin .leq .none (.tmp 82) (.tmp 83), none, []⟩, ⟨some 4, .move (.tmp 84), none, []⟩]) .ret)))))
set_option maxRecDepth 20000 in
set_option maxHeartbeats 1000000 in
theorem few01_spec (t : FTask) (n : Nat) (σ : Store) (ht : TB t) (hn : n ≤ 4096) :
    ACalls Tryz.prog 33 [.agg (encTask t), .int .i64 n] σ (isR (.bool (fewT n t)) σ) := by
  refine ACalls.intro (rs := [(.tmp 4)]) (by kernel_rfl) { own := [], ghosts := [] } Tryz.func33 (c := Tryz.f33.body.getD .skip) (by kernel_rfl) (by decide) (by rw [show Tryz.f33.ntmps = 85 by kernel_rfl]; exact Nat.le_of_ble_eq_true rfl) (by kernel_rfl) ?_
  intro hσ hids
  rw [show comp Tryz.prog { own := [], ghosts := [] } (Tryz.f33.body.getD .skip) = c_few01 by kernel_rfl, show Tryz.f33.ntmps = 85 by kernel_rfl]
  unfold c_few01
  have hσ1 := ids_grow hσ (ids_encTask t)
  obtain ⟨T, hT⟩ : ∃ T : Nat, T = 140737488355328 := ⟨_, rfl⟩
  have hnT := mulTop (T := T) hn
  have b1 := ht.facts; have b2 := ht.init; have b3 := ht.goal; have b4 := ht.actions
  have hsz : taskSize t = t.facts.length + t.init.length + t.goal.length + t.actions.length + (t.actions.map actSize).sum := rfl
  have w1 : IntKind.i64.wrap ((t.facts.length : Int) + t.init.length) = ((t.facts.length + t.init.length : Nat) : Int) := by rw [wrap_ok (by omega)]; omega
  have w2 : IntKind.i64.wrap (((t.facts.length + t.init.length : Nat) : Int) + t.goal.length) = ((t.facts.length + t.init.length + t.goal.length : Nat) : Int) := by rw [wrap_ok (by omega)]; omega
  have w3 : IntKind.i64.wrap (((t.facts.length + t.init.length + t.goal.length : Nat) : Int) + t.actions.length) = ((t.facts.length + t.init.length + t.goal.length + t.actions.length : Nat) : Int) := by rw [wrap_ok (by omega)]; omega
  by_cases h1 : ((t.facts.length + t.init.length + t.goal.length + t.actions.length : Nat) : Int) > n
  · simp only [go_sem, Int.reduceToNat, Int.reduceLE, Int.reduceLT, Nat.reduceBEq, Nat.reduceLT, Nat.reduceAdd, Nat.reduceLeDiff, encTask, w1, w2, w3, h1]
    first | exact rtk (.bool false) ⟨by rw [fewT_big (by omega)], rfl⟩ | exact rtk0 (.bool false) ⟨by rw [fewT_big (by omega)], rfl⟩
  simp only [go_sem, Int.reduceToNat, Int.reduceLE, Int.reduceLT, Nat.reduceBEq, Nat.reduceLT, Nat.reduceAdd, Nat.reduceLeDiff, encTask, w1, w2, w3, h1]
  generalize hs0 : t.facts.length + t.init.length + t.goal.length + t.actions.length = s0 at *
  refine wpc_while (fun i => [(1, .int .i64 n), (2, .ptr σ.length 0), (5, .int .i64 s0), (31, .slice .unk (t.facts.map encT)), (32, .int .i64 t.facts.length), (33, .int .i64 (i : Nat))]) (fun _ => σ ++ [.row (encTask t)])
    (fun i => i ≤ t.facts.length ∧ t.facts.all (fun s => decide (s.data.toList.length ≤ n)) = (t.facts.drop i).all (fun s => decide (s.data.toList.length ≤ n))) (fun i => t.facts.length - i) 0 ⟨Nat.zero_le _, rfl⟩ (by (try dsimp only); exact ghk1) ?_
  rintro i ⟨hi, hv⟩ K hK hE hR
  by_cases h : i < t.facts.length
  · obtain ⟨y, hx⟩ := get_ex h; have hlt : ((i : Int) < (t.facts.length : Int)) := (by omega); have hw : IntKind.i64.wrap ((i : Int) + 1) = ((i + 1 : Nat) : Int) := (by rw [wrap_ok (by omega)]; omega)
    have hb : y.size = y.data.toList.length := rfl
    have hyb := ht.names y (List.mem_of_getElem? hx)
    rw [drop_cons hx, List.all_cons] at hv
    by_cases h2 : ((y.data.toList.length : Nat) : Int) > n
    · simp only [go_sem, Int.reduceToNat, Int.reduceLE, Int.reduceLT, Nat.reduceBEq, Nat.reduceLT, Nat.reduceAdd, Nat.reduceLeDiff, hlt, hx, encT, hb, h2, hR]
      rw [decide_eq_false (by omega), Bool.false_and] at hv
      first | exact rtk (.bool false) ⟨by rw [fewT, hv, Bool.false_and, Bool.and_false], rfl⟩ | exact rtk0 (.bool false) ⟨by rw [fewT, hv, Bool.false_and, Bool.and_false], rfl⟩
    · simp only [go_sem, Int.reduceToNat, Int.reduceLE, Int.reduceLT, Nat.reduceBEq, Nat.reduceLT, Nat.reduceAdd, Nat.reduceLeDiff, hlt, hx, encT, hb, h2]
      rw [decide_eq_true (by omega), Bool.true_and] at hv
      refine hK _ _ (i + 1) (⟨by omega, hv⟩) (by first | omega | (simp only []; omega) | (simp; omega)) ?_; (try dsimp only); (try simp only [ hw]); exact ghk1
  · have hlt : ¬ ((i : Int) < (t.facts.length : Int)) := by omega
    rw [drop_len h, List.all_nil] at hv
    simp only [go_sem, Int.reduceToNat, Int.reduceLE, Int.reduceLT, Nat.reduceBEq, Nat.reduceLT, Nat.reduceAdd, Nat.reduceLeDiff, hlt, hE, encTask]
    have hfv : fewT n t = (decide (taskSize t ≤ n) && t.actions.all (fun a => decide (a.name.data.toList.length ≤ n))) := by rw [fewT, hv, Bool.true_and]
    clear hK hE hR hv
    refine wpc_while (fun (q : Nat × Nat) => [(1, .int .i64 n), (5, .int .i64 q.2), (43, .slice .unk (t.actions.map encA)), (44, .int .i64 t.actions.length), (45, .int .i64 q.1)]) (fun _ => σ)
      (fun q => q.1 ≤ t.actions.length ∧ q.2 ≤ n + n * T ∧ taskSize t = q.2 + ((t.actions.drop q.1).map actSize).sum ∧ t.actions.all (fun a => decide (a.name.data.toList.length ≤ n)) = (t.actions.drop q.1).all (fun a => decide (a.name.data.toList.length ≤ n))) (fun q => t.actions.length - q.1) (0, s0) ⟨Nat.zero_le _, by simp only []; omega, by rw [hsz]; rfl, rfl⟩ (by (try dsimp only); first | exact ghk | exact ghk0) ?_
    rintro ⟨j, a⟩ ⟨hj', haa, hva, hvn⟩ K hK hE hR
    dsimp only at hj' haa hva hvn ⊢
    by_cases hj : j < t.actions.length
    · obtain ⟨x, hxj⟩ := get_ex hj; have hltj : ((j : Int) < (t.actions.length : Int)) := (by omega); have hwj : IntKind.i64.wrap ((j : Int) + 1) = ((j + 1 : Nat) : Int) := (by rw [wrap_ok (by omega)]; omega)
      have hb : x.name.size = x.name.data.toList.length := rfl
      have hxm := List.mem_of_getElem? hxj
      have c1 := ht.pre x hxm; have c2 := ht.effects x hxm; have c3 := ht.whens x hxm; have c4 := ht.name x hxm
      rw [drop_cons hxj, actSum_cons, actSize] at hva
      rw [drop_cons hxj, List.all_cons] at hvn
      have w4 : IntKind.i64.wrap ((x.pre.length : Int) + x.effects.length) = ((x.pre.length + x.effects.length : Nat) : Int) := by rw [wrap_ok (by omega)]; omega
      have w5 : IntKind.i64.wrap ((a : Int) + ((x.pre.length + x.effects.length : Nat) : Int)) = ((a + (x.pre.length + x.effects.length) : Nat) : Int) := by rw [wrap_ok (by omega)]; omega
      by_cases h3 : ((a + (x.pre.length + x.effects.length) : Nat) : Int) > n
      · simp only [go_sem, Int.reduceToNat, Int.reduceLE, Int.reduceLT, Nat.reduceBEq, Nat.reduceLT, Nat.reduceAdd, Nat.reduceLeDiff, hltj, hxj, encA, w4, w5, h3, hR]
        first | exact rtk (.bool false) ⟨by rw [fewT_big (by omega)], rfl⟩ | exact rtk0 (.bool false) ⟨by rw [fewT_big (by omega)], rfl⟩
      by_cases h4 : ((x.name.data.toList.length : Nat) : Int) > n
      · simp only [go_sem, Int.reduceToNat, Int.reduceLE, Int.reduceLT, Nat.reduceBEq, Nat.reduceLT, Nat.reduceAdd, Nat.reduceLeDiff, hltj, hxj, encA, w4, w5, h3, hb, h4, hR]
        rw [decide_eq_false (by omega), Bool.false_and] at hvn
        first | exact rtk (.bool false) ⟨by rw [hfv, hvn, Bool.and_false], rfl⟩ | exact rtk0 (.bool false) ⟨by rw [hfv, hvn, Bool.and_false], rfl⟩
      rw [decide_eq_true (by omega), Bool.true_and] at hvn
      simp only [go_sem, Int.reduceToNat, Int.reduceLE, Int.reduceLT, Nat.reduceBEq, Nat.reduceLT, Nat.reduceAdd, Nat.reduceLeDiff, hltj, hxj, encA, w4, w5, h3, hb, h4]
      refine wpc_while (fun (q : Nat × Nat) => [(1, .int .i64 n), (5, .int .i64 q.2), (43, .slice .unk (t.actions.map encA)), (44, .int .i64 t.actions.length), (45, .int .i64 j), (69, .slice .unk (x.effects.map encE)), (70, .int .i64 x.effects.length), (71, .int .i64 q.1)]) (fun _ => σ)
        (fun q => q.1 ≤ x.effects.length ∧ q.2 ≤ n + q.1 * T ∧ taskSize t = q.2 + whenSize (x.effects.drop q.1) + ((t.actions.drop (j + 1)).map actSize).sum) (fun q => x.effects.length - q.1) (0, a + (x.pre.length + x.effects.length)) ⟨Nat.zero_le _, by simp only []; omega, by rw [List.drop_zero]; omega⟩ (by (try dsimp only); first | exact ghk | exact ghk0) ?_
      rintro ⟨k, b⟩ ⟨hk', hbb, hvb⟩ K' hK' hE' hR'
      dsimp only at hk' hbb hvb ⊢
      have hfn : x.effects.length ≤ n := by omega
      have hjm := mulTop (T := T) (Nat.le_trans hk' hfn)
      by_cases hk : k < x.effects.length
      · obtain ⟨e, hxk⟩ := get_ex hk; have hltk : ((k : Int) < (x.effects.length : Int)) := (by omega); have hwk : IntKind.i64.wrap ((k : Int) + 1) = ((k + 1 : Nat) : Int) := (by rw [wrap_ok (by omega)]; omega)
        have c5 := c3 e (List.mem_of_getElem? hxk)
        rw [drop_cons hxk, whenSize_cons] at hvb
        have w6 : IntKind.i64.wrap ((b : Int) + e.when_.length) = ((b + e.when_.length : Nat) : Int) := by rw [wrap_ok (by omega)]; omega
        simp only [go_sem, Int.reduceToNat, Int.reduceLE, Int.reduceLT, Nat.reduceBEq, Nat.reduceLT, Nat.reduceAdd, Nat.reduceLeDiff, hltk, hxk, encE, w6]
        refine hK' _ _ (k + 1, b + e.when_.length) ⟨by simp only []; omega, by simp only [Nat.add_mul]; omega, by simp only []; omega⟩ (by simp only []; omega) ?_
        exact (by (try dsimp only); (try simp only [hwk]); first | exact ghk | exact ghk0)
      · have hltk : ¬ ((k : Int) < (x.effects.length : Int)) := by omega
        rw [drop_len hk] at hvb
        simp only [go_sem, Int.reduceToNat, Int.reduceLE, Int.reduceLT, Nat.reduceBEq, Nat.reduceLT, Nat.reduceAdd, Nat.reduceLeDiff, hltk, hE']
        refine hK _ _ ((j + 1, b)) (⟨by simp only []; omega, by simp only []; omega, by simpa [whenSize] using hvb, hvn⟩) (by first | omega | (simp only []; omega) | (simp; omega)) ?_; (try dsimp only); (try simp only [ hwj]); first | exact ghk | exact ghk0
    · have hltj : ¬ ((j : Int) < (t.actions.length : Int)) := by omega
      rw [drop_len hj, List.map_nil, List.sum_nil] at hva
      rw [drop_len hj, List.all_nil] at hvn
      simp only [go_sem, Int.reduceToNat, Int.reduceLE, Int.reduceLT, Nat.reduceBEq, Nat.reduceLT, Nat.reduceAdd, Nat.reduceLeDiff, hltj, hE]
      first | exact rtk (.bool (decide ((a : Int) ≤ n))) ⟨by rw [hfv, hvn, Bool.and_true]; congr 1; apply decide_eq_decide.2; omega, rfl⟩ | exact rtk0 (.bool (decide ((a : Int) ≤ n))) ⟨by rw [hfv, hvn, Bool.and_true]; congr 1; apply decide_eq_decide.2; omega, rfl⟩
end Go.Proofs.YtocphglkceidhaaGreat
namespace Go.Proofs.YtocphglkceidhaaGreat
open Go.Ahl
/-- All lists of facts below n. -/
def statesL : Nat → List (List Int)
  | 0 => [[]]
  | n + 1 => statesL n ++ (statesL n).map (· ++ [(n : Int)])
theorem statesL_len : ∀ n, (statesL n).length = 2 ^ n
  | 0 => rfl
  | n + 1 => by rw [statesL, List.length_append, List.length_map, statesL_len n, Nat.pow_succ]; omega
theorem risingB_snoc (n m : Int) (hnm : m + 1 ≤ n) : ∀ (s : List Int) (p : Int), risingB m p s = true → p < m → risingB n p (s ++ [m]) = true
  | [], p, h, hp => by simp [risingB, hp]; omega
  | x :: s, p, h, hp => by
    rw [risingB, Bool.and_eq_true, Bool.and_eq_true, decide_eq_true_eq, decide_eq_true_eq] at h
    rw [List.cons_append, risingB, Bool.and_eq_true, Bool.and_eq_true, decide_eq_true_eq, decide_eq_true_eq]
    exact ⟨⟨h.1.1, by omega⟩, risingB_snoc n m hnm s x h.2 h.1.2⟩
theorem risingB_up {m n : Int} (h : m ≤ n) : ∀ (s : List Int) (p : Int), risingB m p s = true → risingB n p s = true
  | [], p, _ => rfl
  | x :: s, p, k => by
    rw [risingB, Bool.and_eq_true, Bool.and_eq_true, decide_eq_true_eq, decide_eq_true_eq] at k ⊢
    exact ⟨⟨k.1.1, by omega⟩, risingB_up h s x k.2⟩
theorem statesL_mem : ∀ (n : Nat) (s : List Int), s ∈ statesL n → s.length ≤ n ∧ risingB n (-1) s = true
  | 0, s, h => by simp [statesL] at h; subst h; exact ⟨by simp, rfl⟩
  | n + 1, s, h => by
    rw [statesL, List.mem_append, List.mem_map] at h
    rcases h with h | ⟨r, h, rfl⟩
    · have := statesL_mem n s h
      exact ⟨by omega, risingB_up (by omega) s _ this.2⟩
    · have := statesL_mem n r h
      exact ⟨by simp; omega, risingB_snoc _ _ (by omega) r _ this.2 (by omega)⟩
end Go.Proofs.YtocphglkceidhaaGreat
namespace Go.Proofs.YtocphglkceidhaaGreat
open Go.Ahl
def c_cNaN : CCode := .seq (.ops [⟨some 2, .move (.lit (.bool false)), none, []⟩]) (.seq (.ops [⟨some 3, .move (.tmp 0), none, []⟩, ⟨some 4, .move (.tmp 0), none, []⟩, ⟨some 5, .bin .neq .none (.tmp 3) (.tmp 4), none, []⟩, ⟨some 2, .move (.tmp 5), none, []⟩]) .ret)
theorem cNaN_spec (x : Int) (σ : Store) : ACalls Tryz.prog 129 [.int .i64 x] σ (isR (.bool false) σ) := by
  refine ACalls.intro (rs := [(.tmp 2)]) (by kernel_rfl) { own := [], ghosts := [] } Tryz.func129 (c := Tryz.f129.body.getD .skip) (by kernel_rfl) (by decide) (by rw [show Tryz.f129.ntmps = 6 by kernel_rfl]; exact Nat.le_of_ble_eq_true rfl) (by kernel_rfl) ?_
  intro hσ hids
  rw [show comp Tryz.prog { own := [], ghosts := [] } (Tryz.f129.body.getD .skip) = c_cNaN by kernel_rfl, show Tryz.f129.ntmps = 6 by kernel_rfl]
  unfold c_cNaN
  have hx : (x != x) = false := by simp
  simp only [go_sem, Int.reduceToNat, Int.reduceLE, Int.reduceLT, Nat.reduceBEq, Nat.reduceLT, Nat.reduceAdd, Nat.reduceLeDiff, hx]
  first | exact rtk (.bool false) ⟨rfl, rfl⟩ | exact rtk0 (.bool false) ⟨rfl, rfl⟩
def c_sNaN : CCode := .seq (.ops [⟨some 2, .move (.lit (.bool false)), none, []⟩]) (.seq (.ops [⟨some 3, .move (.tmp 0), none, []⟩, ⟨some 4, .move (.tmp 0), none, []⟩, ⟨some 5, .bin .neq .none (.tmp 3) (.tmp 4), none, []⟩, ⟨some 2, .move (.tmp 5), none, []⟩]) .ret)
theorem sNaN_spec (x : Int) (σ : Store) : ACalls Tryz.prog 178 [.int .i64 x] σ (isR (.bool false) σ) := by
  refine ACalls.intro (rs := [(.tmp 2)]) (by kernel_rfl) { own := [], ghosts := [] } Tryz.func178 (c := Tryz.f178.body.getD .skip) (by kernel_rfl) (by decide) (by rw [show Tryz.f178.ntmps = 6 by kernel_rfl]; exact Nat.le_of_ble_eq_true rfl) (by kernel_rfl) ?_
  intro hσ hids
  rw [show comp Tryz.prog { own := [], ghosts := [] } (Tryz.f178.body.getD .skip) = c_sNaN by kernel_rfl, show Tryz.f178.ntmps = 6 by kernel_rfl]
  unfold c_sNaN
  have hx : (x != x) = false := by simp
  simp only [go_sem, Int.reduceToNat, Int.reduceLE, Int.reduceLT, Nat.reduceBEq, Nat.reduceLT, Nat.reduceAdd, Nat.reduceLeDiff, hx]
  first | exact rtk (.bool false) ⟨rfl, rfl⟩ | exact rtk0 (.bool false) ⟨rfl, rfl⟩
def c_cLess : CCode := .seq (.ops [⟨some 4, .move (.lit (.bool false)), none, []⟩]) (.seq (.ops [⟨some 5, .move (.tmp 0), none, []⟩, ⟨some 6, .call (.lit (.func 129 [])) [.tmp 5], none, []⟩, ⟨some 7, .move (.tmp 6), none, []⟩, ⟨some 8, .move (.tmp 1), some (some 7, true), []⟩, ⟨some 9, .call (.lit (.func 129 [])) [.tmp 8], some (some 7, true), []⟩, ⟨some 10, .un .not (.tmp 9), some (some 7, true), []⟩, ⟨some 11, .pick (.tmp 7) (.tmp 10) (.lit (.bool false)), none, []⟩, ⟨some 12, .move (.tmp 11), none, []⟩, ⟨some 13, .move (.tmp 0), some (some 12, false), []⟩, ⟨some 14, .move (.tmp 1), some (some 12, false), []⟩, ⟨some 15, .bin .lss .none (.tmp 13) (.tmp 14), some (some 12, false), []⟩, ⟨some 16, .pick (.tmp 12) (.lit (.bool true)) (.tmp 15), none, []⟩, ⟨some 4, .move (.tmp 16), none, []⟩]) .ret)
theorem cLess_spec (x y : Int) (σ : Store) : ACalls Tryz.prog 116 [.int .i64 x, .int .i64 y] σ (isR (.bool (decide (x < y))) σ) := by
  refine ACalls.intro (rs := [(.tmp 4)]) (by kernel_rfl) { own := [], ghosts := [] } Tryz.func116 (c := Tryz.f116.body.getD .skip) (by kernel_rfl) (by decide) (by rw [show Tryz.f116.ntmps = 17 by kernel_rfl]; exact Nat.le_of_ble_eq_true rfl) (by kernel_rfl) ?_
  intro hσ hids
  rw [show comp Tryz.prog { own := [], ghosts := [] } (Tryz.f116.body.getD .skip) = c_cLess by kernel_rfl, show Tryz.f116.ntmps = 17 by kernel_rfl]
  unfold c_cLess
  simp only [go_sem, Int.reduceToNat, Int.reduceLE, Int.reduceLT, Nat.reduceBEq, Nat.reduceLT, Nat.reduceAdd, Nat.reduceLeDiff]
  refine (cNaN_spec x σ).is ?_
  simp only [go_sem, Int.reduceToNat, Int.reduceLE, Int.reduceLT, Nat.reduceBEq, Nat.reduceLT, Nat.reduceAdd, Nat.reduceLeDiff]
  first | exact rtw (v := .bool _) wkS ⟨rfl, rfl⟩ | exact rtw0 (v := .bool _) wkS ⟨rfl, rfl⟩
theorem wrap_u64 {x : Int} (h : 0 ≤ x) (h2 : x < 18446744073709551616) : IntKind.u64.wrap x = x := by
  unfold IntKind.wrap
  simp only [IntKind.bits, IntKind.signed, Bool.false_and, Bool.false_eq_true, if_false]
  exact Int.emod_eq_of_lt h h2
/-- The two ends of a search among rising numbers. -/
def BsInv (l : List Int) (x : Int) (p : Nat × Nat) : Prop :=
  p.1 ≤ p.2 ∧ p.2 ≤ l.length ∧ (∀ k, k < p.1 → ∀ y, l[k]? = some y → y < x) ∧ (∀ k, p.2 ≤ k → ∀ y, l[k]? = some y → x ≤ y)
theorem pw_get {l : List Int} (h : l.Pairwise (· < ·)) {i j : Nat} {a b : Int} (hi : l[i]? = some a) (hj : l[j]? = some b) (hij : i < j) : a < b := by
  obtain ⟨h1, rfl⟩ := List.getElem?_eq_some_iff.1 hi
  obtain ⟨h2, rfl⟩ := List.getElem?_eq_some_iff.1 hj
  exact List.pairwise_iff_getElem.1 h i j h1 h2 hij
theorem bs_lo {l : List Int} {x y : Int} {a b m : Nat} (hs : l.Pairwise (· < ·)) (h : BsInv l x (a, b)) (hm : l[m]? = some y) (hma : a ≤ m) (hmb : m < b) (hy : y < x) : BsInv l x (m + 1, b) := by
  obtain ⟨h1, h2, h3, h4⟩ := h
  refine ⟨by simp only; omega, h2, fun k hk z hz => ?_, h4⟩
  by_cases hkm : k = m
  · subst hkm; rw [hm] at hz; injection hz with hz; omega
  · have := pw_get hs hz hm (by simp only at hk; omega); omega
theorem bs_hi {l : List Int} {x y : Int} {a b m : Nat} (hs : l.Pairwise (· < ·)) (h : BsInv l x (a, b)) (hm : l[m]? = some y) (hma : a ≤ m) (hmb : m < b) (hy : ¬ y < x) : BsInv l x (a, m) := by
  obtain ⟨h1, h2, h3, h4⟩ := h
  refine ⟨hma, by have := lt_of_get hm; simp only; omega, h3, fun k hk z hz => ?_⟩
  by_cases hkm : k = m
  · subst hkm; rw [hm] at hz; injection hz with hz; omega
  · have := pw_get hs hm hz (by simp only at hk; omega); omega
theorem bs_end {l : List Int} {x y : Int} {a : Nat} (hs : l.Pairwise (· < ·)) (h : BsInv l x (a, a)) (hy : l[a]? = some y) : l.contains x = decide (y = x) := by
  obtain ⟨h1, h2, h3, h4⟩ := h
  by_cases hyx : y = x
  · subst hyx; rw [decide_eq_true rfl]; exact List.contains_iff_mem.2 (List.mem_of_getElem? hy)
  · rw [decide_eq_false hyx]
    cases hc : l.contains x with
    | false => rfl
    | true =>
      obtain ⟨k, hk⟩ := List.mem_iff_getElem?.1 (List.contains_iff_mem.1 hc)
      have hxy := h4 a (Nat.le_refl _) y hy
      rcases Nat.lt_trichotomy k a with hka | hka | hka
      · have := h3 k hka x hk; omega
      · subst hka; rw [hy] at hk; injection hk with hk; omega
      · have := pw_get hs hy hk hka; omega
theorem bs_out {l : List Int} {x : Int} (h : BsInv l x (l.length, l.length)) : l.contains x = false := by
  obtain ⟨h1, h2, h3, h4⟩ := h
  cases hc : l.contains x with
  | false => rfl
  | true =>
    obtain ⟨k, hk⟩ := List.mem_iff_getElem?.1 (List.contains_iff_mem.1 hc)
    have := h3 k (lt_of_get hk) x hk; omega
theorem rising_pw {n : Int} : ∀ {s : List Int} {p : Int}, risingB n p s = true → s.Pairwise (· < ·) ∧ ∀ x ∈ s, p < x ∧ x < n
  | [], _, _ => ⟨.nil, by simp⟩
  | x :: s, p, h => by
    simp only [risingB, Bool.and_eq_true, decide_eq_true_eq] at h
    obtain ⟨h1, h2⟩ := rising_pw (s := s) (p := x) (by simpa using h.2)
    refine ⟨List.pairwise_cons.2 ⟨fun y hy => (h2 y hy).1, h1⟩, ?_⟩
    intro y hy
    rcases List.mem_cons.1 hy with rfl | hy
    · omega
    · have := h2 y hy; omega
def c_bsearch : CCode := .seq (.ops [⟨some 4, .move (.lit (.int .i64 0)), none, []⟩, ⟨some 5, .move (.lit (.bool false)), none, []⟩]) (.seq (.ops [⟨some 10, .move (.tmp 0), none, []⟩, ⟨some 11, .blen 1 (.tmp 10), none, []⟩, ⟨some 6, .move (.tmp 11), none, []⟩]) (.seq (.ops [⟨some 12, .move (.tmp 6), none, []⟩, ⟨some 7, .move (.lit (.int .i64 0)), none, []⟩, ⟨some 8, .move (.tmp 12), none, []⟩]) (.seq (.block 0 (.loop (.seq (.seq (.ops [⟨some 13, .move (.tmp 7), none, []⟩, ⟨some 14, .move (.tmp 8), none, []⟩, ⟨some 15, .bin .lss .none (.tmp 13) (.tmp 14), none, []⟩]) (.cond (.tmp 15) .skip (.exit 0))) (.block 1 (.seq (.ops [⟨some 16, .move (.tmp 7), none, []⟩, ⟨some 17, .move (.tmp 8), none, []⟩, ⟨some 18, .bin .add .none (.tmp 16) (.tmp 17), none, []⟩, ⟨some 19, .conv .u64 (.tmp 18), none, []⟩, ⟨some 20, .bin .shr .none (.tmp 19) (.lit (.int .u64 1)), none, []⟩, ⟨some 21, .conv .i64 (.tmp 20), none, []⟩, ⟨some 9, .move (.tmp 21), none, []⟩]) (.seq (.ops [⟨some 22, .move (.tmp 0), none, []⟩, ⟨some 23, .move (.tmp 9), none, []⟩, ⟨some 24, .iaddr 1 (.tmp 22) (.tmp 23), none, []⟩, ⟨some 25, .load none (.tmp 24), none, []⟩, ⟨some 26, .move (.tmp 1), none, []⟩, ⟨some 27, .call (.lit (.func 116 [])) [.tmp 25, .tmp 26], none, []⟩]) (.cond (.tmp 27) (.ops [⟨some 28, .move (.tmp 9), none, []⟩, ⟨some 29, .bin .add .none (.tmp 28) (.lit (.int .i64 1)), none, []⟩, ⟨some 7, .move (.tmp 29), none, []⟩]) (.ops [⟨some 30, .move (.tmp 9), none, []⟩, ⟨some 8, .move (.tmp 30), none, []⟩])))))))) (.seq (.ops [⟨some 31, .move (.tmp 7), none, []⟩, ⟨some 32, .move (.tmp 7), none, []⟩, ⟨some 33, .move (.tmp 6), none, []⟩, ⟨some 34, .bin .lss .none (.tmp 32) (.tmp 33), none, []⟩, ⟨some 35, .move (.tmp 34), none, []⟩, ⟨some 36, .move (.tmp 0), some (some 35, true), []⟩, ⟨some 37, .move (.tmp 7), some (some 35, true), []⟩, ⟨some 38, .iaddr 1 (.tmp 36) (.tmp 37), some (some 35, true), []⟩, ⟨some 39, .load none (.tmp 38), some (some 35, true), []⟩, ⟨some 40, .move (.tmp 1), some (some 35, true), []⟩, ⟨some 41, .bin .eql .none (.tmp 39) (.tmp 40), some (some 35, true), []⟩, ⟨some 42, .move (.tmp 41), some (some 35, true), []⟩, ⟨some 43, .move (.tmp 0), some (some 42, false), []⟩, ⟨some 44, .move (.tmp 7), some (some 42, false), []⟩, ⟨some 45, .iaddr 1 (.tmp 43) (.tmp 44), some (some 42, false), []⟩, ⟨some 46, .load none (.tmp 45), some (some 42, false), []⟩, ⟨some 47, .call (.lit (.func 178 [])) [.tmp 46], some (some 42, false), []⟩, ⟨some 48, .move (.tmp 47), some (some 42, false), []⟩, ⟨some 49, .move (.tmp 1), some (some 48, true), []⟩, ⟨some 50, .call (.lit (.func 178 [])) [.tmp 49], some (some 48, true), []⟩, ⟨some 51, .pick (.tmp 48) (.tmp 50) (.lit (.bool false)), some (some 42, false), []⟩, ⟨some 52, .pick (.tmp 42) (.lit (.bool true)) (.tmp 51), some (some 35, true), []⟩, ⟨some 53, .pick (.tmp 35) (.tmp 52) (.lit (.bool false)), none, []⟩, ⟨some 4, .move (.tmp 31), none, []⟩, ⟨some 5, .move (.tmp 53), none, []⟩]) .ret))))
set_option maxRecDepth 20000 in
set_option maxHeartbeats 1000000 in
theorem bsearch_spec (l : List Int) (x : Int) (tok : Tok) (σ : Store) (hl : l.length ≤ 140737488355328) (hs : l.Pairwise (· < ·)) :
    ACalls Tryz.prog 166 [.slice tok (l.map Ahl.encI), .int .i64 x] σ (isR (.tuple [.any, .bool (l.contains x)]) σ) := by
  refine ACalls.intro (rs := [(.tmp 4), (.tmp 5)]) (by kernel_rfl) { own := [], ghosts := [] } Tryz.func166 (c := Tryz.f166.body.getD .skip) (by kernel_rfl) (by decide) (by rw [show Tryz.f166.ntmps = 54 by kernel_rfl]; exact Nat.le_of_ble_eq_true rfl) (by kernel_rfl) ?_
  intro hσ hids
  rw [show comp Tryz.prog { own := [], ghosts := [] } (Tryz.f166.body.getD .skip) = c_bsearch by kernel_rfl, show Tryz.f166.ntmps = 54 by kernel_rfl]
  unfold c_bsearch
  have hil : Ids σ.length (.slice tok (l.map Ahl.encI)) := hids _ (by simp)
  simp only [go_sem, Int.reduceToNat, Int.reduceLE, Int.reduceLT, Nat.reduceBEq, Nat.reduceLT, Nat.reduceAdd, Nat.reduceLeDiff]
  refine wpc_while (fun p => [(0, .slice tok (l.map Ahl.encI)), (1, .int .i64 x), (6, .int .i64 l.length), (7, .int .i64 (p.1 : Nat)), (8, .int .i64 (p.2 : Nat))]) (fun _ => σ) (BsInv l x) (fun p => p.2 - p.1) (0, l.length) ⟨Nat.zero_le _, Nat.le_refl _, fun k hk => absurd hk (Nat.not_lt_zero _), fun k hk y hy => by have := lt_of_get hy; simp only at hk; omega⟩ (by (try dsimp only); first | exact ghk | exact ghk0) ?_
  rintro ⟨a, b⟩ hv K hK hE hR
  have hab := hv.1
  have hbl := hv.2.1
  simp only at hab hbl
  by_cases h : a < b
  · obtain ⟨y, hx⟩ := get_ex (show (a + b) / 2 < l.length by omega)
    have hlt : ((a : Int) < (b : Int)) := by omega
    have hm : IntKind.i64.wrap ((IntKind.u64.wrap (IntKind.i64.wrap ((a : Int) + b))).fdiv (2 ^ min 1 64)) = (((a + b) / 2 : Nat) : Int) := by
      have h1 : IntKind.i64.wrap ((a : Int) + b) = ((a + b : Nat) : Int) := by rw [wrap_ok (by omega)]; omega
      rw [h1, wrap_u64 (by omega) (by omega), show (2 : Int) ^ min 1 64 = 2 from rfl, show ((a + b : Nat) : Int).fdiv 2 = (((a + b) / 2 : Nat) : Int) by rw [Int.fdiv_eq_ediv_of_nonneg _ (by omega)]; omega, wrap_ok (by omega)]
    have hw : IntKind.i64.wrap ((((a + b) / 2 : Nat) : Int) + 1) = (((a + b) / 2 + 1 : Nat) : Int) := by rw [wrap_ok (by omega)]; omega
    simp only [go_sem, Int.reduceToNat, Int.reduceLE, Int.reduceLT, Nat.reduceBEq, Nat.reduceLT, Nat.reduceAdd, Nat.reduceLeDiff, hlt, hm, hx, Ahl.encI]
    refine (cLess_spec y x σ).is ?_
    by_cases hy : y < x
    · simp only [go_sem, Int.reduceToNat, Int.reduceLE, Int.reduceLT, Nat.reduceBEq, Nat.reduceLT, Nat.reduceAdd, Nat.reduceLeDiff, hy]
      refine hK _ _ (((a + b) / 2 + 1, b)) (bs_lo hs hv hx (by omega) (by omega) hy) (by first | omega | (simp only []; omega) | (simp; omega)) ?_; (try dsimp only); (try simp only [ hw]); first | exact ghk | exact ghk0
    · simp only [go_sem, Int.reduceToNat, Int.reduceLE, Int.reduceLT, Nat.reduceBEq, Nat.reduceLT, Nat.reduceAdd, Nat.reduceLeDiff, hy]
      refine hK _ _ ((a, (a + b) / 2)) (bs_hi hs hv hx (by omega) (by omega) hy) (by first | omega | (simp only []; omega) | (simp; omega)) ?_; (try dsimp only); (try simp only [ hw]); first | exact ghk | exact ghk0
  · have hlt : ¬ ((a : Int) < (b : Int)) := by omega
    obtain rfl : a = b := by omega
    by_cases hb : a < l.length
    · obtain ⟨y, hx⟩ := get_ex hb
      have hb' : ((a : Int) < (l.length : Int)) := by omega
      have hc := bs_end hs hv hx
      by_cases hy : y = x
      · have hy' : (y == x) = true := by simpa using hy
        simp only [go_sem, Int.reduceToNat, Int.reduceLE, Int.reduceLT, Nat.reduceBEq, Nat.reduceLT, Nat.reduceAdd, Nat.reduceLeDiff, hlt, hE, hb', hx, Ahl.encI, hy']
        first | exact rtl (.any) (.bool true) ⟨by rw [hc, decide_eq_true hy], rfl⟩ | exact rtl0 (.any) (.bool true) ⟨by rw [hc, decide_eq_true hy], rfl⟩
      · have hy' : (y == x) = false := by simpa using hy
        simp only [go_sem, Int.reduceToNat, Int.reduceLE, Int.reduceLT, Nat.reduceBEq, Nat.reduceLT, Nat.reduceAdd, Nat.reduceLeDiff, hlt, hE, hb', hx, Ahl.encI, hy']
        refine (sNaN_spec y σ).is ?_
        simp only [go_sem, Int.reduceToNat, Int.reduceLE, Int.reduceLT, Nat.reduceBEq, Nat.reduceLT, Nat.reduceAdd, Nat.reduceLeDiff]
        first | exact rtl (.any) (.bool false) ⟨by rw [hc, decide_eq_false hy], rfl⟩ | exact rtl0 (.any) (.bool false) ⟨by rw [hc, decide_eq_false hy], rfl⟩
    · obtain rfl : a = l.length := by omega
      simp only [go_sem, Int.reduceToNat, Int.reduceLE, Int.reduceLT, Nat.reduceBEq, Nat.reduceLT, Nat.reduceAdd, Nat.reduceLeDiff, hlt, hE]
      first | exact rtl (.any) (.bool false) ⟨by rw [bs_out hv], rfl⟩ | exact rtl0 (.any) (.bool false) ⟨by rw [bs_out hv], rfl⟩
def c_shas : CCode := .seq (.ops [⟨some 4, .move (.lit (.bool false)), none, []⟩]) (.seq (.ops [⟨some 8, .move (.tmp 0), none, []⟩, ⟨some 9, .move (.tmp 1), none, []⟩, ⟨some 10, .call (.lit (.func 166 [])) [.tmp 8, .tmp 9], none, []⟩, ⟨some 7, .move (.tmp 10), none, []⟩, ⟨some 11, .extract (.tmp 7) 0, none, []⟩, ⟨some 12, .extract (.tmp 7) 1, none, []⟩, ⟨some 5, .move (.tmp 11), none, []⟩, ⟨some 6, .move (.tmp 12), none, []⟩]) (.seq (.ops [⟨some 13, .move (.tmp 6), none, []⟩, ⟨some 4, .move (.tmp 13), none, []⟩]) .ret))
set_option maxRecDepth 20000 in
theorem shas_spec (l : List Int) (x : Int) (tok : Tok) (σ : Store) (hl : l.length ≤ 140737488355328) (hs : l.Pairwise (· < ·)) :
    ACalls Tryz.prog 145 [.slice tok (l.map Ahl.encI), .int .i64 x] σ (isR (.bool (l.contains x)) σ) := by
  refine ACalls.intro (rs := [(.tmp 4)]) (by kernel_rfl) { own := [], ghosts := [] } Tryz.func145 (c := Tryz.f145.body.getD .skip) (by kernel_rfl) (by decide) (by rw [show Tryz.f145.ntmps = 14 by kernel_rfl]; exact Nat.le_of_ble_eq_true rfl) (by kernel_rfl) ?_
  intro hσ hids
  rw [show comp Tryz.prog { own := [], ghosts := [] } (Tryz.f145.body.getD .skip) = c_shas by kernel_rfl, show Tryz.f145.ntmps = 14 by kernel_rfl]
  unfold c_shas
  simp only [go_sem, Int.reduceToNat, Int.reduceLE, Int.reduceLT, Nat.reduceBEq, Nat.reduceLT, Nat.reduceAdd, Nat.reduceLeDiff]
  refine (bsearch_spec l x tok σ hl hs).is ?_
  simp only [go_sem, Int.reduceToNat, Int.reduceLE, Int.reduceLT, Nat.reduceBEq, Nat.reduceLT, Nat.reduceAdd, Nat.reduceLeDiff]
  first | exact rtw (v := .bool _) wkS ⟨rfl, rfl⟩ | exact rtw0 (v := .bool _) wkS ⟨rfl, rfl⟩
def d_sTrue1_0 : List COp := [⟨some 4, .load none (.tmp 1), none, []⟩, ⟨some 5, .faddr 0 (.tmp 2), none, []⟩, ⟨some 6, .load none (.tmp 5), none, [1]⟩, ⟨some 7, .call (.lit (.func 145 [])) [.tmp 4, .tmp 6], none, [0, 2]⟩, ⟨some 8, .faddr 1 (.tmp 2), none, []⟩, ⟨some 9, .load none (.tmp 8), none, [4]⟩, ⟨some 10, .bin .eql .bool (.tmp 7) (.tmp 9), none, [3, 5]⟩, ⟨some 3, .move (.tmp 10), none, [6, 3, 0, 1, 2, 3, 4, 5, 6]⟩]
theorem dr_sTrue1_0 (P : Program) (nt n0 : Nat) (Q : Post) (s : Slots) (σ : Store) : wpc P nt n0 (.draw d_sTrue1_0) Q s σ = aOpsD P nt [⟨some 4, .load none (.tmp 1), none, []⟩, ⟨some 5, .faddr 0 (.tmp 2), none, []⟩, ⟨some 6, .load none (.tmp 5), none, [1]⟩, ⟨some 7, .call (.lit (.func 145 [])) [.tmp 4, .tmp 6], none, [0, 2]⟩, ⟨some 8, .faddr 1 (.tmp 2), none, []⟩, ⟨some 9, .load none (.tmp 8), none, [4]⟩, ⟨some 10, .bin .eql .bool (.tmp 7) (.tmp 9), none, [3, 5]⟩, ⟨some 3, .move (.tmp 10), none, [6, 3, 0, 1, 2, 3, 4, 5, 6]⟩] (Q .normal) s σ := wpc_draw _ (by decide)
def c_sTrue1 : CCode := .seq (.ops [⟨some 2, .box (.tmp 0), none, []⟩, ⟨some 3, .move (.lit (.bool false)), none, []⟩]) (.seq (.draw d_sTrue1_0) .ret)
set_option maxRecDepth 20000 in
theorem sTrue1_spec (s : List Int) (x : FLit) (tok : Tok) (V : Nat) (σ : Store) (hl : s.length ≤ 140737488355328) (hs : s.Pairwise (· < ·)) (hV : σ[V]? = some (.row [.slice tok (s.map Ahl.encI)])) :
    ACalls Tryz.prog 144 [.agg (encLit x), .ptr V 0] σ (isR (.bool (s.contains x.fact == x.neg)) σ) := by
  refine ACalls.intro (rs := [(.tmp 3)]) (by kernel_rfl) { own := [], ghosts := [] } Tryz.func144 (c := Tryz.f144.body.getD .skip) (by kernel_rfl) (by decide) (by rw [show Tryz.f144.ntmps = 11 by kernel_rfl]; exact Nat.le_of_ble_eq_true rfl) (by kernel_rfl) ?_
  intro hσ hids
  rw [show comp Tryz.prog { own := [], ghosts := [] } (Tryz.f144.body.getD .skip) = c_sTrue1 by kernel_rfl, show Tryz.f144.ntmps = 11 by kernel_rfl]
  unfold c_sTrue1
  have hV' : ∀ l, (σ ++ l)[V]? = some (.row [.slice tok (s.map Ahl.encI)]) := fun l => by rw [List.getElem?_append_left (lt_of_get hV)]; exact hV
  simp only [go_sem, Int.reduceToNat, Int.reduceLE, Int.reduceLT, Nat.reduceBEq, Nat.reduceLT, Nat.reduceAdd, Nat.reduceLeDiff, dr_sTrue1_0, encLit, hV']
  refine ⟨_, shas_spec s x.fact tok _ hl hs, ?_⟩
  simp only [go_sem, Int.reduceToNat, Int.reduceLE, Int.reduceLT, Nat.reduceBEq, Nat.reduceLT, Nat.reduceAdd, Nat.reduceLeDiff, dr_sTrue1_0, encLit]
  first | exact rtw (v := .bool _) wkS ⟨rfl, rfl⟩ | exact rtw0 (v := .bool _) wkS ⟨rfl, rfl⟩
theorem condHolds_any (s : List Int) (l : List FLit) : (!(l.any fun x => s.contains x.fact == x.neg)) = condHolds s l := by
  unfold condHolds
  induction l with
  | nil => rfl
  | cons x l ih => rw [List.any_cons, List.all_cons, ← ih, Bool.not_or]; rfl
def c_sTrue : CCode := .seq (.ops [⟨some 2, .box (.tmp 0), none, []⟩, ⟨some 4, .move (.lit (.bool false)), none, []⟩]) (.seq (.ops [⟨some 5, .move (.tmp 1), none, []⟩, ⟨some 6, .mkfunc 144 [.tmp 2], none, []⟩, ⟨some 7, .call (.lit (.func 132 [])) [.tmp 5, .tmp 6], none, []⟩, ⟨some 8, .un .not (.tmp 7), none, []⟩, ⟨some 4, .move (.tmp 8), none, []⟩]) .ret)
set_option maxRecDepth 20000 in
theorem sTrue_spec (s : List Int) (l : List FLit) (tok tok' : Tok) (σ : Store) (hl : s.length ≤ 140737488355328) (hs : s.Pairwise (· < ·)) (hll : l.length ≤ 140737488355328) :
    ACalls Tryz.prog 108 [.slice tok (s.map Ahl.encI), .slice tok' (l.map encLit)] σ (isR (.bool (condHolds s l)) σ) := by
  refine ACalls.intro (rs := [(.tmp 4)]) (by kernel_rfl) { own := [], ghosts := [] } Tryz.func108 (c := Tryz.f108.body.getD .skip) (by kernel_rfl) (by decide) (by rw [show Tryz.f108.ntmps = 9 by kernel_rfl]; exact Nat.le_of_ble_eq_true rfl) (by kernel_rfl) ?_
  intro hσ hids
  rw [show comp Tryz.prog { own := [], ghosts := [] } (Tryz.f108.body.getD .skip) = c_sTrue by kernel_rfl, show Tryz.f108.ntmps = 9 by kernel_rfl]
  unfold c_sTrue
  simp only [go_sem, Int.reduceToNat, Int.reduceLE, Int.reduceLT, Nat.reduceBEq, Nat.reduceLT, Nat.reduceAdd, Nat.reduceLeDiff]
  refine (containsFuncL_spec l _ _ (fun x => s.contains x.fact == x.neg) tok' _ hll (fun x _ => sTrue1_spec s x tok _ _ hl hs (by simp))).is ?_
  simp only [go_sem, Int.reduceToNat, Int.reduceLE, Int.reduceLT, Nat.reduceBEq, Nat.reduceLT, Nat.reduceAdd, Nat.reduceLeDiff]
  first | exact rtw (v := .bool _) wkS ⟨by rw [condHolds_any], rfl⟩ | exact rtw0 (v := .bool _) wkS ⟨by rw [condHolds_any], rfl⟩
end Go.Proofs.YtocphglkceidhaaGreat
/- The abstract layer, part 26: the library's sorting of integers, told of rows of one's own. -/
namespace Go.Ahl
open Go.Sort Go.Shelf Go.RowKit Go.Lib Go.Proofs
/-- Integers in order. -/
def sortI (l : List Int) : List Int := l.mergeSort fun x y => decide (x ≤ y)
theorem sortI_len (l : List Int) : (sortI l).length = l.length := List.length_mergeSort l
theorem sortI_perm (l : List Int) : (sortI l).Perm l := List.mergeSort_perm l _
theorem sortI_sorted (l : List Int) : (sortI l).Pairwise (· ≤ ·) := by
  have := List.pairwise_mergeSort (le := fun x y : Int => decide (x ≤ y)) (fun a b c h k => by simp at h k ⊢; omega) (fun a b => by simp; omega) l
  exact this.imp (fun h => by simpa using h)
theorem sortI_eq {l k : List Int} (hp : k.Perm l) (hk : k.Pairwise (· ≤ ·)) : sortI l = k := by
  exact List.Perm.eq_of_pairwise (le := fun a b : Int => a ≤ b) (fun a b _ _ h1 h2 => by omega) (sortI_sorted l) hk ((sortI_perm l).trans hp.symm)
theorem rel_int_eq {m : Mem} {loc : List Loc} {n : Int} {v : Value} (h : Rel m loc (ai n) v) : v = .int .i64 n := by
  unfold ai at h; cases h; rfl
variable {P : Program} {ρ : Ren}
/-- slices.Sort of integers. -/
theorem sortInts (L : SlLaysN.n53 P ρ) {fn : Func} (hf : P.funcs[ρ.f 53]? = some fn) (hfb : fn.body.isSome = true) (hfn : fn.name ≠ "runtime.NumGoroutine")
    (id : Nat) (l : List Int) (σ : Store) (hσ : σ[id]? = some (.row (l.map ai))) (hlen : l.length < 4611686018427387904) :
    ACalls P (ρ.f 53) [.ref id 1 0 l.length] σ fun r σ' => r = .tuple [] ∧ σ' = σ.set id (.row ((sortI l).map ai)) := by
  intro m loc w vs hs ha
  refine .inl ⟨fn, hf, hfb, hfn, ?_⟩
  obtain ⟨v, rfl, h1⟩ : ∃ v, vs = #[v] ∧ Rel m loc (.ref id 1 0 l.length) v := by
    obtain ⟨h1, h2⟩ := ha
    have h1 : vs.size = 1 := h1
    refine ⟨vs[0], ?_, h2 0 _ _ rfl (Array.getElem?_eq_getElem _)⟩
    apply Array.ext (by simp [h1])
    intro i hi _
    have : i = 0 := by omega
    subst this; rfl
  have hid := lt_of_get hσ
  by_cases hl0 : l.length = 0
  · have hlnil : l = [] := List.length_eq_zero_iff.1 hl0
    subst hlnil
    have key : ∀ a c, v = .slice a 0 c → Calls P (ρ.f 53) #[v] w fun e w' => ∃ v', e = .returned v' ∧ ARet loc m w (fun r σ' => r = .tuple [] ∧ σ' = σ.set id (.row ((sortI []).map ai))) v' w' := by
      rintro a c rfl
      refine (AnyG.slices_Sort_int_none L a c w).mono ?_
      rintro e w' ⟨rfl, rfl⟩
      refine ⟨_, rfl, .tuple [], σ, m, loc, ⟨rfl, ?_⟩, .tuple [] #[] rfl (by simp), hs, .refl _ _ _ _⟩
      rw [← set_same hσ]; simp [sortI]
    rcases rel_ref h1 with ⟨cap, b, n, q0, _⟩ | ⟨_, a, q0⟩
    · exact key _ _ q0
    · exact key _ _ q0
  · rcases rel_ref h1 with ⟨cap, blk, n, q0, q1, q2, q3, q4⟩ | ⟨q0, _⟩
    rotate_left
    · exact absurd q0 hl0
    · subst q0
      obtain ⟨arr, t, e1, e2, e3, e4, e5⟩ := hs.obj id _ _ q1 hσ
      have e3 : l.length ≤ arr.size := by simpa using e3
      have hH : Holds (Value.int .i64) w blk 0 l.toArray := by
        intro j hj
        have hj : j < l.length := by simpa using hj
        have hr := e4 j (ai l[j]) (arr[j]'(by omega)) (by rw [List.getElem?_map, List.getElem?_eq_getElem hj]; rfl) (Array.getElem?_eq_getElem _)
        have hv : arr[j]'(by omega) = .int .i64 l[j] := by
          exact rel_int_eq hr
        rw [getElem!_pos l.toArray j (by simpa using hj), Nat.zero_add]
        refine ⟨?_, by simp [World.frozen?, e1]⟩
        simp only [World.cell?, e1, Option.isSome_none, Bool.false_eq_true, if_false]
        rw [Array.getElem?_eq_getElem (by omega), hv]; simp
      have hblk : blk < w.heap.size := hs.lt blk ⟨id, .inl q1⟩
      refine (AnyG.slices_Sort_int L blk 0 cap l w hH hblk hlen).mono ?_
      rintro e w' ⟨rfl, n', os, rfl⟩
      have hset : loc.set id (.blk blk) = loc := set_same q1
      have hs1 : (sortI l).toArray.size = l.length := by simp [sortI_len]
      have key := hs.turn loc.length (m' := m) (w' := sortWorld (Value.int .i64) w blk 0 n' (sortI l).toArray os) (l' := .blk blk) (.row ((sortI l).map ai)) q1 hσ (.refl m) (.refl _)
        (fun k hk hne => sortWorld_other (Value.int .i64) w blk 0 n' _ os hk (fun q => hne (by subst q; rfl))) (by rw [size_sortWorld]; omega) (fun _ _ _ _ => rfl) ?_ ?_ ?_ (fun b q => .inl q) ?_ rfl rfl rfl (by simp [sortWorld, grow, putRow, mapBlock, Sort.ahead])
      · rw [hset] at key
        exact ⟨_, rfl, .tuple [], _, m, loc, ⟨rfl, rfl⟩, .tuple [] #[] rfl (by simp), key.1, key.2⟩
      · intro k o v hk e'
        rcases hk with hk | hk
        · simp [own] at hk; subst hk; rw [e5] at e'; simp at e'
        · have := hs.im_lt e'; omega
      · intro k z hz
        by_cases hk : k = blk
        · subst hk
          refine .inr ⟨_, t, _, sortWorld_own (Value.int .i64) w k 0 n' _ os e1, ?_⟩
          rw [size_putCells]
          rw [e2] at hz; injection hz
        · exact .inl ⟨hz, by simp [own]; exact fun q => hk q.symm⟩
      · rintro b ⟨_, _, _, e, _⟩; simp at e
      · refine ⟨_, t, sortWorld_own (Value.int .i64) w blk 0 n' _ os e1, by rw [size_putCells]; exact e2, by rw [size_putCells, List.length_map, sortI_len]; exact e3, ?_, e5⟩
        rw [hset]
        intro j x v hj hv'
        have hjl : j < (sortI l).length := by have := lt_of_get hj; simpa using this
        have hx : x = ai ((sortI l)[j]) := by
          rw [List.getElem?_map, List.getElem?_eq_getElem hjl] at hj; simpa using hj.symm
        have hvv : v = .int .i64 ((sortI l)[j]) := by
          simp only [putCells, Array.getElem?_mapIdx, Array.getElem?_eq_getElem (by rw [sortI_len] at hjl; omega : j < arr.size), Option.map_some, Option.some.injEq] at hv'
          rw [if_pos (by rw [hs1, ← sortI_len]; omega), Nat.sub_zero, getElem!_pos (sortI l).toArray j (by simpa using hjl)] at hv'
          rw [← hv']; simp
        subst hx; subst hvv
        exact .int _ _
/-- A map from numbers that are all told to be there. -/
def encSI (l : List Int) : List (AV × AV) := l.map fun s => (.int .i64 s, .bool true)
theorem findI_out (s : Int) : ∀ (l : List Int) (k : Nat), l.contains s = false → aFind (.int .i64 s) (encSI l) k = some none
  | [], k, _ => rfl
  | t :: l, k, h => by
    simp only [List.contains_cons, Bool.or_eq_false_iff] at h
    have e : keyEq (.int .i64 s) (.int .i64 t) = some false := by simp only [keyEq, h.1, if_true]
    simp only [encSI, List.map_cons, aFind, e]
    exact findI_out s l (k + 1) h.2
theorem findI_in (s : Int) : ∀ (l : List Int) (k : Nat), l.contains s = true → ∃ i, aFind (.int .i64 s) (encSI l) k = some (some (k + i, .bool true)) ∧ l[i]? = some s
  | [], k, h => by simp at h
  | t :: l, k, h => by
    by_cases h1 : s = t
    · subst h1
      have e : keyEq (.int .i64 s) (.int .i64 s) = some true := by simp only [keyEq, beq_self_eq_true, if_true]
      exact ⟨0, by simp only [encSI, List.map_cons, aFind, e]; rfl, rfl⟩
    · have h1' : (s == t) = false := by simpa using h1
      have e : keyEq (.int .i64 s) (.int .i64 t) = some false := by simp only [keyEq, h1', if_true]
      obtain ⟨i, hi, hx⟩ := findI_in s l (k + 1) (by rw [List.contains_cons, h1', Bool.false_or] at h; exact h)
      exact ⟨i + 1, by simp only [encSI, List.map_cons, aFind, e]; rw [show k + (i + 1) = k + 1 + i by omega]; exact hi, by simpa using hx⟩
theorem encSI_app (l : List Int) (s : Int) : encSI l ++ [(.int .i64 s, .bool true)] = encSI (l ++ [s]) := by simp [encSI]
theorem encSI_set {l : List Int} {s : Int} {i : Nat} (h : l[i]? = some s) : (encSI l).set i (.int .i64 s, .bool true) = encSI l := set_same (by simp [encSI, h])
theorem encSI_get {l : List Int} {i : Nat} {s : Int} (h : l[i]? = some s) : (encSI l)[i]? = some (.int .i64 s, .bool true) := by simp [encSI, h]
theorem ids_encSI {n : Nat} (l : List Int) : IdsO n (.map (encSI l)) := by
  intro j k x e
  simp only [encSI, List.getElem?_map, Option.map_eq_some_iff] at e
  obtain ⟨t, _, e⟩ := e
  injection e with e1 e2; subst e1; subst e2
  exact ⟨.int _ _, .bool _⟩
/-- A number put into a set. -/
def insI (l : List Int) (s : Int) : List Int := if l.contains s then l else l ++ [s]
theorem insI_mem {l : List Int} {s x : Int} : x ∈ insI l s ↔ x ∈ l ∨ x = s := by
  unfold insI; split
  · rename_i h; have := List.contains_iff_mem.1 h
    constructor
    · exact .inl
    · rintro (h | rfl)
      · exact h
      · exact this
  · simp
theorem insI_nodup {l : List Int} {s : Int} (h : l.Nodup) : (insI l s).Nodup := by
  unfold insI; split
  · exact h
  · rename_i hc
    rw [List.nodup_append]
    refine ⟨h, by simp, fun a ha b hb => ?_⟩
    simp only [List.mem_singleton] at hb; subst hb
    rintro rfl; exact hc (List.contains_iff_mem.2 ha)
end Go.Ahl
namespace Go.Ahl
/-- A row of one's own goes behind all else. -/
theorem Ghost.reown {n0 nt : Nat} {s : Slots} {σ : Store} (t : Nat) {id sz off len : Nat} {cells : List AV} (ht : lk s t = .ref id sz off len) (hs : σ[id]? = some (.row cells)) :
    Ghost n0 nt s σ ((t, .ref σ.length sz off len) :: s) (σ.set id .dead ++ [.row cells]) := by
  intro m loc w tm hl hS hr
  have hid : id < loc.length := by rw [hS.len]; exact lt_of_get hs
  have hrel := hr.rel t
  rw [ht] at hrel
  have hloc : loc[id]? = some loc[id] := List.getElem?_eq_getElem hid
  have hobj := hS.obj id _ _ hloc hs
  have hlen : (σ.set id .dead).length = loc.length := by simp [hS.len]
  have fin : ∀ l, SRel m (loc ++ [l]) (σ.set id .dead ++ [.row cells]) w → Ext n0 m loc w m (loc ++ [l]) w → Rel m (loc ++ [l]) (.ref σ.length sz off len) (tm.getD t undef) →
      ∃ m' loc', SRel m' loc' (σ.set id .dead ++ [.row cells]) w ∧ SlotRel m' loc' nt ((t, .ref σ.length sz off len) :: s) tm ∧ Ext n0 m loc w m' loc' w := by
    intro l g1 g2 g3
    refine ⟨m, _, g1, ⟨hr.size, fun i => ?_⟩, g2⟩
    simp only [Ahl.lk]
    by_cases e : t = i
    · subst e; simp only [beq_self_eq_true, cond_true]; exact g3
    · have : (t == i) = false := by simpa using e
      rw [this, cond_false]; exact (hr.rel i).mono (.refl m) (.app _ _ _)
  generalize hv : tm.getD t undef = v at hrel fin
  generalize loc[id] = l at hloc hobj
  cases l with
  | blk b =>
    obtain ⟨g1, g2⟩ := hS.reown n0 hloc hs
    refine fin _ g1 g2 ?_
    cases hrel with
    | ref _ _ _ _ cap b' n h1 h2 h3 h4 =>
      rw [hloc] at h1; injection h1 with h1; injection h1 with h1; subst h1
      exact .ref _ _ _ _ cap b n (by rw [← hS.len]; simp) h2 h3 h4
    | ref0 _ _ _ a _ => exact .ref0 _ _ _ a (by rw [← hS.len]; simp)
  | nowhere =>
    have hc : cells = [] := hobj
    subst hc
    obtain ⟨g1, g2⟩ := (hS.die id).row0 n0
    refine fin _ g1 g2 ?_
    cases hrel with
    | ref _ _ _ _ cap b' n h1 h2 h3 h4 => rw [hloc] at h1; simp at h1
    | ref0 _ _ _ a _ => exact .ref0 _ _ _ a (by rw [← hS.len]; simp)
  | tok _ _ => exact hobj.elim
theorem places_all {α : Type} : ∀ (l p : List α), (List.range' p.length l.length).filterMap (fun i => (p ++ l)[i]?) = l
  | [], p => rfl
  | x :: l, p => by
    have ih := places_all l (p ++ [x])
    rw [List.length_cons, List.range'_succ, List.filterMap_cons]
    rw [show (p ++ x :: l)[p.length]? = some x by rw [List.getElem?_append_right (Nat.le_refl _), Nat.sub_self]; rfl]
    simp only [List.append_assoc, List.singleton_append, List.length_append, List.length_singleton] at ih
    rw [ih]
/-- Numbers of places, each once, that are all: what stands at them is all. -/
theorem perm_places {α : Type} (l : List α) (seen : List Nat) (h1 : seen.Nodup) (h2 : ∀ i ∈ seen, i < l.length) (h3 : ∀ i, i < l.length → i ∈ seen) : (seen.filterMap fun i => l[i]?).Perm l := by
  have hp : seen.Perm (List.range l.length) := by
    rw [List.perm_ext_iff_of_nodup h1 List.nodup_range]
    intro i; rw [List.mem_range]; exact ⟨h2 i, h3 i⟩
  refine (hp.filterMap _).trans ?_
  have := places_all l []
  rw [List.range_eq_range']
  simp only [List.nil_append, List.length_nil] at this
  rw [this]
end Go.Ahl
/- The abstract layer, part 27: words for rounds whose store begins with a part that is named. -/
namespace Go.Ahl
section
variable {n0 nt t : Nat} {s s' : Slots} {S σ g : Store} {R : Cont}
theorem ghP {l : Store} (h2 : IdsS (S ++ l).length (S ++ l)) (h1 : TellW s (S.length + l.length) s' := by simp only [TellW, lk, Nat.reduceBEq, cond_true, cond_false, and_true, List.length_cons, List.length_nil, Nat.reduceAdd]; and_intros <;> first | exact Wk.refl _ | exact Wk.unk _ _ | exact Wk.slice _ (WkLL.one (WkL.one (Wk.unk _ _))) | exact Wk.any _ | first | assumption | exact .int _ _ | exact .bool _ | exact .str _ | exact .any | exact .mapnil | exact .ptr _ _ (by omega) | exact .ref _ _ _ _ (by omega) | exact .vec _ _ _ (by omega) | exact .map _ (by omega) | exact ids_mapE _ | exact ids_growE (by omega) _ | exact ids_aggE _ | (refine ids_up ?_ (by assumption); omega) | exact ids_func0 _ | exact ids_nil _ (by simp) | (simp only [encLit, encI, encT, encC, encA, encE, encL, encTask, encB]; done)) (hn : n0 ≤ S.length := by first | exact Nat.le_refl _ | omega) : Ghost n0 nt s (S ++ (l ++ g)) s' (S ++ l) := .keepL l rfl hn h1 h2
theorem ghP0 {l : Store} (h2 : IdsS (S ++ l).length (S ++ l)) (h1 : TellW s (S.length + l.length) s' := by simp only [TellW, lk, Nat.reduceBEq, cond_true, cond_false, and_true, List.length_cons, List.length_nil, Nat.reduceAdd]; and_intros <;> first | exact Wk.refl _ | exact Wk.unk _ _ | exact Wk.slice _ (WkLL.one (WkL.one (Wk.unk _ _))) | exact Wk.any _ | first | assumption | exact .int _ _ | exact .bool _ | exact .str _ | exact .any | exact .mapnil | exact .ptr _ _ (by omega) | exact .ref _ _ _ _ (by omega) | exact .vec _ _ _ (by omega) | exact .map _ (by omega) | exact ids_mapE _ | exact ids_growE (by omega) _ | exact ids_aggE _ | (refine ids_up ?_ (by assumption); omega) | exact ids_func0 _ | exact ids_nil _ (by simp) | (simp only [encLit, encI, encT, encC, encA, encE, encL, encTask, encB]; done)) (hn : n0 ≤ S.length := by first | exact Nat.le_refl _ | omega) : Ghost n0 nt s (S ++ l) s' (S ++ l) := .keepL0 l rfl hn h1 h2
theorem ghN (h2 : IdsS S.length S) (h1 : TellW s S.length s' := by simp only [TellW, lk, Nat.reduceBEq, cond_true, cond_false, and_true, List.length_cons, List.length_nil, Nat.reduceAdd]; and_intros <;> first | exact Wk.refl _ | exact Wk.unk _ _ | exact Wk.slice _ (WkLL.one (WkL.one (Wk.unk _ _))) | exact Wk.any _ | first | assumption | exact .int _ _ | exact .bool _ | exact .str _ | exact .any | exact .mapnil | exact .ptr _ _ (by omega) | exact .ref _ _ _ _ (by omega) | exact .vec _ _ _ (by omega) | exact .map _ (by omega) | exact ids_mapE _ | exact ids_growE (by omega) _ | exact ids_aggE _ | (refine ids_up ?_ (by assumption); omega) | exact ids_func0 _ | exact ids_nil _ (by simp) | (simp only [encLit, encI, encT, encC, encA, encE, encL, encTask, encB]; done)) (hn : n0 ≤ S.length := by first | exact Nat.le_refl _ | omega) : Ghost n0 nt s (S ++ g) s' S := .keep g hn h1 h2
theorem ghN0 (h2 : IdsS S.length S) (h1 : TellW s S.length s' := by simp only [TellW, lk, Nat.reduceBEq, cond_true, cond_false, and_true, List.length_cons, List.length_nil, Nat.reduceAdd]; and_intros <;> first | exact Wk.refl _ | exact Wk.unk _ _ | exact Wk.slice _ (WkLL.one (WkL.one (Wk.unk _ _))) | exact Wk.any _ | first | assumption | exact .int _ _ | exact .bool _ | exact .str _ | exact .any | exact .mapnil | exact .ptr _ _ (by omega) | exact .ref _ _ _ _ (by omega) | exact .vec _ _ _ (by omega) | exact .map _ (by omega) | exact ids_mapE _ | exact ids_growE (by omega) _ | exact ids_aggE _ | (refine ids_up ?_ (by assumption); omega) | exact ids_func0 _ | exact ids_nil _ (by simp) | (simp only [encLit, encI, encT, encC, encA, encE, encL, encTask, encB]; done)) (hn : n0 ≤ S.length := by first | exact Nat.le_refl _ | omega) : Ghost n0 nt s S s' S := .keep0 hn h1 h2
theorem ghPM (k : Nat) {o : AObj} (ho : g[k]? = some o := by rfl) (hi : IdsS S.length S := by assumption) (hio : IdsO S.length o := by trivial) (h1 : TellM s (S.length + k) S.length s' := by simp only [TellM, lk, Nat.reduceBEq, cond_true, cond_false, and_true, List.length_cons, List.length_nil, Nat.reduceAdd]; and_intros <;> first | exact mv_mapE _ | exact .ref _ _ _ | exact .ptr _ | exact .map | exact .keep (.refl _) (by first | assumption | exact .int _ _ | exact .bool _ | exact .str _ | exact .any | exact .mapnil | exact .ptr _ _ (by omega) | exact .ref _ _ _ _ (by omega) | exact .vec _ _ _ (by omega) | exact .map _ (by omega) | exact ids_mapE _ | exact ids_growE (by omega) _ | exact ids_aggE _ | (refine ids_up ?_ (by assumption); omega) | exact ids_func0 _ | exact ids_nil _ (by simp) | (simp only [encLit, encI, encT, encC, encA, encE, encL, encTask, encB]; done)) | exact .keep (Wk.unk _ _) (by first | assumption | exact .int _ _ | exact .bool _ | exact .str _ | exact .any | exact .mapnil | exact .ptr _ _ (by omega) | exact .ref _ _ _ _ (by omega) | exact .vec _ _ _ (by omega) | exact .map _ (by omega) | exact ids_mapE _ | exact ids_growE (by omega) _ | exact ids_aggE _ | (refine ids_up ?_ (by assumption); omega) | exact ids_func0 _ | exact ids_nil _ (by simp) | (simp only [encLit, encI, encT, encC, encA, encE, encL, encTask, encB]; done))) (hn : n0 ≤ S.length := by first | exact Nat.le_refl _ | omega) : Ghost n0 nt s (S ++ g) s' (S ++ [o]) :=
  .moved _ k _ hn ho hi hio h1
/-- The end of a function whose row becomes its answer. -/
theorem retRow {id len : Nat} {l : List Int} (ht : S.take σ.length = σ) (hs : lk s t = .ref id 1 0 len) (hid : S[id]? = some (.row (l.map ai))) (hlen : l.length = len) (hge : σ.length ≤ id) (h : R (.slice .unk (l.map encI)) σ) (hσ : IdsS σ.length σ := by assumption) :
    bodyK [.tmp t] σ.length nt R .ret s S := by
  refine ret_gh (v := .slice .unk (l.map encI)) (σ' := σ) ?_ (Nat.le_refl _) hσ (ids_map ids_encI _) h
  refine Ghost.trans (Ghost.freeze t (l.map encI) hs hid (by simpa using hlen) ?_) ?_
  · intro i e he
    rw [List.getElem?_map] at he
    obtain ⟨x, hx, rfl⟩ := Option.map_eq_some_iff.1 he
    refine ⟨rfl, fun j hj => ?_⟩
    obtain rfl : j = 0 := by omega
    rw [List.getElem?_map]
    simp [hx, encI, ai]
  · have ht' : (S.set id .dead).take σ.length = σ := by rw [List.take_set_of_le hge, ht]
    have := Ghost.cut (n0 := σ.length) (nt := nt) (σ := S.set id .dead) (s := (t, .slice .unk (l.map encI)) :: s) [(t, .slice .unk (l.map encI))] σ.length (Nat.le_refl _) ⟨⟨by simp only [Ahl.lk, beq_self_eq_true, cond_true]; exact Wk.refl _, ids_map ids_encI _⟩, trivial⟩ (by rw [ht']; exact hσ)
    rwa [ht'] at this
end
theorem idsS_dead {n : Nat} {σ : Store} (h : IdsS n σ) (i : Nat) : IdsS n (σ.set i .dead) := by
  intro j o ho
  rcases get_set ho with ⟨rfl, rfl⟩ | ⟨_, ho⟩
  · trivial
  · exact h j o ho
theorem unseen_lt {α : Type} (p q : α → Bool) (h : ∀ x, q x = true → p x = true) (i : α) (hp : p i = true) (hq : q i = false) : ∀ l : List α, i ∈ l → (l.filter q).length < (l.filter p).length
  | x :: l, hi => by
    have hle : (l.filter q).length ≤ (l.filter p).length := by
      clear hi
      induction l with
      | nil => simp
      | cons y l ih =>
        rw [List.filter_cons, List.filter_cons]
        cases hy : q y
        · simp only [Bool.false_eq_true, if_false]; split
          · simp only [List.length_cons]; omega
          · exact ih
        · rw [if_pos rfl, if_pos (h y hy)]; simp only [List.length_cons]; omega
    rw [List.filter_cons, List.filter_cons]
    rcases List.mem_cons.1 hi with rfl | hi
    · rw [hp, hq]; simp only [if_true, Bool.false_eq_true, if_false, List.length_cons]; omega
    · have := unseen_lt p q h i hp hq l hi
      cases hx : q x
      · simp only [Bool.false_eq_true, if_false]; split
        · simp only [List.length_cons]; omega
        · exact this
      · rw [if_pos rfl, if_pos (h x hx)]; simp only [List.length_cons]; omega
/-- How many places are not seen yet. -/
def unseen (n : Nat) (seen : List Nat) : Nat := ((List.range n).filter fun i => !(seen.contains i)).length
theorem unseen_snoc {n i : Nat} {seen : List Nat} (hi : i < n) (hs : i ∉ seen) : unseen n (seen ++ [i]) < unseen n seen := by
  refine unseen_lt _ _ ?_ i ?_ ?_ _ (List.mem_range.2 hi)
  · intro x hx
    simp only [Bool.not_eq_true', List.contains_eq_mem, List.mem_append, decide_eq_false_iff_not] at hx ⊢
    exact fun q => hx (.inl q)
  · simpa using hs
  · simp
theorem nodup_below {n : Nat} {l : List Nat} (h : l.Nodup) (hl : ∀ i ∈ l, i < n) : l.length ≤ n := by
  have h1 : l.length ≤ n := by
    have hp : ∀ (l : List Nat), l.Nodup → ∀ p : Nat → Bool, (∀ i ∈ l, p i = true) → (∀ i ∈ l, i < n) → l.length ≤ ((List.range n).filter p).length := by
      intro l
      induction l with
      | nil => intros; simp
      | cons x l ih =>
        intro hnd p hp hb
        rw [List.nodup_cons] at hnd
        have h1 := ih hnd.2 (fun i => p i && decide (i ≠ x)) (fun i hi => by
          rw [hp i (List.mem_cons_of_mem _ hi), Bool.true_and]
          exact decide_eq_true (fun e => hnd.1 (e ▸ hi))) (fun i hi => hb i (List.mem_cons_of_mem _ hi))
        have h2 := unseen_lt p (fun i => p i && decide (i ≠ x)) (fun y hy => by simp only [Bool.and_eq_true] at hy; exact hy.1) x (hp x List.mem_cons_self) (by simp) (List.range n) (List.mem_range.2 (hb x List.mem_cons_self))
        rw [List.length_cons]; omega
    have h2 := hp l h (fun _ => true) (fun _ _ => rfl) hl
    have h3 := List.length_filter_le (fun _ => true) (List.range n)
    rw [List.length_range] at h3
    omega
  exact h1
theorem sortI_perm_eq {l k : List Int} (h : l.Perm k) : sortI l = sortI k := sortI_eq ((sortI_perm k).trans h.symm) (sortI_sorted k)
end Go.Ahl
namespace Go.Proofs
open Go.Shelf Go.RowKit Go.Lib Go.Sort
def YtocphglkceidhaaGreat.laysSI_ren : Go.Shelf.Ren := ⟨fun | 53 => 41 | 64 => 80 | 63 => 79 | 78 => 119 | 79 => 120 | 70 => 110 | 71 => 111 | 72 => 112 | 73 => 113 | 74 => 114 | 75 => 115 | 59 => 116 | 76 => 117 | 77 => 118 | 88 => 149 | 89 => 150 | 90 => 151 | 91 => 152 | 92 => 153 | 68 => 129 | 96 => 167 | n => n, fun | 22 => 23 | 23 => 3 | 3 => 3 | 51 => 113 | 0 => 0 | 67 => 144 | 69 => 146 | 4 => 4 | 61 => 136 | 60 => 135 | 44 => 141 | 5 => 5 | 9 => 9 | 75 => 161 | 79 => 165 | 83 => 177 | 84 => 178 | n => n, fun | n => n⟩
theorem YtocphglkceidhaaGreat.laysSI : Go.Proofs.SlLaysN.n53 Tryz.prog YtocphglkceidhaaGreat.laysSI_ren := {
  mixed := by kernel_rfl
  f53 := ⟨Tryz.f41.name, by decide, Tryz.func41.trans (congrArg some (by kernel_rfl))⟩
  f59 := ⟨Tryz.f116.name, by decide, Tryz.func116.trans (congrArg some (by kernel_rfl))⟩
  f63 := ⟨Tryz.f79.name, by decide, Tryz.func79.trans (congrArg some (by kernel_rfl))⟩
  f64 := Tryz.func80.trans (congrArg some (by kernel_rfl))
  f68 := ⟨Tryz.f129.name, by decide, Tryz.func129.trans (congrArg some (by kernel_rfl))⟩
  f70 := ⟨Tryz.f110.name, by decide, Tryz.func110.trans (congrArg some (by kernel_rfl))⟩
  f71 := ⟨Tryz.f111.name, by decide, Tryz.func111.trans (congrArg some (by kernel_rfl))⟩
  f72 := ⟨Tryz.f112.name, by decide, Tryz.func112.trans (congrArg some (by kernel_rfl))⟩
  f73 := ⟨Tryz.f113.name, by decide, Tryz.func113.trans (congrArg some (by kernel_rfl))⟩
  f74 := ⟨Tryz.f114.name, by decide, Tryz.func114.trans (congrArg some (by kernel_rfl))⟩
  f75 := ⟨Tryz.f115.name, by decide, Tryz.func115.trans (congrArg some (by kernel_rfl))⟩
  f76 := ⟨Tryz.f117.name, by decide, Tryz.func117.trans (congrArg some (by kernel_rfl))⟩
  f77 := ⟨Tryz.f118.name, by decide, Tryz.func118.trans (congrArg some (by kernel_rfl))⟩
  f78 := Tryz.func119.trans (congrArg some (by kernel_rfl))
  f79 := Tryz.func120.trans (congrArg some (by kernel_rfl))
  f88 := ⟨Tryz.f149.name, by decide, Tryz.func149.trans (congrArg some (by kernel_rfl))⟩
  f89 := Tryz.func150.trans (congrArg some (by kernel_rfl))
  f90 := Tryz.func151.trans (congrArg some (by kernel_rfl))
  f91 := ⟨Tryz.f152.name, by decide, Tryz.func152.trans (congrArg some (by kernel_rfl))⟩
  f92 := ⟨Tryz.f153.name, by decide, Tryz.func153.trans (congrArg some (by kernel_rfl))⟩
  f96 := ⟨Tryz.f167.name, by decide, Tryz.func167.trans (congrArg some (by kernel_rfl))⟩
  t0 := Tryz.underlying0
  a0 := Tryz.isAgg0
  z0 := Tryz.sizeOf0
  v0 := Tryz.zeroValue0
  t3 := Tryz.underlying3
  a3 := Tryz.isAgg3
  z3 := Tryz.sizeOf3
  v3 := Tryz.zeroValue3
  t4 := Tryz.underlying4
  a4 := Tryz.isAgg4
  z4 := Tryz.sizeOf4
  v4 := Tryz.zeroValue4
  t5 := Tryz.underlying5
  a5 := Tryz.isAgg5
  z5 := Tryz.sizeOf5
  v5 := Tryz.zeroValue5
  t9 := Tryz.underlying9
  a9 := Tryz.isAgg9
  z9 := Tryz.sizeOf9
  v9 := Tryz.zeroValue9
  t22 := Tryz.underlying23
  a22 := Tryz.isAgg23
  z22 := Tryz.sizeOf23
  v22 := Tryz.zeroValue23
  t23 := Tryz.underlying3
  a23 := Tryz.isAgg3
  z23 := Tryz.sizeOf3
  v23 := Tryz.zeroValue3
  t44 := Tryz.underlying141
  a44 := Tryz.isAgg141
  z44 := Tryz.sizeOf141
  v44 := Tryz.zeroValue141
  t51 := Tryz.underlying113
  a51 := Tryz.isAgg113
  z51 := Tryz.sizeOf113
  v51 := Tryz.zeroValue113
  t60 := Tryz.underlying135
  a60 := Tryz.isAgg135
  z60 := Tryz.sizeOf135
  v60 := Tryz.zeroValue135
  t61 := Tryz.underlying136
  a61 := Tryz.isAgg136
  z61 := Tryz.sizeOf136
  v61 := Tryz.zeroValue136
  t67 := Tryz.underlying144
  a67 := Tryz.isAgg144
  z67 := Tryz.sizeOf144
  v67 := Tryz.zeroValue144
  t69 := Tryz.underlying146
  a69 := Tryz.isAgg146
  z69 := Tryz.sizeOf146
  v69 := Tryz.zeroValue146
  t75 := Tryz.underlying161
  a75 := Tryz.isAgg161
  z75 := Tryz.sizeOf161
  v75 := Tryz.zeroValue161
  t79 := Tryz.underlying165
  a79 := Tryz.isAgg165
  z79 := Tryz.sizeOf165
  v79 := Tryz.zeroValue165
  t83 := Tryz.underlying177
  a83 := Tryz.isAgg177
  z83 := Tryz.sizeOf177
  v83 := Tryz.zeroValue177
  t84 := Tryz.underlying178
  a84 := Tryz.isAgg178
  z84 := Tryz.sizeOf178
  v84 := Tryz.zeroValue178 }
end Go.Proofs
namespace Go.Proofs.YtocphglkceidhaaGreat
open Go.Ahl
set_option maxRecDepth 20000 in
theorem sortI_spec (id : Nat) (l : List Int) (σ : Store) (hσ : σ[id]? = some (.row (l.map ai))) (hlen : l.length < 4611686018427387904) :
    ACalls Tryz.prog 41 [.ref id 1 0 l.length] σ fun r σ' => r = .tuple [] ∧ σ' = σ.set id (.row ((Ahl.sortI l).map ai)) :=
  sortInts laysSI (fn := Tryz.f41) Tryz.func41 (by kernel_rfl) (by decide) id l σ hσ hlen
/-- The facts that effects make true, each once; and those that they make false. -/
def addOf (s : List Int) (es : List FEff) : List Int := es.foldl (fun l e => if condHolds s e.when_ && !e.lit.neg then insI l e.lit.fact else l) []
def dropOf (s : List Int) (es : List FEff) : List Int := es.foldl (fun l e => if condHolds s e.when_ && e.lit.neg then insI l e.lit.fact else l) []
theorem addOf_app (s : List Int) (es : List FEff) (e : FEff) : addOf s (es ++ [e]) = if condHolds s e.when_ && !e.lit.neg then insI (addOf s es) e.lit.fact else addOf s es := by unfold addOf; rw [List.foldl_append]; rfl
theorem dropOf_app (s : List Int) (es : List FEff) (e : FEff) : dropOf s (es ++ [e]) = if condHolds s e.when_ && e.lit.neg then insI (dropOf s es) e.lit.fact else dropOf s es := by unfold dropOf; rw [List.foldl_append]; rfl
/-- What stays of a state. -/
def stayS (s : List Int) (es : List FEff) (x : Int) : Bool := !((dropOf s es).contains x) || (addOf s es).contains x
def afterS (s : List Int) (es : List FEff) : List Int := Ahl.sortI (s.filter (stayS s es) ++ (addOf s es).filter fun x => !(s.contains x))
theorem addOf_len (s : List Int) : ∀ es : List FEff, (addOf s es).length ≤ es.length := by
  intro es
  suffices h : ∀ (es : List FEff) (l : List Int), (es.foldl (fun l e => if condHolds s e.when_ && !e.lit.neg then insI l e.lit.fact else l) l).length ≤ l.length + es.length by
    have := h es []; simpa [addOf] using this
  intro es
  induction es with
  | nil => intro l; simp
  | cons e es ih =>
    intro l
    rw [List.foldl_cons]
    refine Nat.le_trans (ih _) ?_
    split
    · unfold insI; split
      · simp
      · simp only [List.length_append, List.length_cons, List.length_nil]; omega
    · simp
theorem map_ai (l : List Int) : (l.map Ahl.encI).flatten = l.map ai := by
  induction l with
  | nil => rfl
  | cons x l ih => rw [List.map_cons, List.flatten_cons, ih]; rfl
def c_sAfter : CCode := .seq (.ops [⟨some 3, .box (.tmp 1), none, []⟩, ⟨some 4, .move (.lit (.slice .nil [])), none, []⟩]) (.seq (.ops [⟨some 13, .mkmap, none, []⟩, ⟨some 14, .mkmap, none, []⟩, ⟨some 5, .move (.tmp 13), none, []⟩, ⟨some 6, .move (.tmp 14), none, []⟩]) (.seq (.seq (.ops [⟨some 15, .faddr 3 (.tmp 3), none, []⟩, ⟨some 16, .load none (.tmp 15), none, []⟩, ⟨some 17, .blen 1 (.tmp 16), none, []⟩, ⟨some 18, .move (.lit (.int .i64 0)), none, []⟩]) (.block 0 (.loop (.seq (.ops [⟨some 19, .bin .lss .none (.tmp 18) (.tmp 17), none, []⟩]) (.seq (.cond (.tmp 19) .skip (.exit 0)) (.seq (.block 1 (.seq (.ops [⟨some 20, .iaddr 3 (.tmp 16) (.tmp 18), none, []⟩, ⟨some 21, .load (some 3) (.tmp 20), none, []⟩, ⟨some 8, .alloc (.agg [.slice .nil [], .int .i64 0, .bool false]), none, []⟩, ⟨none, .store 3 (.tmp 8) (.tmp 21), none, []⟩]) (.seq (.ops [⟨some 22, .move (.tmp 0), none, []⟩, ⟨some 23, .faddr 0 (.tmp 8), none, []⟩, ⟨some 24, .load none (.tmp 23), none, []⟩, ⟨some 25, .call (.lit (.func 108 [])) [.tmp 22, .tmp 24], none, []⟩]) (.cond (.tmp 25) (.seq (.ops [⟨some 26, .faddr 1 (.tmp 8), none, []⟩, ⟨some 27, .faddr 1 (.tmp 26), none, []⟩, ⟨some 28, .load none (.tmp 27), none, []⟩]) (.cond (.tmp 28) (.ops [⟨some 29, .move (.tmp 6), none, []⟩, ⟨some 30, .faddr 1 (.tmp 8), none, []⟩, ⟨some 31, .faddr 0 (.tmp 30), none, []⟩, ⟨some 32, .load none (.tmp 31), none, []⟩, ⟨none, .mapup false (.tmp 29) (.tmp 32) (.lit (.bool true)), none, []⟩]) (.ops [⟨some 33, .move (.tmp 5), none, []⟩, ⟨some 34, .faddr 1 (.tmp 8), none, []⟩, ⟨some 35, .faddr 0 (.tmp 34), none, []⟩, ⟨some 36, .load none (.tmp 35), none, []⟩, ⟨none, .mapup false (.tmp 33) (.tmp 36) (.lit (.bool true)), none, []⟩]))) .skip)))) (.ops [⟨some 37, .bin .add .none (.tmp 18) (.lit (.int .i64 1)), none, []⟩, ⟨some 18, .move (.tmp 37), none, []⟩]))))))) (.seq (.ops [⟨some 9, .move (.lit (.slice .nil [])), none, []⟩]) (.seq (.seq (.ops [⟨some 38, .move (.tmp 0), none, []⟩, ⟨some 39, .blen 1 (.tmp 38), none, []⟩, ⟨some 40, .move (.lit (.int .i64 0)), none, []⟩]) (.block 2 (.loop (.seq (.ops [⟨some 41, .bin .lss .none (.tmp 40) (.tmp 39), none, []⟩]) (.seq (.cond (.tmp 41) .skip (.exit 2)) (.seq (.block 3 (.seq (.ops [⟨some 42, .iaddr 1 (.tmp 38) (.tmp 40), none, []⟩, ⟨some 43, .load none (.tmp 42), none, []⟩, ⟨some 11, .move (.tmp 43), none, []⟩]) (.seq (.ops [⟨some 44, .move (.tmp 6), none, []⟩, ⟨some 45, .move (.tmp 11), none, []⟩, ⟨some 46, .lookup false (.bool false) (.tmp 44) (.tmp 45) false, none, []⟩, ⟨some 47, .un .not (.tmp 46), none, []⟩, ⟨some 48, .move (.tmp 47), none, []⟩, ⟨some 49, .move (.tmp 5), some (some 48, false), []⟩, ⟨some 50, .move (.tmp 11), some (some 48, false), []⟩, ⟨some 51, .lookup false (.bool false) (.tmp 49) (.tmp 50) false, some (some 48, false), []⟩, ⟨some 52, .pick (.tmp 48) (.lit (.bool true)) (.tmp 51), none, []⟩]) (.cond (.tmp 52) (.ops [⟨some 53, .move (.tmp 9), none, []⟩, ⟨some 54, .move (.tmp 11), none, []⟩, ⟨some 55, .bslice 1 [.tmp 54] false, none, []⟩, ⟨some 56, .bappend 1 8 (.tmp 53) (.tmp 55) false, none, []⟩, ⟨some 9, .move (.tmp 56), none, []⟩]) .skip)))) (.ops [⟨some 57, .bin .add .none (.tmp 40) (.lit (.int .i64 1)), none, []⟩, ⟨some 40, .move (.tmp 57), none, []⟩]))))))) (.seq (.seq (.ops [⟨some 58, .move (.tmp 5), none, []⟩, ⟨some 59, .rng (.tmp 58), none, []⟩]) (.block 4 (.loop (.seq (.ops [⟨some 60, .nxt (.tmp 59), none, []⟩, ⟨some 61, .extract (.tmp 60) 0, none, []⟩]) (.seq (.cond (.tmp 61) .skip (.exit 4)) (.block 5 (.seq (.ops [⟨some 62, .ent (.tmp 59), none, []⟩, ⟨some 63, .extract (.tmp 62) 0, none, []⟩, ⟨some 12, .move (.tmp 63), none, []⟩]) (.seq (.ops [⟨some 64, .move (.tmp 0), none, []⟩, ⟨some 65, .move (.tmp 12), none, []⟩, ⟨some 66, .call (.lit (.func 145 [])) [.tmp 64, .tmp 65], none, []⟩, ⟨some 67, .un .not (.tmp 66), none, []⟩]) (.cond (.tmp 67) (.ops [⟨some 68, .move (.tmp 9), none, []⟩, ⟨some 69, .move (.tmp 12), none, []⟩, ⟨some 70, .bslice 1 [.tmp 69] false, none, []⟩, ⟨some 71, .bappend 1 8 (.tmp 68) (.tmp 70) false, none, []⟩, ⟨some 9, .move (.tmp 71), none, []⟩]) .skip))))))))) (.seq (.ops [⟨some 72, .move (.tmp 9), none, []⟩, ⟨some 73, .call (.lit (.func 41 [])) [.tmp 72], none, []⟩]) (.seq (.ops [⟨some 74, .move (.tmp 9), none, []⟩, ⟨some 4, .move (.tmp 74), none, []⟩]) .ret)))))))
set_option maxRecDepth 20000 in
set_option maxHeartbeats 2000000 in
theorem sAfter_spec (s : List Int) (a : FAct) (tok : Tok) (σ : Store) (hl : s.length ≤ 1000000) (hs : s.Pairwise (· < ·)) (he : a.effects.length ≤ 1000000) (hwh : ∀ e ∈ a.effects, e.when_.length ≤ 140737488355328) :
    ACalls Tryz.prog 135 [.slice tok (s.map Ahl.encI), .agg (encA a)] σ (isR (.slice .unk ((afterS s a.effects).map Ahl.encI)) σ) := by
  refine ACalls.intro (rs := [(.tmp 4)]) (by kernel_rfl) { own := [], ghosts := [] } Tryz.func135 (c := Tryz.f135.body.getD .skip) (by kernel_rfl) (by decide) (by rw [show Tryz.f135.ntmps = 75 by kernel_rfl]; exact Nat.le_of_ble_eq_true rfl) (by kernel_rfl) ?_
  intro hσ hids
  rw [show comp Tryz.prog { own := [], ghosts := [] } (Tryz.f135.body.getD .skip) = c_sAfter by kernel_rfl, show Tryz.f135.ntmps = 75 by kernel_rfl]
  unfold c_sAfter
  have hil : Ids σ.length (.slice tok (s.map Ahl.encI)) := hids _ (by simp)
  have hS1 : ∀ x y, IdsS (σ ++ [AObj.row (encA a), .map (encSI x), .map (encSI y)]).length (σ ++ [AObj.row (encA a), .map (encSI x), .map (encSI y)]) := fun x y => idsS_app _ hσ (all_cons' (idsO_row (ids_encA a)) (all_cons' (ids_encSI _) (all_cons' (ids_encSI _) all_nil')))
  simp only [go_sem, Int.reduceToNat, Int.reduceLE, Int.reduceLT, Nat.reduceBEq, Nat.reduceLT, Nat.reduceAdd, Nat.reduceLeDiff, encA]
  refine wpc_while (fun i => [(0, .slice tok (s.map Ahl.encI)), (5, .map (σ.length + 1)), (6, .map (σ.length + 2)), (16, .slice .unk (a.effects.map encE)), (17, .int .i64 a.effects.length), (18, .int .i64 (i : Nat))])
    (fun i => σ ++ [.row (encA a), .map (encSI (addOf s (a.effects.take i))), .map (encSI (dropOf s (a.effects.take i)))])
    (fun i => i ≤ a.effects.length) (fun i => a.effects.length - i) 0 (Nat.zero_le _) (by (try dsimp only); first | exact ghL (hS1 [] []) | exact ghL0 (hS1 [] [])) ?_
  rintro i hi K hK hE hR
  by_cases h : i < a.effects.length
  · obtain ⟨y, hx⟩ := get_ex h; have hlt : ((i : Int) < (a.effects.length : Int)) := (by omega); have hw : IntKind.i64.wrap ((i : Int) + 1) = ((i + 1 : Nat) : Int) := (by rw [wrap_ok (by omega)]; omega)
    simp only [go_sem, Int.reduceToNat, Int.reduceLE, Int.reduceLT, Nat.reduceBEq, Nat.reduceLT, Nat.reduceAdd, Nat.reduceLeDiff, hlt, hx, encE]
    refine (sTrue_spec s y.when_ tok .unk _ (by omega) hs (hwh y (List.mem_of_getElem? hx))).is ?_
    cases h1 : condHolds s y.when_
    · simp only [go_sem, Int.reduceToNat, Int.reduceLE, Int.reduceLT, Nat.reduceBEq, Nat.reduceLT, Nat.reduceAdd, Nat.reduceLeDiff]
      have e1 : addOf s (a.effects.take (i + 1)) = addOf s (a.effects.take i) := by rw [take_succ' hx, addOf_app, h1]; rfl
      have e2 : dropOf s (a.effects.take (i + 1)) = dropOf s (a.effects.take i) := by rw [take_succ' hx, dropOf_app, h1]; rfl
      rw [← e1, ← e2]
      refine hK _ _ (i + 1) (by omega) (by first | omega | (simp only []; omega) | (simp; omega)) ?_; (try dsimp only); (try simp only [ hw]); first | exact ghL (hS1 _ _) | exact ghL0 (hS1 _ _)
    · have h1t := h1
      cases hn : y.lit.neg
      · have e2 : dropOf s (a.effects.take (i + 1)) = dropOf s (a.effects.take i) := by rw [take_succ' hx, dropOf_app, h1, hn]; rfl
        rw [← e2]
        cases hc : (addOf s (a.effects.take i)).contains y.lit.fact
        · have hj := findI_out _ _ 0 hc
          have e1 : addOf s (a.effects.take (i + 1)) = addOf s (a.effects.take i) ++ [y.lit.fact] := by rw [take_succ' hx, addOf_app, h1, hn]; simp only [Bool.not_false, Bool.and_self, if_true, insI, hc, Bool.false_eq_true, if_false]
          simp only [go_sem, Int.reduceToNat, Int.reduceLE, Int.reduceLT, Nat.reduceBEq, Nat.reduceLT, Nat.reduceAdd, Nat.reduceLeDiff, encE, hn, hj, encSI_app, ← e1]
          refine hK _ _ (i + 1) (by omega) (by first | omega | (simp only []; omega) | (simp; omega)) ?_; (try dsimp only); (try simp only [ hw]); first | exact ghL (hS1 _ _) | exact ghL0 (hS1 _ _)
        · obtain ⟨j, hj, hjx⟩ := findI_in _ _ 0 hc
          have e1 : addOf s (a.effects.take (i + 1)) = addOf s (a.effects.take i) := by rw [take_succ' hx, addOf_app, h1, hn]; simp only [Bool.not_false, Bool.and_self, if_true, insI, hc]
          simp only [go_sem, Int.reduceToNat, Int.reduceLE, Int.reduceLT, Nat.reduceBEq, Nat.reduceLT, Nat.reduceAdd, Nat.reduceLeDiff, encE, hn, hj, Nat.zero_add, encSI_set hjx]
          rw [← e1]
          refine hK _ _ (i + 1) (by omega) (by first | omega | (simp only []; omega) | (simp; omega)) ?_; (try dsimp only); (try simp only [ hw]); first | exact ghL (hS1 _ _) | exact ghL0 (hS1 _ _)
      · have e1 : addOf s (a.effects.take (i + 1)) = addOf s (a.effects.take i) := by rw [take_succ' hx, addOf_app, h1, hn]; rfl
        rw [← e1]
        cases hc : (dropOf s (a.effects.take i)).contains y.lit.fact
        · have hj := findI_out _ _ 0 hc
          have e2 : dropOf s (a.effects.take (i + 1)) = dropOf s (a.effects.take i) ++ [y.lit.fact] := by rw [take_succ' hx, dropOf_app, h1, hn]; simp only [Bool.and_self, if_true, insI, hc, Bool.false_eq_true, if_false]
          simp only [go_sem, Int.reduceToNat, Int.reduceLE, Int.reduceLT, Nat.reduceBEq, Nat.reduceLT, Nat.reduceAdd, Nat.reduceLeDiff, encE, hn, hj, encSI_app, ← e2]
          refine hK _ _ (i + 1) (by omega) (by first | omega | (simp only []; omega) | (simp; omega)) ?_; (try dsimp only); (try simp only [ hw]); first | exact ghL (hS1 _ _) | exact ghL0 (hS1 _ _)
        · obtain ⟨j, hj, hjx⟩ := findI_in _ _ 0 hc
          have e2 : dropOf s (a.effects.take (i + 1)) = dropOf s (a.effects.take i) := by rw [take_succ' hx, dropOf_app, h1, hn]; simp only [Bool.and_self, if_true, insI, hc]
          simp only [go_sem, Int.reduceToNat, Int.reduceLE, Int.reduceLT, Nat.reduceBEq, Nat.reduceLT, Nat.reduceAdd, Nat.reduceLeDiff, encE, hn, hj, Nat.zero_add, encSI_set hjx]
          rw [← e2]
          refine hK _ _ (i + 1) (by omega) (by first | omega | (simp only []; omega) | (simp; omega)) ?_; (try dsimp only); (try simp only [ hw]); first | exact ghL (hS1 _ _) | exact ghL0 (hS1 _ _)
  · have hlt : ¬ ((i : Int) < (a.effects.length : Int)) := by omega
    rw [List.take_of_length_le (by omega : a.effects.length ≤ i)]
    simp only [go_sem, Int.reduceToNat, Int.reduceLE, Int.reduceLT, Nat.reduceBEq, Nat.reduceLT, Nat.reduceAdd, Nat.reduceLeDiff, hlt, hE]
    clear hK hE hR
    obtain ⟨S, hS⟩ : ∃ S, S = σ ++ [.row (encA a), .map (encSI (addOf s a.effects)), .map (encSI (dropOf s a.effects))] := ⟨_, rfl⟩
    have hSs : IdsS S.length S := by rw [hS]; exact hS1 _ _
    have hA : ∀ t, (S ++ t)[σ.length + 1]? = some (.map (encSI (addOf s a.effects))) := fun t => by rw [hS, List.append_assoc, List.getElem?_append_right (by omega), Nat.add_sub_cancel_left]; rfl
    have hD : ∀ t, (S ++ t)[σ.length + 2]? = some (.map (encSI (dropOf s a.effects))) := fun t => by rw [hS, List.append_assoc, List.getElem?_append_right (by omega), Nat.add_sub_cancel_left]; rfl
    have hSl : S.length = σ.length + 3 := by rw [hS]; simp
    have htk : S.take σ.length = σ := by rw [hS]; simp
    rw [← hS]
    have hS2 : ∀ w : List Int, IdsS (S ++ [AObj.row (w.map ai)]).length (S ++ [AObj.row (w.map ai)]) := fun w => idsS_push hSs (ids_ai w)
    refine wpc_while (fun i => [(0, .slice tok (s.map Ahl.encI)), (5, .map (σ.length + 1)), (6, .map (σ.length + 2)), (9, .ref S.length 1 0 ((s.take i).filter (stayS s a.effects)).length), (38, .slice tok (s.map Ahl.encI)), (39, .int .i64 s.length), (40, .int .i64 (i : Nat))])
      (fun i => S ++ [.row (((s.take i).filter (stayS s a.effects)).map ai)]) (fun i => i ≤ s.length) (fun i => s.length - i) 0 (Nat.zero_le _) (by
        refine Ghost.trans (Ghost.row0 9 1 0 (.inl rfl)) ?_
        exact ghP0 (hS2 [])) ?_
    rintro i hi K hK hE hR
    by_cases h : i < s.length
    · obtain ⟨x, hx⟩ := get_ex h; have hlt : ((i : Int) < (s.length : Int)) := (by omega); have hw : IntKind.i64.wrap ((i : Int) + 1) = ((i + 1 : Nat) : Int) := (by rw [wrap_ok (by omega)]; omega)
      have hst : stayS s a.effects x = (!((dropOf s a.effects).contains x) || (addOf s a.effects).contains x) := rfl
      have hle : ((s.take i).filter (stayS s a.effects)).length ≤ i := Nat.le_trans (List.length_filter_le _ _) (by simp; omega)
      have hbig : bigLen (((s.take i).filter (stayS s a.effects)).length + 1) 8 := big_ok (by omega) (by omega)
      have e0 : stayS s a.effects x = false → (s.take (i + 1)).filter (stayS s a.effects) = (s.take i).filter (stayS s a.effects) := fun q => by rw [take_succ' hx, List.filter_append, List.filter_cons, q]; simp
      have e1 : stayS s a.effects x = true → (s.take (i + 1)).filter (stayS s a.effects) = (s.take i).filter (stayS s a.effects) ++ [x] := fun q => by rw [take_succ' hx, List.filter_append, List.filter_cons, q]; simp
      cases hd : (dropOf s a.effects).contains x
      · have hj := findI_out _ _ 0 hd
        have e1 := e1 (by rw [hst, hd]; rfl)
        simp only [go_sem, Int.reduceToNat, Int.reduceLE, Int.reduceLT, Nat.reduceBEq, Nat.reduceLT, Nat.reduceAdd, Nat.reduceLeDiff, hlt, hx, Ahl.encI, hD, hj, hbig]
        have hf : ((s.take i).filter (stayS s a.effects)).map ai ++ [[AV.int .i64 x]].flatten = ((s.take (i + 1)).filter (stayS s a.effects)).map ai := by rw [e1, List.map_append]; rfl
        have hn : ((s.take i).filter (stayS s a.effects)).length + 1 = ((s.take (i + 1)).filter (stayS s a.effects)).length := by rw [e1]; simp
        rw [hf, hn, hw]
        refine hK _ _ (i + 1) (by omega) (by omega) ?_
        (try dsimp only)
        exact ghPM 2 (hio := ids_ai _)
      · obtain ⟨j, hj, _⟩ := findI_in _ _ 0 hd
        cases hc : (addOf s a.effects).contains x
        · have hk := findI_out _ _ 0 hc
          have e0 := e0 (by rw [hst, hd, hc]; rfl)
          simp only [go_sem, Int.reduceToNat, Int.reduceLE, Int.reduceLT, Nat.reduceBEq, Nat.reduceLT, Nat.reduceAdd, Nat.reduceLeDiff, hlt, hx, Ahl.encI, hD, hj, hA, hk]
          refine hK _ _ (i + 1) (by omega) (by omega) ?_
          (try dsimp only)
          rw [hw, e0]
          exact ghP0 (hS2 _)
        · obtain ⟨k, hk, _⟩ := findI_in _ _ 0 hc
          have e1 := e1 (by rw [hst, hd, hc]; rfl)
          simp only [go_sem, Int.reduceToNat, Int.reduceLE, Int.reduceLT, Nat.reduceBEq, Nat.reduceLT, Nat.reduceAdd, Nat.reduceLeDiff, hlt, hx, Ahl.encI, hD, hj, hA, hk, hbig]
          have hf : ((s.take i).filter (stayS s a.effects)).map ai ++ [[AV.int .i64 x]].flatten = ((s.take (i + 1)).filter (stayS s a.effects)).map ai := by rw [e1, List.map_append]; rfl
          have hn : ((s.take i).filter (stayS s a.effects)).length + 1 = ((s.take (i + 1)).filter (stayS s a.effects)).length := by rw [e1]; simp
          rw [hf, hn, hw]
          refine hK _ _ (i + 1) (by omega) (by omega) ?_
          (try dsimp only)
          exact ghPM 2 (hio := ids_ai _)
    · have hlt : ¬ ((i : Int) < (s.length : Int)) := by omega
      rw [List.take_of_length_le (by omega : s.length ≤ i)]
      have hset : ∀ t, (S ++ t).set (σ.length + 1) .dead = S.set (σ.length + 1) .dead ++ t := fun t => List.set_append_left _ _ (by omega)
      simp only [go_sem, Int.reduceToNat, Int.reduceLE, Int.reduceLT, Nat.reduceBEq, Nat.reduceLT, Nat.reduceAdd, Nat.reduceLeDiff, hlt, hE, hA, hset]
      clear hK hE hR
      obtain ⟨S', hS'⟩ : ∃ S', S' = S.set (σ.length + 1) .dead := ⟨_, rfl⟩
      have hl' : S'.length = S.length := by rw [hS', List.length_set]
      have htk' : S'.take σ.length = σ := by rw [hS', List.take_set_of_le (by omega), htk]
      have hSs' : IdsS S'.length S' := by rw [hl', hS']; exact idsS_dead hSs _
      rw [← hS']
      clear hset hS' hA hD hS2
      obtain ⟨A, hAe⟩ : ∃ A, A = addOf s a.effects := ⟨_, rfl⟩
      have hAl : A.length ≤ 1000000 := by rw [hAe]; exact Nat.le_trans (addOf_len s _) he
      rw [← hAe]
      obtain ⟨T, hT⟩ : ∃ T : List Nat → Store, ∀ l, T l = S' ++ [.dead, .iter (encSI A) l] := ⟨_, fun _ => rfl⟩
      have hTl : ∀ l, (T l).length = S.length + 2 := fun l => by rw [hT, List.length_append, hl']; rfl
      have hTi : ∀ l t, (T l ++ t)[S.length + 1]? = some (.iter (encSI A) l) := fun l t => by rw [hT, List.append_assoc, List.getElem?_append_right (by omega), hl', Nat.add_sub_cancel_left]; rfl
      have hTs : ∀ l t k, (T l ++ t).set (S.length + 1) (.iter (encSI A) k) = T k ++ t := fun l t k => by rw [hT, hT, List.append_assoc, List.set_append_right _ _ (by omega), hl', Nat.add_sub_cancel_left]; simp
      have hTe : ∀ l x t, (T l ++ x :: t)[S.length + 2]? = some x := fun l x t => by rw [List.getElem?_append_right (by rw [hTl]; omega), hTl, Nat.sub_self]; rfl
      have hTu : ∀ l x t y, (T l ++ x :: t).set (S.length + 2) y = T l ++ y :: t := fun l x t y => by rw [List.set_append_right _ _ (by rw [hTl]; omega), hTl, Nat.sub_self]; rfl
      have hTd : ∀ l, IdsS (T l).length (T l) := fun l => by rw [hT]; exact idsS_app _ hSs' (all_cons' (by trivial) (all_cons' (ids_encSI A) all_nil'))
      have hTr : ∀ l (w : List Int), IdsS (T l ++ [AObj.row (w.map ai)]).length (T l ++ [AObj.row (w.map ai)]) := fun l w => idsS_push (hTd l) (ids_ai w)
      have hTl0 := hTl []
      obtain ⟨out, hout⟩ : ∃ out : List Nat → List Int, ∀ l, out l = s.filter (stayS s a.effects) ++ (l.filterMap fun i => A[i]?).filter fun x => !(s.contains x) := ⟨_, fun _ => rfl⟩
      have hout0 : out [] = s.filter (stayS s a.effects) := by simp [hout]
      refine wpc_while (fun l => [(0, .slice tok (s.map Ahl.encI)), (9, .ref (S.length + 2) 1 0 (out l).length), (59, .ptr (S.length + 1) 0)]) (fun l => T l ++ [.row ((out l).map ai)]) (fun l => l.Nodup ∧ ∀ i ∈ l, i < A.length) (unseen A.length) [] ⟨.nil, by simp⟩ (by
        refine Ghost.trans (Ghost.reown 9 (cells := (s.filter (stayS s a.effects)).map ai) rfl (by rw [← hl', List.getElem?_append_right (Nat.le_refl _), Nat.sub_self]; rfl)) ?_
        rw [show (S' ++ [AObj.row (List.map ai (List.filter (stayS s a.effects) s)), AObj.iter (encSI A) []]).set (List.length S) AObj.dead ++ [AObj.row (List.map ai (List.filter (stayS s a.effects) s))] = T [] ++ [.row ((out []).map ai)] by
          rw [hT, hout0, ← hl', List.set_append_right _ _ (Nat.le_refl _), Nat.sub_self]; simp, show (S' ++ [AObj.row (List.map ai (List.filter (stayS s a.effects) s)), AObj.iter (encSI A) []]).length = S.length + 2 by rw [List.length_append, hl']; rfl, ← hout0]
        exact ghP0 (hTr _ _)) ?_
      rintro l ⟨hnd, hlt⟩ K hK hE hR
      simp only [go_sem, Int.reduceToNat, Int.reduceLE, Int.reduceLT, Nat.reduceBEq, Nat.reduceLT, Nat.reduceAdd, Nat.reduceLeDiff, hTi]
      refine ⟨?_, ?_⟩
      · intro i k v hik hns
        obtain ⟨x, hx, rfl, rfl⟩ : ∃ x, A[i]? = some x ∧ k = .int .i64 x ∧ v = .bool true := by
          simp only [encSI, List.getElem?_map, Option.map_eq_some_iff] at hik
          obtain ⟨x, hx, e⟩ := hik
          injection e with e1 e2
          exact ⟨x, hx, e1.symm, e2.symm⟩
        have hiA := lt_of_get hx
        have hTl1 := hTl (l ++ [i])
        have hJ : (l ++ [i]).Nodup ∧ ∀ j ∈ l ++ [i], j < A.length := by
          refine ⟨?_, fun j hj => ?_⟩
          · rw [List.nodup_append]
            refine ⟨hnd, by simp, fun p hp q hq => ?_⟩
            simp only [List.mem_singleton] at hq; subst hq
            rintro rfl; exact hns hp
          · rcases List.mem_append.1 hj with hj | hj
            · exact hlt j hj
            · simp only [List.mem_singleton] at hj; subst hj; exact hiA
        simp only [go_sem, Int.reduceToNat, Int.reduceLE, Int.reduceLT, Nat.reduceBEq, Nat.reduceLT, Nat.reduceAdd, Nat.reduceLeDiff, hTs, hTi]
        refine ⟨l, i, rfl, ?_⟩
        rw [encSI_get hx]
        simp only [go_sem, Int.reduceToNat, Int.reduceLE, Int.reduceLT, Nat.reduceBEq, Nat.reduceLT, Nat.reduceAdd, Nat.reduceLeDiff]
        refine (shas_spec s x tok _ (by omega) hs).is ?_
        have hfm : (l ++ [i]).filterMap (fun i => A[i]?) = l.filterMap (fun i => A[i]?) ++ [x] := by rw [List.filterMap_append]; simp [hx]
        cases hc : s.contains x
        · have ho : out (l ++ [i]) = out l ++ [x] := by simp only [hout, hfm, List.filter_append, List.filter_cons, hc, Bool.not_false, if_true, List.filter_nil, List.append_assoc]
          have hol : (out l).length ≤ 2000000 := by
            have h1 := List.length_filter_le (stayS s a.effects) s
            have h2 := List.length_filter_le (fun x => !(s.contains x)) (l.filterMap fun i => A[i]?)
            have h3 := List.length_filterMap_le (fun i => A[i]?) l
            have h4 := nodup_below hnd hlt
            rw [hout, List.length_append]; omega
          have hbig : bigLen ((out l).length + 1) 8 := big_ok (by omega) (by omega)
          simp only [go_sem, Int.reduceToNat, Int.reduceLE, Int.reduceLT, Nat.reduceBEq, Nat.reduceLT, Nat.reduceAdd, Nat.reduceLeDiff, hTe, hTu, hTl, hbig]
          have hf : (out l).map ai ++ [[AV.int .i64 x]].flatten = (out (l ++ [i])).map ai := by rw [ho, List.map_append]; rfl
          have hn : (out l).length + 1 = (out (l ++ [i])).length := by rw [ho]; simp
          rw [hf, hn]
          refine hK _ _ (l ++ [i]) hJ (unseen_snoc hiA hns) ?_
          rw [← hTl1]
          exact ghPM 2 (hi := hTd _) (hio := ids_ai _)
        · have ho : out (l ++ [i]) = out l := by simp only [hout, hfm, List.filter_append, List.filter_cons, hc, Bool.not_true, Bool.false_eq_true, if_false, List.filter_nil, List.append_nil]
          simp only [go_sem, Int.reduceToNat, Int.reduceLE, Int.reduceLT, Nat.reduceBEq, Nat.reduceLT, Nat.reduceAdd, Nat.reduceLeDiff]
          refine hK _ _ (l ++ [i]) hJ (unseen_snoc hiA hns) ?_
          (try dsimp only)
          rw [ho]
          exact ghP0 (hTr _ _)
      · intro hall
        have hol : (out l).length < 4611686018427387904 := by
          have h1 := List.length_filter_le (stayS s a.effects) s
          have h2 := List.length_filter_le (fun x => !(s.contains x)) (l.filterMap fun i => A[i]?)
          have h3 := List.length_filterMap_le (fun i => A[i]?) l
          have h4 := nodup_below hnd hlt
          rw [hout, List.length_append]; omega
        have hp : (out l).Perm (s.filter (stayS s a.effects) ++ (addOf s a.effects).filter fun x => !(s.contains x)) := by
          rw [← hAe, hout]
          exact List.Perm.append_left _ ((perm_places A l hnd hlt (fun i hi => hall i (by simpa [encSI] using hi))).filter _)
        simp only [go_sem, Int.reduceToNat, Int.reduceLE, Int.reduceLT, Nat.reduceBEq, Nat.reduceLT, Nat.reduceAdd, Nat.reduceLeDiff, hE]
        refine (sortI_spec (S.length + 2) (out l) _ (hTe _ _ _) hol).mono ?_
        rintro _ _ ⟨rfl, rfl⟩
        simp only [go_sem, Int.reduceToNat, Int.reduceLE, Int.reduceLT, Nat.reduceBEq, Nat.reduceLT, Nat.reduceAdd, Nat.reduceLeDiff, hTu]
        have hTl1 := hTl l
        refine retRow (id := S.length + 2) (len := (out l).length) (l := Ahl.sortI (out l)) ?_ ?_ ?_ ?_ ?_ ?_
        · rw [hT, List.append_assoc, List.take_append_of_le_length (by omega), htk']
        · rfl
        · exact hTe _ _ _
        · exact sortI_len _
        · omega
        · exact ⟨by rw [afterS, sortI_perm_eq hp], rfl⟩
end Go.Proofs.YtocphglkceidhaaGreat
namespace Go.Proofs.YtocphglkceidhaaGreat
open Go.Ahl
def ab (b : Bool) : AV := .bool b
def genB (n : Nat) (p : Nat → Bool) : List Bool := (List.range n).map p
theorem genB_len (n : Nat) (p : Nat → Bool) : (genB n p).length = n := by simp [genB]
theorem genB_get {n : Nat} {p : Nat → Bool} {k : Nat} (h : k < n) : (genB n p)[k]? = some (p k) := by
  rw [genB, List.getElem?_map, List.getElem?_range h]; rfl
theorem genB_cong {n : Nat} {p q : Nat → Bool} (h : ∀ i, i < n → p i = q i) : genB n p = genB n q := by
  unfold genB
  exact List.map_congr_left fun i hi => h i (List.mem_range.1 hi)
theorem genB_set (n : Nat) (p : Nat → Bool) (k : Nat) (v : Bool) : (genB n p).set k v = genB n (fun i => if i = k then v else p i) := by
  apply List.ext_getElem?
  intro i
  by_cases hi : i < n
  · rw [genB_get hi]
    by_cases hk : k = i
    · subst hk
      rw [List.getElem?_set_self (by rw [genB_len]; exact hi), if_pos rfl]
    · rw [List.getElem?_set_ne hk, genB_get hi, if_neg (Ne.symm hk)]
  · rw [List.getElem?_eq_none (by rw [List.length_set, genB_len]; omega), List.getElem?_eq_none (by rw [genB_len]; omega)]
theorem bset (w : List Bool) (k : Nat) (b : Bool) : (w.map ab).set k (.bool b) = (w.set k b).map ab := by rw [List.map_set]; rfl
theorem rep_ab (n : Nat) : (List.replicate n [AV.bool false]).flatten = (genB n fun _ => false).map ab := by
  unfold genB
  induction n with
  | zero => rfl
  | succ n ih =>
    rw [List.replicate_succ', List.flatten_concat, ih, List.range_succ, List.map_append, List.map_append]; rfl
theorem ids_ab {n : Nat} (w : List Bool) : IdsO n (.row (w.map ab)) := idsO_row (by intro x hx; obtain ⟨y, _, rfl⟩ := List.mem_map.1 hx; exact .bool _)
/-- The places that are true, counted from k. -/
def listB : Nat → List Bool → List Int
  | _, [] => []
  | k, b :: r => if b then (k : Int) :: listB (k + 1) r else listB (k + 1) r
/-- Does an effect of this sign on fact i happen? -/
def hits (s : List Int) (neg : Bool) (es : List FEff) (i : Nat) : Bool := es.any fun e => (e.lit.neg == neg) && ((e.lit.fact == (i : Int)) && condHolds s e.when_)
/-- The bits after an action. -/
def afterB (n : Nat) (s : List Int) (a : FAct) : List Bool := genB n fun i => hits s false a.effects i || (s.contains (i : Int) && !hits s true a.effects i)
def afterL (n : Nat) (s : List Int) (a : FAct) : List Int := listB 0 (afterB n s a)
end Go.Proofs.YtocphglkceidhaaGreat
namespace Go.Proofs.YtocphglkceidhaaGreat
open Go.Ahl
/-! ### What the operations mean -/
/-! ### Reduced form -/
theorem reducedL_idem {n : Int} {f : List (List FLit)} (hf : vF n f) : reducedL (reducedL f) = reducedL f :=
  strict_unique (reducedL_strict _) (reducedL_strict _) fun x => by
    rw [reducedL_minimal (reducedL_V hf)]
    constructor
    · exact fun h => h.1
    · intro h
      exact ⟨h, fun m hm hw => ((reducedL_minimal hf x).1 h).2 m (reducedL_mem hm) hw⟩
/-- A formula of n facts in reduced form. -/
def RedF (n : Int) (h : List (List FLit)) : Prop := ∃ k, vF n k ∧ h = reducedL k
theorem RedF.V {n : Int} {h : List (List FLit)} (r : RedF n h) : vF n h := by obtain ⟨k, hk, rfl⟩ := r; exact reducedL_V hk
theorem RedF.good {n : Int} {h : List (List FLit)} (r : RedF n h) (hl : h.length ≤ 400) : goodB n h = true := by
  have hv := r.V
  obtain ⟨k, hk, rfl⟩ := r
  rw [goodB, isForm, refRed_eq hv, reducedL_idem hk]
  have : formB n (reducedL k) = true := List.all_eq_true.2 fun l hl => hv l hl
  rw [this]; simp [hl]
end Go.Proofs.YtocphglkceidhaaGreat
namespace Go.Proofs.YtocphglkceidhaaGreat
open Go.Ahl
/-! ### Of four facts there are 81 conditions -/
/-! ### The state after an action -/
theorem listB_mem : ∀ (w : List Bool) (k : Nat) (x : Int), x ∈ listB k w ↔ ∃ j : Nat, x = ((k + j : Nat) : Int) ∧ w[j]? = some true
  | [], k, x => by simp [listB]
  | b :: w, k, x => by
    have ih := listB_mem w (k + 1) x
    have key : x ∈ listB (k + 1) w ↔ ∃ j : Nat, x = ((k + (j + 1) : Nat) : Int) ∧ (b :: w)[j + 1]? = some true := by
      rw [ih]
      constructor
      · rintro ⟨j, h1, h2⟩; exact ⟨j, by rw [h1]; omega, by simpa using h2⟩
      · rintro ⟨j, h1, h2⟩; exact ⟨j, by rw [h1]; omega, by simpa using h2⟩
    rw [listB]
    split
    · rename_i hb
      rw [List.mem_cons, key]
      constructor
      · rintro (rfl | ⟨j, h1, h2⟩)
        · exact ⟨0, by simp, by simp [hb]⟩
        · exact ⟨j + 1, h1, h2⟩
      · rintro ⟨j, h1, h2⟩
        cases j with
        | zero => left; simpa using h1
        | succ j => right; exact ⟨j, h1, h2⟩
    · rename_i hb
      rw [key]
      constructor
      · rintro ⟨j, h1, h2⟩; exact ⟨j + 1, h1, h2⟩
      · rintro ⟨j, h1, h2⟩
        cases j with
        | zero => simp at h2; exact absurd h2 hb
        | succ j => exact ⟨j, h1, h2⟩
theorem listB_rising (n : Int) : ∀ (w : List Bool) (k : Nat) (p : Int), p < k → (k : Int) + w.length ≤ n → risingB n p (listB k w) = true
  | [], k, p, h, hn => rfl
  | b :: w, k, p, h, hn => by
    rw [List.length_cons] at hn
    rw [listB]
    split
    · rw [risingB, Bool.and_eq_true, Bool.and_eq_true]
      exact ⟨⟨by simpa using h, by simp; omega⟩, listB_rising n w (k + 1) k (by omega) (by omega)⟩
    · exact listB_rising n w (k + 1) p (by omega) (by omega)
end Go.Proofs.YtocphglkceidhaaGreat
namespace Go.Proofs.YtocphglkceidhaaGreat
open Go.Ahl
theorem foldI_mem (p : FEff → Bool) (x : Int) : ∀ (es : List FEff) (l : List Int), x ∈ es.foldl (fun l e => if p e then insI l e.lit.fact else l) l ↔ x ∈ l ∨ ∃ e ∈ es, p e = true ∧ e.lit.fact = x
  | [], l => by simp
  | e :: es, l => by
    rw [List.foldl_cons, foldI_mem p x es]
    constructor
    · rintro (h | ⟨e', he, h⟩)
      · split at h
        · rcases insI_mem.1 h with h | rfl
          · exact .inl h
          · exact .inr ⟨e, List.mem_cons_self, ‹_›, rfl⟩
        · exact .inl h
      · exact .inr ⟨e', List.mem_cons_of_mem _ he, h⟩
    · rintro (h | ⟨e', he, h1, h2⟩)
      · left; split
        · exact insI_mem.2 (.inl h)
        · exact h
      · rcases List.mem_cons.1 he with rfl | he
        · left; rw [if_pos h1]; exact insI_mem.2 (.inr h2.symm)
        · exact .inr ⟨e', he, h1, h2⟩
theorem foldI_nodup (p : FEff → Bool) : ∀ (es : List FEff) (l : List Int), l.Nodup → (es.foldl (fun l e => if p e then insI l e.lit.fact else l) l).Nodup
  | [], l, h => h
  | e :: es, l, h => by
    rw [List.foldl_cons]
    refine foldI_nodup p es _ ?_
    split
    · exact insI_nodup h
    · exact h
theorem hits_iff (s : List Int) (neg : Bool) (es : List FEff) (i : Nat) : hits s neg es i = true ↔ ∃ e ∈ es, condHolds s e.when_ = true ∧ e.lit.neg = neg ∧ e.lit.fact = (i : Int) := by
  unfold hits
  rw [List.any_eq_true]
  constructor
  · rintro ⟨e, he, h⟩
    simp only [Bool.and_eq_true, beq_iff_eq] at h
    exact ⟨e, he, h.2.2, h.1, h.2.1⟩
  · rintro ⟨e, he, h1, h2, h3⟩
    exact ⟨e, he, by simp [h1, h2, h3]⟩
theorem addOf_mem {s : List Int} {es : List FEff} {i : Nat} : (i : Int) ∈ addOf s es ↔ hits s false es i = true := by
  rw [hits_iff, addOf, foldI_mem]
  simp only [List.not_mem_nil, false_or, Bool.and_eq_true, Bool.not_eq_true']
  constructor
  · rintro ⟨e, h, ⟨h1, h2⟩, h3⟩; exact ⟨e, h, h1, h2, h3⟩
  · rintro ⟨e, h, h1, h2, h3⟩; exact ⟨e, h, ⟨h1, h2⟩, h3⟩
theorem dropOf_mem {s : List Int} {es : List FEff} {i : Nat} : (i : Int) ∈ dropOf s es ↔ hits s true es i = true := by
  rw [hits_iff, dropOf, foldI_mem]
  simp only [List.not_mem_nil, false_or, Bool.and_eq_true]
  constructor
  · rintro ⟨e, h, ⟨h1, h2⟩, h3⟩; exact ⟨e, h, h1, h2, h3⟩
  · rintro ⟨e, h, h1, h2, h3⟩; exact ⟨e, h, ⟨h1, h2⟩, h3⟩
theorem afterL_rising (n : Nat) (s : List Int) (a : FAct) : risingB n (-1) (afterL n s a) = true := listB_rising n (afterB n s a) 0 (-1) (by omega) (by rw [afterB, genB_len]; omega)
theorem afterL_mem {n : Nat} {s : List Int} {a : FAct} {i : Nat} : (i : Int) ∈ afterL n s a ↔ i < n ∧ (hits s false a.effects i = true ∨ ((i : Int) ∈ s ∧ ¬ hits s true a.effects i = true)) := by
  rw [afterL, listB_mem]
  constructor
  · rintro ⟨j, h1, h2⟩
    obtain rfl : j = i := by omega
    have hl := lt_of_get h2
    rw [afterB, genB_len] at hl
    rw [afterB, genB_get hl] at h2
    simp only [Option.some.injEq, Bool.or_eq_true, Bool.and_eq_true, Bool.not_eq_true'] at h2
    refine ⟨hl, ?_⟩
    rcases h2 with h2 | ⟨h2, h3⟩
    · exact .inl h2
    · exact .inr ⟨List.contains_iff_mem.1 h2, by rw [h3]; simp⟩
  · rintro ⟨h1, h2⟩
    refine ⟨i, by simp, ?_⟩
    rw [afterB, genB_get h1]
    simp only [Option.some.injEq, Bool.or_eq_true, Bool.and_eq_true, Bool.not_eq_true']
    rcases h2 with h2 | ⟨h2, h3⟩
    · exact .inl h2
    · exact .inr ⟨List.contains_iff_mem.2 h2, by simpa using h3⟩
/-- The program's state after an action is the reference's. -/
theorem afterS_eq {n : Nat} {s : List Int} {a : FAct} (hs : risingB n (-1) s = true) (he : ∀ e ∈ a.effects, 0 ≤ e.lit.fact ∧ e.lit.fact < n) : afterS s a.effects = afterL n s a := by
  obtain ⟨hp, hb⟩ := rising_pw hs
  have hadd : ∀ x ∈ addOf s a.effects, 0 ≤ x ∧ x < n := by
    intro x hx
    rw [addOf, foldI_mem] at hx
    rcases hx with hx | ⟨e, h, _, rfl⟩
    · simp at hx
    · exact he e h
  have hr := rising_pw (afterL_rising n s a)
  refine sortI_eq ?_ (hr.1.imp (fun h => by omega))
  have hnd : (s.filter (stayS s a.effects) ++ (addOf s a.effects).filter fun x => !(s.contains x)).Nodup := by
    rw [List.nodup_append]
    refine ⟨(hp.imp (fun h => by omega)).filter _, (foldI_nodup _ _ _ .nil).filter _, ?_⟩
    rintro x hx _ hy rfl
    have h1 := (List.mem_filter.1 hx).1
    have h2 := (List.mem_filter.1 hy).2
    rw [List.contains_iff_mem.2 h1] at h2; simp at h2
  rw [List.perm_ext_iff_of_nodup (hr.1.imp (fun h => by omega)) hnd]
  intro x
  have hx0 : (x ∈ afterL n s a → 0 ≤ x) := fun h => by have := (hr.2 x h).1; omega
  by_cases h0 : 0 ≤ x
  · obtain ⟨i, rfl⟩ : ∃ i : Nat, x = (i : Int) := ⟨x.toNat, by omega⟩
    rw [afterL_mem, List.mem_append, List.mem_filter, List.mem_filter, ← addOf_mem, ← dropOf_mem]
    have hst : stayS s a.effects (i : Int) = true ↔ ¬ (i : Int) ∈ dropOf s a.effects ∨ (i : Int) ∈ addOf s a.effects := by
      unfold stayS; simp
    rw [hst]
    have hsb : (i : Int) ∈ s → i < n := fun h => by have := (hb _ h).2; omega
    have hab : (i : Int) ∈ addOf s a.effects → i < n := fun h => by have := (hadd _ h).2; omega
    have hc : (!(s.contains (i : Int))) = true ↔ ¬ (i : Int) ∈ s := by simp
    rw [hc]
    constructor
    · rintro ⟨h1, h2 | ⟨h2, h3⟩⟩
      · by_cases h4 : (i : Int) ∈ s
        · exact .inl ⟨h4, .inr h2⟩
        · exact .inr ⟨h2, h4⟩
      · exact .inl ⟨h2, .inl h3⟩
    · rintro (⟨h1, h2⟩ | ⟨h1, h2⟩)
      · refine ⟨hsb h1, ?_⟩
        by_cases h3 : (i : Int) ∈ addOf s a.effects
        · exact .inl h3
        · exact .inr ⟨h1, h2.resolve_right h3⟩
      · exact ⟨hab h1, .inl h1⟩
  · constructor
    · intro h; exact absurd (hx0 h) h0
    · intro h
      rcases List.mem_append.1 h with h | h
      · have := (hb x (List.mem_filter.1 h).1).1; omega
      · have := (hadd x (List.mem_filter.1 h).1).1; omega
/-! ### States by numbers -/
/-- The state that a number shows. -/
def bitsL (n : Nat) (k : Nat) : List Int := ((List.range n).filter fun x => k.testBit x).map fun (x : Nat) => (x : Int)
theorem bitsL_succ (n k : Nat) : bitsL (n + 1) k = bitsL n k ++ if k.testBit n then [(n : Int)] else [] := by
  unfold bitsL
  rw [List.range_succ, List.filter_append, List.map_append]
  congr 1
  rw [List.filter_cons]
  cases k.testBit n <;> simp
theorem bitsL_low {n k j : Nat} (h : ∀ x, x < n → k.testBit x = j.testBit x) : bitsL n k = bitsL n j := by
  unfold bitsL
  congr 1
  exact List.filter_congr fun x hx => h x (List.mem_range.1 hx)
theorem bits_all : ∀ n : Nat, (List.range (2 ^ n)).map (bitsL n) = statesL n
  | 0 => rfl
  | n + 1 => by
    have ih := bits_all n
    rw [statesL, ← ih, Nat.pow_succ, Nat.mul_two, List.range_add, List.map_append, List.map_map, List.map_map]
    congr 1
    · refine List.map_congr_left fun k hk => ?_
      rw [bitsL_succ, Nat.testBit_lt_two_pow (List.mem_range.1 hk)]; simp
    · refine List.map_congr_left fun k hk => ?_
      simp only [Function.comp]
      rw [bitsL_succ, Nat.testBit_two_pow_add_eq, Nat.testBit_lt_two_pow (List.mem_range.1 hk)]
      rw [bitsL_low (k := 2 ^ n + k) (j := k) fun x hx => Nat.testBit_two_pow_add_gt hx k]; rfl
end Go.Proofs.YtocphglkceidhaaGreat
namespace Go.Proofs.YtocphglkceidhaaGreat
open Go.Ahl
/-! ### The largest set that keeps itself -/
section
variable {α : Type} (ini : α → Bool) (K : List α → α → Bool)
def goodP (l : List α) (p : α → Bool) : Prop := ∀ c ∈ l, p c = true → ini c = true ∧ K (l.filter p) c = true
def progL : Nat → List α → List α
  | 0, l => l
  | n + 1, l => if l.all (fun c => ini c && K l c) then l else progL n (l.filter fun c => ini c && K l c)
theorem filter_lt {l : List α} {p : α → Bool} (h : l.all p = false) : (l.filter p).length < l.length := by
  rcases Nat.lt_or_ge (l.filter p).length l.length with q | q
  · exact q
  · have : l.filter p = l := (List.filter_sublist).eq_of_length_le q
    rw [List.filter_eq_self] at this
    rw [List.all_eq_true.2 this] at h; simp at h
theorem progL_spec (hK : ∀ l l' c, (∀ x ∈ l, x ∈ l') → K l c = true → K l' c = true) : ∀ (n : Nat) (l : List α), l.length ≤ n → ∃ p, progL ini K n l = l.filter p ∧ goodP ini K l p ∧ ∀ q, goodP ini K l q → ∀ c ∈ l, q c = true → p c = true
  | 0, l, h => by
    have : l = [] := List.eq_nil_of_length_eq_zero (by omega)
    subst this
    exact ⟨fun _ => true, rfl, by intro c hc; simp at hc, by intro q _ c hc; simp at hc⟩
  | n + 1, l, h => by
    rw [progL]
    cases ha : l.all (fun c => ini c && K l c)
    · rw [if_neg (by simp)]
      have hlt := filter_lt ha
      obtain ⟨p', e, g, mx⟩ := progL_spec hK n (l.filter fun c => ini c && K l c) (by omega)
      have e1 : ∀ q : α → Bool, (l.filter fun c => ini c && K l c).filter q = l.filter (fun c => q c && (ini c && K l c)) := fun q => by rw [List.filter_filter]
      refine ⟨fun c => p' c && (ini c && K l c), by rw [e, e1], ?_, ?_⟩
      · intro c hc hp
        rw [← e1]
        simp only [Bool.and_eq_true] at hp
        exact g c (List.mem_filter.2 ⟨hc, by simp [hp.2]⟩) hp.1
      · intro q hq c hc hqc
        have hr : ∀ c ∈ l, q c = true → (ini c && K l c) = true := by
          intro c hc hqc
          obtain ⟨h1, h2⟩ := hq c hc hqc
          rw [h1, hK _ _ _ (fun x hx => (List.mem_filter.1 hx).1) h2]; rfl
        have hq' : goodP ini K (l.filter fun c => ini c && K l c) q := by
          intro c hc hqc
          obtain ⟨h1, h2⟩ := hq c (List.mem_filter.1 hc).1 hqc
          refine ⟨h1, ?_⟩
          rw [e1, show l.filter (fun c => q c && (ini c && K l c)) = l.filter q from List.filter_congr fun x hx => by
            cases hqx : q x
            · rfl
            · rw [hr x hx hqx]; rfl]
          exact h2
        show (p' c && (ini c && K l c)) = true
        rw [mx q hq' c (List.mem_filter.2 ⟨hc, hr c hc hqc⟩) hqc, hr c hc hqc]; rfl
    · rw [if_pos rfl]
      have hall := List.all_eq_true.1 ha
      refine ⟨fun _ => true, by rw [List.filter_eq_self.2 (fun _ _ => rfl)], ?_, fun _ _ _ _ _ => rfl⟩
      intro c hc _
      have := hall c hc
      simp only [Bool.and_eq_true] at this
      rw [List.filter_eq_self.2 (fun _ _ => rfl)]; exact this
end
/-! ### Clauses -/
def clauseT (s : List Int) (c : List FLit) : Bool := c.any fun x => s.contains x.fact != x.neg
def clausesT (s : List Int) (l : List (List FLit)) : Bool := l.all (clauseT s)
/-- Does a clause hold after an action wherever clauses hold? -/
def stepB (n : Nat) (l : List (List FLit)) (a : FAct) (c : List FLit) : Bool := (statesL n).all fun s => !(condHolds s a.pre && clausesT s l) || clauseT (afterL n s a) c
def keepB (n : Nat) (acts : List FAct) (l : List (List FLit)) (c : List FLit) : Bool := acts.all fun a => stepB n l a c
theorem keepB_mono (n : Nat) (acts : List FAct) : ∀ l l' c, (∀ x ∈ l, x ∈ l') → keepB n acts l c = true → keepB n acts l' c = true := by
  intro l l' c hll h
  unfold keepB stepB at *
  rw [List.all_eq_true] at *
  intro a ha
  have h := h a ha
  rw [List.all_eq_true] at *
  intro s hs
  have h := h s hs
  cases hc : condHolds s a.pre
  · rfl
  cases hl : clausesT s l'
  · rfl
  have : clausesT s l = true := List.all_eq_true.2 fun x hx => List.all_eq_true.1 hl x (hll x hx)
  rw [hc, this] at h; exact h
end Go.Proofs.YtocphglkceidhaaGreat
namespace Go.Proofs.YtocphglkceidhaaGreat
open Go.Ahl
/-! ### Clauses with one or two literals -/
def litI (i : Nat) : FLit := ⟨((i / 2 : Nat) : Int), i % 2 == 1⟩
def pairsFrom (n i : Nat) : List (List FLit) := ((List.range' (i + 1) (n - (i + 1))).filter fun k => i / 2 != k / 2).map fun k => [litI i, litI k]
def singles (n : Nat) : List (List FLit) := (List.range n).map fun i => [litI i]
def pairsL (n : Nat) : List (List FLit) := (List.range n).flatMap (pairsFrom n)
def hasOne (out : List (List FLit)) (x : FLit) : Bool := out.any fun d => decide (d = [x])
def leanStep (out : List (List FLit)) (c : List FLit) : List (List FLit) :=
  if c.length = 1 then out ++ [c] else match c with
    | [a, b] => if hasOne out a || hasOne out b then out else out ++ [[a, b]]
    | _ => out
/-- Those that no clause with one literal is in. -/
def leanL (out l : List (List FLit)) : List (List FLit) := l.foldl leanStep out
theorem leanStep_one {out : List (List FLit)} {c : List FLit} (h : c.length = 1) : leanStep out c = out ++ [c] := if_pos h
theorem leanStep_two (out : List (List FLit)) (a b : FLit) : leanStep out [a, b] = if hasOne out a || hasOne out b then out else out ++ [[a, b]] := rfl
theorem pairsFrom_mem {n i : Nat} {c : List FLit} : c ∈ pairsFrom n i ↔ ∃ k, i < k ∧ k < n ∧ i / 2 ≠ k / 2 ∧ c = [litI i, litI k] := by
  unfold pairsFrom
  rw [List.mem_map]
  constructor
  · rintro ⟨k, hk, rfl⟩
    rw [List.mem_filter, List.mem_range'_1] at hk
    exact ⟨k, by omega, by omega, by simpa using hk.2, rfl⟩
  · rintro ⟨k, h1, h2, h3, rfl⟩
    exact ⟨k, by rw [List.mem_filter, List.mem_range'_1]; exact ⟨by omega, by simpa using h3⟩, rfl⟩
end Go.Proofs.YtocphglkceidhaaGreat
namespace Go.Proofs.YtocphglkceidhaaGreat
open Go.Ahl
/-! ### Groups: facts that are linked, as many as there can be -/
section
variable (L : Int → Int → Bool)
def bkLoop (rec : List Int → List Int → List Int → List (List Int)) (g : List Int) : List Int → List Int → List (List Int)
  | [], _ => []
  | x :: r, tried => rec (g ++ [x]) (r.filter (L x)) (tried.filter (L x)) ++ bkLoop rec g r (tried ++ [x])
def bkHead (g may tried : List Int) : List (List Int) := if may.length = 0 ∧ tried.length = 0 ∧ 1 < g.length then [Ahl.sortI g] else []
/-- The groups that begin with g, from facts that may be added, none of those that were tried. -/
def bk : Nat → List Int → List Int → List Int → List (List Int)
  | 0, _, _, _ => []
  | f + 1, g, may, tried => bkHead g may tried ++ bkLoop L (bk f) g may tried
def bkLoopN (rec : List Int → Nat) : List Int → Nat
  | [] => 0
  | x :: r => rec (r.filter (L x)) + bkLoopN rec r
/-- How many calls that takes. -/
def bkN : Nat → List Int → Nat
  | 0, _ => 0
  | f + 1, may => 1 + bkLoopN L (bkN f) may
theorem bkN_le : ∀ (f : Nat) (may : List Int), bkN L f may ≤ 2 ^ may.length
  | 0, may => Nat.zero_le _
  | f + 1, may => by
    have h : ∀ may : List Int, bkLoopN L (bkN L f) may + 1 ≤ 2 ^ may.length := by
      intro may
      induction may with
      | nil => simp [bkLoopN]
      | cons x r ih =>
        have h1 := bkN_le f (r.filter (L x))
        have h2 : 2 ^ (r.filter (L x)).length ≤ 2 ^ r.length := Nat.pow_le_pow_right (by omega) (List.length_filter_le _ _)
        rw [bkLoopN, List.length_cons, Nat.pow_succ]; omega
    have := h may
    rw [bkN]; omega
/-- A group that no fact can be added to. -/
structure MaxC (n : Int) (s : List Int) : Prop where
  srt : s.Pairwise (· < ·)
  rng : ∀ v ∈ s, 0 ≤ v ∧ v < n
  clq : ∀ a ∈ s, ∀ b ∈ s, a ≠ b → L a b = true
  max : ∀ v, 0 ≤ v → v < n → v ∉ s → ∃ a ∈ s, L v a = false
/-- What holds where the search goes on. -/
structure BK (n : Int) (g may tried : List Int) : Prop where
  gn : g.Nodup
  gr : ∀ v ∈ g, 0 ≤ v ∧ v < n
  gc : ∀ a ∈ g, ∀ b ∈ g, a ≠ b → L a b = true
  com : ∀ v, (v ∈ may ∨ v ∈ tried) ↔ (0 ≤ v ∧ v < n ∧ v ∉ g ∧ ∀ a ∈ g, L v a = true)
  mn : may.Nodup
  dis : ∀ v ∈ may, v ∉ tried
variable {L}
theorem BK.step (hsym : ∀ a b, L a b = L b a) (hirr : ∀ a, L a a = false) {n : Int} {g r tried : List Int} {x : Int} (h : BK L n g (x :: r) tried) : BK L n (g ++ [x]) (r.filter (L x)) (tried.filter (L x)) := by
  obtain ⟨hx0, hxn, hxg, hxa⟩ := (h.com x).1 (.inl List.mem_cons_self)
  have hnd := List.nodup_cons.1 h.mn
  refine ⟨?_, ?_, ?_, ?_, hnd.2.filter _, ?_⟩
  · rw [List.nodup_append]
    refine ⟨h.gn, by simp, fun a ha b hb => ?_⟩
    simp only [List.mem_singleton] at hb; subst hb
    rintro rfl; exact hxg ha
  · intro v hv
    rcases List.mem_append.1 hv with hv | hv
    · exact h.gr v hv
    · simp only [List.mem_singleton] at hv; subst hv; exact ⟨hx0, hxn⟩
  · intro a ha b hb hab
    simp only [List.mem_append, List.mem_singleton] at ha hb
    rcases ha with ha | rfl <;> rcases hb with hb | rfl
    · exact h.gc a ha b hb hab
    · rw [hsym]; exact hxa a ha
    · exact hxa b hb
    · exact absurd rfl hab
  · intro v
    rw [List.mem_filter, List.mem_filter]
    constructor
    · intro hv
      have hL : L x v = true := by rcases hv with hv | hv <;> exact hv.2
      have hvm : v ∈ x :: r ∨ v ∈ tried := by
        rcases hv with hv | hv
        · exact .inl (List.mem_cons_of_mem _ hv.1)
        · exact .inr hv.1
      obtain ⟨h1, h2, h3, h4⟩ := (h.com v).1 hvm
      have hvx : v ≠ x := by rintro rfl; rw [hirr] at hL; simp at hL
      refine ⟨h1, h2, by simp [h3, hvx], ?_⟩
      intro a ha
      rcases List.mem_append.1 ha with ha | ha
      · exact h4 a ha
      · simp only [List.mem_singleton] at ha; subst ha; rw [hsym]; exact hL
    · rintro ⟨h1, h2, h3, h4⟩
      simp only [List.mem_append, List.mem_singleton, not_or] at h3
      have hL : L x v = true := by rw [hsym]; exact h4 x (by simp)
      rcases (h.com v).2 ⟨h1, h2, h3.1, fun a ha => h4 a (List.mem_append_left _ ha)⟩ with hv | hv
      · rcases List.mem_cons.1 hv with rfl | hv
        · exact absurd rfl h3.2
        · exact .inl ⟨hv, hL⟩
      · exact .inr ⟨hv, hL⟩
  · intro v hv hv'
    exact h.dis v (List.mem_cons_of_mem _ (List.mem_filter.1 hv).1) (List.mem_filter.1 hv').1
theorem BK.next {n : Int} {g r tried : List Int} {x : Int} (h : BK L n g (x :: r) tried) : BK L n g r (tried ++ [x]) := by
  have hnd := List.nodup_cons.1 h.mn
  refine ⟨h.gn, h.gr, h.gc, fun v => ?_, hnd.2, fun v hv hv' => ?_⟩
  · rw [← h.com v]
    simp only [List.mem_cons, List.mem_append, List.not_mem_nil, or_false]
    constructor
    · rintro (h | h | h)
      · exact .inl (.inr h)
      · exact .inr h
      · exact .inl (.inl h)
    · rintro ((h | h) | h)
      · exact .inr (.inr h)
      · exact .inl h
      · exact .inr (.inl h)
  · rcases List.mem_append.1 hv' with h' | h'
    · exact h.dis v (List.mem_cons_of_mem _ hv) h'
    · simp only [List.mem_singleton] at h'; subst h'; exact hnd.1 hv
def Aim (L : Int → Int → Bool) (n : Int) (g may s : List Int) : Prop := MaxC L n s ∧ (∀ a ∈ g, a ∈ s) ∧ (∀ v ∈ s, v ∈ g ∨ v ∈ may) ∧ 2 ≤ s.length
theorem bkHead_mem (hsym : ∀ a b, L a b = L b a) (hirr : ∀ a, L a a = false) {n : Int} {g may tried s : List Int} (h : BK L n g may tried) : s ∈ bkHead g may tried ↔ Aim L n g may s ∧ may = [] := by
  unfold bkHead
  constructor
  · intro hs
    split at hs
    · rename_i hc
      obtain ⟨h1, h2, h3⟩ := hc
      have h1 := List.eq_nil_of_length_eq_zero h1
      have h2 := List.eq_nil_of_length_eq_zero h2
      simp only [List.mem_singleton] at hs
      subst hs; subst h1; subst h2
      have hp := sortI_perm g
      refine ⟨⟨⟨?_, ?_, ?_, ?_⟩, fun a ha => hp.mem_iff.2 ha, fun v hv => .inl (hp.mem_iff.1 hv), by rw [sortI_len]; omega⟩, rfl⟩
      · have hs := sortI_sorted g
        have hn : (Ahl.sortI g).Nodup := hp.nodup_iff.2 h.gn
        exact hs.imp₂ (fun a b h1 h2 => by omega) hn
      · intro v hv; exact h.gr v (hp.mem_iff.1 hv)
      · intro a ha b hb; exact h.gc a (hp.mem_iff.1 ha) b (hp.mem_iff.1 hb)
      · intro v h0 hn hv
        have hc := (h.com v).2
        simp only [List.not_mem_nil, or_self, imp_false, not_and] at hc
        have := hc h0 hn (fun q => hv (hp.mem_iff.2 q))
        simp only [Classical.not_forall] at this
        obtain ⟨a, ha, hl⟩ := this
        exact ⟨a, hp.mem_iff.2 ha, by simpa using hl⟩
    · simp at hs
  · rintro ⟨⟨hm, hg, hv, hl⟩, rfl⟩
    have hv : ∀ v ∈ s, v ∈ g := fun v q => by rcases hv v q with q | q; exact q; simp at q
    have hsn : s.Nodup := hm.srt.imp (fun h => by omega)
    have hp : s.Perm g := (List.perm_ext_iff_of_nodup hsn h.gn).2 fun v => ⟨hv v, hg v⟩
    have ht : tried = [] := by
      cases tried with
      | nil => rfl
      | cons y t =>
        obtain ⟨h1, h2, h3, h4⟩ := (h.com y).1 (.inr List.mem_cons_self)
        obtain ⟨a, ha, hl⟩ := hm.max y h1 h2 (fun q => h3 (hv y q))
        rw [h4 a (hv a ha)] at hl; simp at hl
    subst ht
    rw [if_pos ⟨rfl, rfl, by rw [← hp.length_eq]; omega⟩]
    simp only [List.mem_singleton]
    exact (sortI_eq hp (hm.srt.imp (fun h => by omega))).symm
theorem bk_mem (hsym : ∀ a b, L a b = L b a) (hirr : ∀ a, L a a = false) (n : Int) : ∀ (f : Nat) (g may tried : List Int), may.length < f → BK L n g may tried → ∀ s, s ∈ bk L f g may tried ↔ Aim L n g may s
  | 0, _, _, _, h, _, _ => absurd h (Nat.not_lt_zero _)
  | f + 1, g, may, tried, hf, h, s => by
    have loop : ∀ (may tried : List Int), may.length ≤ f → BK L n g may tried → (s ∈ bkLoop L (bk L f) g may tried ↔ Aim L n g may s ∧ ∃ v ∈ may, v ∈ s) := by
      intro may
      induction may with
      | nil => intro tried _ _; simp [bkLoop]
      | cons x r ih =>
        intro tried hl hb
        rw [List.length_cons] at hl
        have hb1 := BK.step hsym hirr hb
        have hb2 := BK.next hb
        obtain ⟨hx0, hxn, hxg, hxa⟩ := (hb.com x).1 (.inl List.mem_cons_self)
        rw [bkLoop, List.mem_append, bk_mem hsym hirr n f (g ++ [x]) (r.filter (L x)) (tried.filter (L x)) (Nat.lt_of_le_of_lt (List.length_filter_le _ _) (by omega)) hb1 s, ih (tried ++ [x]) (by omega) hb2]
        constructor
        · rintro (⟨h1, h2, h3, h4⟩ | ⟨⟨h1, h2, h3, h4⟩, v, h5, h6⟩)
          · refine ⟨⟨h1, fun a ha => h2 a (List.mem_append_left _ ha), fun v hv => ?_, h4⟩, x, List.mem_cons_self, h2 x (by simp)⟩
            rcases h3 v hv with q | q
            · rcases List.mem_append.1 q with q | q
              · exact .inl q
              · simp only [List.mem_singleton] at q; subst q; exact .inr List.mem_cons_self
            · exact .inr (List.mem_cons_of_mem _ (List.mem_filter.1 q).1)
          · refine ⟨⟨h1, h2, fun v hv => ?_, h4⟩, v, List.mem_cons_of_mem _ h5, h6⟩
            rcases h3 v hv with q | q
            · exact .inl q
            · exact .inr (List.mem_cons_of_mem _ q)
        · rintro ⟨⟨h1, h2, h3, h4⟩, v, h5, h6⟩
          by_cases hxs : x ∈ s
          · left
            refine ⟨h1, fun a ha => ?_, fun v hv => ?_, h4⟩
            · rcases List.mem_append.1 ha with q | q
              · exact h2 a q
              · simp only [List.mem_singleton] at q; subst q; exact hxs
            · rcases h3 v hv with q | q
              · exact .inl (List.mem_append_left _ q)
              · rcases List.mem_cons.1 q with rfl | q
                · exact .inl (by simp)
                · have hvx : x ≠ v := by rintro rfl; exact (List.nodup_cons.1 hb.mn).1 q
                  exact .inr (List.mem_filter.2 ⟨q, h1.clq x hxs v hv hvx⟩)
          · right
            have hr : ∀ v ∈ s, v ∈ x :: r → v ∈ r := fun v hv q => by
              rcases List.mem_cons.1 q with rfl | q
              · exact absurd hv hxs
              · exact q
            exact ⟨⟨h1, h2, fun v hv => (h3 v hv).imp id (hr v hv), h4⟩, v, hr v h6 h5, h6⟩
    rw [bk, List.mem_append, bkHead_mem hsym hirr h, loop may tried (by omega) h]
    constructor
    · rintro (⟨q, _⟩ | ⟨q, _⟩) <;> exact q
    · intro q
      cases may with
      | nil => exact .inl ⟨q, rfl⟩
      | cons x r =>
        refine .inr ⟨q, ?_⟩
        obtain ⟨hx0, hxn, hxg, hxa⟩ := (h.com x).1 (.inl List.mem_cons_self)
        by_cases hxs : x ∈ s
        · exact ⟨x, List.mem_cons_self, hxs⟩
        · obtain ⟨a, ha, hl⟩ := q.1.max x hx0 hxn hxs
          rcases q.2.2.1 a ha with hag | ham
          · rw [hxa a hag] at hl; simp at hl
          · exact ⟨a, ham, ha⟩
theorem bk_nodup (hsym : ∀ a b, L a b = L b a) (hirr : ∀ a, L a a = false) (n : Int) : ∀ (f : Nat) (g may tried : List Int), may.length < f → BK L n g may tried → (bk L f g may tried).Nodup
  | 0, _, _, _, h, _ => absurd h (Nat.not_lt_zero _)
  | f + 1, g, may, tried, hf, h => by
    have loop : ∀ (may tried : List Int), may.length ≤ f → BK L n g may tried → (bkLoop L (bk L f) g may tried).Nodup ∧ ∀ s ∈ bkLoop L (bk L f) g may tried, Aim L n g may s ∧ ∃ v ∈ may, v ∈ s := by
      intro may
      induction may with
      | nil => intro tried _ _; simp [bkLoop]
      | cons x r ih =>
        intro tried hl hb
        rw [List.length_cons] at hl
        have hb1 := BK.step hsym hirr hb
        have hb2 := BK.next hb
        have hlt : (r.filter (L x)).length < f := Nat.lt_of_le_of_lt (List.length_filter_le _ _) (by omega)
        obtain ⟨hx0, hxn, hxg, hxa⟩ := (hb.com x).1 (.inl List.mem_cons_self)
        obtain ⟨i1, i2⟩ := ih (tried ++ [x]) (by omega) hb2
        have hm := bk_mem hsym hirr n f (g ++ [x]) (r.filter (L x)) (tried.filter (L x)) hlt hb1
        rw [bkLoop]
        refine ⟨List.nodup_append.2 ⟨bk_nodup hsym hirr n f _ _ _ hlt hb1, i1, ?_⟩, ?_⟩
        · rintro s hs s' hs' rfl
          have hxs := ((hm s).1 hs).2.1 x (by simp)
          rcases (i2 s hs').1.2.2.1 x hxs with q | q
          · exact hxg q
          · exact (List.nodup_cons.1 hb.mn).1 q
        · intro s hs
          rcases List.mem_append.1 hs with hs | hs
          · obtain ⟨h1, h2, h3, h4⟩ := (hm s).1 hs
            refine ⟨⟨h1, fun a ha => h2 a (List.mem_append_left _ ha), fun v hv => ?_, h4⟩, x, List.mem_cons_self, h2 x (by simp)⟩
            rcases h3 v hv with q | q
            · rcases List.mem_append.1 q with q | q
              · exact .inl q
              · simp only [List.mem_singleton] at q; subst q; exact .inr List.mem_cons_self
            · exact .inr (List.mem_cons_of_mem _ (List.mem_filter.1 q).1)
          · obtain ⟨⟨h1, h2, h3, h4⟩, v, h5, h6⟩ := i2 s hs
            exact ⟨⟨h1, h2, fun v hv => (h3 v hv).imp id (List.mem_cons_of_mem _), h4⟩, v, List.mem_cons_of_mem _ h5, h6⟩
    obtain ⟨l1, l2⟩ := loop may tried (by omega) h
    rw [bk, List.nodup_append]
    refine ⟨by unfold bkHead; split <;> simp, l1, ?_⟩
    rintro s hs s' hs' rfl
    obtain ⟨_, rfl⟩ := (bkHead_mem hsym hirr h).1 hs
    obtain ⟨_, v, hv, _⟩ := l2 s hs'
    simp at hv
end
end Go.Proofs.YtocphglkceidhaaGreat
namespace Go.Proofs.YtocphglkceidhaaGreat
open Go.Ahl
/-! ### Lists in order -/
def cmpInts : List Int → List Int → Int
  | [], [] => 0
  | [], _ :: _ => -1
  | _ :: _, [] => 1
  | a :: l, b :: r => if a < b then -1 else if b < a then 1 else cmpInts l r
theorem cmpInts_refl : ∀ a, cmpInts a a = 0
  | [] => rfl
  | x :: l => by rw [cmpInts, if_neg (by omega), if_neg (by omega), cmpInts_refl l]
theorem cmpInts_anti : ∀ {a b : List Int}, cmpInts a b = 0 → a = b
  | [], [], _ => rfl
  | [], _ :: _, h => by simp [cmpInts] at h
  | _ :: _, [], h => by simp [cmpInts] at h
  | x :: l, y :: r, h => by
    rw [cmpInts] at h
    split at h
    · omega
    · split at h
      · omega
      · rw [cmpInts_anti h]; congr 1; omega
theorem cmpInts_swap : ∀ {a b : List Int}, cmpInts a b < 0 ↔ 0 < cmpInts b a
  | [], [] => by simp [cmpInts]
  | [], _ :: _ => by simp [cmpInts]
  | _ :: _, [] => by simp [cmpInts]
  | x :: l, y :: r => by
    rw [cmpInts, cmpInts]
    by_cases h1 : x < y
    · rw [if_pos h1, if_neg (by omega), if_pos h1]; omega
    · rw [if_neg h1]
      by_cases h2 : y < x
      · rw [if_pos h2, if_pos h2]; omega
      · rw [if_neg h2, if_neg h2, if_neg h1]; exact cmpInts_swap
theorem cmpInts_trans : ∀ {a b c : List Int}, cmpInts a b < 0 → cmpInts b c < 0 → cmpInts a c < 0
  | [], [], _, h, _ => by simp [cmpInts] at h
  | [], _ :: _, [], _, k => by simp [cmpInts] at k
  | [], _ :: _, _ :: _, _, _ => by simp [cmpInts]
  | _ :: _, [], _, h, _ => by simp [cmpInts] at h
  | _ :: _, _ :: _, [], _, k => by simp [cmpInts] at k
  | x :: l, y :: r, z :: t, h, k => by
    rw [cmpInts] at h k ⊢
    by_cases h1 : x < y
    · by_cases k1 : y < z
      · rw [if_pos (by omega)]; omega
      · rw [if_neg k1] at k
        by_cases k2 : z < y
        · rw [if_pos k2] at k; omega
        · rw [if_pos (by omega)]; omega
    · rw [if_neg h1] at h
      by_cases h2 : y < x
      · rw [if_pos h2] at h; omega
      · rw [if_neg h2] at h
        by_cases k1 : y < z
        · rw [if_pos (by omega)]; omega
        · rw [if_neg k1] at k
          by_cases k2 : z < y
          · rw [if_pos k2] at k; omega
          · rw [if_neg k2] at k
            rw [if_neg (by omega), if_neg (by omega)]; exact cmpInts_trans h k
def ltL (a b : List Int) : Prop := cmpInts a b < 0
theorem ltL_irrefl (a : List Int) : ¬ ltL a a := by unfold ltL; rw [cmpInts_refl]; omega
theorem ltL_unique : ∀ {a b : List (List Int)}, a.Pairwise ltL → b.Pairwise ltL → (∀ x, x ∈ a ↔ x ∈ b) → a = b
  | [], [], _, _, _ => rfl
  | [], y :: b, _, _, h => by have := (h y).2 List.mem_cons_self; simp at this
  | x :: a, [], _, _, h => by have := (h x).1 List.mem_cons_self; simp at this
  | x :: a, y :: b, ha, hb, h => by
    obtain ⟨ha1, ha2⟩ := List.pairwise_cons.1 ha
    obtain ⟨hb1, hb2⟩ := List.pairwise_cons.1 hb
    have hxy : x = y := by
      rcases List.mem_cons.1 ((h x).1 List.mem_cons_self) with e | e
      · exact e
      · rcases List.mem_cons.1 ((h y).2 List.mem_cons_self) with e' | e'
        · exact e'.symm
        · exact absurd (cmpInts_trans (hb1 x e) (ha1 y e')) (ltL_irrefl y)
    subst hxy
    rw [ltL_unique ha2 hb2 fun z => ?_]
    constructor
    · intro hz
      rcases List.mem_cons.1 ((h z).1 (List.mem_cons_of_mem _ hz)) with rfl | e
      · exact absurd (ha1 z hz) (ltL_irrefl z)
      · exact e
    · intro hz
      rcases List.mem_cons.1 ((h z).2 (List.mem_cons_of_mem _ hz)) with rfl | e
      · exact absurd (hb1 z hz) (ltL_irrefl z)
      · exact e
/-- A list put into lists in order: behind those that come earlier. -/
def insAt (l : List (List Int)) (s : List Int) : Nat := (l.takeWhile fun x => decide (cmpInts x s < 0)).length
def insL (l : List (List Int)) (s : List Int) : List (List Int) := l.take (insAt l s) ++ [s] ++ l.drop (insAt l s)
theorem insL_mem {l : List (List Int)} {s x : List Int} : x ∈ insL l s ↔ x ∈ l ∨ x = s := by
  unfold insL
  rw [List.mem_append, List.mem_append, List.mem_singleton]
  constructor
  · rintro ((h | h) | h)
    · exact .inl (List.mem_of_mem_take h)
    · exact .inr h
    · exact .inl (List.mem_of_mem_drop h)
  · rintro (h | h)
    · rw [← List.take_append_drop (insAt l s) l, List.mem_append] at h
      rcases h with h | h
      · exact .inl (.inl h)
      · exact .inr h
    · exact .inl (.inr h)
theorem insL_cons (x : List Int) (l : List (List Int)) (s : List Int) : insL (x :: l) s = if cmpInts x s < 0 then x :: insL l s else s :: x :: l := by
  unfold insL insAt
  rw [List.takeWhile_cons]
  by_cases h : cmpInts x s < 0
  · simp [h]
  · simp [h]
theorem insL_strict : ∀ {l : List (List Int)} {s : List Int}, l.Pairwise ltL → s ∉ l → (insL l s).Pairwise ltL
  | [], s, _, _ => by simp [insL, insAt]
  | x :: l, s, h, hs => by
    obtain ⟨h1, h2⟩ := List.pairwise_cons.1 h
    rw [insL_cons]
    have hsx : s ≠ x := fun e => hs (by rw [e]; exact List.mem_cons_self)
    split
    · rename_i hx
      refine List.pairwise_cons.2 ⟨fun y hy => ?_, insL_strict h2 (fun q => hs (List.mem_cons_of_mem _ q))⟩
      rcases insL_mem.1 hy with hy | rfl
      · exact h1 y hy
      · exact hx
    · rename_i hx
      have hlt : cmpInts s x < 0 := by
        rcases Int.lt_trichotomy (cmpInts x s) 0 with q | q | q
        · exact absurd q hx
        · exact absurd (cmpInts_anti q).symm hsx
        · exact cmpInts_swap.2 q
      refine List.pairwise_cons.2 ⟨fun y hy => ?_, h⟩
      rcases List.mem_cons.1 hy with rfl | hy
      · exact hlt
      · exact cmpInts_trans hlt (h1 y hy)
theorem insAll : ∀ (l out : List (List Int)), out.Pairwise ltL → l.Nodup → (∀ x ∈ l, x ∉ out) → (l.foldl insL out).Pairwise ltL ∧ ∀ x, x ∈ l.foldl insL out ↔ x ∈ l ∨ x ∈ out
  | [], out, h, _, _ => ⟨h, by simp⟩
  | s :: l, out, h, hn, ho => by
    obtain ⟨n1, n2⟩ := List.nodup_cons.1 hn
    have := insAll l (insL out s) (insL_strict h (ho s List.mem_cons_self)) n2 (fun x hx q => by
      rcases insL_mem.1 q with q | rfl
      · exact ho x (List.mem_cons_of_mem _ hx) q
      · exact n1 hx)
    refine ⟨this.1, fun x => ?_⟩
    rw [List.foldl_cons, this.2 x, insL_mem, List.mem_cons]
    constructor
    · rintro (h | h | h)
      · exact .inl (.inr h)
      · exact .inr h
      · exact .inl (.inl h)
    · rintro ((h | h) | h)
      · exact .inr (.inr h)
      · exact .inl h
      · exact .inr (.inl h)
/-! ### All states -/
theorem statesL_all : ∀ (n : Nat) (s : List Int), s.Pairwise (· < ·) → (∀ v ∈ s, 0 ≤ v ∧ v < n) → s ∈ statesL n
  | 0, s, _, h => by
    cases s with
    | nil => simp [statesL]
    | cons x s => have := h x List.mem_cons_self; omega
  | n + 1, s, hp, h => by
    rw [statesL, List.mem_append, List.mem_map]
    by_cases hn : (n : Int) ∈ s
    · right
      have hne : s ≠ [] := by rintro rfl; simp at hn
      have hlast : s.getLast hne = (n : Int) := by
        have e := List.dropLast_concat_getLast hne
        rw [← e] at hn hp
        rcases List.mem_append.1 hn with q | q
        · have h1 := (List.pairwise_append.1 hp).2.2 _ q _ (by simp : s.getLast hne ∈ [s.getLast hne])
          have h2 := (h _ (List.getLast_mem hne)).2
          omega
        · simp only [List.mem_singleton] at q; exact q.symm
      have e := List.dropLast_concat_getLast hne
      rw [hlast] at e
      refine ⟨s.dropLast, statesL_all n _ ?_ ?_, e⟩
      · rw [← e] at hp; exact (List.pairwise_append.1 hp).1
      · intro v hv
        have h1 := h v ((List.dropLast_sublist _).subset hv)
        rw [← e] at hp
        have := (List.pairwise_append.1 hp).2.2 v hv (n : Int) (by simp)
        omega
    · left
      refine statesL_all n s hp fun v hv => ?_
      have := h v hv
      have : v ≠ (n : Int) := by rintro rfl; exact hn hv
      omega
theorem statesL_nodup : ∀ n : Nat, (statesL n).Nodup
  | 0 => by simp [statesL]
  | n + 1 => by
    rw [statesL, List.nodup_append]
    refine ⟨statesL_nodup n, ?_, ?_⟩
    · exact List.pairwise_map.2 ((statesL_nodup n).imp fun h q => h (List.append_cancel_right q))
    · rintro a ha b hb rfl
      obtain ⟨r, _, rfl⟩ := List.mem_map.1 hb
      have := (rising_pw (statesL_mem n _ ha).2).2 (n : Int) (by simp)
      omega
end Go.Proofs.YtocphglkceidhaaGreat
/- The abstract layer, part 28: the bits of a number. -/
namespace Go.Ahl
theorem bit_and {k x : Nat} (hk : k < 1152921504606846976) (hx : x < 60) : IntKind.i64.wrap ((BitVec.ofInt 64 ((k : Int).fdiv (2 ^ min x 64)) &&& BitVec.ofInt 64 1).toNat : Int) = if k.testBit x then 1 else 0 := by
  have h1 : (k : Int).fdiv (2 ^ min x 64) = ((k / 2 ^ x : Nat) : Int) := by
    rw [Nat.min_eq_left (by omega), Int.fdiv_eq_ediv_of_nonneg _ (by exact Int.le_of_lt (Int.pow_pos (by omega)))]
    simp
  have hlt : k / 2 ^ x < 2 ^ 64 := Nat.lt_of_le_of_lt (Nat.div_le_self _ _) (by omega)
  rw [h1, BitVec.toNat_and]
  have h2 : (BitVec.ofInt 64 ((k / 2 ^ x : Nat) : Int)).toNat = k / 2 ^ x := by
    rw [BitVec.ofInt_natCast, BitVec.toNat_ofNat, Nat.mod_eq_of_lt hlt]
  have h3 : (BitVec.ofInt 64 1).toNat = 1 := by decide
  rw [h2, h3, Nat.and_one_is_mod, Nat.testBit_eq_decide_div_mod_eq]
  by_cases h : k / 2 ^ x % 2 = 1
  · rw [decide_eq_true h, h]; decide
  · have h0 : k / 2 ^ x % 2 = 0 := by omega
    rw [h0]; simp; decide
end Go.Ahl
namespace Go.Ahl
/-- The end of a function whose first result lies in a cell. -/
theorem ret_ct {nt t u id : Nat} {s : Slots} {σ S : Store} {R : Cont} {v x : AV} (h1 : lk s t = .ptr id 0) (h2 : S[id]? = some (.row [v])) (h3 : lk s u = x) (ht : S.take σ.length = σ) (hσ : IdsS σ.length σ)
    (iv : Ids σ.length v) (ix : Ids σ.length x) (h : R (.tuple [v, x]) σ) : bodyK [.cell none t, .tmp u] σ.length nt R .ret s S := by
  refine ⟨s, S, Ghost.refl _ _ _ _, ?_⟩
  simp only [aRes, h1, h3]
  rw [e_load_ptr, h2, rowK_some]
  show getK _ _
  simp only [List.getElem?_cons_zero, getK_some]
  refine ⟨σ.length, Nat.le_refl _, ?_⟩
  rw [ht]
  exact ⟨hσ, .tuple _ (fun j y hy => by match j, hy with | 0, hy => simp at hy; subst hy; exact iv | 1, hy => simp at hy; subst hy; exact ix), h⟩
end Go.Ahl
namespace Go.Ahl
end Go.Ahl
namespace Go.Ahl
/-- The end of a function whose result is an aggregate in cells. -/
theorem ret_cN {nt t id n : Nat} {s : Slots} {σ S : Store} {R : Cont} {cells : List AV} (h1 : lk s t = .ptr id 0) (h2 : S[id]? = some (.row cells)) (hn : cells.length = n) (ht : S.take σ.length = σ) (hσ : IdsS σ.length σ)
    (iv : Ids σ.length (.agg cells)) (h : R (.agg cells) σ) : bodyK [.cell (some n) t] σ.length nt R .ret s S := by
  refine ⟨s, S, Ghost.refl _ _ _ _, ?_⟩
  simp only [aRes, h1]
  rw [e_loadN_ptr, h2, rowK_some]
  refine ⟨by omega, ?_⟩
  rw [List.drop_zero, ← hn, List.take_length]
  refine ⟨σ.length, Nat.le_refl _, ?_⟩
  rw [ht]
  exact ⟨hσ, iv, h⟩
/-- The nil in a cell becomes a slice that one may append to. -/
theorem Ghost.tokCell {n0 nt : Nat} {s : Slots} {σ : Store} (id sz : Nat) (hs : σ[id]? = some (.row [.slice .nil []])) :
    Ghost n0 nt s σ s ((σ ++ [AObj.grow sz 0]).set id (AObj.row [AV.slice (.grow σ.length) []])) := by
  intro m loc w tm hl hS hr
  obtain ⟨g1, g2⟩ := hS.tok0 n0 sz
  have hid := lt_of_get hs
  have hid2 : id < loc.length := by rw [hS.len]; exact hid
  have hs' : (σ ++ [AObj.grow sz 0])[id]? = some (.row [.slice .nil []]) := by rw [List.getElem?_append_left hid]; exact hs
  have hloc : (loc ++ [.tok sz tok0])[id]? = some (loc[id]) := by rw [List.getElem?_append_left hid2]; exact List.getElem?_eq_getElem hid2
  have hobj := g1.obj id _ _ hloc hs'
  generalize loc[id] = l at hloc hobj
  cases l with
  | blk b =>
    obtain ⟨arr, t, e1, e2, e3, e4, e5⟩ := hobj
    have key := g1.turn n0 (m' := m) (w' := w) (l' := .blk b) (.row [.slice (.grow σ.length) []]) hloc hs' (.refl m) (.refl _) (fun _ _ _ => rfl) (Nat.le_refl _) (fun _ _ _ _ => rfl) ?_ ?_ ?_ (fun b' q => .inl q) ?_ rfl rfl rfl (Nat.le_refl _)
    · rw [set_same hloc] at key
      exact ⟨m, _, key.1, ⟨hr.size, fun i => (hr.rel i).mono (.refl m) (.app _ _ _)⟩, g2.trans key.2⟩
    · intro k off v hk e'
      refine ⟨g1.im k off v e', g1.ok.fz k off v ?_ e'⟩
      rcases hk with hk | hk
      · exact g1.ok.own k (own_names hloc hk)
      · exact Nat.le_trans g1.ok.low hk
    · intro k n hn
      obtain ⟨arr', t', fz, q1, q2⟩ := g1.bs k n hn
      exact .inr ⟨arr', t', fz, q1, q2⟩
    · rintro b' ⟨sz', f, k, q, _⟩; simp at q
    · rw [set_same hloc]
      refine ⟨arr, t, e1, e2, by simpa using e3, ?_, e5⟩
      intro j x v hj hv
      match j, hj with
      | 0, hj =>
        simp at hj; subst hj
        have h1 := e4 0 (.slice .nil []) v rfl hv
        cases h1 with
        | slice _ _ ad cap sz' bb o f hcap htok =>
          obtain ⟨h1, h2⟩ := htok
          subst h1; subst h2
          exact rel_tok0 sz none hS
  | nowhere => simp [ObjRel] at hobj
  | tok _ _ => exact hobj.elim
end Go.Ahl
namespace Go.Proofs.YtocphglkceidhaaGreat
open Go.Ahl
def c_some1 : CCode := .seq (.ops [⟨some 2, .box (.tmp 0), none, []⟩, ⟨some 3, .move (.lit (.bool false)), none, []⟩]) (.seq (.ops [⟨some 4, .load none (.tmp 1), none, []⟩, ⟨some 5, .load (some 2) (.tmp 2), none, []⟩, ⟨some 6, .bslice 2 [.tmp 5] false, none, []⟩, ⟨some 7, .call (.lit (.func 108 [])) [.tmp 4, .tmp 6], none, []⟩, ⟨some 3, .move (.tmp 7), none, []⟩]) .ret)
set_option maxRecDepth 20000 in
theorem some1_spec (s : List Int) (x : FLit) (tok : Tok) (V : Nat) (σ : Store) (hl : s.length ≤ 140737488355328) (hs : s.Pairwise (· < ·)) (hV : σ[V]? = some (.row [.slice tok (s.map Ahl.encI)])) :
    ACalls Tryz.prog 133 [.agg (encLit x), .ptr V 0] σ (isR (.bool (s.contains x.fact != x.neg)) σ) := by
  refine ACalls.intro (rs := [(.tmp 3)]) (by kernel_rfl) { own := [], ghosts := [] } Tryz.func133 (c := Tryz.f133.body.getD .skip) (by kernel_rfl) (by decide) (by rw [show Tryz.f133.ntmps = 8 by kernel_rfl]; exact Nat.le_of_ble_eq_true rfl) (by kernel_rfl) ?_
  intro hσ hids
  rw [show comp Tryz.prog { own := [], ghosts := [] } (Tryz.f133.body.getD .skip) = c_some1 by kernel_rfl, show Tryz.f133.ntmps = 8 by kernel_rfl]
  unfold c_some1
  have hV' : ∀ l, (σ ++ l)[V]? = some (.row [.slice tok (s.map Ahl.encI)]) := fun l => by rw [List.getElem?_append_left (lt_of_get hV)]; exact hV
  simp only [go_sem, Int.reduceToNat, Int.reduceLE, Int.reduceLT, Nat.reduceBEq, Nat.reduceLT, Nat.reduceAdd, Nat.reduceLeDiff, encLit, hV']
  refine (sTrue_spec s [x] tok _ _ hl hs (by simp)).is ?_
  simp only [go_sem, Int.reduceToNat, Int.reduceLE, Int.reduceLT, Nat.reduceBEq, Nat.reduceLT, Nat.reduceAdd, Nat.reduceLeDiff]
  first | exact rtw (v := .bool _) wkS ⟨by simp [condHolds], rfl⟩ | exact rtw0 (v := .bool _) wkS ⟨by simp [condHolds], rfl⟩
def c_some : CCode := .seq (.ops [⟨some 2, .box (.tmp 0), none, []⟩, ⟨some 4, .move (.lit (.bool false)), none, []⟩]) (.seq (.ops [⟨some 5, .move (.tmp 1), none, []⟩, ⟨some 6, .mkfunc 133 [.tmp 2], none, []⟩, ⟨some 7, .call (.lit (.func 132 [])) [.tmp 5, .tmp 6], none, []⟩, ⟨some 4, .move (.tmp 7), none, []⟩]) .ret)
set_option maxRecDepth 20000 in
theorem some_spec (s : List Int) (c : List FLit) (tok tok' : Tok) (σ : Store) (hl : s.length ≤ 140737488355328) (hs : s.Pairwise (· < ·)) (hc : c.length ≤ 140737488355328) :
    ACalls Tryz.prog 93 [.slice tok (s.map Ahl.encI), .slice tok' (c.map encLit)] σ (isR (.bool (clauseT s c)) σ) := by
  refine ACalls.intro (rs := [(.tmp 4)]) (by kernel_rfl) { own := [], ghosts := [] } Tryz.func93 (c := Tryz.f93.body.getD .skip) (by kernel_rfl) (by decide) (by rw [show Tryz.f93.ntmps = 8 by kernel_rfl]; exact Nat.le_of_ble_eq_true rfl) (by kernel_rfl) ?_
  intro hσ hids
  rw [show comp Tryz.prog { own := [], ghosts := [] } (Tryz.f93.body.getD .skip) = c_some by kernel_rfl, show Tryz.f93.ntmps = 8 by kernel_rfl]
  unfold c_some
  simp only [go_sem, Int.reduceToNat, Int.reduceLE, Int.reduceLT, Nat.reduceBEq, Nat.reduceLT, Nat.reduceAdd, Nat.reduceLeDiff]
  refine (containsFuncL_spec c _ _ (fun x => s.contains x.fact != x.neg) tok' _ hc (fun x _ => some1_spec s x tok _ _ hl hs (by simp))).is ?_
  simp only [go_sem, Int.reduceToNat, Int.reduceLE, Int.reduceLT, Nat.reduceBEq, Nat.reduceLT, Nat.reduceAdd, Nat.reduceLeDiff]
  first | exact rtw (v := .bool _) wkS ⟨rfl, rfl⟩ | exact rtw0 (v := .bool _) wkS ⟨rfl, rfl⟩
def c_every1 : CCode := .seq (.ops [⟨some 3, .move (.lit (.bool false)), none, []⟩]) (.seq (.ops [⟨some 4, .load none (.tmp 1), none, []⟩, ⟨some 5, .move (.tmp 0), none, []⟩, ⟨some 6, .call (.lit (.func 93 [])) [.tmp 4, .tmp 5], none, []⟩, ⟨some 7, .un .not (.tmp 6), none, []⟩, ⟨some 3, .move (.tmp 7), none, []⟩]) .ret)
set_option maxRecDepth 20000 in
theorem every1_spec (s : List Int) (c : List FLit) (tok : Tok) (V : Nat) (σ : Store) (hl : s.length ≤ 140737488355328) (hs : s.Pairwise (· < ·)) (hc : c.length ≤ 140737488355328) (hV : σ[V]? = some (.row [.slice tok (s.map Ahl.encI)])) :
    ACalls Tryz.prog 102 [.slice .unk (c.map encLit), .ptr V 0] σ (isR (.bool (!(clauseT s c))) σ) := by
  refine ACalls.intro (rs := [(.tmp 3)]) (by kernel_rfl) { own := [], ghosts := [] } Tryz.func102 (c := Tryz.f102.body.getD .skip) (by kernel_rfl) (by decide) (by rw [show Tryz.f102.ntmps = 8 by kernel_rfl]; exact Nat.le_of_ble_eq_true rfl) (by kernel_rfl) ?_
  intro hσ hids
  rw [show comp Tryz.prog { own := [], ghosts := [] } (Tryz.f102.body.getD .skip) = c_every1 by kernel_rfl, show Tryz.f102.ntmps = 8 by kernel_rfl]
  unfold c_every1
  simp only [go_sem, Int.reduceToNat, Int.reduceLE, Int.reduceLT, Nat.reduceBEq, Nat.reduceLT, Nat.reduceAdd, Nat.reduceLeDiff, hV]
  refine (some_spec s c tok .unk _ hl hs hc).is ?_
  simp only [go_sem, Int.reduceToNat, Int.reduceLE, Int.reduceLT, Nat.reduceBEq, Nat.reduceLT, Nat.reduceAdd, Nat.reduceLeDiff]
  first | exact rtw (v := .bool _) wkS ⟨rfl, rfl⟩ | exact rtw0 (v := .bool _) wkS ⟨rfl, rfl⟩
def c_every : CCode := .seq (.ops [⟨some 2, .box (.tmp 0), none, []⟩, ⟨some 4, .move (.lit (.bool false)), none, []⟩]) (.seq (.ops [⟨some 5, .move (.tmp 1), none, []⟩, ⟨some 6, .mkfunc 102 [.tmp 2], none, []⟩, ⟨some 7, .call (.lit (.func 56 [])) [.tmp 5, .tmp 6], none, []⟩, ⟨some 8, .un .not (.tmp 7), none, []⟩, ⟨some 4, .move (.tmp 8), none, []⟩]) .ret)
set_option maxRecDepth 20000 in
theorem every_spec (s : List Int) (l : List (List FLit)) (tok tok' : Tok) (σ : Store) (hl : s.length ≤ 140737488355328) (hs : s.Pairwise (· < ·)) (hf : FB l) :
    ACalls Tryz.prog 69 [.slice tok (s.map Ahl.encI), .slice tok' (l.map encC)] σ (isR (.bool (clausesT s l)) σ) := by
  refine ACalls.intro (rs := [(.tmp 4)]) (by kernel_rfl) { own := [], ghosts := [] } Tryz.func69 (c := Tryz.f69.body.getD .skip) (by kernel_rfl) (by decide) (by rw [show Tryz.f69.ntmps = 9 by kernel_rfl]; exact Nat.le_of_ble_eq_true rfl) (by kernel_rfl) ?_
  intro hσ hids
  rw [show comp Tryz.prog { own := [], ghosts := [] } (Tryz.f69.body.getD .skip) = c_every by kernel_rfl, show Tryz.f69.ntmps = 9 by kernel_rfl]
  unfold c_every
  simp only [go_sem, Int.reduceToNat, Int.reduceLE, Int.reduceLT, Nat.reduceBEq, Nat.reduceLT, Nat.reduceAdd, Nat.reduceLeDiff]
  refine (containsFuncC_spec (fun l => .slice .unk (l.map encLit)) l _ [.ptr σ.length 0] (fun c => !(clauseT s c)) tok' (σ ++ [.row [.slice tok (s.map Ahl.encI)]]) hf.1 (fun c hm => every1_spec s c tok σ.length _ hl hs (hf.2 c hm) (by rw [List.getElem?_append_right (Nat.le_refl _), Nat.sub_self]; rfl))).is ?_
  simp only [go_sem, Int.reduceToNat, Int.reduceLE, Int.reduceLT, Nat.reduceBEq, Nat.reduceLT, Nat.reduceAdd, Nat.reduceLeDiff]
  first | exact rtw (v := .bool _) wkS ⟨by rw [any_not]; rfl, rfl⟩ | exact rtw0 (v := .bool _) wkS ⟨by rw [any_not]; rfl, rfl⟩
def c_clauses1 : CCode := .seq (.ops [⟨some 3, .move (.lit (.bool false)), none, []⟩]) (.seq (.ops [⟨some 4, .faddr 0 (.tmp 1), none, []⟩, ⟨some 5, .load none (.tmp 4), none, []⟩, ⟨some 6, .blen 1 (.tmp 5), none, []⟩, ⟨some 7, .move (.tmp 0), none, []⟩, ⟨some 8, .call (.lit (.func 65 [])) [.tmp 6, .tmp 7], none, []⟩, ⟨some 9, .un .not (.tmp 8), none, []⟩, ⟨some 3, .move (.tmp 9), none, []⟩]) .ret)
set_option maxRecDepth 20000 in
theorem clauses1_spec (t : FTask) (l : List FLit) (id : Nat) (σ : Store) (hl : l.length ≤ 140737488355328) (hid : σ[id]? = some (.row (encTask t))) :
    ACalls Tryz.prog 78 [.slice .unk (l.map encLit), .ptr id 0] σ (isR (.bool (!(condB t.facts.length (-1) l))) σ) := by
  refine ACalls.intro (rs := [(.tmp 3)]) (by kernel_rfl) { own := [], ghosts := [] } Tryz.func78 (c := Tryz.f78.body.getD .skip) (by kernel_rfl) (by decide) (by rw [show Tryz.f78.ntmps = 10 by kernel_rfl]; exact Nat.le_of_ble_eq_true rfl) (by kernel_rfl) ?_
  intro hσ hids
  rw [show comp Tryz.prog { own := [], ghosts := [] } (Tryz.f78.body.getD .skip) = c_clauses1 by kernel_rfl, show Tryz.f78.ntmps = 10 by kernel_rfl]
  unfold c_clauses1
  simp only [encTask] at hid
  simp only [go_sem, Int.reduceToNat, Int.reduceLE, Int.reduceLT, Nat.reduceBEq, Nat.reduceLT, Nat.reduceAdd, Nat.reduceLeDiff, hid]
  refine (cond_spec l t.facts.length .unk _ hl).is ?_
  simp only [go_sem, Int.reduceToNat, Int.reduceLE, Int.reduceLT, Nat.reduceBEq, Nat.reduceLT, Nat.reduceAdd, Nat.reduceLeDiff]
  first | exact rtw (v := .bool _) wkS ⟨rfl, rfl⟩ | exact rtw0 (v := .bool _) wkS ⟨rfl, rfl⟩
/-- Is a list a set of clauses? -/
def isClauses (n : Int) (l : List (List FLit)) : Bool := decide (l.length ≤ 2000) && formB n l
def clE (t : FTask) (l : List (List FLit)) : Int := if validB t then (if isClauses t.facts.length l then 0 else 70) else 10
def c_clauses : CCode := .seq (.ops [⟨some 2, .box (.tmp 0), none, []⟩, ⟨some 4, .move (.lit (.int .i64 0)), none, []⟩]) (.seq (.seq (.ops [⟨some 5, .load (some 4) (.tmp 2), none, []⟩, ⟨some 6, .call (.lit (.func 53 [])) [.tmp 5], none, []⟩, ⟨some 7, .un .not (.tmp 6), none, []⟩]) (.cond (.tmp 7) (.seq (.ops [⟨some 4, .move (.lit (.int .i64 10)), none, []⟩]) .ret) .skip)) (.seq (.seq (.ops [⟨some 8, .move (.tmp 1), none, []⟩, ⟨some 9, .blen 1 (.tmp 8), none, []⟩, ⟨some 10, .bin .gtr .none (.tmp 9) (.lit (.int .i64 2000)), none, []⟩, ⟨some 11, .move (.tmp 10), none, []⟩, ⟨some 12, .move (.tmp 1), some (some 11, false), []⟩, ⟨some 13, .mkfunc 78 [.tmp 2], some (some 11, false), []⟩, ⟨some 14, .call (.lit (.func 56 [])) [.tmp 12, .tmp 13], some (some 11, false), []⟩, ⟨some 15, .pick (.tmp 11) (.lit (.bool true)) (.tmp 14), none, []⟩]) (.cond (.tmp 15) (.seq (.ops [⟨some 4, .move (.lit (.int .i64 70)), none, []⟩]) .ret) .skip)) (.seq (.ops [⟨some 4, .move (.lit (.int .i64 0)), none, []⟩]) .ret)))
set_option maxRecDepth 20000 in
theorem clauses_spec (t : FTask) (l : List (List FLit)) (tok : Tok) (σ : Store) (ht : TB t) (hl : FB l) :
    ACalls Tryz.prog 37 [.agg (encTask t), .slice tok (l.map encC)] σ (isR (.int .i64 (clE t l)) σ) := by
  refine ACalls.intro (rs := [(.tmp 4)]) (by kernel_rfl) { own := [], ghosts := [] } Tryz.func37 (c := Tryz.f37.body.getD .skip) (by kernel_rfl) (by decide) (by rw [show Tryz.f37.ntmps = 16 by kernel_rfl]; exact Nat.le_of_ble_eq_true rfl) (by kernel_rfl) ?_
  intro hσ hids
  rw [show comp Tryz.prog { own := [], ghosts := [] } (Tryz.f37.body.getD .skip) = c_clauses by kernel_rfl, show Tryz.f37.ntmps = 16 by kernel_rfl]
  unfold c_clauses
  simp only [go_sem, Int.reduceToNat, Int.reduceLE, Int.reduceLT, Nat.reduceBEq, Nat.reduceLT, Nat.reduceAdd, Nat.reduceLeDiff, encTask]
  refine (valid_spec t _ ht).is ?_
  cases h1 : validB t
  · simp only [go_sem, Int.reduceToNat, Int.reduceLE, Int.reduceLT, Nat.reduceBEq, Nat.reduceLT, Nat.reduceAdd, Nat.reduceLeDiff]
    first | exact rtk (.int .i64 10) ⟨by rw [clE, h1]; rfl, rfl⟩ | exact rtk0 (.int .i64 10) ⟨by rw [clE, h1]; rfl, rfl⟩
  by_cases h : (l.length : Int) > 2000
  · simp only [go_sem, Int.reduceToNat, Int.reduceLE, Int.reduceLT, Nat.reduceBEq, Nat.reduceLT, Nat.reduceAdd, Nat.reduceLeDiff, h]
    first | exact rtk (.int .i64 70) ⟨by rw [clE, h1, isClauses, decide_eq_false (by omega : ¬ l.length ≤ 2000)]; rfl, rfl⟩ | exact rtk0 (.int .i64 70) ⟨by rw [clE, h1, isClauses, decide_eq_false (by omega : ¬ l.length ≤ 2000)]; rfl, rfl⟩
  simp only [go_sem, Int.reduceToNat, Int.reduceLE, Int.reduceLT, Nat.reduceBEq, Nat.reduceLT, Nat.reduceAdd, Nat.reduceLeDiff, h]
  refine (containsFuncC_spec (fun l => .slice .unk (l.map encLit)) l _ [.ptr σ.length 0] (fun l => !(condB t.facts.length (-1) l)) tok (σ ++ [.row (encTask t)]) hl.1 (fun c hm => clauses1_spec t c σ.length _ (hl.2 c hm) (by rw [List.getElem?_append_right (Nat.le_refl _), Nat.sub_self]; rfl))).is ?_
  have hf : l.any (fun c => !(condB t.facts.length (-1) c)) = !(formB t.facts.length l) := by
    rw [← Bool.not_not (l.any _), any_not]; rfl
  rw [hf]
  cases h2 : formB t.facts.length l
  · simp only [go_sem, Int.reduceToNat, Int.reduceLE, Int.reduceLT, Nat.reduceBEq, Nat.reduceLT, Nat.reduceAdd, Nat.reduceLeDiff]
    first | exact rtk (.int .i64 70) ⟨by rw [clE, h1, isClauses, decide_eq_true (by omega : l.length ≤ 2000), h2]; rfl, rfl⟩ | exact rtk0 (.int .i64 70) ⟨by rw [clE, h1, isClauses, decide_eq_true (by omega : l.length ≤ 2000), h2]; rfl, rfl⟩
  · simp only [go_sem, Int.reduceToNat, Int.reduceLE, Int.reduceLT, Nat.reduceBEq, Nat.reduceLT, Nat.reduceAdd, Nat.reduceLeDiff]
    first | exact rtk (.int .i64 0) ⟨by rw [clE, h1, isClauses, decide_eq_true (by omega : l.length ≤ 2000), h2]; rfl, rfl⟩ | exact rtk0 (.int .i64 0) ⟨by rw [clE, h1, isClauses, decide_eq_true (by omega : l.length ≤ 2000), h2]; rfl, rfl⟩
theorem bitsL_len (n k : Nat) : (bitsL n k).length ≤ n := by
  unfold bitsL; rw [List.length_map]; exact Nat.le_trans (List.length_filter_le _ _) (by simp)
def c_stateOf : CCode := .seq (.ops [⟨some 4, .move (.lit (.slice .nil [])), none, []⟩]) (.seq (.ops [⟨some 5, .move (.lit (.slice .nil [])), none, []⟩]) (.seq (.seq (.ops [⟨some 7, .move (.tmp 0), none, []⟩, ⟨some 8, .move (.lit (.int .i64 0)), none, []⟩]) (.block 0 (.loop (.seq (.ops [⟨some 9, .bin .lss .none (.tmp 8) (.tmp 7), none, []⟩]) (.seq (.cond (.tmp 9) .skip (.exit 0)) (.seq (.block 1 (.seq (.ops [⟨some 10, .move (.tmp 8), none, []⟩, ⟨some 6, .move (.tmp 10), none, []⟩]) (.seq (.ops [⟨some 11, .move (.tmp 1), none, []⟩, ⟨some 12, .move (.tmp 6), none, []⟩, ⟨some 13, .bin .shr .none (.tmp 11) (.tmp 12), none, []⟩, ⟨some 14, .bin .and .none (.tmp 13) (.lit (.int .i64 1)), none, []⟩, ⟨some 15, .bin .eql .none (.tmp 14) (.lit (.int .i64 1)), none, []⟩]) (.cond (.tmp 15) (.ops [⟨some 16, .move (.tmp 5), none, []⟩, ⟨some 17, .move (.tmp 6), none, []⟩, ⟨some 18, .bslice 1 [.tmp 17] false, none, []⟩, ⟨some 19, .bappend 1 8 (.tmp 16) (.tmp 18) false, none, []⟩, ⟨some 5, .move (.tmp 19), none, []⟩]) .skip)))) (.ops [⟨some 20, .bin .add .none (.tmp 8) (.lit (.int .i64 1)), none, []⟩, ⟨some 8, .move (.tmp 20), none, []⟩]))))))) (.seq (.ops [⟨some 21, .move (.tmp 5), none, []⟩, ⟨some 4, .move (.tmp 21), none, []⟩]) .ret)))
set_option maxRecDepth 20000 in
theorem stateOf_spec (n k : Nat) (σ : Store) (hn : n ≤ 59) (hk : k < 1152921504606846976) : ACalls Tryz.prog 134 [.int .i64 n, .int .i64 k] σ (isR (.slice .unk ((bitsL n k).map Ahl.encI)) σ) := by
  refine ACalls.intro (rs := [(.tmp 4)]) (by kernel_rfl) { own := [], ghosts := [] } Tryz.func134 (c := Tryz.f134.body.getD .skip) (by kernel_rfl) (by decide) (by rw [show Tryz.f134.ntmps = 22 by kernel_rfl]; exact Nat.le_of_ble_eq_true rfl) (by kernel_rfl) ?_
  intro hσ hids
  rw [show comp Tryz.prog { own := [], ghosts := [] } (Tryz.f134.body.getD .skip) = c_stateOf by kernel_rfl, show Tryz.f134.ntmps = 22 by kernel_rfl]
  unfold c_stateOf
  have hs1 : ∀ k : Nat, IdsS (σ ++ [AObj.grow 1 k]).length (σ ++ [AObj.grow 1 k]) := fun k => idsS_push hσ trivial
  simp only [go_sem, Int.reduceToNat, Int.reduceLE, Int.reduceLT, Nat.reduceBEq, Nat.reduceLT, Nat.reduceAdd, Nat.reduceLeDiff]
  refine wpc_while (fun (i : Nat) => [(5, .slice (.grow σ.length) ((bitsL i k).map Ahl.encI)), (1, .int .i64 k), (7, .int .i64 n), (8, .int .i64 i)]) (fun i => σ ++ [.grow 1 (bitsL i k).length])
    (fun i => i ≤ n) (fun i => n - i) 0 (Nat.zero_le _) (by first | exact .begin0 5 1 _ (Nat.le_refl _) tellT hσ | exact .begin 5 1 _ (Nat.le_refl _) tellT hσ) ?_
  intro i hi K hK hE hR
  by_cases h : i < n
  · have hlt : ((i : Int) < (n : Int)) := by omega
    have hw : IntKind.i64.wrap ((i : Int) + 1) = ((i + 1 : Nat) : Int) := by rw [wrap_ok (by omega)]; omega
    have hbl := bitsL_len i k
    have hb1 : bigLen ((bitsL i k).length + 1) 8 := big_ok (by omega) (by omega)
    have hbit := bit_and (k := k) (x := i) hk (by omega)
    have h0 : (0 : Int) ≤ (i : Int) := by omega
    have hsu := bitsL_succ i k
    cases hb : k.testBit i
    · rw [hb] at hsu hbit
      simp only [Bool.false_eq_true, if_false] at hbit hsu
      rw [List.append_nil] at hsu
      simp only [go_sem, Int.reduceToNat, Int.reduceLE, Int.reduceLT, Nat.reduceBEq, Nat.reduceLT, Nat.reduceAdd, Nat.reduceLeDiff, hlt, h0, Int.toNat_natCast]
      erw [hbit]
      simp only [go_sem, Int.reduceToNat, Int.reduceLE, Int.reduceLT, Nat.reduceBEq, Nat.reduceLT, Nat.reduceAdd, Nat.reduceLeDiff, Int.reduceBEq]
      refine hK _ _ (i + 1) (by omega) (by omega) ?_
      (try dsimp only); simp only [hw, hsu]; first | exact ghL (hs1 _) | exact ghL0 (hs1 _)
    · rw [hb] at hsu hbit
      simp only [if_true] at hbit hsu
      simp only [go_sem, Int.reduceToNat, Int.reduceLE, Int.reduceLT, Nat.reduceBEq, Nat.reduceLT, Nat.reduceAdd, Nat.reduceLeDiff, hlt, h0, Int.toNat_natCast]
      erw [hbit]
      simp only [go_sem, Int.reduceToNat, Int.reduceLE, Int.reduceLT, Nat.reduceBEq, Nat.reduceLT, Nat.reduceAdd, Nat.reduceLeDiff, Int.reduceBEq, hb1]
      have hc : (bitsL i k).map Ahl.encI ++ [[AV.int .i64 i]] = (bitsL (i + 1) k).map Ahl.encI := by rw [hsu]; simp [Ahl.encI]
      have hc2 : (bitsL i k).length + 1 = (bitsL (i + 1) k).length := by rw [hsu]; simp
      refine hK _ _ (i + 1) (by omega) (by omega) ?_
      (try dsimp only); simp only [hw, hc, hc2]; exact ghL (hs1 _)
  · have hlt : ¬ ((i : Int) < (n : Int)) := by omega
    obtain rfl : i = n := by omega
    simp only [go_sem, Int.reduceToNat, Int.reduceLE, Int.reduceLT, Nat.reduceBEq, Nat.reduceLT, Nat.reduceAdd, Nat.reduceLeDiff, hlt, hE]
    first | exact rtk (.slice .unk ((bitsL i k).map Ahl.encI)) ⟨rfl, rfl⟩ | exact rtk0 (.slice .unk ((bitsL i k).map Ahl.encI)) ⟨rfl, rfl⟩
end Go.Proofs.YtocphglkceidhaaGreat
namespace Go.Proofs.YtocphglkceidhaaGreat
open Go.Ahl
/-- States are visited, until one time no more is wanted. -/
def foldV {α : Type} (ok : List Int → Bool) (nx : List Int → List Int) (step : α → List Int → α × Bool) : α → List (List Int) → α
  | x, [] => x
  | x, s :: r => if ok s then (if (step x (nx s)).2 then foldV ok nx step (step x (nx s)).1 r else (step x (nx s)).1) else foldV ok nx step x r
def c_iafter : CCode := .seq (.ops [⟨some 4, .box (.tmp 0), none, []⟩, ⟨some 6, .box (.tmp 2), none, []⟩]) (.seq (.ops [⟨some 10, .faddr 0 (.tmp 4), none, []⟩, ⟨some 11, .load none (.tmp 10), none, []⟩, ⟨some 12, .blen 1 (.tmp 11), none, []⟩, ⟨some 13, .bin .shl .none (.lit (.int .i64 1)) (.tmp 12), none, []⟩, ⟨some 14, .move (.lit (.int .i64 0)), none, []⟩]) (.block 0 (.loop (.seq (.ops [⟨some 15, .bin .lss .none (.tmp 14) (.tmp 13), none, []⟩]) (.seq (.cond (.tmp 15) .skip (.exit 0)) (.seq (.block 1 (.seq (.ops [⟨some 16, .move (.tmp 14), none, []⟩, ⟨some 8, .move (.tmp 16), none, []⟩]) (.seq (.ops [⟨some 17, .faddr 0 (.tmp 4), none, []⟩, ⟨some 18, .load none (.tmp 17), none, []⟩, ⟨some 19, .blen 1 (.tmp 18), none, []⟩, ⟨some 20, .move (.tmp 8), none, []⟩, ⟨some 21, .call (.lit (.func 134 [])) [.tmp 19, .tmp 20], none, []⟩, ⟨some 9, .move (.tmp 21), none, []⟩]) (.seq (.ops [⟨some 22, .move (.tmp 9), none, []⟩, ⟨some 23, .faddr 2 (.tmp 6), none, []⟩, ⟨some 24, .load none (.tmp 23), none, []⟩, ⟨some 25, .call (.lit (.func 108 [])) [.tmp 22, .tmp 24], none, []⟩, ⟨some 26, .move (.tmp 25), none, []⟩, ⟨some 27, .move (.tmp 9), some (some 26, true), []⟩, ⟨some 28, .move (.tmp 1), some (some 26, true), []⟩, ⟨some 29, .call (.lit (.func 69 [])) [.tmp 27, .tmp 28], some (some 26, true), []⟩, ⟨some 30, .pick (.tmp 26) (.tmp 29) (.lit (.bool false)), none, []⟩, ⟨some 31, .move (.tmp 30), none, []⟩, ⟨some 32, .move (.tmp 3), some (some 31, true), []⟩, ⟨some 33, .move (.tmp 9), some (some 31, true), []⟩, ⟨some 34, .load (some 4) (.tmp 6), some (some 31, true), []⟩, ⟨some 35, .call (.lit (.func 135 [])) [.tmp 33, .tmp 34], some (some 31, true), []⟩, ⟨some 36, .call (.tmp 32) [.tmp 35], some (some 31, true), []⟩, ⟨some 37, .un .not (.tmp 36), some (some 31, true), []⟩, ⟨some 38, .pick (.tmp 31) (.tmp 37) (.lit (.bool false)), none, []⟩]) (.cond (.tmp 38) .ret .skip))))) (.ops [⟨some 39, .bin .add .none (.tmp 14) (.lit (.int .i64 1)), none, []⟩, ⟨some 14, .move (.tmp 39), none, []⟩])))))))
set_option maxRecDepth 20000 in
set_option maxHeartbeats 1000000 in
theorem iafter_spec {α : Type} (t : FTask) (l : List (List FLit)) (a : FAct) (g : FuncId) (cap : List AV) (tok : Tok) (σ : Store) (st : α → Store) (step : α → List Int → α × Bool) (x0 : α)
    (hn : t.facts.length ≤ 12) (hl : FB l) (hap : a.pre.length ≤ 140737488355328) (hae : a.effects.length ≤ 1000000) (hwh : ∀ e ∈ a.effects, e.when_.length ≤ 140737488355328) (hfa : ∀ e ∈ a.effects, 0 ≤ e.lit.fact ∧ e.lit.fact < (t.facts.length : Int))
    (hcap : Ids σ.length (.func g cap)) (h0 : st x0 = σ) (hst : ∀ x, (st x).length = σ.length ∧ IdsS (st x).length (st x))
    (hv : ∀ x s tl, risingB t.facts.length (-1) s = true → ACalls Tryz.prog g (.slice .unk (s.map Ahl.encI) :: cap) (st x ++ tl) (isR (.bool (step x s).2) (st (step x s).1 ++ tl))) :
    ACalls Tryz.prog 94 [.agg (encTask t), .slice tok (l.map encC), .agg (encA a), .func g cap] σ
      (isR (.tuple []) (st (foldV (fun s => condHolds s a.pre && clausesT s l) (fun s => afterL t.facts.length s a) step x0 (statesL t.facts.length)))) := by
  subst h0
  refine ACalls.intro (rs := []) (by kernel_rfl) { own := [], ghosts := [] } Tryz.func94 (c := Tryz.f94.body.getD .skip) (by kernel_rfl) (by decide) (by rw [show Tryz.f94.ntmps = 40 by kernel_rfl]; exact Nat.le_of_ble_eq_true rfl) (by kernel_rfl) ?_
  intro hσ hids
  rw [show comp Tryz.prog { own := [], ghosts := [] } (Tryz.f94.body.getD .skip) = c_iafter by kernel_rfl, show Tryz.f94.ntmps = 40 by kernel_rfl]
  unfold c_iafter
  obtain ⟨N, hN⟩ : ∃ N, N = (st x0).length := ⟨_, rfl⟩
  have hlen : ∀ x, (st x).length = N := fun x => by rw [hN]; exact (hst x).1
  have hT0 : ∀ x a r, (st x ++ a :: r)[N]? = some a := fun x a r => by rw [← hlen x, List.getElem?_append_right (Nat.le_refl _), Nat.sub_self]; rfl
  have hT1 : ∀ x a b r, (st x ++ a :: b :: r)[N + 1]? = some b := fun x a b r => by rw [← hlen x, List.getElem?_append_right (by omega), Nat.add_sub_cancel_left]; rfl
  have hil : Ids N (.slice tok (l.map encC)) := by rw [hN]; exact hids _ (by simp)
  have hid' : ∀ x, IdsS (st x ++ [AObj.row (encTask t), .row (encA a)]).length (st x ++ [AObj.row (encTask t), .row (encA a)]) := fun x => idsS_app _ (hst x).2 (all_cons' (idsO_row (ids_encTask t)) (all_cons' (idsO_row (ids_encA a)) all_nil'))
  obtain ⟨p, hpe⟩ : ∃ p, p = 2 ^ t.facts.length := ⟨_, rfl⟩
  have hp : p ≤ 4096 := by rw [hpe]; exact Nat.pow_le_pow_right (n := 2) (by omega) hn
  have hw2 : IntKind.i64.wrap (1 * 2 ^ min t.facts.length 64) = (p : Int) := by
    rw [Nat.min_eq_left (by omega), Int.one_mul, show ((2 : Int) ^ t.facts.length) = (p : Int) by rw [hpe]; simp, wrap_ok (by omega)]
  have hstl : ∀ j, j < p → (statesL t.facts.length)[j]? = some (bitsL t.facts.length j) := fun j hj => by
    rw [← bits_all, List.getElem?_map, List.getElem?_range (by rw [← hpe]; exact hj)]; rfl
  have hsl : (statesL t.facts.length).length = p := by rw [statesL_len, hpe]
  rw [← hN] at hcap
  let ok : List Int → Bool := fun s => condHolds s a.pre && clausesT s l
  let nx : List Int → List Int := fun s => afterL t.facts.length s a
  simp only [go_sem, Int.reduceToNat, Int.reduceLE, Int.reduceLT, Nat.reduceBEq, Nat.reduceLT, Nat.reduceAdd, Nat.reduceLeDiff, encTask, encA, hT0, Int.toNat_natCast, IntKind.bits, hw2, ← hN]
  refine wpc_while (fun (q : Nat × α) => [(1, .slice tok (l.map encC)), (3, .func g cap), (4, .ptr N 0), (6, .ptr (N + 1) 0), (13, .int .i64 p), (14, .int .i64 q.1)])
    (fun q => st q.2 ++ [.row (encTask t), .row (encA a)]) (fun q => q.1 ≤ p ∧ foldV ok nx step x0 (statesL t.facts.length) = foldV ok nx step q.2 ((statesL t.facts.length).drop q.1)) (fun q => p - q.1) (0, x0) ⟨Nat.zero_le _, rfl⟩
    (by have hl0 := hlen x0; first | exact ghP0 (hid' x0) | exact ghP (l := [.row (encTask t), .row (encA a)]) (hid' x0)) ?_
  rintro ⟨j, x⟩ ⟨hj, hv'⟩ K hK hE hR
  dsimp only at hj hv' ⊢
  have hlx := hlen x
  by_cases h : j < p
  · have hlt : ((j : Int) < (p : Int)) := by omega
    have hw : IntKind.i64.wrap ((j : Int) + 1) = ((j + 1 : Nat) : Int) := by rw [wrap_ok (by omega)]; omega
    rw [drop_cons (hstl j h), foldV] at hv'
    have hbr : risingB t.facts.length (-1) (bitsL t.facts.length j) = true := (statesL_mem _ _ (List.mem_of_getElem? (hstl j h))).2
    have hbl := bitsL_len t.facts.length j
    have hpw := (rising_pw hbr).1
    simp only [go_sem, Int.reduceToNat, Int.reduceLE, Int.reduceLT, Nat.reduceBEq, Nat.reduceLT, Nat.reduceAdd, Nat.reduceLeDiff, hlt, hT0, encTask]
    refine (stateOf_spec t.facts.length j _ (by omega) (by omega)).is ?_
    simp only [go_sem, Int.reduceToNat, Int.reduceLE, Int.reduceLT, Nat.reduceBEq, Nat.reduceLT, Nat.reduceAdd, Nat.reduceLeDiff, hT1, encA]
    refine (sTrue_spec (bitsL t.facts.length j) a.pre .unk .unk _ (by omega) hpw hap).is ?_
    cases h1 : condHolds (bitsL t.facts.length j) a.pre
    · have hok : ok (bitsL t.facts.length j) = false := by show (_ && _) = false; rw [h1]; rfl
      rw [if_neg (by rw [hok]; simp)] at hv'
      simp only [go_sem, Int.reduceToNat, Int.reduceLE, Int.reduceLT, Nat.reduceBEq, Nat.reduceLT, Nat.reduceAdd, Nat.reduceLeDiff]
      refine hK _ _ (j + 1, x) ⟨by simp only []; omega, hv'⟩ (by simp only []; omega) ?_
      (try dsimp only)
      rw [hw]
      first | exact ghP0 (hid' _) | exact ghP (l := [.row (encTask t), .row (encA a)]) (hid' _)
    cases h2 : clausesT (bitsL t.facts.length j) l
    · have hok : ok (bitsL t.facts.length j) = false := by show (_ && _) = false; rw [h1, h2]; rfl
      rw [if_neg (by rw [hok]; simp)] at hv'
      simp only [go_sem, Int.reduceToNat, Int.reduceLE, Int.reduceLT, Nat.reduceBEq, Nat.reduceLT, Nat.reduceAdd, Nat.reduceLeDiff]
      refine (every_spec (bitsL t.facts.length j) l .unk tok _ (by omega) hpw hl).is ?_
      rw [h2]
      simp only [go_sem, Int.reduceToNat, Int.reduceLE, Int.reduceLT, Nat.reduceBEq, Nat.reduceLT, Nat.reduceAdd, Nat.reduceLeDiff]
      refine hK _ _ (j + 1, x) ⟨by simp only []; omega, hv'⟩ (by simp only []; omega) ?_
      (try dsimp only)
      rw [hw]
      first | exact ghP0 (hid' _) | exact ghP (l := [.row (encTask t), .row (encA a)]) (hid' _)
    have hok : ok (bitsL t.facts.length j) = true := by show (_ && _) = true; rw [h1, h2]; rfl
    rw [if_pos hok] at hv'
    have hax : risingB t.facts.length (-1) (nx (bitsL t.facts.length j)) = true := afterL_rising _ _ _
    have hse := afterS_eq (a := a) hbr hfa
    simp only [go_sem, Int.reduceToNat, Int.reduceLE, Int.reduceLT, Nat.reduceBEq, Nat.reduceLT, Nat.reduceAdd, Nat.reduceLeDiff]
    refine (every_spec (bitsL t.facts.length j) l .unk tok _ (by omega) hpw hl).is ?_
    rw [h2]
    simp only [go_sem, Int.reduceToNat, Int.reduceLE, Int.reduceLT, Nat.reduceBEq, Nat.reduceLT, Nat.reduceAdd, Nat.reduceLeDiff, hT1, encA]
    refine (sAfter_spec (bitsL t.facts.length j) a .unk _ (by omega) hpw hae hwh).is ?_
    rw [hse]
    simp only [go_sem, Int.reduceToNat, Int.reduceLE, Int.reduceLT, Nat.reduceBEq, Nat.reduceLT, Nat.reduceAdd, Nat.reduceLeDiff]
    refine (hv x (nx (bitsL t.facts.length j)) _ hax).mono ?_
    rintro _ _ ⟨rfl, rfl⟩
    cases h3 : (step x (nx (bitsL t.facts.length j))).2
    · rw [if_neg (by rw [h3]; simp)] at hv'
      simp only [go_sem, Int.reduceToNat, Int.reduceLE, Int.reduceLT, Nat.reduceBEq, Nat.reduceLT, Nat.reduceAdd, Nat.reduceLeDiff, hR]
      have hlx2 := hlen (step x (nx (bitsL t.facts.length j))).1
      refine ret_gh0 (σ' := st (step x (nx (bitsL t.facts.length j))).1) ?_ (by omega) (hst _).2 ⟨rfl, by rw [hv']⟩
      first | exact Ghost.keep _ (by omega) trivial (hst _).2 | exact Ghost.keep0 (by omega) trivial (hst _).2
    · rw [if_pos h3] at hv'
      have hlx2 := hlen (step x (nx (bitsL t.facts.length j))).1
      simp only [go_sem, Int.reduceToNat, Int.reduceLE, Int.reduceLT, Nat.reduceBEq, Nat.reduceLT, Nat.reduceAdd, Nat.reduceLeDiff]
      refine hK _ _ (j + 1, (step x (nx (bitsL t.facts.length j))).1) ⟨by simp only []; omega, hv'⟩ (by simp only []; omega) ?_
      (try dsimp only)
      rw [hw]
      first | exact ghP0 (hid' _) | exact ghP (l := [.row (encTask t), .row (encA a)]) (hid' _)
  · have hlt : ¬ ((j : Int) < (p : Int)) := by omega
    rw [drop_len (by omega), foldV] at hv'
    simp only [go_sem, Int.reduceToNat, Int.reduceLE, Int.reduceLT, Nat.reduceBEq, Nat.reduceLT, Nat.reduceAdd, Nat.reduceLeDiff, hlt, hE]
    refine ret_gh0 (σ' := st x) ?_ (by omega) (hst _).2 ⟨rfl, by rw [← hv']⟩
    first | exact Ghost.keep _ (by omega) trivial (hst _).2 | exact Ghost.keep0 (by omega) trivial (hst _).2
theorem idsS_put {n : Nat} {σ : Store} (h : IdsS n σ) (i : Nat) {o : AObj} (ho : IdsO n o) : IdsS n (σ.set i o) := by
  intro j o' hj
  rcases get_set hj with ⟨rfl, rfl⟩ | ⟨_, hj⟩
  · exact ho
  · exact h j o' hj
def c_kept1 : CCode := .seq (.ops [⟨some 4, .move (.lit (.bool false)), none, []⟩]) (.seq (.ops [⟨some 5, .move (.tmp 0), none, []⟩, ⟨some 6, .load none (.tmp 1), none, []⟩, ⟨some 7, .call (.lit (.func 93 [])) [.tmp 5, .tmp 6], none, []⟩, ⟨none, .store 1 (.tmp 2) (.tmp 7), none, []⟩]) (.seq (.ops [⟨some 8, .load none (.tmp 2), none, []⟩, ⟨some 4, .move (.tmp 8), none, []⟩]) .ret))
set_option maxRecDepth 20000 in
theorem kept1_spec (s : List Int) (c : List FLit) (tok : Tok) (C I : Nat) (b : Bool) (σ : Store) (hs : s.length ≤ 140737488355328) (hp : s.Pairwise (· < ·)) (hc : c.length ≤ 140737488355328) (hC : σ[C]? = some (.row [.slice tok (c.map encLit)])) (hI : σ[I]? = some (.row [.bool b])) :
    ACalls Tryz.prog 97 [.slice .unk (s.map Ahl.encI), .ptr C 0, .ptr I 0] σ (isR (.bool (clauseT s c)) (σ.set I (.row [.bool (clauseT s c)]))) := by
  refine ACalls.intro (rs := [(.tmp 4)]) (by kernel_rfl) { own := [], ghosts := [] } Tryz.func97 (c := Tryz.f97.body.getD .skip) (by kernel_rfl) (by decide) (by rw [show Tryz.f97.ntmps = 9 by kernel_rfl]; exact Nat.le_of_ble_eq_true rfl) (by kernel_rfl) ?_
  intro hσ hids
  rw [show comp Tryz.prog { own := [], ghosts := [] } (Tryz.f97.body.getD .skip) = c_kept1 by kernel_rfl, show Tryz.f97.ntmps = 9 by kernel_rfl]
  unfold c_kept1
  have hII : ∀ o, (σ.set I o)[I]? = some o := fun o => List.getElem?_set_self (lt_of_get hI)
  simp only [go_sem, Int.reduceToNat, Int.reduceLE, Int.reduceLT, Nat.reduceBEq, Nat.reduceLT, Nat.reduceAdd, Nat.reduceLeDiff, hC]
  refine (some_spec s c .unk tok _ hs hp hc).is ?_
  simp only [go_sem, Int.reduceToNat, Int.reduceLE, Int.reduceLT, Nat.reduceBEq, Nat.reduceLT, Nat.reduceAdd, Nat.reduceLeDiff, hI, hII]
  have hq : IdsS (σ.set I (.row [.bool (clauseT s c)])).length (σ.set I (.row [.bool (clauseT s c)])) := by
    rw [List.length_set]; exact idsS_put hσ I (idsO_row (by intro x hx; simp at hx; subst hx; exact .bool _))
  refine ret_gh (v := .bool (clauseT s c)) (σ' := σ.set I (.row [.bool (clauseT s c)])) ?_ (by simp) hq (.bool _) ⟨rfl, rfl⟩
  exact Ghost.keep0 (by simp) ⟨⟨Wk.refl _, .bool _⟩, trivial⟩ hq
theorem foldV_step (n : Nat) (l : List (List FLit)) (a : FAct) (c : List FLit) : ∀ (L : List (List Int)) (b : Bool), b = true → foldV (fun s => condHolds s a.pre && clausesT s l) (fun s => afterL n s a) (fun (_ : Bool) s => (clauseT s c, clauseT s c)) b L = L.all fun s => !(condHolds s a.pre && clausesT s l) || clauseT (afterL n s a) c
  | [], b, h => h
  | s :: L, b, h => by
    rw [foldV, List.all_cons]
    cases h1 : (condHolds s a.pre && clausesT s l)
    · rw [if_neg (by simp), foldV_step n l a c L b h]; rfl
    · rw [if_pos rfl]
      cases h2 : clauseT (afterL n s a) c
      · rw [if_neg (by simp)]; rfl
      · rw [if_pos rfl, foldV_step n l a c L true rfl]; rfl
def d_ikept_0 : List COp := [⟨some 25, .load (some 4) (.tmp 6), none, []⟩, ⟨some 26, .load none (.tmp 7), none, []⟩, ⟨some 27, .call (.lit (.func 99 [])) [.tmp 26], none, [1]⟩, ⟨some 28, .bslice 1 [.tmp 27] false, none, [2]⟩, ⟨some 29, .call (.lit (.func 98 [])) [.tmp 25, .tmp 28], none, [0, 3, 2]⟩, ⟨some 24, .move (.tmp 29), none, [4]⟩, ⟨some 30, .extract (.tmp 24) 0, none, [5]⟩, ⟨some 31, .extract (.tmp 24) 1, none, [5]⟩, ⟨some 10, .move (.tmp 30), none, [6, 4, 0, 1, 2, 3, 4, 5, 6]⟩, ⟨some 11, .move (.tmp 31), none, [7, 8, 0, 1, 2, 3, 4, 5, 6, 7, 8]⟩]
def d_ikept_1 : List COp := [⟨some 35, .load (some 4) (.tmp 4), none, []⟩, ⟨some 36, .move (.tmp 10), none, []⟩, ⟨some 37, .move (.tmp 1), none, []⟩, ⟨some 38, .call (.lit (.func 101 [])) [.tmp 37], none, [2]⟩, ⟨some 39, .call (.lit (.func 100 [])) [.tmp 35, .tmp 36, .tmp 38], none, [0, 1, 3, 3]⟩, ⟨some 34, .move (.tmp 39), none, [4]⟩, ⟨some 40, .extract (.tmp 34) 0, none, [5]⟩, ⟨some 41, .extract (.tmp 34) 1, none, [5]⟩, ⟨some 42, .extract (.tmp 34) 2, none, [5]⟩, ⟨some 12, .move (.tmp 40), none, [6, 4, 0, 1, 2, 3, 4, 5, 6]⟩, ⟨some 13, .move (.tmp 41), none, [7, 9, 0, 1, 2, 3, 4, 5, 6, 7, 9]⟩, ⟨some 9, .move (.tmp 42), none, [8, 10, 0, 1, 2, 3, 4, 5, 6, 7, 8, 9, 10]⟩]
def c_ikept : CCode := .seq (.ops [⟨some 4, .box (.tmp 0), none, []⟩, ⟨some 6, .box (.tmp 2), none, []⟩, ⟨some 7, .box (.tmp 3), none, []⟩, ⟨some 8, .alloc (.bool false), none, []⟩, ⟨some 9, .move (.lit (.bool false)), none, []⟩]) (.seq (.seq (.ops [⟨some 14, .faddr 0 (.tmp 4), none, []⟩, ⟨some 15, .load none (.tmp 14), none, []⟩, ⟨some 16, .blen 1 (.tmp 15), none, []⟩, ⟨some 17, .bin .leq .none (.tmp 16) (.lit (.int .i64 12)), none, []⟩]) (.cond (.tmp 17) (.seq (.ops [⟨none, .store 1 (.tmp 8) (.lit (.bool true)), none, []⟩]) (.seq (.ops [⟨some 18, .load (some 4) (.tmp 4), none, []⟩, ⟨some 19, .move (.tmp 1), none, []⟩, ⟨some 20, .load (some 4) (.tmp 6), none, []⟩, ⟨some 21, .mkfunc 97 [.tmp 7, .tmp 8], none, []⟩, ⟨some 22, .call (.lit (.func 94 [])) [.tmp 18, .tmp 19, .tmp 20, .tmp 21], none, []⟩]) (.seq (.ops [⟨some 23, .load none (.tmp 8), none, []⟩, ⟨none, .store 1 (.tmp 8) (.tmp 23), none, []⟩, ⟨some 9, .move (.lit (.bool true)), none, []⟩]) .ret))) .skip)) (.seq (.draw d_ikept_0) (.seq (.seq (.ops [⟨some 32, .move (.tmp 11), none, []⟩, ⟨some 33, .un .not (.tmp 32), none, []⟩]) (.cond (.tmp 33) (.seq (.ops [⟨none, .store 1 (.tmp 8) (.lit (.bool false)), none, []⟩, ⟨some 9, .move (.lit (.bool false)), none, []⟩]) .ret) .skip)) (.seq (.draw d_ikept_1) (.seq (.ops [⟨some 43, .move (.tmp 13), none, []⟩, ⟨some 44, .un .not (.tmp 43), none, []⟩, ⟨some 45, .move (.tmp 9), none, []⟩, ⟨none, .store 1 (.tmp 8) (.tmp 44), none, []⟩, ⟨some 9, .move (.tmp 45), none, []⟩]) .ret)))))
set_option maxRecDepth 20000 in
set_option maxHeartbeats 1000000 in
theorem ikept_spec (t : FTask) (l : List (List FLit)) (a : FAct) (c : List FLit) (tok tok' : Tok) (σ : Store) (hn : t.facts.length ≤ 12) (hl : FB l) (hc : c.length ≤ 140737488355328) (hap : a.pre.length ≤ 140737488355328) (hae : a.effects.length ≤ 1000000) (hwh : ∀ e ∈ a.effects, e.when_.length ≤ 140737488355328) (hfa : ∀ e ∈ a.effects, 0 ≤ e.lit.fact ∧ e.lit.fact < (t.facts.length : Int)) :
    ACalls Tryz.prog 66 [.agg (encTask t), .slice tok (l.map encC), .agg (encA a), .slice tok' (c.map encLit)] σ (isR (.tuple [.bool (stepB t.facts.length l a c), .bool true]) σ) := by
  refine ACalls.intro (rs := [(.cell none 8), (.tmp 9)]) (by kernel_rfl) { own := [], ghosts := [] } Tryz.func66 (c := Tryz.f66.body.getD .skip) (by kernel_rfl) (by decide) (by rw [show Tryz.f66.ntmps = 46 by kernel_rfl]; exact Nat.le_of_ble_eq_true rfl) (by kernel_rfl) ?_
  intro hσ hids
  rw [show comp Tryz.prog { own := [], ghosts := [] } (Tryz.f66.body.getD .skip) = c_ikept by kernel_rfl, show Tryz.f66.ntmps = 46 by kernel_rfl]
  unfold c_ikept
  have h12 : ((t.facts.length : Int) ≤ 12) := by omega
  have hic : Ids σ.length (.slice tok' (c.map encLit)) := hids _ (by simp)
  simp only [go_sem, Int.reduceToNat, Int.reduceLE, Int.reduceLT, Nat.reduceBEq, Nat.reduceLT, Nat.reduceAdd, Nat.reduceLeDiff, encTask, encA, h12]
  have hst : ∀ b : Bool, IdsS (σ ++ [AObj.row (encTask t), .row (encA a), .row [.slice tok' (c.map encLit)], .row [.bool b]]).length (σ ++ [AObj.row (encTask t), .row (encA a), .row [.slice tok' (c.map encLit)], .row [.bool b]]) := fun b =>
    idsS_app _ hσ (all_cons' (idsO_row (ids_encTask t)) (all_cons' (idsO_row (ids_encA a)) (all_cons' (idsO_row (by intro x hx; simp at hx; subst hx; exact ids_up (by omega) hic)) (all_cons' (idsO_row (by intro x hx; simp at hx; subst hx; exact .bool _)) all_nil'))))
  refine (iafter_spec t l a 97 [.ptr (σ.length + 2) 0, .ptr (σ.length + 3) 0] tok _ (fun b : Bool => σ ++ [.row (encTask t), .row (encA a), .row [.slice tok' (c.map encLit)], .row [.bool b]]) (fun _ s => (clauseT s c, clauseT s c)) true hn hl hap hae hwh hfa ?_ rfl ?_ ?_).mono ?_
  · exact ids_func (by intro x hx; simp at hx; rcases hx with rfl | rfl <;> exact .ptr _ _ (by simp))
  · intro b; exact ⟨by simp, hst b⟩
  · intro b s tl hr
    have hsl : s.length ≤ 140737488355328 := by rcases risingB_len _ _ hr with rfl | h; simp; omega
    refine (kept1_spec s c tok' (σ.length + 2) (σ.length + 3) b _ hsl (rising_pw hr).1 hc ?_ ?_).mono ?_
    · rw [List.append_assoc, List.getElem?_append_right (by omega), Nat.add_sub_cancel_left]; rfl
    · rw [List.append_assoc, List.getElem?_append_right (by omega), Nat.add_sub_cancel_left]; rfl
    · rintro _ _ ⟨rfl, rfl⟩
      refine ⟨rfl, ?_⟩
      rw [List.append_assoc, List.set_append_right _ _ (by omega), Nat.add_sub_cancel_left, List.append_assoc]; rfl
  · rintro _ _ ⟨rfl, rfl⟩
    rw [foldV_step _ _ _ _ _ _ rfl]
    simp only [go_sem, Int.reduceToNat, Int.reduceLE, Int.reduceLT, Nat.reduceBEq, Nat.reduceLT, Nat.reduceAdd, Nat.reduceLeDiff]
    refine ret_ct (id := σ.length + 3) rfl (by rw [List.getElem?_append_right (by omega), Nat.add_sub_cancel_left]; rfl) rfl (by simp) hσ (.bool _) (.bool _) ⟨rfl, rfl⟩
end Go.Proofs.YtocphglkceidhaaGreat
namespace Go.Proofs.YtocphglkceidhaaGreat
open Go.Ahl
/-- An action that may be executed. -/
structure AOk (n : Nat) (a : FAct) : Prop where
  pre : a.pre.length ≤ 1000000
  eff : a.effects.length ≤ 1000000
  whens : ∀ e ∈ a.effects, e.when_.length ≤ 1000000
  rng : ∀ e ∈ a.effects, 0 ≤ e.lit.fact ∧ e.lit.fact < (n : Int)
theorem valid_AOk {t : FTask} (h : validB t = true) {a : FAct} (ha : a ∈ t.actions) : AOk t.facts.length a := by
  have hv := valid_act h ha
  have hf := valid_facts h
  have hc : ∀ l, cV t.facts.length l → l.length ≤ 1000000 := fun l hl => by rcases condB_len hl with rfl | q; simp; omega
  refine ⟨hc _ hv.pre, by have := hv.many; omega, fun e he => hc _ (hv.whens e he), fun e he => ?_⟩
  simp only [validB, Bool.and_eq_true] at h
  have h1 := List.all_eq_true.1 h.2.2.2.2.2.2 a ha
  simp only [actB, Bool.and_eq_true] at h1
  have h2 := List.all_eq_true.1 h1.2.2.2.2 e he
  simp only [effB, Bool.and_eq_true, decide_eq_true_eq] at h2
  exact ⟨h2.2.1, h2.2.2⟩
def aZero : FAct := ⟨.empty, 0, [], []⟩
/-- Whether a clause holds after an action wherever clauses do, and the error. -/
def istR (t : FTask) (l : List (List FLit)) (k : Int) (c : List FLit) : AV :=
  if clE t l = 0 then (if condB t.facts.length (-1) c then (if 0 ≤ k ∧ k < t.actions.length then .tuple [.bool (stepB t.facts.length l (t.actions.getD k.toNat aZero) c), .int .i64 0] else .tuple [.bool false, .int .i64 1]) else .tuple [.bool false, .int .i64 70]) else .tuple [.bool false, .int .i64 (clE t l)]
theorem clE_zero {t : FTask} {l : List (List FLit)} (h : clE t l = 0) : validB t = true ∧ l.length ≤ 2000 ∧ vF t.facts.length l := by
  unfold clE at h
  cases h1 : validB t
  · rw [h1] at h; simp at h
  rw [h1] at h
  cases h2 : isClauses t.facts.length l
  · rw [h2] at h; simp at h
  simp only [isClauses, Bool.and_eq_true, decide_eq_true_eq] at h2
  exact ⟨rfl, h2.1, fun c hc => List.all_eq_true.1 h2.2 c hc⟩
def d_iStep_0 : List COp := [⟨some 35, .load (some 4) (.tmp 4), none, []⟩, ⟨some 36, .move (.tmp 1), none, []⟩, ⟨some 37, .faddr 3 (.tmp 4), none, []⟩, ⟨some 38, .load none (.tmp 37), none, [2]⟩, ⟨some 39, .move (.tmp 2), none, []⟩, ⟨some 40, .iaddr 4 (.tmp 38) (.tmp 39), none, [3, 4]⟩, ⟨some 41, .load (some 4) (.tmp 40), none, [5]⟩, ⟨some 42, .move (.tmp 3), none, []⟩, ⟨some 43, .call (.lit (.func 66 [])) [.tmp 35, .tmp 36, .tmp 41, .tmp 42], none, [0, 1, 6, 7]⟩, ⟨some 34, .move (.tmp 43), none, [8]⟩, ⟨some 44, .extract (.tmp 34) 0, none, [9]⟩, ⟨some 45, .extract (.tmp 34) 1, none, [9]⟩, ⟨some 11, .move (.tmp 44), none, [10, 8, 0, 1, 2, 3, 4, 5, 6, 7, 8, 9, 10]⟩, ⟨some 12, .move (.tmp 45), none, [11, 12, 0, 1, 2, 3, 4, 5, 6, 7, 8, 9, 10, 11, 12]⟩]
theorem dr_iStep_0 (P : Program) (nt n0 : Nat) (Q : Post) (s : Slots) (σ : Store) : wpc P nt n0 (.draw d_iStep_0) Q s σ = aOpsD P nt [⟨some 35, .load (some 4) (.tmp 4), none, []⟩, ⟨some 36, .move (.tmp 1), none, []⟩, ⟨some 37, .faddr 3 (.tmp 4), none, []⟩, ⟨some 38, .load none (.tmp 37), none, [2]⟩, ⟨some 39, .move (.tmp 2), none, []⟩, ⟨some 40, .iaddr 4 (.tmp 38) (.tmp 39), none, [3, 4]⟩, ⟨some 41, .load (some 4) (.tmp 40), none, [5]⟩, ⟨some 42, .move (.tmp 3), none, []⟩, ⟨some 43, .call (.lit (.func 66 [])) [.tmp 35, .tmp 36, .tmp 41, .tmp 42], none, [0, 1, 6, 7]⟩, ⟨some 34, .move (.tmp 43), none, [8]⟩, ⟨some 44, .extract (.tmp 34) 0, none, [9]⟩, ⟨some 45, .extract (.tmp 34) 1, none, [9]⟩, ⟨some 11, .move (.tmp 44), none, [10, 8, 0, 1, 2, 3, 4, 5, 6, 7, 8, 9, 10]⟩, ⟨some 12, .move (.tmp 45), none, [11, 12, 0, 1, 2, 3, 4, 5, 6, 7, 8, 9, 10, 11, 12]⟩] (Q .normal) s σ := wpc_draw _ (by decide)
def c_iStep : CCode := .seq (.ops [⟨some 4, .box (.tmp 0), none, []⟩, ⟨some 8, .move (.lit (.bool false)), none, []⟩, ⟨some 9, .move (.lit (.int .i64 0)), none, []⟩]) (.seq (.seq (.ops [⟨some 13, .load (some 4) (.tmp 4), none, []⟩, ⟨some 14, .move (.tmp 1), none, []⟩, ⟨some 15, .call (.lit (.func 37 [])) [.tmp 13, .tmp 14], none, []⟩, ⟨some 10, .move (.tmp 15), none, []⟩]) (.seq (.ops [⟨some 16, .move (.tmp 10), none, []⟩, ⟨some 17, .bin .neq .none (.tmp 16) (.lit (.int .i64 0)), none, []⟩]) (.cond (.tmp 17) (.seq (.ops [⟨some 18, .move (.tmp 10), none, []⟩, ⟨some 8, .move (.lit (.bool false)), none, []⟩, ⟨some 9, .move (.tmp 18), none, []⟩]) .ret) .skip))) (.seq (.seq (.ops [⟨some 19, .faddr 0 (.tmp 4), none, []⟩, ⟨some 20, .load none (.tmp 19), none, []⟩, ⟨some 21, .blen 1 (.tmp 20), none, []⟩, ⟨some 22, .move (.tmp 3), none, []⟩, ⟨some 23, .call (.lit (.func 65 [])) [.tmp 21, .tmp 22], none, []⟩, ⟨some 24, .un .not (.tmp 23), none, []⟩]) (.cond (.tmp 24) (.seq (.ops [⟨some 8, .move (.lit (.bool false)), none, []⟩, ⟨some 9, .move (.lit (.int .i64 70)), none, []⟩]) .ret) .skip)) (.seq (.seq (.ops [⟨some 25, .move (.tmp 2), none, []⟩, ⟨some 26, .bin .lss .none (.tmp 25) (.lit (.int .i64 0)), none, []⟩, ⟨some 27, .move (.tmp 26), none, []⟩, ⟨some 28, .move (.tmp 2), some (some 27, false), []⟩, ⟨some 29, .faddr 3 (.tmp 4), some (some 27, false), []⟩, ⟨some 30, .load none (.tmp 29), some (some 27, false), []⟩, ⟨some 31, .blen 1 (.tmp 30), some (some 27, false), []⟩, ⟨some 32, .bin .geq .none (.tmp 28) (.tmp 31), some (some 27, false), []⟩, ⟨some 33, .pick (.tmp 27) (.lit (.bool true)) (.tmp 32), none, []⟩]) (.cond (.tmp 33) (.seq (.ops [⟨some 8, .move (.lit (.bool false)), none, []⟩, ⟨some 9, .move (.lit (.int .i64 1)), none, []⟩]) .ret) .skip)) (.seq (.draw d_iStep_0) (.seq (.seq (.ops [⟨some 46, .move (.tmp 12), none, []⟩, ⟨some 47, .un .not (.tmp 46), none, []⟩]) (.cond (.tmp 47) (.seq (.ops [⟨some 8, .move (.lit (.bool false)), none, []⟩, ⟨some 9, .move (.lit (.int .i64 3)), none, []⟩]) .ret) .skip)) (.seq (.ops [⟨some 48, .move (.tmp 11), none, []⟩, ⟨some 8, .move (.tmp 48), none, []⟩, ⟨some 9, .move (.lit (.int .i64 0)), none, []⟩]) .ret))))))
set_option maxRecDepth 20000 in
set_option maxHeartbeats 1000000 in
theorem iStep_spec (t : FTask) (l : List (List FLit)) (k : Int) (c : List FLit) (tok tok' : Tok) (σ : Store) (ht : TB t) (hl : FB l) (hc : c.length ≤ 140737488355328) (h12 : validB t = true → t.facts.length ≤ 12) :
    ACalls Tryz.prog 23 [.agg (encTask t), .slice tok (l.map encC), .int .i64 k, .slice tok' (c.map encLit)] σ (isR (istR t l k c) σ) := by
  refine ACalls.intro (rs := [(.tmp 8), (.tmp 9)]) (by kernel_rfl) { own := [], ghosts := [] } Tryz.func23 (c := Tryz.f23.body.getD .skip) (by kernel_rfl) (by decide) (by rw [show Tryz.f23.ntmps = 49 by kernel_rfl]; exact Nat.le_of_ble_eq_true rfl) (by kernel_rfl) ?_
  intro hσ hids
  rw [show comp Tryz.prog { own := [], ghosts := [] } (Tryz.f23.body.getD .skip) = c_iStep by kernel_rfl, show Tryz.f23.ntmps = 49 by kernel_rfl]
  unfold c_iStep
  simp only [go_sem, Int.reduceToNat, Int.reduceLE, Int.reduceLT, Nat.reduceBEq, Nat.reduceLT, Nat.reduceAdd, Nat.reduceLeDiff, dr_iStep_0, encTask]
  refine (clauses_spec t l tok _ ht hl).is ?_
  by_cases h1 : clE t l = 0
  rotate_left
  · have h1' : (clE t l != 0) = true := by simpa using h1
    simp only [go_sem, Int.reduceToNat, Int.reduceLE, Int.reduceLT, Nat.reduceBEq, Nat.reduceLT, Nat.reduceAdd, Nat.reduceLeDiff, dr_iStep_0, h1']
    first | exact rtl (.bool false) (.int .i64 (clE t l)) ⟨by rw [istR, if_neg h1], rfl⟩ | exact rtl0 (.bool false) (.int .i64 (clE t l)) ⟨by rw [istR, if_neg h1], rfl⟩
  rw [h1]
  simp only [go_sem, Int.reduceToNat, Int.reduceLE, Int.reduceLT, Nat.reduceBEq, Nat.reduceLT, Nat.reduceAdd, Nat.reduceLeDiff, dr_iStep_0, encTask]
  refine (cond_spec c t.facts.length tok' _ hc).is ?_
  cases h2 : condB t.facts.length (-1) c
  · simp only [go_sem, Int.reduceToNat, Int.reduceLE, Int.reduceLT, Nat.reduceBEq, Nat.reduceLT, Nat.reduceAdd, Nat.reduceLeDiff, dr_iStep_0]
    first | exact rtl (.bool false) (.int .i64 70) ⟨by rw [istR, if_pos h1, h2]; rfl, rfl⟩ | exact rtl0 (.bool false) (.int .i64 70) ⟨by rw [istR, if_pos h1, h2]; rfl, rfl⟩
  obtain ⟨hv, _, _⟩ := clE_zero h1
  by_cases h3 : k < 0
  · simp only [go_sem, Int.reduceToNat, Int.reduceLE, Int.reduceLT, Nat.reduceBEq, Nat.reduceLT, Nat.reduceAdd, Nat.reduceLeDiff, dr_iStep_0, h3]
    first | exact rtl (.bool false) (.int .i64 1) ⟨by rw [istR, if_pos h1, h2, if_pos rfl, if_neg (by omega)], rfl⟩ | exact rtl0 (.bool false) (.int .i64 1) ⟨by rw [istR, if_pos h1, h2, if_pos rfl, if_neg (by omega)], rfl⟩
  by_cases h4 : k ≥ (t.actions.length : Int)
  · simp only [go_sem, Int.reduceToNat, Int.reduceLE, Int.reduceLT, Nat.reduceBEq, Nat.reduceLT, Nat.reduceAdd, Nat.reduceLeDiff, dr_iStep_0, h3, h4, encTask]
    first | exact rtl (.bool false) (.int .i64 1) ⟨by rw [istR, if_pos h1, h2, if_pos rfl, if_neg (by omega)], rfl⟩ | exact rtl0 (.bool false) (.int .i64 1) ⟨by rw [istR, if_pos h1, h2, if_pos rfl, if_neg (by omega)], rfl⟩
  have h0 : 0 ≤ k := by omega
  obtain ⟨a, ha⟩ := get_ex (show k.toNat < t.actions.length by omega)
  have hok := valid_AOk hv (List.mem_of_getElem? ha)
  have hgd : t.actions.getD k.toNat aZero = a := by rw [List.getD_eq_getElem?_getD, ha]; rfl
  simp only [go_sem, Int.reduceToNat, Int.reduceLE, Int.reduceLT, Nat.reduceBEq, Nat.reduceLT, Nat.reduceAdd, Nat.reduceLeDiff, dr_iStep_0, h3, h4, encTask, ha, h0, encA]
  refine ⟨_, ikept_spec t l a c tok tok' _ (h12 hv) hl hc (by have := hok.pre; omega) hok.eff (fun e he => by have := hok.whens e he; omega) hok.rng, ?_⟩
  simp only [go_sem, Int.reduceToNat, Int.reduceLE, Int.reduceLT, Nat.reduceBEq, Nat.reduceLT, Nat.reduceAdd, Nat.reduceLeDiff, dr_iStep_0]
  first | exact rtx (v := .bool _) (x := .int .i64 0) wkS wkS ⟨by rw [istR, if_pos h1, h2, if_pos rfl, if_pos (by omega), hgd], rfl⟩ | exact rtx0 (v := .bool _) (x := .int .i64 0) wkS wkS ⟨by rw [istR, if_pos h1, h2, if_pos rfl, if_pos (by omega), hgd], rfl⟩
end Go.Proofs.YtocphglkceidhaaGreat
namespace Go.Proofs.YtocphglkceidhaaGreat
open Go.Ahl
/-- The marks behind a look at a state. -/
def markB (s : List Int) (l : List (List FLit)) (p : Nat → Bool) (i : Nat) : Bool := p i || !(clauseT s (l.getD i []))
theorem genB_get' {n : Nat} {p : Nat → Bool} {k : Nat} (h : k < n) : ((genB n p).map ab)[k]? = some (.bool (p k)) := by rw [List.getElem?_map, genB_get h]; rfl
def d_removed1_0 : List COp := [⟨some 14, .load none (.tmp 2), none, []⟩, ⟨some 15, .move (.tmp 5), none, []⟩, ⟨some 16, .load none (.tmp 2), none, []⟩, ⟨some 17, .move (.tmp 5), none, []⟩, ⟨some 18, .iaddr 1 (.tmp 16) (.tmp 17), none, [2, 3]⟩, ⟨some 19, .load none (.tmp 18), none, [4]⟩, ⟨some 20, .move (.tmp 19), none, [5]⟩, ⟨some 21, .move (.tmp 0), some (some 20, false), [6]⟩, ⟨some 22, .move (.tmp 6), some (some 20, false), [6]⟩, ⟨some 23, .call (.lit (.func 93 [])) [.tmp 21, .tmp 22], some (some 20, false), [7, 8, 6, 6]⟩, ⟨some 24, .un .not (.tmp 23), some (some 20, false), [9, 6]⟩, ⟨some 25, .pick (.tmp 20) (.lit (.bool true)) (.tmp 24), none, [6, 10]⟩, ⟨some 26, .iaddr 1 (.tmp 14) (.tmp 15), none, [0, 1, 0, 1, 2, 3, 4, 5, 6, 7, 8, 9, 10, 11]⟩, ⟨none, .store 1 (.tmp 26) (.tmp 25), none, [12, 11, 9, 0, 1, 2, 3, 4, 5, 6, 7, 8, 9, 10, 11]⟩]
theorem dr_removed1_0 (P : Program) (nt n0 : Nat) (Q : Post) (s : Slots) (σ : Store) : wpc P nt n0 (.draw d_removed1_0) Q s σ = aOpsD P nt [⟨some 14, .load none (.tmp 2), none, []⟩, ⟨some 15, .move (.tmp 5), none, []⟩, ⟨some 16, .load none (.tmp 2), none, []⟩, ⟨some 17, .move (.tmp 5), none, []⟩, ⟨some 18, .iaddr 1 (.tmp 16) (.tmp 17), none, [2, 3]⟩, ⟨some 19, .load none (.tmp 18), none, [4]⟩, ⟨some 20, .move (.tmp 19), none, [5]⟩, ⟨some 21, .move (.tmp 0), some (some 20, false), [6]⟩, ⟨some 22, .move (.tmp 6), some (some 20, false), [6]⟩, ⟨some 23, .call (.lit (.func 93 [])) [.tmp 21, .tmp 22], some (some 20, false), [7, 8, 6, 6]⟩, ⟨some 24, .un .not (.tmp 23), some (some 20, false), [9, 6]⟩, ⟨some 25, .pick (.tmp 20) (.lit (.bool true)) (.tmp 24), none, [6, 10]⟩, ⟨some 26, .iaddr 1 (.tmp 14) (.tmp 15), none, [0, 1, 0, 1, 2, 3, 4, 5, 6, 7, 8, 9, 10, 11]⟩, ⟨none, .store 1 (.tmp 26) (.tmp 25), none, [12, 11, 9, 0, 1, 2, 3, 4, 5, 6, 7, 8, 9, 10, 11]⟩] (Q .normal) s σ := wpc_draw _ (by decide)
def c_removed1 : CCode := .seq (.ops [⟨some 4, .move (.lit (.bool false)), none, []⟩]) (.seq (.seq (.ops [⟨some 7, .load none (.tmp 1), none, []⟩, ⟨some 8, .blen 1 (.tmp 7), none, []⟩, ⟨some 9, .move (.lit (.int .i64 0)), none, []⟩]) (.block 0 (.loop (.seq (.ops [⟨some 10, .bin .lss .none (.tmp 9) (.tmp 8), none, []⟩]) (.seq (.cond (.tmp 10) .skip (.exit 0)) (.seq (.block 1 (.seq (.ops [⟨some 11, .move (.tmp 9), none, []⟩, ⟨some 12, .iaddr 1 (.tmp 7) (.tmp 9), none, []⟩, ⟨some 13, .load none (.tmp 12), none, []⟩, ⟨some 5, .move (.tmp 11), none, []⟩, ⟨some 6, .move (.tmp 13), none, []⟩]) (.draw d_removed1_0))) (.ops [⟨some 27, .bin .add .none (.tmp 9) (.lit (.int .i64 1)), none, []⟩, ⟨some 9, .move (.tmp 27), none, []⟩]))))))) (.seq (.ops [⟨some 4, .move (.lit (.bool true)), none, []⟩]) .ret))
set_option maxRecDepth 20000 in
set_option maxHeartbeats 1000000 in
theorem removed1_spec (s : List Int) (l : List (List FLit)) (p : Nat → Bool) (tok : Tok) (L B D : Nat) (σ : Store) (hs : s.length ≤ 140737488355328) (hp : s.Pairwise (· < ·)) (hl : FB l) (hll : l.length ≤ 1000000)
    (hL : σ[L]? = some (.row [.slice tok (l.map encC)])) (hB : σ[B]? = some (.row [.ref D 1 0 l.length])) (hD : σ[D]? = some (.row ((genB l.length p).map ab))) (hLD : L ≠ D) (hBD : B ≠ D) :
    ACalls Tryz.prog 95 [.slice .unk (s.map Ahl.encI), .ptr L 0, .ptr B 0] σ (isR (.bool true) (σ.set D (.row ((genB l.length (markB s l p)).map ab)))) := by
  refine ACalls.intro (rs := [(.tmp 4)]) (by kernel_rfl) { own := [], ghosts := [] } Tryz.func95 (c := Tryz.f95.body.getD .skip) (by kernel_rfl) (by decide) (by rw [show Tryz.f95.ntmps = 28 by kernel_rfl]; exact Nat.le_of_ble_eq_true rfl) (by kernel_rfl) ?_
  intro hσ hids
  rw [show comp Tryz.prog { own := [], ghosts := [] } (Tryz.f95.body.getD .skip) = c_removed1 by kernel_rfl, show Tryz.f95.ntmps = 28 by kernel_rfl]
  unfold c_removed1
  have hii : Ids σ.length (.slice .unk (s.map Ahl.encI)) := hids _ (by simp)
  have hil : Ids σ.length (.slice tok (l.map encC)) := (hσ L _ hL) 0 _ rfl
  obtain ⟨T, hT⟩ : ∃ T : (Nat → Bool) → Store, ∀ q, T q = σ.set D (.row ((genB l.length q).map ab)) := ⟨_, fun _ => rfl⟩
  have hT0 : T p = σ := by rw [hT]; exact set_same hD
  have hTl : ∀ q, (T q).length = σ.length := fun q => by rw [hT, List.length_set]
  have hTi : ∀ q, IdsS (T q).length (T q) := fun q => by rw [hTl, hT]; exact idsS_put hσ D (ids_ab _)
  have hTB : ∀ q x, (T q ++ x)[B]? = some (.row [.ref D 1 0 l.length]) := fun q x => by
    rw [List.getElem?_append_left (by rw [hTl]; exact lt_of_get hB), hT, List.getElem?_set_ne (Ne.symm hBD)]; exact hB
  have hTD : ∀ q x, (T q ++ x)[D]? = some (.row ((genB l.length q).map ab)) := fun q x => by
    rw [List.getElem?_append_left (by rw [hTl]; exact lt_of_get hD), hT, List.getElem?_set_self (lt_of_get hD)]
  have hTB0 : ∀ q, (T q)[B]? = some (.row [.ref D 1 0 l.length]) := fun q => by have := hTB q []; rwa [List.append_nil] at this
  have hTD0 : ∀ q, (T q)[D]? = some (.row ((genB l.length q).map ab)) := fun q => by have := hTD q []; rwa [List.append_nil] at this
  have hTs : ∀ q (w : List AV), (T q).set D (.row w) = σ.set D (.row w) := fun q w => by rw [hT, List.set_set]
  simp only [go_sem, Int.reduceToNat, Int.reduceLE, Int.reduceLT, Nat.reduceBEq, Nat.reduceLT, Nat.reduceAdd, Nat.reduceLeDiff, dr_removed1_0, hL]
  refine wpc_while (fun (i : Nat) => [(0, .slice .unk (s.map Ahl.encI)), (2, .ptr B 0), (7, .slice tok (l.map encC)), (8, .int .i64 l.length), (9, .int .i64 i)]) (fun i => T (fun j => if j < i then markB s l p j else p j)) (fun i => i ≤ l.length) (fun i => l.length - i) 0 (Nat.zero_le _)
    (by
      have hB' := lt_of_get hB
      rw [show T (fun j => if j < 0 then markB s l p j else p j) = σ by rw [show (fun j => if j < 0 then markB s l p j else p j) = p by funext j; simp, hT0]]
      exact (by (try dsimp only); first | exact ghk | exact ghk0)) ?_
  intro i hi K hK hE hR
  by_cases h : i < l.length
  · obtain ⟨c, hx⟩ := get_ex h; have hlt : ((i : Int) < (l.length : Int)) := (by omega); have hw : IntKind.i64.wrap ((i : Int) + 1) = ((i + 1 : Nat) : Int) := (by rw [wrap_ok (by omega)]; omega)
    have hcl := hl.2 c (List.mem_of_getElem? hx)
    have hgd : l.getD i [] = c := by rw [List.getD_eq_getElem?_getD, hx]; rfl
    have hq : (fun j => if j < i then markB s l p j else p j) i = p i := by simp
    obtain ⟨q, hqe⟩ : ∃ q : Nat → Bool, q = fun j => if j < i then markB s l p j else p j := ⟨_, rfl⟩
    rw [← hqe] at hq ⊢
    have hgq : ((genB l.length q).map ab)[i]? = some (.bool (p i)) := by rw [genB_get' h, hq]
    have h0 : (0 : Int) ≤ (i : Int) := by omega
    have hnew : ∀ v, v = markB s l p i → (T q).set D (.row (((genB l.length q).map ab).set i (.bool v))) = T (fun j => if j < i + 1 then markB s l p j else p j) := fun v hv => by
      rw [hTs, bset, genB_set, hT]
      congr 3
      refine genB_cong fun j hj => ?_
      rw [hqe]
      by_cases h1 : j = i
      · subst h1; rw [if_pos rfl, if_pos (by omega), hv]
      · rw [if_neg h1]; simp only []
        by_cases h2 : j < i
        · rw [if_pos h2, if_pos (by omega)]
        · rw [if_neg h2, if_neg (by omega)]
    have hmk : markB s l p i = (p i || !(clauseT s c)) := by unfold markB; rw [hgd]
    cases hpi : p i
    · rw [hpi] at hgq hmk
      simp only [go_sem, Int.reduceToNat, Int.reduceLE, Int.reduceLT, Nat.reduceBEq, Nat.reduceLT, Nat.reduceAdd, Nat.reduceLeDiff, dr_removed1_0, hlt, hx, hTB0, hTD0, hgq, h0, Int.toNat_natCast, h, encC]
      refine ⟨_, some_spec s c .unk .unk _ hs hp hcl, ?_⟩
      simp only [go_sem, Int.reduceToNat, Int.reduceLE, Int.reduceLT, Nat.reduceBEq, Nat.reduceLT, Nat.reduceAdd, Nat.reduceLeDiff, dr_removed1_0, hTB0, hTD0, hgq, h0, Int.toNat_natCast, h]
      refine ⟨by rw [genB_len]; omega, ?_⟩
      rw [hnew _ (by rw [hmk]; rfl)]
      have hTl2 := hTl (fun j => if j < i + 1 then markB s l p j else p j)
      refine hK _ _ (i + 1) (by omega) (by omega) ?_
      (try dsimp only)
      rw [hw]
      have hB' := lt_of_get hB
      first | exact ghN0 (hTi _) | exact ghN (hTi _)
    · rw [hpi] at hgq hmk
      simp only [go_sem, Int.reduceToNat, Int.reduceLE, Int.reduceLT, Nat.reduceBEq, Nat.reduceLT, Nat.reduceAdd, Nat.reduceLeDiff, dr_removed1_0, hlt, hx, hTB0, hTD0, hgq, h0, Int.toNat_natCast, h, encC]
      refine ⟨by rw [genB_len]; omega, ?_⟩
      rw [hnew _ (by rw [hmk]; rfl)]
      have hTl2 := hTl (fun j => if j < i + 1 then markB s l p j else p j)
      refine hK _ _ (i + 1) (by omega) (by omega) ?_
      (try dsimp only)
      rw [hw]
      have hB' := lt_of_get hB
      first | exact ghN0 (hTi _) | exact ghN (hTi _)
  · have hlt : ¬ ((i : Int) < (l.length : Int)) := by omega
    simp only [go_sem, Int.reduceToNat, Int.reduceLE, Int.reduceLT, Nat.reduceBEq, Nat.reduceLT, Nat.reduceAdd, Nat.reduceLeDiff, dr_removed1_0, hlt, hE]
    have e : T (fun j => if j < i then markB s l p j else p j) = σ.set D (.row ((genB l.length (markB s l p)).map ab)) := by
      rw [hT]; congr 3
      exact genB_cong fun j hj => by rw [if_pos (by omega)]
    rw [e]
    have hq : IdsS (σ.set D (.row ((genB l.length (markB s l p)).map ab))).length (σ.set D (.row ((genB l.length (markB s l p)).map ab))) := by rw [← e]; exact hTi _
    refine ret_gh (v := .bool true) (σ' := σ.set D (.row ((genB l.length (markB s l p)).map ab))) ?_ (by simp) hq (.bool _) ⟨rfl, rfl⟩
    exact Ghost.keep0 (by simp) ⟨⟨Wk.refl _, .bool _⟩, trivial⟩ hq
end Go.Proofs.YtocphglkceidhaaGreat
namespace Go.Proofs.YtocphglkceidhaaGreat
open Go.Ahl
theorem foldV_mark (ok : List Int → Bool) (nx : List Int → List Int) (l : List (List FLit)) (i : Nat) : ∀ (L : List (List Int)) (p : Nat → Bool), foldV ok nx (fun (p : Nat → Bool) s => (markB s l p, true)) p L i = (p i || !(L.all fun s => !(ok s) || clauseT (nx s) (l.getD i [])))
  | [], p => by simp [foldV]
  | s :: L, p => by
    rw [foldV, List.all_cons]
    cases h : ok s
    · rw [if_neg (by simp), foldV_mark ok nx l i L p]; simp
    · rw [if_pos rfl, if_pos rfl, foldV_mark ok nx l i L _]
      simp only [markB, Bool.not_true, Bool.false_or]
      cases p i <;> cases clauseT (nx s) (l.getD i []) <;> simp
/-- Which clauses do not stay. -/
def badB (t : FTask) (l : List (List FLit)) (k : Nat) (i : Nat) : Bool := !(clauseT t.init (l.getD i [])) || !(keepB t.facts.length (t.actions.take k) l (l.getD i []))
def stayB (t : FTask) (l : List (List FLit)) (c : List FLit) : Bool := clauseT t.init c && keepB t.facts.length t.actions l c
theorem badB_zero (t : FTask) (l : List (List FLit)) : badB t l 0 = fun i => !(clauseT t.init (l.getD i [])) := by
  funext i; simp [badB, keepB]
theorem badB_succ {t : FTask} {l : List (List FLit)} {k : Nat} {a : FAct} (h : t.actions[k]? = some a) (i : Nat) : badB t l (k + 1) i = (badB t l k i || !(stepB t.facts.length l a (l.getD i []))) := by
  unfold badB keepB
  rw [take_succ' h, List.all_append]
  simp only [List.all_cons, List.all_nil, Bool.and_true, Bool.not_and]
  rw [Bool.or_assoc]
theorem badB_all {t : FTask} {l : List (List FLit)} {k : Nat} (hk : t.actions.length ≤ k) (i : Nat) : badB t l k i = !(stayB t l (l.getD i [])) := by
  unfold badB stayB; rw [List.take_of_length_le hk, Bool.not_and]
def d_removed_0 : List COp := [⟨some 28, .load none (.tmp 7), none, []⟩, ⟨some 29, .move (.tmp 8), none, []⟩, ⟨some 30, .faddr 1 (.tmp 2), none, []⟩, ⟨some 31, .load none (.tmp 30), none, [2]⟩, ⟨some 32, .move (.tmp 9), none, []⟩, ⟨some 33, .call (.lit (.func 93 [])) [.tmp 31, .tmp 32], none, [3, 4]⟩, ⟨some 34, .un .not (.tmp 33), none, [5]⟩, ⟨some 35, .iaddr 1 (.tmp 28) (.tmp 29), none, [0, 1, 0, 1, 2, 3, 4, 5, 6]⟩, ⟨none, .store 1 (.tmp 35) (.tmp 34), none, [7, 6, 5, 0, 1, 2, 3, 4, 5, 6]⟩]
theorem dr_removed_0 (P : Program) (nt n0 : Nat) (Q : Post) (s : Slots) (σ : Store) : wpc P nt n0 (.draw d_removed_0) Q s σ = aOpsD P nt [⟨some 28, .load none (.tmp 7), none, []⟩, ⟨some 29, .move (.tmp 8), none, []⟩, ⟨some 30, .faddr 1 (.tmp 2), none, []⟩, ⟨some 31, .load none (.tmp 30), none, [2]⟩, ⟨some 32, .move (.tmp 9), none, []⟩, ⟨some 33, .call (.lit (.func 93 [])) [.tmp 31, .tmp 32], none, [3, 4]⟩, ⟨some 34, .un .not (.tmp 33), none, [5]⟩, ⟨some 35, .iaddr 1 (.tmp 28) (.tmp 29), none, [0, 1, 0, 1, 2, 3, 4, 5, 6]⟩, ⟨none, .store 1 (.tmp 35) (.tmp 34), none, [7, 6, 5, 0, 1, 2, 3, 4, 5, 6]⟩] (Q .normal) s σ := wpc_draw _ (by decide)
def c_removed : CCode := .seq (.ops [⟨some 2, .box (.tmp 0), none, []⟩, ⟨some 3, .box (.tmp 1), none, []⟩, ⟨some 4, .move (.lit (.slice .nil [])), none, []⟩, ⟨some 5, .move (.lit (.bool false)), none, []⟩, ⟨some 6, .move (.lit (.bool false)), none, []⟩]) (.seq (.ops [⟨some 18, .load none (.tmp 3), none, []⟩, ⟨some 19, .blen 1 (.tmp 18), none, []⟩, ⟨some 20, .mkslice 1 1 [.bool false] (.tmp 19) (.tmp 19) true, none, []⟩, ⟨some 7, .alloc (.slice .nil []), none, []⟩, ⟨none, .store 1 (.tmp 7) (.tmp 20), none, []⟩]) (.seq (.seq (.ops [⟨some 21, .load none (.tmp 3), none, []⟩, ⟨some 22, .blen 1 (.tmp 21), none, []⟩, ⟨some 23, .move (.lit (.int .i64 0)), none, []⟩]) (.block 0 (.loop (.seq (.ops [⟨some 24, .bin .lss .none (.tmp 23) (.tmp 22), none, []⟩]) (.seq (.cond (.tmp 24) .skip (.exit 0)) (.seq (.block 1 (.seq (.ops [⟨some 25, .move (.tmp 23), none, []⟩, ⟨some 26, .iaddr 1 (.tmp 21) (.tmp 23), none, []⟩, ⟨some 27, .load none (.tmp 26), none, []⟩, ⟨some 8, .move (.tmp 25), none, []⟩, ⟨some 9, .move (.tmp 27), none, []⟩]) (.draw d_removed_0))) (.ops [⟨some 36, .bin .add .none (.tmp 23) (.lit (.int .i64 1)), none, []⟩, ⟨some 23, .move (.tmp 36), none, []⟩]))))))) (.seq (.seq (.ops [⟨some 37, .faddr 3 (.tmp 2), none, []⟩, ⟨some 38, .load none (.tmp 37), none, []⟩, ⟨some 39, .blen 1 (.tmp 38), none, []⟩, ⟨some 40, .move (.lit (.int .i64 0)), none, []⟩]) (.block 2 (.loop (.seq (.ops [⟨some 41, .bin .lss .none (.tmp 40) (.tmp 39), none, []⟩]) (.seq (.cond (.tmp 41) .skip (.exit 2)) (.seq (.block 3 (.seq (.ops [⟨some 42, .iaddr 4 (.tmp 38) (.tmp 40), none, []⟩, ⟨some 43, .load (some 4) (.tmp 42), none, []⟩, ⟨some 11, .alloc (.agg [.str (bys []), .int .i64 0, .slice .nil [], .slice .nil []]), none, []⟩, ⟨none, .store 4 (.tmp 11) (.tmp 43), none, []⟩]) (.seq (.seq (.ops [⟨some 44, .faddr 0 (.tmp 2), none, []⟩, ⟨some 45, .load none (.tmp 44), none, []⟩, ⟨some 46, .blen 1 (.tmp 45), none, []⟩, ⟨some 47, .bin .leq .none (.tmp 46) (.lit (.int .i64 12)), none, []⟩]) (.cond (.tmp 47) (.seq (.ops [⟨some 48, .load (some 4) (.tmp 2), none, []⟩, ⟨some 49, .load none (.tmp 3), none, []⟩, ⟨some 50, .load (some 4) (.tmp 11), none, []⟩, ⟨some 51, .mkfunc 95 [.tmp 3, .tmp 7], none, []⟩, ⟨some 52, .call (.lit (.func 94 [])) [.tmp 48, .tmp 49, .tmp 50, .tmp 51], none, []⟩]) (.exit 3)) .skip)) (.seq (.ops [⟨some 53, .load none (.tmp 3), none, []⟩, ⟨some 54, .blen 1 (.tmp 53), none, []⟩, ⟨some 55, .move (.lit (.int .i64 0)), none, []⟩]) (.block 4 (.loop (.seq (.ops [⟨some 56, .bin .lss .none (.tmp 55) (.tmp 54), none, []⟩]) (.seq (.cond (.tmp 56) .skip (.exit 4)) (.seq (.block 5 (.seq (.ops [⟨some 57, .move (.tmp 55), none, []⟩, ⟨some 58, .iaddr 1 (.tmp 53) (.tmp 55), none, []⟩, ⟨some 59, .load none (.tmp 58), none, []⟩, ⟨some 12, .move (.tmp 57), none, []⟩, ⟨some 13, .move (.tmp 59), none, []⟩]) (.seq (.seq (.ops [⟨some 60, .load none (.tmp 7), none, []⟩, ⟨some 61, .move (.tmp 12), none, []⟩, ⟨some 62, .iaddr 1 (.tmp 60) (.tmp 61), none, []⟩, ⟨some 63, .load none (.tmp 62), none, []⟩]) (.cond (.tmp 63) (.exit 5) .skip)) (.seq (.ops [⟨some 65, .load (some 4) (.tmp 2), none, []⟩, ⟨some 66, .load none (.tmp 3), none, []⟩, ⟨some 67, .load (some 4) (.tmp 11), none, []⟩, ⟨some 68, .move (.tmp 13), none, []⟩, ⟨some 69, .call (.lit (.func 66 [])) [.tmp 65, .tmp 66, .tmp 67, .tmp 68], none, []⟩, ⟨some 64, .move (.tmp 69), none, []⟩, ⟨some 70, .extract (.tmp 64) 0, none, []⟩, ⟨some 71, .extract (.tmp 64) 1, none, []⟩, ⟨some 14, .move (.tmp 70), none, []⟩, ⟨some 15, .move (.tmp 71), none, []⟩]) (.seq (.seq (.ops [⟨some 72, .move (.tmp 15), none, []⟩, ⟨some 73, .un .not (.tmp 72), none, []⟩]) (.cond (.tmp 73) (.seq (.ops [⟨some 4, .move (.lit (.slice .nil [])), none, []⟩, ⟨some 5, .move (.lit (.bool false)), none, []⟩, ⟨some 6, .move (.lit (.bool false)), none, []⟩]) .ret) .skip)) (.ops [⟨some 74, .load none (.tmp 7), none, []⟩, ⟨some 75, .move (.tmp 12), none, []⟩, ⟨some 76, .move (.tmp 14), none, []⟩, ⟨some 77, .un .not (.tmp 76), none, []⟩, ⟨some 78, .iaddr 1 (.tmp 74) (.tmp 75), none, []⟩, ⟨none, .store 1 (.tmp 78) (.tmp 77), none, []⟩])))))) (.ops [⟨some 79, .bin .add .none (.tmp 55) (.lit (.int .i64 1)), none, []⟩, ⟨some 55, .move (.tmp 79), none, []⟩])))))))))) (.ops [⟨some 80, .bin .add .none (.tmp 40) (.lit (.int .i64 1)), none, []⟩, ⟨some 40, .move (.tmp 80), none, []⟩]))))))) (.seq (.seq (.ops [⟨some 81, .load none (.tmp 3), none, []⟩, ⟨some 82, .blen 1 (.tmp 81), none, []⟩, ⟨some 83, .move (.lit (.int .i64 0)), none, []⟩]) (.block 6 (.loop (.seq (.ops [⟨some 84, .bin .lss .none (.tmp 83) (.tmp 82), none, []⟩]) (.seq (.cond (.tmp 84) .skip (.exit 6)) (.seq (.block 7 (.seq (.ops [⟨some 85, .move (.tmp 83), none, []⟩, ⟨some 86, .iaddr 1 (.tmp 81) (.tmp 83), none, []⟩, ⟨some 87, .load none (.tmp 86), none, []⟩, ⟨some 16, .move (.tmp 85), none, []⟩, ⟨some 17, .move (.tmp 87), none, []⟩]) (.seq (.seq (.ops [⟨some 88, .load none (.tmp 7), none, []⟩, ⟨some 89, .move (.tmp 16), none, []⟩, ⟨some 90, .iaddr 1 (.tmp 88) (.tmp 89), none, []⟩, ⟨some 91, .load none (.tmp 90), none, []⟩]) (.cond (.tmp 91) (.seq (.ops [⟨some 5, .move (.lit (.bool true)), none, []⟩]) (.exit 7)) .skip)) (.ops [⟨some 92, .move (.tmp 4), none, []⟩, ⟨some 93, .move (.tmp 17), none, []⟩, ⟨some 94, .call (.lit (.func 96 [])) [.tmp 93], none, []⟩, ⟨some 95, .bslice 1 [.tmp 94] false, none, []⟩, ⟨some 96, .bappend 1 24 (.tmp 92) (.tmp 95) false, none, []⟩, ⟨some 4, .move (.tmp 96), none, []⟩])))) (.ops [⟨some 97, .bin .add .none (.tmp 83) (.lit (.int .i64 1)), none, []⟩, ⟨some 83, .move (.tmp 97), none, []⟩]))))))) (.seq (.ops [⟨some 98, .move (.tmp 4), none, []⟩, ⟨some 99, .move (.tmp 5), none, []⟩, ⟨some 4, .move (.tmp 98), none, []⟩, ⟨some 5, .move (.tmp 99), none, []⟩, ⟨some 6, .move (.lit (.bool true)), none, []⟩]) .ret)))))
set_option maxRecDepth 20000 in
set_option maxHeartbeats 4000000 in
theorem removed_specF (t : FTask) (l : List (List FLit)) (tok : Tok) (σ : Store) (ht : TB t) (hn : t.facts.length ≤ 12) (hini : t.init.length ≤ 1000000 ∧ t.init.Pairwise (· < ·)) (hact : ∀ a ∈ t.actions, AOk t.facts.length a) (hl : FB l) (hll : l.length ≤ 1000000) (hlc : ∀ c ∈ l, c.length ≤ 1000000) :
    ACalls Tryz.prog 64 [.agg (encTask t), .slice tok (l.map encC)] σ (isR (.tuple [.slice .fresh ((l.filter (stayB t l)).map encCf), .bool (l.any fun c => !(stayB t l c)), .bool true]) σ) := by
  refine ACalls.intro (rs := [(.tmp 4), (.tmp 5), (.tmp 6)]) (by kernel_rfl) { own := [(0, 2), (1, 2), (2, 2)], ghosts := [] } Tryz.func64 (c := Tryz.f64.body.getD .skip) (by kernel_rfl) (by decide) (by rw [show Tryz.f64.ntmps = 100 by kernel_rfl]; exact Nat.le_of_ble_eq_true rfl) (by kernel_rfl) ?_
  intro hσ hids
  rw [show comp Tryz.prog { own := [(0, 2), (1, 2), (2, 2)], ghosts := [] } (Tryz.f64.body.getD .skip) = c_removed by kernel_rfl, show Tryz.f64.ntmps = 100 by kernel_rfl]
  unfold c_removed
  have hil : Ids σ.length (.slice tok (l.map encC)) := hids _ (by simp)
  have hbig : bigLen l.length 1 := big_ok (by omega) (by omega)
  simp only [go_sem, Int.reduceToNat, Int.reduceLE, Int.reduceLT, Nat.reduceBEq, Nat.reduceLT, Nat.reduceAdd, Nat.reduceLeDiff, dr_removed_0, encTask, hbig, aMkslice, rep_ab]
  refine ⟨Int.le_refl _, by omega, by omega, ?_⟩
  obtain ⟨S, hS⟩ : ∃ S : (Nat → Bool) → Store, ∀ p, S p = σ ++ [.row (encTask t), .row [.slice tok (l.map encC)], .row ((genB l.length p).map ab), .row [.ref (σ.length + 2) 1 0 l.length]] := ⟨_, fun _ => rfl⟩
  have hSl : ∀ p, (S p).length = σ.length + 4 := fun p => by rw [hS]; simp
  have hSt : ∀ p x, (S p ++ x)[σ.length]? = some (.row (encTask t)) := fun p x => by rw [hS, List.append_assoc, List.getElem?_append_right (Nat.le_refl _), Nat.sub_self]; rfl
  have hSL : ∀ p x, (S p ++ x)[σ.length + 1]? = some (.row [.slice tok (l.map encC)]) := fun p x => by rw [hS, List.append_assoc, List.getElem?_append_right (by omega), Nat.add_sub_cancel_left]; rfl
  have hSD : ∀ p x, (S p ++ x)[σ.length + 2]? = some (.row ((genB l.length p).map ab)) := fun p x => by rw [hS, List.append_assoc, List.getElem?_append_right (by omega), Nat.add_sub_cancel_left]; rfl
  have hSB : ∀ p x, (S p ++ x)[σ.length + 3]? = some (.row [.ref (σ.length + 2) 1 0 l.length]) := fun p x => by rw [hS, List.append_assoc, List.getElem?_append_right (by omega), Nat.add_sub_cancel_left]; rfl
  have hSt0 : ∀ p, (S p)[σ.length]? = some (.row (encTask t)) := fun p => by have := hSt p []; rwa [List.append_nil] at this
  have hSD0 : ∀ p, (S p)[σ.length + 2]? = some (.row ((genB l.length p).map ab)) := fun p => by have := hSD p []; rwa [List.append_nil] at this
  have hSB0 : ∀ p, (S p)[σ.length + 3]? = some (.row [.ref (σ.length + 2) 1 0 l.length]) := fun p => by have := hSB p []; rwa [List.append_nil] at this
  have hSs : ∀ p q x, (S p ++ x).set (σ.length + 2) (.row ((genB l.length q).map ab)) = S q ++ x := fun p q x => by rw [hS, hS, List.append_assoc, List.set_append_right _ _ (by omega), Nat.add_sub_cancel_left, List.append_assoc]; rfl
  have hSs0 : ∀ p q, (S p).set (σ.length + 2) (.row ((genB l.length q).map ab)) = S q := fun p q => by have := hSs p q []; rwa [List.append_nil, List.append_nil] at this
  have hSi : ∀ p, IdsS (S p).length (S p) := fun p => by
    rw [hS]
    exact idsS_app _ hσ (all_cons' (idsO_row (ids_encTask t)) (all_cons' (idsO_row (by intro x hx; simp at hx; subst hx; exact ids_up (by omega) hil)) (all_cons' (ids_ab _) (all_cons' (idsO_row (by intro x hx; simp at hx; subst hx; exact .ref _ _ _ _ (by simp))) all_nil'))))
  have hSc : ∀ p q : Nat → Bool, (∀ i, i < l.length → p i = q i) → S p = S q := fun p q h => by rw [hS, hS, genB_cong h]
  have hSk : ∀ p, (S p).take σ.length = σ := fun p => by rw [hS]; simp
  rw [show σ ++ [AObj.row [AV.slice Tok.unk (List.map encT t.facts), AV.slice Tok.unk (List.map Ahl.encI t.init), AV.slice Tok.unk (List.map encLit t.goal), AV.slice Tok.unk (List.map encA t.actions)], AObj.row [AV.slice tok (List.map encC l)], AObj.row (List.map ab (genB l.length fun _ => false)), AObj.row [AV.ref (σ.length + 2) 1 0 l.length]] = S (fun _ => false) by rw [hS]; rfl]
  refine wpc_while (fun (i : Nat) => [(2, .ptr σ.length 0), (3, .ptr (σ.length + 1) 0), (4, .slice .nil []), (5, .bool false), (7, .ptr (σ.length + 3) 0), (21, .slice tok (l.map encC)), (22, .int .i64 l.length), (23, .int .i64 i)])
    (fun i => S (fun j => if j < i then !(clauseT t.init (l.getD j [])) else false)) (fun i => i ≤ l.length) (fun i => l.length - i) 0 (Nat.zero_le _)
    (by
      have hl0 := hSl (fun _ => false)
      rw [show S (fun j => if j < 0 then !(clauseT t.init (l.getD j [])) else false) = S (fun _ => false) from hSc _ _ (fun i _ => by simp)]
      exact ghN0 (hSi _)) ?_
  · intro i hi K hK hE hR
    by_cases h : i < l.length
    · obtain ⟨c, hx⟩ := get_ex h; have hlt : ((i : Int) < (l.length : Int)) := (by omega); have hw : IntKind.i64.wrap ((i : Int) + 1) = ((i + 1 : Nat) : Int) := (by rw [wrap_ok (by omega)]; omega)
      have hcl := hl.2 c (List.mem_of_getElem? hx)
      have hgd : l.getD i [] = c := by rw [List.getD_eq_getElem?_getD, hx]; rfl
      obtain ⟨q, hqe⟩ : ∃ q : Nat → Bool, q = fun j => if j < i then !(clauseT t.init (l.getD j [])) else false := ⟨_, rfl⟩
      rw [← hqe]
      have h0 : (0 : Int) ≤ (i : Int) := by omega
      simp only [go_sem, Int.reduceToNat, Int.reduceLE, Int.reduceLT, Nat.reduceBEq, Nat.reduceLT, Nat.reduceAdd, Nat.reduceLeDiff, dr_removed_0, hlt, hx, hSB0, hSD0, hSt0, h0, Int.toNat_natCast, h, encC, encTask]
      refine ⟨_, some_spec t.init c .unk .unk _ (by omega) hini.2 hcl, ?_⟩
      simp only [go_sem, Int.reduceToNat, Int.reduceLE, Int.reduceLT, Nat.reduceBEq, Nat.reduceLT, Nat.reduceAdd, Nat.reduceLeDiff, dr_removed_0, hSB0, hSD0, h0, Int.toNat_natCast, h]
      refine ⟨by rw [genB_len]; omega, ?_⟩
      rw [bset, genB_set, hSs0]
      have hTl2 := hSl (fun j => if j < i + 1 then !(clauseT t.init (l.getD j [])) else false)
      rw [hSc _ (fun j => if j < i + 1 then !(clauseT t.init (l.getD j [])) else false) (fun j hj => by
        rw [hqe]
        by_cases h1 : j = i
        · subst h1; rw [if_pos rfl, if_pos (by omega), hgd]
        · rw [if_neg h1]; simp only []
          by_cases h2 : j < i
          · rw [if_pos h2, if_pos (by omega)]
          · rw [if_neg h2, if_neg (by omega)])]
      refine hK _ _ (i + 1) (by omega) (by omega) ?_
      (try dsimp only)
      rw [hw]
      first | exact ghN0 (hSi _) | exact ghN (hSi _)
    · have hlt : ¬ ((i : Int) < (l.length : Int)) := by omega
      simp only [go_sem, Int.reduceToNat, Int.reduceLE, Int.reduceLT, Nat.reduceBEq, Nat.reduceLT, Nat.reduceAdd, Nat.reduceLeDiff, dr_removed_0, hlt, hE, hSt0, encTask]
      rw [hSc _ (badB t l 0) (fun j hj => by rw [badB_zero, if_pos (by omega)])]
      clear hK hE hR
      refine wpc_while (fun (k : Nat) => [(2, .ptr σ.length 0), (3, .ptr (σ.length + 1) 0), (4, .slice .nil []), (5, .bool false), (7, .ptr (σ.length + 3) 0), (38, .slice .unk (t.actions.map encA)), (39, .int .i64 t.actions.length), (40, .int .i64 k)])
        (fun k => S (badB t l k)) (fun k => k ≤ t.actions.length) (fun k => t.actions.length - k) 0 (Nat.zero_le _) (by have hl0 := hSl (badB t l 0); exact ghN0 (hSi _)) ?_
      intro k hk K hK hE hR
      have htb := ht.actions
      by_cases h : k < t.actions.length
      · have hlt : ((k : Int) < (t.actions.length : Int)) := by omega
        obtain ⟨a, hx⟩ := get_ex h
        have hw : IntKind.i64.wrap ((k : Int) + 1) = ((k + 1 : Nat) : Int) := by rw [wrap_ok (by omega)]; omega
        have hok := hact a (List.mem_of_getElem? hx)
        have h12 : ((t.facts.length : Int) ≤ 12) := by omega
        simp only [go_sem, Int.reduceToNat, Int.reduceLE, Int.reduceLT, Nat.reduceBEq, Nat.reduceLT, Nat.reduceAdd, Nat.reduceLeDiff, dr_removed_0, hlt, hx, encA, hSt, hSL, encTask, h12]
        have hlk := hSl (badB t l k)
        refine (iafter_spec t l a 95 [.ptr (σ.length + 1) 0, .ptr (σ.length + 3) 0] tok _ (fun p => S p ++ [.row (encA a)]) (fun p s => (markB s l p, true)) (badB t l k) hn hl (by have := hok.pre; omega) hok.eff (fun e he => by have := hok.whens e he; omega) hok.rng ?_ rfl ?_ ?_).mono ?_
        · exact .func _ _ (by intro j x hx; match j, hx with | 0, hx => simp at hx; subst hx; exact .ptr _ _ (by simp; omega) | 1, hx => simp at hx; subst hx; exact .ptr _ _ (by simp; omega))
        · intro p
          have h1 := hSl p
          exact ⟨by rw [List.length_append, List.length_append, h1, hlk], idsS_push (hSi p) (idsO_row (ids_encA a))⟩
        · intro p s tl hr
          have hsl : s.length ≤ 140737488355328 := by rcases risingB_len _ _ hr with rfl | h; simp; omega
          rw [List.append_assoc]
          refine (removed1_spec s l p tok (σ.length + 1) (σ.length + 3) (σ.length + 2) _ hsl (rising_pw hr).1 hl hll (hSL _ _) (hSB _ _) (hSD _ _) (by omega) (by omega)).mono ?_
          rintro _ _ ⟨rfl, rfl⟩
          exact ⟨rfl, by rw [hSs, List.append_assoc]⟩
        · rintro _ _ ⟨rfl, rfl⟩
          have hS2 : S (foldV (fun s => condHolds s a.pre && clausesT s l) (fun s => afterL t.facts.length s a) (fun (p : Nat → Bool) s => (markB s l p, true)) (badB t l k) (statesL t.facts.length)) = S (badB t l (k + 1)) := hSc _ _ fun i _ => by
            rw [foldV_mark, badB_succ hx]; rfl
          rw [hS2]
          have hlk2 := hSl (badB t l (k + 1))
          simp only [go_sem, Int.reduceToNat, Int.reduceLE, Int.reduceLT, Nat.reduceBEq, Nat.reduceLT, Nat.reduceAdd, Nat.reduceLeDiff, dr_removed_0]
          refine hK _ _ (k + 1) (by omega) (by omega) ?_
          (try dsimp only)
          rw [hw]
          first | exact ghN (hSi _) | exact ghN0 (hSi _)
      · have hlt : ¬ ((k : Int) < (t.actions.length : Int)) := by omega
        simp only [go_sem, Int.reduceToNat, Int.reduceLE, Int.reduceLT, Nat.reduceBEq, Nat.reduceLT, Nat.reduceAdd, Nat.reduceLeDiff, dr_removed_0, hlt, hE, hSL]
        clear hK hE hR
        obtain ⟨S', hS'⟩ : ∃ S', S' = S (badB t l k) := ⟨_, rfl⟩
        have hl' : S'.length = σ.length + 4 := by rw [hS']; exact hSl _
        have hi' : IdsS S'.length S' := by rw [hS']; exact hSi _
        have hB' : ∀ x, (S' ++ x)[σ.length + 3]? = some (.row [.ref (σ.length + 2) 1 0 l.length]) := fun x => by rw [hS']; exact hSB _ _
        have hD' : ∀ x, (S' ++ x)[σ.length + 2]? = some (.row ((genB l.length (badB t l k)).map ab)) := fun x => by rw [hS']; exact hSD _ _
        have hk' : S'.take σ.length = σ := by rw [hS']; exact hSk _
        have hL' : ∀ x, (S' ++ x)[σ.length + 1]? = some (.row [.slice tok (l.map encC)]) := fun x => by rw [hS']; exact hSL _ _
        have hL'0 : S'[σ.length + 1]? = some (.row [.slice tok (l.map encC)]) := by have := hL' []; rwa [List.append_nil] at this
        rw [← hS']
        simp only [go_sem, Int.reduceToNat, Int.reduceLE, Int.reduceLT, Nat.reduceBEq, Nat.reduceLT, Nat.reduceAdd, Nat.reduceLeDiff, dr_removed_0, hL'0]
        have hs1 : ∀ k : Nat, IdsS (S' ++ [AObj.grow 1 k]).length (S' ++ [AObj.grow 1 k]) := fun k => idsS_push hi' trivial
        refine wpc_while (fun (i : Nat) => [(4, .slice (.grow S'.length) (((l.take i).filter (stayB t l)).map encCf)), (5, .bool ((l.take i).any fun c => !(stayB t l c))), (7, .ptr (σ.length + 3) 0), (81, .slice tok (l.map encC)), (82, .int .i64 l.length), (83, .int .i64 i)])
          (fun i => S' ++ [.grow 1 ((l.take i).filter (stayB t l)).length]) (fun i => i ≤ l.length) (fun i => l.length - i) 0 (Nat.zero_le _)
          (by first | exact .begin0 4 1 _ (by omega) tellT hi' | exact .begin 4 1 _ (by omega) tellT hi') ?_
        intro i hi K hK hE hR
        by_cases h2 : i < l.length
        · have hlt2 : ((i : Int) < (l.length : Int)) := by omega
          obtain ⟨c, hx⟩ := get_ex h2
          have hw : IntKind.i64.wrap ((i : Int) + 1) = ((i + 1 : Nat) : Int) := by rw [wrap_ok (by omega)]; omega
          have hcl := hlc c (List.mem_of_getElem? hx)
          have hgd : l.getD i [] = c := by rw [List.getD_eq_getElem?_getD, hx]; rfl
          have hgq : ((genB l.length (badB t l k)).map ab)[i]? = some (.bool (!(stayB t l c))) := by rw [genB_get' h2, badB_all (by omega), hgd]
          have h0 : (0 : Int) ≤ (i : Int) := by omega
          cases hst : stayB t l c
          · have e1 : (l.take (i + 1)).filter (stayB t l) = (l.take i).filter (stayB t l) := by rw [take_succ' hx, List.filter_append, List.filter_cons, hst]; simp
            have e2 : ((l.take (i + 1)).any fun c => !(stayB t l c)) = true := by rw [take_succ' hx, List.any_append]; simp [hst]
            rw [hst] at hgq
            simp only [go_sem, Int.reduceToNat, Int.reduceLE, Int.reduceLT, Nat.reduceBEq, Nat.reduceLT, Nat.reduceAdd, Nat.reduceLeDiff, dr_removed_0, hlt2, hx, hB', hD', hgq, h0, Int.toNat_natCast, h2, encC]
            refine hK _ _ (i + 1) (by omega) (by omega) ?_
            (try dsimp only)
            rw [hw, e1, e2]
            first | exact ghP0 (hs1 _) | exact ghP (l := [.grow 1 _]) (hs1 _)
          · have e1 : (l.take (i + 1)).filter (stayB t l) = (l.take i).filter (stayB t l) ++ [c] := by rw [take_succ' hx, List.filter_append, List.filter_cons, hst]; simp
            have e2 : ((l.take (i + 1)).any fun c => !(stayB t l c)) = (l.take i).any fun c => !(stayB t l c) := by rw [take_succ' hx, List.any_append]; simp [hst]
            have hfl : ((l.take i).filter (stayB t l)).length ≤ i := Nat.le_trans (List.length_filter_le _ _) (by simp; omega)
            have hbig2 : bigLen (((l.take i).filter (stayB t l)).length + 1) 24 := big_ok (by omega) (by omega)
            rw [hst] at hgq
            simp only [go_sem, Int.reduceToNat, Int.reduceLE, Int.reduceLT, Nat.reduceBEq, Nat.reduceLT, Nat.reduceAdd, Nat.reduceLeDiff, dr_removed_0, hlt2, hx, hB', hD', hgq, h0, Int.toNat_natCast, h2, encC]
            refine (cloneL_specF c .unk _ (by omega)).is ?_
            simp only [go_sem, Int.reduceToNat, Int.reduceLE, Int.reduceLT, Nat.reduceBEq, Nat.reduceLT, Nat.reduceAdd, Nat.reduceLeDiff, dr_removed_0, hbig2, hB', hD']
            have e3 : ((l.take i).filter (stayB t l)).map encCf ++ [[AV.slice .fresh (c.map encLit)]] = ((l.take (i + 1)).filter (stayB t l)).map encCf := by rw [e1, List.map_append]; rfl
            have e4 : ((l.take i).filter (stayB t l)).length + 1 = ((l.take (i + 1)).filter (stayB t l)).length := by rw [e1]; simp
            rw [e3, e4, hw, ← e2]
            refine hK _ _ (i + 1) (by omega) (by omega) ?_
            (try dsimp only)
            exact ghP (l := [.grow 1 _]) (hs1 _)
        · have hlt2 : ¬ ((i : Int) < (l.length : Int)) := by omega
          rw [List.take_of_length_le (by omega : l.length ≤ i)]
          simp only [go_sem, Int.reduceToNat, Int.reduceLE, Int.reduceLT, Nat.reduceBEq, Nat.reduceLT, Nat.reduceAdd, Nat.reduceLeDiff, dr_removed_0, hlt2, hE]
          exact ret3 (.slice .fresh ((l.filter (stayB t l)).map encCf)) (.bool (l.any fun c => !(stayB t l c))) (.bool true) (by rw [List.take_append_of_le_length (by omega), hk']) ⟨rfl, rfl⟩
theorem removed_spec (t : FTask) (l : List (List FLit)) (tok : Tok) (σ : Store) (ht : TB t) (hn : t.facts.length ≤ 12) (hini : t.init.length ≤ 1000000 ∧ t.init.Pairwise (· < ·)) (hact : ∀ a ∈ t.actions, AOk t.facts.length a) (hl : FB l) (hll : l.length ≤ 1000000) (hlc : ∀ c ∈ l, c.length ≤ 1000000) :
    ACalls Tryz.prog 64 [.agg (encTask t), .slice tok (l.map encC)] σ (isR (.tuple [.slice .unk ((l.filter (stayB t l)).map encC), .bool (l.any fun c => !(stayB t l c)), .bool true]) σ) := (removed_specF t l tok σ ht hn hini hact hl hll hlc).wkR (Wk.tuple (.cons (Wk.cfu _ _) (WkL.refl _)))
end Go.Proofs.YtocphglkceidhaaGreat
namespace Go.Proofs.YtocphglkceidhaaGreat
open Go.Ahl
/-- The largest set of clauses that keeps itself. -/
def largeL (t : FTask) (l : List (List FLit)) : List (List FLit) := progL (clauseT t.init) (keepB t.facts.length t.actions) l.length l
theorem progL_fix {α : Type} {ini : α → Bool} {K : List α → α → Bool} {l : List α} (h : l.all (fun c => ini c && K l c) = true) : ∀ n, progL ini K n l = l
  | 0 => rfl
  | n + 1 => by rw [progL, if_pos h]
theorem any_all_not (l : List (List FLit)) (p : List FLit → Bool) : (l.any fun c => !(p c)) = !(l.all p) := by
  induction l with
  | nil => rfl
  | cons c l ih => rw [List.any_cons, List.all_cons, ih, Bool.not_and]
def c_ilargest : CCode := .seq (.ops [⟨some 2, .box (.tmp 0), none, []⟩, ⟨some 4, .move (.lit (.slice .nil [])), none, []⟩, ⟨some 5, .move (.lit (.bool false)), none, []⟩]) (.scope (.seq .skip (.block 0 (.loop (.block 1 (.seq (.ops [⟨some 10, .load (some 4) (.tmp 2), none, []⟩, ⟨some 11, .move (.tmp 1), none, []⟩, ⟨some 12, .call (.lit (.func 64 [])) [.tmp 10, .tmp 11], none, []⟩, ⟨some 9, .move (.tmp 12), none, []⟩, ⟨some 13, .extract (.tmp 9) 0, none, []⟩, ⟨some 14, .extract (.tmp 9) 1, none, []⟩, ⟨some 15, .extract (.tmp 9) 2, none, []⟩, ⟨some 6, .move (.tmp 13), none, []⟩, ⟨some 7, .move (.tmp 14), none, []⟩, ⟨some 8, .move (.tmp 15), none, []⟩]) (.seq (.seq (.ops [⟨some 16, .move (.tmp 8), none, []⟩, ⟨some 17, .un .not (.tmp 16), none, []⟩]) (.cond (.tmp 17) (.seq (.ops [⟨some 4, .move (.lit (.slice .nil [])), none, []⟩, ⟨some 5, .move (.lit (.bool false)), none, []⟩]) .ret) .skip)) (.seq (.ops [⟨some 18, .move (.tmp 6), none, []⟩, ⟨some 1, .move (.tmp 18), none, []⟩]) (.seq (.seq (.ops [⟨some 19, .move (.tmp 7), none, []⟩]) (.cond (.tmp 19) (.exit 1) .skip)) (.seq (.ops [⟨some 20, .move (.tmp 1), none, []⟩, ⟨some 4, .move (.tmp 20), none, []⟩, ⟨some 5, .move (.lit (.bool true)), none, []⟩]) .ret))))))))))
set_option maxRecDepth 20000 in
set_option maxHeartbeats 1000000 in
theorem ilargest_specF (t : FTask) (l : List (List FLit)) (tok : Tok) (σ : Store) (ht : TB t) (hn : t.facts.length ≤ 12) (hini : t.init.length ≤ 1000000 ∧ t.init.Pairwise (· < ·)) (hact : ∀ a ∈ t.actions, AOk t.facts.length a) (hll : l.length ≤ 1000000) (hlc : ∀ c ∈ l, c.length ≤ 1000000) :
    ACalls Tryz.prog 52 [.agg (encTask t), .slice tok (l.map encC)] σ (isR (.tuple [.slice .fresh ((largeL t l).map encCf), .bool true]) σ) := by
  refine ACalls.intro (rs := [(.tmp 4), (.tmp 5)]) (by kernel_rfl) { own := [], ghosts := [] } Tryz.func52 (c := Tryz.f52.body.getD .skip) (by kernel_rfl) (by decide) (by rw [show Tryz.f52.ntmps = 21 by kernel_rfl]; exact Nat.le_of_ble_eq_true rfl) (by kernel_rfl) ?_
  intro hσ hids
  rw [show comp Tryz.prog { own := [], ghosts := [] } (Tryz.f52.body.getD .skip) = c_ilargest by kernel_rfl, show Tryz.f52.ntmps = 21 by kernel_rfl]
  unfold c_ilargest
  have hil : Ids σ.length (.slice tok (l.map encC)) := hids _ (by simp)
  have hσ1 := ids_grow hσ (ids_encTask t)
  simp only [go_sem, Int.reduceToNat, Int.reduceLE, Int.reduceLT, Nat.reduceBEq, Nat.reduceLT, Nat.reduceAdd, Nat.reduceLeDiff, encTask]
  refine wpc_while (fun m => [(1, .slice .unk (m.map encC)), (2, .ptr σ.length 0)]) (fun _ => σ ++ [.row (encTask t)])
    (fun m => (∃ n, m.length ≤ n ∧ largeL t l = progL (clauseT t.init) (keepB t.facts.length t.actions) n m) ∧ m.length ≤ l.length ∧ ∀ c ∈ m, c ∈ l) (fun m => m.length) l ⟨⟨_, Nat.le_refl _, rfl⟩, Nat.le_refl _, fun _ h => h⟩ (by (try dsimp only); exact ghk1) ?_
  rintro m ⟨⟨n, hmn, hv⟩, hml, hmc⟩ K hK hE hR
  simp only [go_sem, Int.reduceToNat, Int.reduceLE, Int.reduceLT, Nat.reduceBEq, Nat.reduceLT, Nat.reduceAdd, Nat.reduceLeDiff, encTask]
  refine (removed_specF t m .unk _ ht hn hini hact ⟨by omega, fun c hc => by have := hlc c (hmc c hc); omega⟩ (by omega) (fun c hc => hlc c (hmc c hc))).is ?_
  rw [any_all_not]
  have hst : ∀ c, stayB t m c = (clauseT t.init c && keepB t.facts.length t.actions m c) := fun _ => rfl
  cases ha : m.all (stayB t m)
  · simp only [go_sem, Int.reduceToNat, Int.reduceLE, Int.reduceLT, Nat.reduceBEq, Nat.reduceLT, Nat.reduceAdd, Nat.reduceLeDiff, hR, hE]
    have hlt := filter_lt ha
    obtain ⟨n', rfl⟩ : ∃ n', n = n' + 1 := ⟨n - 1, by omega⟩
    have hv2 : largeL t l = progL (clauseT t.init) (keepB t.facts.length t.actions) n' (m.filter (stayB t m)) := by
      rw [hv, progL, if_neg (by rw [show m.all (fun c => clauseT t.init c && keepB t.facts.length t.actions m c) = false from ha]; simp)]; rfl
    refine hK _ _ (m.filter (stayB t m)) ⟨⟨n', by omega, hv2⟩, by omega, fun c hc => hmc c (List.mem_filter.1 hc).1⟩ hlt ?_
    (try dsimp only)
    refine (Ghost.weak 1 (.slice .unk ((m.filter (stayB t m)).map encC)) (by exact Wk.cfu _ _)).trans ?_
    exact ghk1
  · have e : m.filter (stayB t m) = m := List.filter_eq_self.2 fun c hc => List.all_eq_true.1 ha c hc
    rw [e]
    simp only [go_sem, Int.reduceToNat, Int.reduceLE, Int.reduceLT, Nat.reduceBEq, Nat.reduceLT, Nat.reduceAdd, Nat.reduceLeDiff, hR]
    first | exact rtl (.slice .fresh (m.map encCf)) (.bool true) ⟨by rw [hv, progL_fix ha], rfl⟩ | exact rtl0 (.slice .fresh (m.map encCf)) (.bool true) ⟨by rw [hv, progL_fix ha], rfl⟩
theorem valid_init {t : FTask} (h : validB t = true) : t.init.length ≤ 1000000 ∧ t.init.Pairwise (· < ·) := by
  have hf := valid_facts h
  simp only [validB, Bool.and_eq_true] at h
  have hr := h.2.2.1
  refine ⟨?_, (rising_pw hr).1⟩
  rcases risingB_len _ _ hr with q | q
  · rw [q]; simp
  · omega
theorem vF_len {n : Nat} (hn : (n : Int) ≤ 200) {l : List (List FLit)} (h : vF n l) : ∀ c ∈ l, c.length ≤ 1000000 := fun c hc => by
  rcases condB_len (h c hc) with rfl | q
  · simp
  · omega
/-- Whether clauses are inductive, and the error. -/
def indR (t : FTask) (l : List (List FLit)) : AV := if clE t l = 0 then .tuple [.bool (l.all (stayB t l)), .int .i64 0] else .tuple [.bool false, .int .i64 (clE t l)]
def larR (t : FTask) (l : List (List FLit)) : AV := if clE t l = 0 then .tuple [.slice .unk ((largeL t l).map encC), .int .i64 0] else .tuple [.slice .nil [], .int .i64 (clE t l)]
def larRf (t : FTask) (l : List (List FLit)) : AV := if clE t l = 0 then .tuple [.slice .fresh ((largeL t l).map encCf), .int .i64 0] else .tuple [.slice .nil [], .int .i64 (clE t l)]
theorem larRf_wk (t : FTask) (l : List (List FLit)) : Wk (larRf t l) (larR t l) := by
  unfold larRf larR
  by_cases h : clE t l = 0
  · rw [if_pos h, if_pos h]; exact Wk.tuple (.cons (Wk.cfu _ _) (WkL.refl _))
  · rw [if_neg h, if_neg h]; exact .refl _
def c_Inductive : CCode := .seq (.ops [⟨some 2, .box (.tmp 0), none, []⟩, ⟨some 4, .move (.lit (.bool false)), none, []⟩, ⟨some 5, .move (.lit (.int .i64 0)), none, []⟩]) (.seq (.seq (.ops [⟨some 10, .load (some 4) (.tmp 2), none, []⟩, ⟨some 11, .move (.tmp 1), none, []⟩, ⟨some 12, .call (.lit (.func 37 [])) [.tmp 10, .tmp 11], none, []⟩, ⟨some 6, .move (.tmp 12), none, []⟩]) (.seq (.ops [⟨some 13, .move (.tmp 6), none, []⟩, ⟨some 14, .bin .neq .none (.tmp 13) (.lit (.int .i64 0)), none, []⟩]) (.cond (.tmp 14) (.seq (.ops [⟨some 15, .move (.tmp 6), none, []⟩, ⟨some 4, .move (.lit (.bool false)), none, []⟩, ⟨some 5, .move (.tmp 15), none, []⟩]) .ret) .skip))) (.seq (.ops [⟨some 17, .load (some 4) (.tmp 2), none, []⟩, ⟨some 18, .move (.tmp 1), none, []⟩, ⟨some 19, .call (.lit (.func 64 [])) [.tmp 17, .tmp 18], none, []⟩, ⟨some 16, .move (.tmp 19), none, []⟩, ⟨some 20, .extract (.tmp 16) 0, none, []⟩, ⟨some 21, .extract (.tmp 16) 1, none, []⟩, ⟨some 22, .extract (.tmp 16) 2, none, []⟩, ⟨some 7, .move (.tmp 20), none, []⟩, ⟨some 8, .move (.tmp 21), none, []⟩, ⟨some 9, .move (.tmp 22), none, []⟩]) (.seq (.seq (.ops [⟨some 23, .move (.tmp 9), none, []⟩, ⟨some 24, .un .not (.tmp 23), none, []⟩]) (.cond (.tmp 24) (.seq (.ops [⟨some 4, .move (.lit (.bool false)), none, []⟩, ⟨some 5, .move (.lit (.int .i64 3)), none, []⟩]) .ret) .skip)) (.seq (.ops [⟨some 25, .move (.tmp 8), none, []⟩, ⟨some 26, .un .not (.tmp 25), none, []⟩, ⟨some 4, .move (.tmp 26), none, []⟩, ⟨some 5, .move (.lit (.int .i64 0)), none, []⟩]) .ret))))
set_option maxRecDepth 20000 in
theorem Inductive_spec (t : FTask) (l : List (List FLit)) (tok : Tok) (σ : Store) (ht : TB t) (hl : FB l) (h12 : validB t = true → t.facts.length ≤ 12) :
    ACalls Tryz.prog 22 [.agg (encTask t), .slice tok (l.map encC)] σ (isR (indR t l) σ) := by
  refine ACalls.intro (rs := [(.tmp 4), (.tmp 5)]) (by kernel_rfl) { own := [], ghosts := [] } Tryz.func22 (c := Tryz.f22.body.getD .skip) (by kernel_rfl) (by decide) (by rw [show Tryz.f22.ntmps = 27 by kernel_rfl]; exact Nat.le_of_ble_eq_true rfl) (by kernel_rfl) ?_
  intro hσ hids
  rw [show comp Tryz.prog { own := [], ghosts := [] } (Tryz.f22.body.getD .skip) = c_Inductive by kernel_rfl, show Tryz.f22.ntmps = 27 by kernel_rfl]
  unfold c_Inductive
  simp only [go_sem, Int.reduceToNat, Int.reduceLE, Int.reduceLT, Nat.reduceBEq, Nat.reduceLT, Nat.reduceAdd, Nat.reduceLeDiff, encTask]
  refine (clauses_spec t l tok _ ht hl).is ?_
  by_cases h1 : clE t l = 0
  · obtain ⟨hv, hll, hvf⟩ := clE_zero h1
    rw [h1]
    simp only [go_sem, Int.reduceToNat, Int.reduceLE, Int.reduceLT, Nat.reduceBEq, Nat.reduceLT, Nat.reduceAdd, Nat.reduceLeDiff, encTask]
    refine (removed_spec t l tok _ ht (h12 hv) (valid_init hv) (fun a ha => valid_AOk hv ha) hl (by omega) (vF_len (valid_facts hv) hvf)).is ?_
    rw [any_all_not]
    cases h2 : l.all (stayB t l)
    · simp only [go_sem, Int.reduceToNat, Int.reduceLE, Int.reduceLT, Nat.reduceBEq, Nat.reduceLT, Nat.reduceAdd, Nat.reduceLeDiff]
      first | exact rtl (.bool false) (.int .i64 0) ⟨by rw [indR, if_pos h1, h2], rfl⟩ | exact rtl0 (.bool false) (.int .i64 0) ⟨by rw [indR, if_pos h1, h2], rfl⟩
    · simp only [go_sem, Int.reduceToNat, Int.reduceLE, Int.reduceLT, Nat.reduceBEq, Nat.reduceLT, Nat.reduceAdd, Nat.reduceLeDiff]
      first | exact rtl (.bool true) (.int .i64 0) ⟨by rw [indR, if_pos h1, h2], rfl⟩ | exact rtl0 (.bool true) (.int .i64 0) ⟨by rw [indR, if_pos h1, h2], rfl⟩
  · have h1' : (clE t l != 0) = true := by simpa using h1
    simp only [go_sem, Int.reduceToNat, Int.reduceLE, Int.reduceLT, Nat.reduceBEq, Nat.reduceLT, Nat.reduceAdd, Nat.reduceLeDiff, h1']
    first | exact rtl (.bool false) (.int .i64 (clE t l)) ⟨by rw [indR, if_neg h1], rfl⟩ | exact rtl0 (.bool false) (.int .i64 (clE t l)) ⟨by rw [indR, if_neg h1], rfl⟩
def c_Largest : CCode := .seq (.ops [⟨some 2, .box (.tmp 0), none, []⟩, ⟨some 4, .move (.lit (.slice .nil [])), none, []⟩, ⟨some 5, .move (.lit (.int .i64 0)), none, []⟩]) (.seq (.seq (.ops [⟨some 9, .load (some 4) (.tmp 2), none, []⟩, ⟨some 10, .move (.tmp 1), none, []⟩, ⟨some 11, .call (.lit (.func 37 [])) [.tmp 9, .tmp 10], none, []⟩, ⟨some 6, .move (.tmp 11), none, []⟩]) (.seq (.ops [⟨some 12, .move (.tmp 6), none, []⟩, ⟨some 13, .bin .neq .none (.tmp 12) (.lit (.int .i64 0)), none, []⟩]) (.cond (.tmp 13) (.seq (.ops [⟨some 14, .move (.tmp 6), none, []⟩, ⟨some 4, .move (.lit (.slice .nil [])), none, []⟩, ⟨some 5, .move (.tmp 14), none, []⟩]) .ret) .skip))) (.seq (.ops [⟨some 16, .load (some 4) (.tmp 2), none, []⟩, ⟨some 17, .move (.tmp 1), none, []⟩, ⟨some 18, .call (.lit (.func 52 [])) [.tmp 16, .tmp 17], none, []⟩, ⟨some 15, .move (.tmp 18), none, []⟩, ⟨some 19, .extract (.tmp 15) 0, none, []⟩, ⟨some 20, .extract (.tmp 15) 1, none, []⟩, ⟨some 7, .move (.tmp 19), none, []⟩, ⟨some 8, .move (.tmp 20), none, []⟩]) (.seq (.seq (.ops [⟨some 21, .move (.tmp 8), none, []⟩, ⟨some 22, .un .not (.tmp 21), none, []⟩]) (.cond (.tmp 22) (.seq (.ops [⟨some 4, .move (.lit (.slice .nil [])), none, []⟩, ⟨some 5, .move (.lit (.int .i64 3)), none, []⟩]) .ret) .skip)) (.seq (.ops [⟨some 23, .move (.tmp 7), none, []⟩, ⟨some 4, .move (.tmp 23), none, []⟩, ⟨some 5, .move (.lit (.int .i64 0)), none, []⟩]) .ret))))
set_option maxRecDepth 20000 in
theorem Largest_specF (t : FTask) (l : List (List FLit)) (tok : Tok) (σ : Store) (ht : TB t) (hl : FB l) (h12 : validB t = true → t.facts.length ≤ 12) :
    ACalls Tryz.prog 14 [.agg (encTask t), .slice tok (l.map encC)] σ (isR (larRf t l) σ) := by
  refine ACalls.intro (rs := [(.tmp 4), (.tmp 5)]) (by kernel_rfl) { own := [], ghosts := [] } Tryz.func14 (c := Tryz.f14.body.getD .skip) (by kernel_rfl) (by decide) (by rw [show Tryz.f14.ntmps = 24 by kernel_rfl]; exact Nat.le_of_ble_eq_true rfl) (by kernel_rfl) ?_
  intro hσ hids
  rw [show comp Tryz.prog { own := [], ghosts := [] } (Tryz.f14.body.getD .skip) = c_Largest by kernel_rfl, show Tryz.f14.ntmps = 24 by kernel_rfl]
  unfold c_Largest
  simp only [go_sem, Int.reduceToNat, Int.reduceLE, Int.reduceLT, Nat.reduceBEq, Nat.reduceLT, Nat.reduceAdd, Nat.reduceLeDiff, encTask]
  refine (clauses_spec t l tok _ ht hl).is ?_
  by_cases h1 : clE t l = 0
  · obtain ⟨hv, hll, hvf⟩ := clE_zero h1
    rw [h1]
    simp only [go_sem, Int.reduceToNat, Int.reduceLE, Int.reduceLT, Nat.reduceBEq, Nat.reduceLT, Nat.reduceAdd, Nat.reduceLeDiff, encTask]
    refine (ilargest_specF t l tok _ ht (h12 hv) (valid_init hv) (fun a ha => valid_AOk hv ha) (by omega) (vF_len (valid_facts hv) hvf)).is ?_
    simp only [go_sem, Int.reduceToNat, Int.reduceLE, Int.reduceLT, Nat.reduceBEq, Nat.reduceLT, Nat.reduceAdd, Nat.reduceLeDiff]
    first | exact rtl (.slice .fresh ((largeL t l).map encCf)) (.int .i64 0) ⟨by rw [larRf, if_pos h1], rfl⟩ | exact rtl0 (.slice .fresh ((largeL t l).map encCf)) (.int .i64 0) ⟨by rw [larRf, if_pos h1], rfl⟩
  · have h1' : (clE t l != 0) = true := by simpa using h1
    simp only [go_sem, Int.reduceToNat, Int.reduceLE, Int.reduceLT, Nat.reduceBEq, Nat.reduceLT, Nat.reduceAdd, Nat.reduceLeDiff, h1']
    first | exact rtl (.slice .nil []) (.int .i64 (clE t l)) ⟨by rw [larRf, if_neg h1], rfl⟩ | exact rtl0 (.slice .nil []) (.int .i64 (clE t l)) ⟨by rw [larRf, if_neg h1], rfl⟩
theorem Largest_spec (t : FTask) (l : List (List FLit)) (tok : Tok) (σ : Store) (ht : TB t) (hl : FB l) (h12 : validB t = true → t.facts.length ≤ 12) :
    ACalls Tryz.prog 14 [.agg (encTask t), .slice tok (l.map encC)] σ (isR (larR t l) σ) := (Largest_specF t l tok σ ht hl h12).wkR (larRf_wk t l)
end Go.Proofs.YtocphglkceidhaaGreat
namespace Go.Proofs.YtocphglkceidhaaGreat
open Go.Ahl
end Go.Proofs.YtocphglkceidhaaGreat
namespace Go.Proofs.YtocphglkceidhaaGreat
open Go.Ahl
end Go.Proofs.YtocphglkceidhaaGreat
namespace Go.Proofs.YtocphglkceidhaaGreat
open Go.Ahl
end Go.Proofs.YtocphglkceidhaaGreat
namespace Go.Proofs.YtocphglkceidhaaGreat
open Go.Ahl
end Go.Proofs.YtocphglkceidhaaGreat
namespace Go.Proofs.YtocphglkceidhaaGreat
open Go.Ahl
def c_pairs1 : CCode := .seq (.ops [⟨some 2, .alloc (.agg [.int .i64 0, .bool false]), none, []⟩]) (.seq (.ops [⟨some 3, .move (.tmp 0), none, []⟩, ⟨some 4, .bin .quo .none (.tmp 3) (.lit (.int .i64 2)), none, []⟩, ⟨some 5, .move (.tmp 0), none, []⟩, ⟨some 6, .bin .rem .none (.tmp 5) (.lit (.int .i64 2)), none, []⟩, ⟨some 7, .bin .eql .none (.tmp 6) (.lit (.int .i64 1)), none, []⟩, ⟨some 8, .build [.int .i64 0, .bool false] [(0, 1, .tmp 4), (1, 1, .tmp 7)], none, []⟩, ⟨none, .store 2 (.tmp 2) (.tmp 8), none, []⟩]) .ret)
set_option maxRecDepth 20000 in
theorem pairs1_spec (i : Nat) (σ : Store) (hi : i ≤ 1000000) : ACalls Tryz.prog 54 [.int .i64 i] σ (isR (.agg (encLit (litI i))) σ) := by
  refine ACalls.intro (rs := [(.cell (some 2) 2)]) (by kernel_rfl) { own := [], ghosts := [] } Tryz.func54 (c := Tryz.f54.body.getD .skip) (by kernel_rfl) (by decide) (by rw [show Tryz.f54.ntmps = 9 by kernel_rfl]; exact Nat.le_of_ble_eq_true rfl) (by kernel_rfl) ?_
  intro hσ hids
  rw [show comp Tryz.prog { own := [], ghosts := [] } (Tryz.f54.body.getD .skip) = c_pairs1 by kernel_rfl, show Tryz.f54.ntmps = 9 by kernel_rfl]
  unfold c_pairs1
  have h1 : IntKind.i64.wrap ((i : Int).tdiv 2) = ((i / 2 : Nat) : Int) := by
    rw [show (i : Int).tdiv 2 = ((i / 2 : Nat) : Int) by rw [Int.tdiv_eq_ediv_of_nonneg (by omega)]; omega, wrap_ok (by omega)]
  have h2 : (i : Int).tmod 2 = ((i % 2 : Nat) : Int) := by rw [Int.tmod_eq_emod_of_nonneg (by omega)]; omega
  have h3 : (((i % 2 : Nat) : Int) == 1) = (i % 2 == 1) := by
    rw [Bool.eq_iff_iff]; simp; omega
  have h20 : (2 : Int) ≠ 0 := by decide
  simp only [go_sem, Int.reduceToNat, Int.reduceLE, Int.reduceLT, Nat.reduceBEq, Nat.reduceLT, Nat.reduceAdd, Nat.reduceLeDiff, h1, h2, h3, h20]
  exact ⟨by decide, by decide, ret_cN (cells := encLit (litI i)) rfl (by rw [List.getElem?_append_right (Nat.le_refl _), Nat.sub_self]; rfl) rfl (by simp) hσ (ids_agg (ids_encLit _)) ⟨rfl, rfl⟩⟩
def d_pairs21_0 : List COp := [⟨some 4, .move (.tmp 0), none, []⟩, ⟨some 5, .blen 1 (.tmp 4), none, [0]⟩, ⟨some 6, .bin .eql .none (.tmp 5) (.lit (.int .i64 1)), none, [1]⟩, ⟨some 7, .move (.tmp 6), none, [2]⟩, ⟨some 8, .move (.tmp 0), some (some 7, true), [3]⟩, ⟨some 9, .iaddr 2 (.tmp 8) (.lit (.int .i64 0)), some (some 7, true), [4, 3]⟩, ⟨some 10, .load (some 2) (.tmp 9), some (some 7, true), [5, 3]⟩, ⟨some 11, .load (some 2) (.tmp 1), some (some 7, true), [3]⟩, ⟨some 12, .bin .eql (.flat [1, 0]) (.tmp 10) (.tmp 11), some (some 7, true), [6, 7, 3]⟩, ⟨some 13, .pick (.tmp 7) (.tmp 12) (.lit (.bool false)), none, [3, 8]⟩, ⟨some 3, .move (.tmp 13), none, [9, 3, 0, 1, 2, 3, 4, 5, 6, 7, 8, 9]⟩]
theorem dr_pairs21_0 (P : Program) (nt n0 : Nat) (Q : Post) (s : Slots) (σ : Store) : wpc P nt n0 (.draw d_pairs21_0) Q s σ = aOpsD P nt [⟨some 4, .move (.tmp 0), none, []⟩, ⟨some 5, .blen 1 (.tmp 4), none, [0]⟩, ⟨some 6, .bin .eql .none (.tmp 5) (.lit (.int .i64 1)), none, [1]⟩, ⟨some 7, .move (.tmp 6), none, [2]⟩, ⟨some 8, .move (.tmp 0), some (some 7, true), [3]⟩, ⟨some 9, .iaddr 2 (.tmp 8) (.lit (.int .i64 0)), some (some 7, true), [4, 3]⟩, ⟨some 10, .load (some 2) (.tmp 9), some (some 7, true), [5, 3]⟩, ⟨some 11, .load (some 2) (.tmp 1), some (some 7, true), [3]⟩, ⟨some 12, .bin .eql (.flat [1, 0]) (.tmp 10) (.tmp 11), some (some 7, true), [6, 7, 3]⟩, ⟨some 13, .pick (.tmp 7) (.tmp 12) (.lit (.bool false)), none, [3, 8]⟩, ⟨some 3, .move (.tmp 13), none, [9, 3, 0, 1, 2, 3, 4, 5, 6, 7, 8, 9]⟩] (Q .normal) s σ := wpc_draw _ (by decide)
def c_pairs21 : CCode := .seq (.ops [⟨some 3, .move (.lit (.bool false)), none, []⟩]) (.seq (.draw d_pairs21_0) .ret)
set_option maxRecDepth 20000 in
theorem pairs21_spec (d : List FLit) (x : FLit) (V : Nat) (σ : Store) (hd : d.length ≤ 140737488355328) (hV : σ[V]? = some (.row (encLit x))) :
    ACalls Tryz.prog 57 [.slice .fresh (d.map encLit), .ptr V 0] σ (isR (.bool (decide (d = [x]))) σ) := by
  refine ACalls.intro (rs := [(.tmp 3)]) (by kernel_rfl) { own := [], ghosts := [] } Tryz.func57 (c := Tryz.f57.body.getD .skip) (by kernel_rfl) (by decide) (by rw [show Tryz.f57.ntmps = 14 by kernel_rfl]; exact Nat.le_of_ble_eq_true rfl) (by kernel_rfl) ?_
  intro hσ hids
  rw [show comp Tryz.prog { own := [], ghosts := [] } (Tryz.f57.body.getD .skip) = c_pairs21 by kernel_rfl, show Tryz.f57.ntmps = 14 by kernel_rfl]
  unfold c_pairs21
  simp only [encLit] at hV
  match d, hd with
  | [], hd =>
    have h1 : ((0 : Int) == 1) = false := rfl
    simp only [go_sem, Int.reduceToNat, Int.reduceLE, Int.reduceLT, Nat.reduceBEq, Nat.reduceLT, Nat.reduceAdd, Nat.reduceLeDiff, dr_pairs21_0, h1]
    first | exact rtk (.bool false) ⟨by simp, rfl⟩ | exact rtk0 (.bool false) ⟨by simp, rfl⟩
  | [y], hd =>
    have hf := flat_lit y x
    simp only [encLit] at hf
    have h1 : (((1 : Nat) : Int) == 1) = true := rfl
    simp only [go_sem, Int.reduceToNat, Int.reduceLE, Int.reduceLT, Nat.reduceBEq, Nat.reduceLT, Nat.reduceAdd, Nat.reduceLeDiff, dr_pairs21_0, hV, encLit, h1]
    rw [hf]
    simp only [go_sem, Int.reduceToNat, Int.reduceLE, Int.reduceLT, Nat.reduceBEq, Nat.reduceLT, Nat.reduceAdd, Nat.reduceLeDiff, dr_pairs21_0]
    first | exact rtk (.bool (decide (y = x))) ⟨by simp, rfl⟩ | exact rtk0 (.bool (decide (y = x))) ⟨by simp, rfl⟩
  | y :: z :: r, hd =>
    have h1 : (((r.length + 1 + 1 : Nat) : Int) == 1) = false := by simp; omega
    simp only [go_sem, Int.reduceToNat, Int.reduceLE, Int.reduceLT, Nat.reduceBEq, Nat.reduceLT, Nat.reduceAdd, Nat.reduceLeDiff, dr_pairs21_0, h1]
    first | exact rtk (.bool false) ⟨by simp, rfl⟩ | exact rtk0 (.bool false) ⟨by simp, rfl⟩
def c_pairs2 : CCode := .seq (.ops [⟨some 2, .box (.tmp 0), none, []⟩, ⟨some 3, .move (.lit (.bool false)), none, []⟩]) (.seq (.ops [⟨some 4, .load none (.tmp 1), none, []⟩, ⟨some 5, .mkfunc 57 [.tmp 2], none, []⟩, ⟨some 6, .call (.lit (.func 56 [])) [.tmp 4, .tmp 5], none, []⟩, ⟨some 3, .move (.tmp 6), none, []⟩]) .ret)
set_option maxRecDepth 20000 in
theorem pairs2_spec (x : FLit) (out : List (List FLit)) (tok : Tok) (O : Nat) (σ : Store) (hl : FB out) (hO : σ[O]? = some (.row [.slice tok (out.map encCf)])) :
    ACalls Tryz.prog 55 [.agg (encLit x), .ptr O 0] σ (isR (.bool (hasOne out x)) σ) := by
  refine ACalls.intro (rs := [(.tmp 3)]) (by kernel_rfl) { own := [], ghosts := [] } Tryz.func55 (c := Tryz.f55.body.getD .skip) (by kernel_rfl) (by decide) (by rw [show Tryz.f55.ntmps = 7 by kernel_rfl]; exact Nat.le_of_ble_eq_true rfl) (by kernel_rfl) ?_
  intro hσ hids
  rw [show comp Tryz.prog { own := [], ghosts := [] } (Tryz.f55.body.getD .skip) = c_pairs2 by kernel_rfl, show Tryz.f55.ntmps = 7 by kernel_rfl]
  unfold c_pairs2
  have hO' : ∀ r, (σ ++ r)[O]? = some (.row [.slice tok (out.map encCf)]) := fun r => by rw [List.getElem?_append_left (lt_of_get hO)]; exact hO
  simp only [go_sem, Int.reduceToNat, Int.reduceLE, Int.reduceLT, Nat.reduceBEq, Nat.reduceLT, Nat.reduceAdd, Nat.reduceLeDiff, encLit, hO']
  refine (containsFuncC_spec (fun l => .slice .fresh (l.map encLit)) out _ [.ptr σ.length 0] (fun d => decide (d = [x])) tok (σ ++ [.row (encLit x)]) hl.1 (fun d hm => pairs21_spec d x σ.length _ (hl.2 d hm) (by rw [List.getElem?_append_right (Nat.le_refl _), Nat.sub_self]; rfl))).is ?_
  simp only [go_sem, Int.reduceToNat, Int.reduceLE, Int.reduceLT, Nat.reduceBEq, Nat.reduceLT, Nat.reduceAdd, Nat.reduceLeDiff]
  first | exact rtw (v := .bool _) wkS ⟨rfl, rfl⟩ | exact rtw0 (v := .bool _) wkS ⟨rfl, rfl⟩
end Go.Proofs.YtocphglkceidhaaGreat
