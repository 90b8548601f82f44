/- Contracts of the given program's functions, and an abstract layer over the model; no condition. -/
import Derived.Test.YtocphglkceidhaaGreatBase5
set_option linter.unusedVariables false
set_option linter.unusedSimpArgs false
namespace Go.Proofs.YtocphglkceidhaaGreat
open Go.Ahl
def c_copy07 : CCode := .seq (.ops [⟨some 2, .move (.lit (.slice .nil [])), none, []⟩]) (.seq (.ops [⟨some 3, .move (.lit (.slice .nil [])), none, []⟩]) (.seq (.seq (.ops [⟨some 6, .move (.tmp 0), none, []⟩, ⟨some 7, .blen 1 (.tmp 6), none, []⟩, ⟨some 8, .move (.lit (.int .i64 0)), none, []⟩]) (.block 0 (.loop (.seq (.ops [⟨some 9, .bin .lss .none (.tmp 8) (.tmp 7), none, []⟩]) (.seq (.cond (.tmp 9) .skip (.exit 0)) (.seq (.block 1 (.seq (.ops [⟨some 10, .iaddr 1 (.tmp 6) (.tmp 8), none, []⟩, ⟨some 11, .load none (.tmp 10), none, []⟩, ⟨some 5, .move (.tmp 11), none, []⟩]) (.ops [⟨some 12, .move (.tmp 3), none, []⟩, ⟨some 13, .move (.tmp 5), none, []⟩, ⟨some 14, .call (.lit (.func 62 [])) [.tmp 13], none, []⟩, ⟨some 15, .bslice 1 [.tmp 14] false, none, []⟩, ⟨some 16, .bappend 1 24 (.tmp 12) (.tmp 15) false, none, []⟩, ⟨some 3, .move (.tmp 16), none, []⟩]))) (.ops [⟨some 17, .bin .add .none (.tmp 8) (.lit (.int .i64 1)), none, []⟩, ⟨some 8, .move (.tmp 17), none, []⟩]))))))) (.seq (.ops [⟨some 18, .move (.tmp 3), none, []⟩, ⟨some 2, .move (.tmp 18), none, []⟩]) .ret)))
set_option maxRecDepth 20000 in
theorem copy07_spec (f : List (List FLit)) (tok : Tok) (σ : Store) (hf : f.length ≤ 1000000 ∧ ∀ x ∈ f, x.length ≤ 1000000) :
    ACalls Tryz.prog 20 [.slice tok (f.map encC)] σ (isR (.slice .unk (f.map encC)) σ) := by
  refine ACalls.intro (rs := [(.tmp 2)]) (by kernel_rfl) { own := [], ghosts := [] } Tryz.func20 (c := Tryz.f20.body.getD .skip) (by kernel_rfl) (by decide) (by rw [show Tryz.f20.ntmps = 19 by kernel_rfl]; exact Nat.le_of_ble_eq_true rfl) (by kernel_rfl) ?_
  intro hσ hids
  rw [show comp Tryz.prog { own := [], ghosts := [] } (Tryz.f20.body.getD .skip) = c_copy07 by kernel_rfl, show Tryz.f20.ntmps = 19 by kernel_rfl]
  unfold c_copy07
  have hf1 := hf.1
  have hif : Ids σ.length (.slice tok (f.map encC)) := hids _ (by simp)
  have hs1 : ∀ n, IdsS (σ ++ [AObj.grow 1 n]).length (σ ++ [AObj.grow 1 n]) := fun n => idsS_push hσ trivial
  simp only [go_sem, Int.reduceToNat, Int.reduceLE, Int.reduceLT, Nat.reduceBEq, Nat.reduceLT, Nat.reduceAdd, Nat.reduceLeDiff]
  refine wpc_while (fun (i : Nat) => [(3, .slice (.grow σ.length) ((f.take i).map encC)), (6, .slice tok (f.map encC)), (7, .int .i64 f.length), (8, .int .i64 (i : Nat))]) (fun i => σ ++ [.grow 1 (f.take i).length]) (fun i => i ≤ f.length) (fun i => f.length - i) 0 (Nat.zero_le _) (.begin0 3 1 _ (Nat.le_refl _) tellT hσ) ?_
  intro i hi K hK hE hR
  by_cases h : i < f.length
  · obtain ⟨l, hx⟩ := get_ex h; have hlt : ((i : Int) < (f.length : Int)) := (by omega); have hw : IntKind.i64.wrap ((i : Int) + 1) = ((i + 1 : Nat) : Int) := (by rw [wrap_ok (by omega)]; omega)
    have hc : (f.take i).map encC ++ [[AV.slice .unk (l.map encLit)]] = (f.take (i + 1)).map encC := by rw [take_succ' hx]; simp [encC]
    have hl : (f.take i).length = i := List.length_take_of_le (by omega)
    have hl1 : (f.take (i + 1)).length = i + 1 := List.length_take_of_le (by omega)
    have hbig : bigLen (i + 1) 24 := big_ok (by omega) (by omega)
    simp only [go_sem, Int.reduceToNat, Int.reduceLE, Int.reduceLT, Nat.reduceBEq, Nat.reduceLT, Nat.reduceAdd, Nat.reduceLeDiff, hlt, hx, encC]
    refine (copyLits_spec l .unk _ (by have := hf.2 l (List.mem_of_getElem? hx); omega)).is ?_
    simp only [go_sem, Int.reduceToNat, Int.reduceLE, Int.reduceLT, Nat.reduceBEq, Nat.reduceLT, Nat.reduceAdd, Nat.reduceLeDiff, hbig, hl, hc]
    refine hK _ _ (i + 1) (by omega) (by omega) ?_
    simp only [hl1]
    exact (by (try dsimp only); (try simp only [ hw]); first | exact ghL (hs1 (i + 1)) | exact ghL0 (hs1 (i + 1)))
  · have hlt : ¬ ((i : Int) < (f.length : Int)) := by omega
    rw [List.take_of_length_le (by omega)]
    simp only [go_sem, Int.reduceToNat, Int.reduceLE, Int.reduceLT, Nat.reduceBEq, Nat.reduceLT, Nat.reduceAdd, Nat.reduceLeDiff, hlt, hE]
    first | exact rtk (.slice .unk (f.map encC)) ⟨rfl, rfl⟩ | exact rtk0 (.slice .unk (f.map encC)) ⟨rfl, rfl⟩
def d_copyAction_0 : List COp := [⟨some 17, .move (.tmp 3), none, []⟩, ⟨some 18, .faddr 0 (.tmp 5), none, []⟩, ⟨some 19, .load none (.tmp 18), none, [1]⟩, ⟨some 20, .call (.lit (.func 62 [])) [.tmp 19], none, [2]⟩, ⟨some 21, .faddr 1 (.tmp 5), none, []⟩, ⟨some 22, .load (some 2) (.tmp 21), none, [4]⟩, ⟨some 23, .build [.slice .nil [], .int .i64 0, .bool false] [(0, 1, .tmp 20), (1, 2, .tmp 22)], none, [3, 5]⟩, ⟨some 24, .bsliceC 3 [.tmp 23], none, [6]⟩, ⟨some 25, .bappend 3 40 (.tmp 17) (.tmp 24) false, none, [0, 7, 3]⟩, ⟨some 3, .move (.tmp 25), none, [8, 8, 0, 1, 2, 3, 4, 5, 6, 7, 8]⟩]
theorem dr_copyAction_0 (P : Program) (nt n0 : Nat) (Q : Post) (s : Slots) (σ : Store) : wpc P nt n0 (.draw d_copyAction_0) Q s σ = aOpsD P nt [⟨some 17, .move (.tmp 3), none, []⟩, ⟨some 18, .faddr 0 (.tmp 5), none, []⟩, ⟨some 19, .load none (.tmp 18), none, [1]⟩, ⟨some 20, .call (.lit (.func 62 [])) [.tmp 19], none, [2]⟩, ⟨some 21, .faddr 1 (.tmp 5), none, []⟩, ⟨some 22, .load (some 2) (.tmp 21), none, [4]⟩, ⟨some 23, .build [.slice .nil [], .int .i64 0, .bool false] [(0, 1, .tmp 20), (1, 2, .tmp 22)], none, [3, 5]⟩, ⟨some 24, .bsliceC 3 [.tmp 23], none, [6]⟩, ⟨some 25, .bappend 3 40 (.tmp 17) (.tmp 24) false, none, [0, 7, 3]⟩, ⟨some 3, .move (.tmp 25), none, [8, 8, 0, 1, 2, 3, 4, 5, 6, 7, 8]⟩] (Q .normal) s σ := wpc_draw _ (by decide)
def c_copyAction : CCode := .seq (.ops [⟨some 1, .box (.tmp 0), none, []⟩, ⟨some 2, .alloc (.agg [.str (bys []), .int .i64 0, .slice .nil [], .slice .nil []]), none, []⟩]) (.seq (.ops [⟨some 6, .faddr 2 (.tmp 1), none, []⟩, ⟨some 7, .load none (.tmp 6), none, []⟩, ⟨some 8, .call (.lit (.func 62 [])) [.tmp 7], none, []⟩, ⟨some 9, .faddr 2 (.tmp 1), none, []⟩, ⟨none, .store 1 (.tmp 9) (.tmp 8), none, []⟩]) (.seq (.ops [⟨some 3, .move (.lit (.slice .nil [])), none, []⟩]) (.seq (.seq (.ops [⟨some 10, .faddr 3 (.tmp 1), none, []⟩, ⟨some 11, .load none (.tmp 10), none, []⟩, ⟨some 12, .blen 1 (.tmp 11), none, []⟩, ⟨some 13, .move (.lit (.int .i64 0)), none, []⟩]) (.block 0 (.loop (.seq (.ops [⟨some 14, .bin .lss .none (.tmp 13) (.tmp 12), none, []⟩]) (.seq (.cond (.tmp 14) .skip (.exit 0)) (.seq (.block 1 (.seq (.ops [⟨some 15, .iaddr 3 (.tmp 11) (.tmp 13), none, []⟩, ⟨some 16, .load (some 3) (.tmp 15), none, []⟩, ⟨some 5, .alloc (.agg [.slice .nil [], .int .i64 0, .bool false]), none, []⟩, ⟨none, .store 3 (.tmp 5) (.tmp 16), none, []⟩]) (.draw d_copyAction_0))) (.ops [⟨some 26, .bin .add .none (.tmp 13) (.lit (.int .i64 1)), none, []⟩, ⟨some 13, .move (.tmp 26), none, []⟩]))))))) (.seq (.ghost (.ops [⟨some 27, .move (.tmp 3), none, []⟩, ⟨some 28, .faddr 3 (.tmp 1), none, []⟩, ⟨none, .store 1 (.tmp 28) (.tmp 27), none, []⟩])) (.seq (.ops [⟨some 29, .load (some 4) (.tmp 1), none, []⟩, ⟨none, .store 4 (.tmp 2) (.tmp 29), none, []⟩]) .ret)))))
set_option maxRecDepth 20000 in
theorem copyAction_spec (a : FAct) (σ : Store) (h1 : a.pre.length ≤ 1000000) (h2 : a.effects.length ≤ 1000000) (h3 : ∀ e ∈ a.effects, e.when_.length ≤ 1000000) :
    ACalls Tryz.prog 63 [.agg (encA a)] σ (isR (.agg (encA a)) σ) := by
  refine ACalls.intro (rs := [(.cell (some 4) 2)]) (by kernel_rfl) { own := [], ghosts := [8], cold := [(6, 7)] } Tryz.func63 (c := Tryz.f63.body.getD .skip) (by kernel_rfl) (by decide) (by rw [show Tryz.f63.ntmps = 30 by kernel_rfl]; exact Nat.le_of_ble_eq_true rfl) (by kernel_rfl) ?_
  intro hσ hids
  rw [show comp Tryz.prog { own := [], ghosts := [8], cold := [(6, 7)] } (Tryz.f63.body.getD .skip) = c_copyAction by kernel_rfl, show Tryz.f63.ntmps = 30 by kernel_rfl]
  unfold c_copyAction
  have hz : ∀ n, IdsL n [AV.str (bys []), .int .i64 0, .slice .nil [], .slice .nil []] := fun n => idsL_cons (.str _) (idsL_cons (.int _ _) (idsL_cons (ids_nil _ (by simp)) (idsL_cons (ids_nil _ (by simp)) idsL_nil)))
  have hs0 : IdsS (σ ++ [AObj.row (encA a), AObj.row [AV.str (bys []), .int .i64 0, .slice .nil [], .slice .nil []]]).length (σ ++ [AObj.row (encA a), AObj.row [AV.str (bys []), .int .i64 0, .slice .nil [], .slice .nil []]]) := idsS_app _ hσ (all_cons' (idsO_row (ids_encA a)) (all_cons' (idsO_row (hz _)) all_nil'))
  have hs1 : ∀ n, IdsS (σ ++ [AObj.row (encA a), AObj.row [AV.str (bys []), .int .i64 0, .slice .nil [], .slice .nil []], AObj.grow 3 n]).length (σ ++ [AObj.row (encA a), AObj.row [AV.str (bys []), .int .i64 0, .slice .nil [], .slice .nil []], AObj.grow 3 n]) := fun n => idsS_app _ hσ (all_cons' (idsO_row (ids_encA a)) (all_cons' (idsO_row (hz _)) (all_cons' trivial all_nil')))
  simp only [encA] at hs0 hs1
  simp only [go_sem, Int.reduceToNat, Int.reduceLE, Int.reduceLT, Nat.reduceBEq, Nat.reduceLT, Nat.reduceAdd, Nat.reduceLeDiff, dr_copyAction_0, encA]
  refine (copyLits_spec a.pre .unk _ (by omega)).is ?_
  simp only [go_sem, Int.reduceToNat, Int.reduceLE, Int.reduceLT, Nat.reduceBEq, Nat.reduceLT, Nat.reduceAdd, Nat.reduceLeDiff, dr_copyAction_0]
  refine wpc_while (fun (i : Nat) => [(3, .slice (.grow (σ.length + 2)) ((a.effects.take i).map encE)), (1, .ptr σ.length 0), (2, .ptr (σ.length + 1) 0), (11, .slice .unk (a.effects.map encE)), (12, .int .i64 a.effects.length), (13, .int .i64 (i : Nat))]) (fun i => σ ++ [.row (encA a), .row [AV.str (bys []), .int .i64 0, .slice .nil [], .slice .nil []], .grow 3 (a.effects.take i).length]) (fun i => i ≤ a.effects.length) (fun i => a.effects.length - i) 0 (Nat.zero_le _) (.beginT [_, _] 3 3 _ tellT hs0) ?_
  intro i hi K hK hE hR
  by_cases h : i < a.effects.length
  · obtain ⟨e, hx⟩ := get_ex h; have hlt : ((i : Int) < (a.effects.length : Int)) := (by omega); have hw : IntKind.i64.wrap ((i : Int) + 1) = ((i + 1 : Nat) : Int) := (by rw [wrap_ok (by omega)]; omega)
    have hc : (a.effects.take i).map encE ++ [[AV.slice .unk (e.when_.map encLit), .int .i64 e.lit.fact, .bool e.lit.neg]] = (a.effects.take (i + 1)).map encE := by rw [take_succ' hx]; simp [encE]
    have hl : (a.effects.take i).length = i := List.length_take_of_le (by omega)
    have hl1 : (a.effects.take (i + 1)).length = i + 1 := List.length_take_of_le (by omega)
    have hbig : bigLen (i + 1) 40 := big_ok (by omega) (by omega)
    simp only [go_sem, Int.reduceToNat, Int.reduceLE, Int.reduceLT, Nat.reduceBEq, Nat.reduceLT, Nat.reduceAdd, Nat.reduceLeDiff, dr_copyAction_0, hlt, hx, encE, encA]
    refine ⟨_, copyLits_spec e.when_ .unk _ (by have := h3 e (List.mem_of_getElem? hx); omega), ?_⟩
    simp only [go_sem, Int.reduceToNat, Int.reduceLE, Int.reduceLT, Nat.reduceBEq, Nat.reduceLT, Nat.reduceAdd, Nat.reduceLeDiff, dr_copyAction_0, hbig, hl, hc]
    refine hK _ _ (i + 1) (by omega) (by omega) ?_
    simp only [hl1, encA]
    exact (by (try dsimp only); (try simp only [ hw]); first | exact ghL (hs1 (i + 1)) | exact ghL0 (hs1 (i + 1)))
  · have hlt : ¬ ((i : Int) < (a.effects.length : Int)) := by omega
    rw [List.take_of_length_le (by omega)]
    simp only [go_sem, Int.reduceToNat, Int.reduceLE, Int.reduceLT, Nat.reduceBEq, Nat.reduceLT, Nat.reduceAdd, Nat.reduceLeDiff, dr_copyAction_0, hlt, hE]
    rw [wpc_ghost]; refine Gh.of (Ghost.weak 3 (.slice .unk (a.effects.map encE)) (Wk.unk _ _)) ?_
    simp only [go_sem, Int.reduceToNat, Int.reduceLE, Int.reduceLT, Nat.reduceBEq, Nat.reduceLT, Nat.reduceAdd, Nat.reduceLeDiff, dr_copyAction_0, encA]
    refine ret_cN (cells := encA a) rfl (by simp [encA]) rfl (by simp) hσ (ids_agg (ids_encA _)) ⟨rfl, rfl⟩
/-- Bounds of a task that is copied or compared. -/
structure CB (t : FTask) : Prop where
  facts : t.facts.length ≤ 1000000
  init : t.init.length ≤ 1000000
  goal : t.goal.length ≤ 1000000
  acts : t.actions.length ≤ 1000000
  act : ∀ a ∈ t.actions, a.pre.length ≤ 1000000 ∧ a.effects.length ≤ 1000000 ∧ ∀ e ∈ a.effects, e.when_.length ≤ 1000000
def d_copyTask_0 : List COp := [⟨some 6, .faddr 0 (.tmp 1), none, []⟩, ⟨some 7, .load none (.tmp 6), none, [0]⟩, ⟨some 8, .bappendC 1 16 (.lit (.slice .nil [])) (.tmp 7), none, [1]⟩, ⟨some 9, .faddr 1 (.tmp 1), none, []⟩, ⟨some 10, .load none (.tmp 9), none, [3]⟩, ⟨some 11, .bappendC 1 8 (.lit (.slice .nil [])) (.tmp 10), none, [4, 2]⟩, ⟨some 12, .faddr 2 (.tmp 1), none, []⟩, ⟨some 13, .load none (.tmp 12), none, [6]⟩, ⟨some 14, .call (.lit (.func 62 [])) [.tmp 13], none, [7, 5]⟩, ⟨some 15, .build [.slice .nil [], .slice .nil [], .slice .nil [], .slice .nil []] [(0, 1, .tmp 8), (1, 1, .tmp 11), (2, 1, .tmp 14)], none, [2, 5, 8]⟩, ⟨some 3, .alloc (.agg [.slice .nil [], .slice .nil [], .slice .nil [], .slice .nil []]), none, []⟩, ⟨none, .store 4 (.tmp 3) (.tmp 15), none, [10, 9, 8, 0, 1, 2, 3, 4, 5, 6, 7, 8, 9, 10]⟩]
theorem dr_copyTask_0 (P : Program) (nt n0 : Nat) (Q : Post) (s : Slots) (σ : Store) : wpc P nt n0 (.drawU d_copyTask_0 [[], [10], [], [], [10], [], [], [10], [10], [], [1, 4, 7, 8], []]) Q s σ = aOpsU P nt [⟨some 6, .faddr 0 (.tmp 1), none, []⟩, ⟨some 7, .load none (.tmp 6), none, [0]⟩, ⟨some 8, .bappendC 1 16 (.lit (.slice .nil [])) (.tmp 7), none, [1]⟩, ⟨some 9, .faddr 1 (.tmp 1), none, []⟩, ⟨some 10, .load none (.tmp 9), none, [3]⟩, ⟨some 11, .bappendC 1 8 (.lit (.slice .nil [])) (.tmp 10), none, [4, 2]⟩, ⟨some 12, .faddr 2 (.tmp 1), none, []⟩, ⟨some 13, .load none (.tmp 12), none, [6]⟩, ⟨some 14, .call (.lit (.func 62 [])) [.tmp 13], none, [7, 5]⟩, ⟨some 15, .build [.slice .nil [], .slice .nil [], .slice .nil [], .slice .nil []] [(0, 1, .tmp 8), (1, 1, .tmp 11), (2, 1, .tmp 14)], none, [2, 5, 8]⟩, ⟨some 3, .alloc (.agg [.slice .nil [], .slice .nil [], .slice .nil [], .slice .nil []]), none, []⟩, ⟨none, .store 4 (.tmp 3) (.tmp 15), none, [10, 9, 8, 0, 1, 2, 3, 4, 5, 6, 7, 8, 9, 10]⟩] [[], [10], [], [], [10], [], [], [10], [10], [], [1, 4, 7, 8], []] 0 [] [] (Q .normal) s σ := wpc_drawU _ _ (by decide)
def d_copyTask_1 : List COp := [⟨some 23, .faddr 3 (.tmp 3), none, []⟩, ⟨some 24, .load none (.tmp 23), none, [0]⟩, ⟨some 25, .load (some 4) (.tmp 5), none, []⟩, ⟨some 26, .call (.lit (.func 63 [])) [.tmp 25], none, [2]⟩, ⟨some 27, .bsliceC 4 [.tmp 26], none, [3]⟩, ⟨some 28, .bappend 4 72 (.tmp 24) (.tmp 27) false, none, [1, 4, 3]⟩, ⟨some 29, .faddr 3 (.tmp 3), none, [0, 1, 2, 3, 4, 5]⟩, ⟨none, .store 1 (.tmp 29) (.tmp 28), none, [6, 5, 5, 0, 1, 2, 3, 4, 5]⟩]
theorem dr_copyTask_1 (P : Program) (nt n0 : Nat) (Q : Post) (s : Slots) (σ : Store) : wpc P nt n0 (.draw d_copyTask_1) Q s σ = aOpsD P nt [⟨some 23, .faddr 3 (.tmp 3), none, []⟩, ⟨some 24, .load none (.tmp 23), none, [0]⟩, ⟨some 25, .load (some 4) (.tmp 5), none, []⟩, ⟨some 26, .call (.lit (.func 63 [])) [.tmp 25], none, [2]⟩, ⟨some 27, .bsliceC 4 [.tmp 26], none, [3]⟩, ⟨some 28, .bappend 4 72 (.tmp 24) (.tmp 27) false, none, [1, 4, 3]⟩, ⟨some 29, .faddr 3 (.tmp 3), none, [0, 1, 2, 3, 4, 5]⟩, ⟨none, .store 1 (.tmp 29) (.tmp 28), none, [6, 5, 5, 0, 1, 2, 3, 4, 5]⟩] (Q .normal) s σ := wpc_draw _ (by decide)
def c_copyTask : CCode := .seq (.ops [⟨some 1, .box (.tmp 0), none, []⟩, ⟨some 2, .alloc (.agg [.slice .nil [], .slice .nil [], .slice .nil [], .slice .nil []]), none, []⟩]) (.seq (.drawU d_copyTask_0 [[], [10], [], [], [10], [], [], [10], [10], [], [1, 4, 7, 8], []]) (.seq (.seq (.ghost (.ops [⟨some 16, .faddr 3 (.tmp 1), none, []⟩, ⟨some 17, .load none (.tmp 16), none, []⟩, ⟨some 18, .blen 1 (.tmp 17), none, []⟩, ⟨some 19, .move (.lit (.int .i64 0)), none, []⟩])) (.block 0 (.loop (.seq (.ops [⟨some 20, .bin .lss .none (.tmp 19) (.tmp 18), none, []⟩]) (.seq (.cond (.tmp 20) .skip (.exit 0)) (.seq (.block 1 (.seq (.ops [⟨some 21, .iaddr 4 (.tmp 17) (.tmp 19), none, []⟩, ⟨some 22, .load (some 4) (.tmp 21), none, []⟩, ⟨some 5, .alloc (.agg [.str (bys []), .int .i64 0, .slice .nil [], .slice .nil []]), none, []⟩, ⟨none, .store 4 (.tmp 5) (.tmp 22), none, []⟩]) (.draw d_copyTask_1))) (.ops [⟨some 30, .bin .add .none (.tmp 19) (.lit (.int .i64 1)), none, []⟩, ⟨some 19, .move (.tmp 30), none, []⟩]))))))) (.seq (.ghost (.ops [⟨some 31, .load (some 4) (.tmp 3), none, []⟩, ⟨none, .store 4 (.tmp 2) (.tmp 31), none, []⟩])) .ret)))
set_option maxRecDepth 20000 in
theorem copyTask_spec (t : FTask) (σ : Store) (ht : CB t) :
    ACalls Tryz.prog 19 [.agg (encTask t)] σ (isR (.agg (encTask t)) σ) := by
  refine ACalls.intro (rs := [(.cell (some 4) 2)]) (by kernel_rfl) { own := [], ghosts := [2, 7], cold := [(1, 2), (1, 5), (5, 4)], free := [(1, [[], [10], [], [], [10], [], [], [10], [10], [], [1, 4, 7, 8], []])] } Tryz.func19 (c := Tryz.f19.body.getD .skip) (by kernel_rfl) (by decide) (by rw [show Tryz.f19.ntmps = 32 by kernel_rfl]; exact Nat.le_of_ble_eq_true rfl) (by kernel_rfl) ?_
  intro hσ hids
  rw [show comp Tryz.prog { own := [], ghosts := [2, 7], cold := [(1, 2), (1, 5), (5, 4)], free := [(1, [[], [10], [], [], [10], [], [], [10], [10], [], [1, 4, 7, 8], []])] } (Tryz.f19.body.getD .skip) = c_copyTask by kernel_rfl, show Tryz.f19.ntmps = 32 by kernel_rfl]
  unfold c_copyTask
  have b1 := ht.facts
  have b2 := ht.init
  have b3 := ht.goal
  have b4 := ht.acts
  have hz : ∀ n, IdsL n [AV.slice .nil [], .slice .nil [], .slice .nil [], .slice .nil []] := fun n => idsL_cons (ids_nil _ (by simp)) (idsL_cons (ids_nil _ (by simp)) (idsL_cons (ids_nil _ (by simp)) (idsL_cons (ids_nil _ (by simp)) idsL_nil)))
  have hbig1 : bigLen t.facts.length 16 := big_ok (by omega) (by omega)
  have hbig2 : bigLen t.init.length 8 := big_ok (by omega) (by omega)
  have hall1 : ∀ x ∈ t.facts, (encT x).length = 1 ∧ (encT x).all AV.one = true := fun x _ => ⟨rfl, rfl⟩
  have hall2 : ∀ x ∈ t.init, (Ahl.encI x).length = 1 ∧ (Ahl.encI x).all AV.one = true := fun x _ => ⟨rfl, rfl⟩
  let S : Nat → Store := fun i => [.row (encTask t), .row [AV.slice .nil [], .slice .nil [], .slice .nil [], .slice .nil []], .row [AV.slice .fresh (t.facts.map encT), .slice .fresh (t.init.map Ahl.encI), .slice .unk (t.goal.map encLit), .slice (.grow (σ.length + 3)) ((t.actions.take i).map encA)], .grow 4 (t.actions.take i).length]
  have hS : ∀ i, IdsS (σ ++ S i).length (σ ++ S i) := fun i => idsS_app _ hσ (all_cons' (idsO_row (ids_encTask t)) (all_cons' (idsO_row (hz _)) (all_cons' (idsO_row (idsL_cons (ids_mapf ids_encT _) (idsL_cons (ids_mapf ids_encI _) (idsL_cons (ids_map ids_encLit _) (idsL_cons (ids_grow_map ids_encA (by simp [S])) idsL_nil))))) (all_cons' trivial all_nil'))))
  simp only [go_sem, Int.reduceToNat, Int.reduceLE, Int.reduceLT, Nat.reduceBEq, Nat.reduceLT, Nat.reduceAdd, Nat.reduceLeDiff, dr_copyTask_0, dr_copyTask_1, encTask, hbig1, hbig2]
  refine ⟨hall1, hall2, ?_⟩
  refine ⟨_, copyLits_spec t.goal .unk _ (by omega), ?_⟩
  simp only [go_sem, Int.reduceToNat, Int.reduceLE, Int.reduceLT, Nat.reduceBEq, Nat.reduceLT, Nat.reduceAdd, Nat.reduceLeDiff, dr_copyTask_0, dr_copyTask_1]
  refine ⟨copyLits_spec t.goal .unk _ (by omega), ?_⟩
  rw [wpc_ghost]; refine Gh.of (Ghost.tokRow (σ.length + 2) 3 4 (cells := [AV.slice .fresh (t.facts.map encT), .slice .fresh (t.init.map Ahl.encI), .slice .unk (t.goal.map encLit), .slice .nil []]) (by rw [g_get]; rfl) rfl) ?_
  simp only [go_sem, Int.reduceToNat, Int.reduceLE, Int.reduceLT, Nat.reduceBEq, Nat.reduceLT, Nat.reduceAdd, Nat.reduceLeDiff, dr_copyTask_0, dr_copyTask_1]
  refine wpc_while (fun (i : Nat) => [(2, .ptr (σ.length + 1) 0), (3, .ptr (σ.length + 2) 0), (17, .slice .unk (t.actions.map encA)), (18, .int .i64 t.actions.length), (19, .int .i64 (i : Nat))]) (fun i => σ ++ S i) (fun i => i ≤ t.actions.length) (fun i => t.actions.length - i) 0 (Nat.zero_le _) (by simp only [S, encTask]; exact (by (try dsimp only); first | exact ghL (hS 0) | exact ghL0 (hS 0))) ?_
  intro i hi K hK hE hR
  by_cases h : i < t.actions.length
  · obtain ⟨a, hx⟩ := get_ex h; have hlt : ((i : Int) < (t.actions.length : Int)) := (by omega); have hw : IntKind.i64.wrap ((i : Int) + 1) = ((i + 1 : Nat) : Int) := (by rw [wrap_ok (by omega)]; omega)
    have hc : (t.actions.take i).map encA ++ [encA a] = (t.actions.take (i + 1)).map encA := by rw [take_succ' hx]; simp
    have hl : (t.actions.take i).length = i := List.length_take_of_le (by omega)
    have hl1 : (t.actions.take (i + 1)).length = i + 1 := List.length_take_of_le (by omega)
    have hbig : bigLen (i + 1) 72 := big_ok (by omega) (by omega)
    have ha := ht.act a (List.mem_of_getElem? hx)
    simp only [encA] at hc
    simp only [go_sem, Int.reduceToNat, Int.reduceLE, Int.reduceLT, Nat.reduceBEq, Nat.reduceLT, Nat.reduceAdd, Nat.reduceLeDiff, dr_copyTask_0, dr_copyTask_1, S, hlt, hx, encA, encTask]
    refine ⟨_, copyAction_spec a _ ha.1 ha.2.1 ha.2.2, ?_⟩
    simp only [go_sem, Int.reduceToNat, Int.reduceLE, Int.reduceLT, Nat.reduceBEq, Nat.reduceLT, Nat.reduceAdd, Nat.reduceLeDiff, dr_copyTask_0, dr_copyTask_1, hbig, hl, hc, encA]
    refine hK _ _ (i + 1) (by omega) (by omega) ?_
    have hq := hS (i + 1)
    simp only [S, hl1, encTask] at hq ⊢
    exact (by (try dsimp only); (try simp only [ hw]); first | exact ghL (hq) | exact ghL0 (hq))
  · have hlt : ¬ ((i : Int) < (t.actions.length : Int)) := by omega
    simp only [go_sem, Int.reduceToNat, Int.reduceLE, Int.reduceLT, Nat.reduceBEq, Nat.reduceLT, Nat.reduceAdd, Nat.reduceLeDiff, dr_copyTask_0, dr_copyTask_1, S, hlt, hE, encTask]
    rw [List.take_of_length_le (by omega)]
    rw [wpc_ghost]; refine Gh.of (Ghost.rewk (σ.length + 2) (by rw [g_get]; rfl) (ys := encTask t) (.cons (Wk.unk _ _) (.cons (Wk.unk _ _) (.cons (.refl _) (.cons (Wk.unk _ _) .nil))))) ?_
    simp only [go_sem, Int.reduceToNat, Int.reduceLE, Int.reduceLT, Nat.reduceBEq, Nat.reduceLT, Nat.reduceAdd, Nat.reduceLeDiff, dr_copyTask_0, dr_copyTask_1, encTask]
    refine ret_cN (cells := encTask t) rfl (by simp [encTask]) rfl (by simp) hσ (ids_agg (ids_encTask _)) ⟨rfl, rfl⟩
theorem sameLits_self (l : List FLit) (σ : Store) (hl : l.length ≤ 1000000) : ACalls Tryz.prog 61 [.slice .unk (l.map encLit), .slice .unk (l.map encLit)] σ (isR (.bool true) σ) := by
  have := sameLits_spec l l .unk .unk σ (by omega) (by omega)
  simpa using this
def d_sameAction_0 : List COp := [⟨some 44, .faddr 1 (.tmp 6), none, []⟩, ⟨some 45, .load (some 2) (.tmp 44), none, [0]⟩, ⟨some 46, .faddr 3 (.tmp 3), none, []⟩, ⟨some 47, .load none (.tmp 46), none, [2]⟩, ⟨some 48, .move (.tmp 5), none, []⟩, ⟨some 49, .iaddr 3 (.tmp 47) (.tmp 48), none, [3, 4]⟩, ⟨some 50, .faddr 1 (.tmp 49), none, [5]⟩, ⟨some 51, .load (some 2) (.tmp 50), none, [6]⟩, ⟨some 52, .bin .neq (.flat [1, 0]) (.tmp 45) (.tmp 51), none, [1, 7]⟩, ⟨some 53, .move (.tmp 52), none, [8]⟩, ⟨some 54, .faddr 0 (.tmp 6), some (some 53, false), [9]⟩, ⟨some 55, .load none (.tmp 54), some (some 53, false), [10, 9]⟩, ⟨some 56, .faddr 3 (.tmp 3), some (some 53, false), [9]⟩, ⟨some 57, .load none (.tmp 56), some (some 53, false), [12, 9]⟩, ⟨some 58, .move (.tmp 5), some (some 53, false), [9]⟩, ⟨some 59, .iaddr 3 (.tmp 57) (.tmp 58), some (some 53, false), [13, 14, 9]⟩, ⟨some 60, .faddr 0 (.tmp 59), some (some 53, false), [15, 9]⟩, ⟨some 61, .load none (.tmp 60), some (some 53, false), [16, 9]⟩, ⟨some 62, .call (.lit (.func 61 [])) [.tmp 55, .tmp 61], some (some 53, false), [11, 17, 9, 9]⟩, ⟨some 63, .un .not (.tmp 62), some (some 53, false), [18, 9]⟩, ⟨some 64, .pick (.tmp 53) (.lit (.bool true)) (.tmp 63), none, [9, 19]⟩]
theorem dr_sameAction_0 (P : Program) (nt n0 : Nat) (Q : Post) (s : Slots) (σ : Store) : wpc P nt n0 (.draw d_sameAction_0) Q s σ = aOpsD P nt [⟨some 44, .faddr 1 (.tmp 6), none, []⟩, ⟨some 45, .load (some 2) (.tmp 44), none, [0]⟩, ⟨some 46, .faddr 3 (.tmp 3), none, []⟩, ⟨some 47, .load none (.tmp 46), none, [2]⟩, ⟨some 48, .move (.tmp 5), none, []⟩, ⟨some 49, .iaddr 3 (.tmp 47) (.tmp 48), none, [3, 4]⟩, ⟨some 50, .faddr 1 (.tmp 49), none, [5]⟩, ⟨some 51, .load (some 2) (.tmp 50), none, [6]⟩, ⟨some 52, .bin .neq (.flat [1, 0]) (.tmp 45) (.tmp 51), none, [1, 7]⟩, ⟨some 53, .move (.tmp 52), none, [8]⟩, ⟨some 54, .faddr 0 (.tmp 6), some (some 53, false), [9]⟩, ⟨some 55, .load none (.tmp 54), some (some 53, false), [10, 9]⟩, ⟨some 56, .faddr 3 (.tmp 3), some (some 53, false), [9]⟩, ⟨some 57, .load none (.tmp 56), some (some 53, false), [12, 9]⟩, ⟨some 58, .move (.tmp 5), some (some 53, false), [9]⟩, ⟨some 59, .iaddr 3 (.tmp 57) (.tmp 58), some (some 53, false), [13, 14, 9]⟩, ⟨some 60, .faddr 0 (.tmp 59), some (some 53, false), [15, 9]⟩, ⟨some 61, .load none (.tmp 60), some (some 53, false), [16, 9]⟩, ⟨some 62, .call (.lit (.func 61 [])) [.tmp 55, .tmp 61], some (some 53, false), [11, 17, 9, 9]⟩, ⟨some 63, .un .not (.tmp 62), some (some 53, false), [18, 9]⟩, ⟨some 64, .pick (.tmp 53) (.lit (.bool true)) (.tmp 63), none, [9, 19]⟩] (Q .normal) s σ := wpc_draw _ (by decide)
def c_sameAction : CCode := .seq (.ops [⟨some 2, .box (.tmp 0), none, []⟩, ⟨some 3, .box (.tmp 1), none, []⟩, ⟨some 4, .move (.lit (.bool false)), none, []⟩]) (.seq (.seq (.ops [⟨some 7, .faddr 0 (.tmp 2), none, []⟩, ⟨some 8, .load none (.tmp 7), none, []⟩, ⟨some 9, .faddr 0 (.tmp 3), none, []⟩, ⟨some 10, .load none (.tmp 9), none, []⟩, ⟨some 11, .bin .neq .none (.tmp 8) (.tmp 10), none, []⟩, ⟨some 12, .move (.tmp 11), none, []⟩, ⟨some 13, .faddr 1 (.tmp 2), some (some 12, false), []⟩, ⟨some 14, .load none (.tmp 13), some (some 12, false), []⟩, ⟨some 15, .faddr 1 (.tmp 3), some (some 12, false), []⟩, ⟨some 16, .load none (.tmp 15), some (some 12, false), []⟩, ⟨some 17, .bin .neq .none (.tmp 14) (.tmp 16), some (some 12, false), []⟩, ⟨some 18, .pick (.tmp 12) (.lit (.bool true)) (.tmp 17), none, []⟩, ⟨some 19, .move (.tmp 18), none, []⟩, ⟨some 20, .faddr 2 (.tmp 2), some (some 19, false), []⟩, ⟨some 21, .load none (.tmp 20), some (some 19, false), []⟩, ⟨some 22, .faddr 2 (.tmp 3), some (some 19, false), []⟩, ⟨some 23, .load none (.tmp 22), some (some 19, false), []⟩, ⟨some 24, .call (.lit (.func 61 [])) [.tmp 21, .tmp 23], some (some 19, false), []⟩, ⟨some 25, .un .not (.tmp 24), some (some 19, false), []⟩, ⟨some 26, .pick (.tmp 19) (.lit (.bool true)) (.tmp 25), none, []⟩, ⟨some 27, .move (.tmp 26), none, []⟩, ⟨some 28, .faddr 3 (.tmp 2), some (some 27, false), []⟩, ⟨some 29, .load none (.tmp 28), some (some 27, false), []⟩, ⟨some 30, .blen 1 (.tmp 29), some (some 27, false), []⟩, ⟨some 31, .faddr 3 (.tmp 3), some (some 27, false), []⟩, ⟨some 32, .load none (.tmp 31), some (some 27, false), []⟩, ⟨some 33, .blen 1 (.tmp 32), some (some 27, false), []⟩, ⟨some 34, .bin .neq .none (.tmp 30) (.tmp 33), some (some 27, false), []⟩, ⟨some 35, .pick (.tmp 27) (.lit (.bool true)) (.tmp 34), none, []⟩]) (.cond (.tmp 35) (.seq (.ops [⟨some 4, .move (.lit (.bool false)), none, []⟩]) .ret) .skip)) (.seq (.seq (.ops [⟨some 36, .faddr 3 (.tmp 2), none, []⟩, ⟨some 37, .load none (.tmp 36), none, []⟩, ⟨some 38, .blen 1 (.tmp 37), none, []⟩, ⟨some 39, .move (.lit (.int .i64 0)), none, []⟩]) (.block 0 (.loop (.seq (.ops [⟨some 40, .bin .lss .none (.tmp 39) (.tmp 38), none, []⟩]) (.seq (.cond (.tmp 40) .skip (.exit 0)) (.seq (.block 1 (.seq (.ops [⟨some 41, .move (.tmp 39), none, []⟩, ⟨some 42, .iaddr 3 (.tmp 37) (.tmp 39), none, []⟩, ⟨some 43, .load (some 3) (.tmp 42), none, []⟩, ⟨some 6, .alloc (.agg [.slice .nil [], .int .i64 0, .bool false]), none, []⟩, ⟨some 5, .move (.tmp 41), none, []⟩, ⟨none, .store 3 (.tmp 6) (.tmp 43), none, []⟩]) (.seq (.draw d_sameAction_0) (.cond (.tmp 64) (.seq (.ops [⟨some 4, .move (.lit (.bool false)), none, []⟩]) .ret) .skip)))) (.ops [⟨some 65, .bin .add .none (.tmp 39) (.lit (.int .i64 1)), none, []⟩, ⟨some 39, .move (.tmp 65), none, []⟩]))))))) (.seq (.ops [⟨some 4, .move (.lit (.bool true)), none, []⟩]) .ret)))
set_option maxRecDepth 20000 in
theorem sameAction_self (a : FAct) (σ : Store) (h1 : a.pre.length ≤ 1000000) (h2 : a.effects.length ≤ 1000000) (h3 : ∀ e ∈ a.effects, e.when_.length ≤ 1000000) :
    ACalls Tryz.prog 67 [.agg (encA a), .agg (encA a)] σ (isR (.bool true) σ) := by
  refine ACalls.intro (rs := [(.tmp 4)]) (by kernel_rfl) { own := [], ghosts := [] } Tryz.func67 (c := Tryz.f67.body.getD .skip) (by kernel_rfl) (by decide) (by rw [show Tryz.f67.ntmps = 66 by kernel_rfl]; exact Nat.le_of_ble_eq_true rfl) (by kernel_rfl) ?_
  intro hσ hids
  rw [show comp Tryz.prog { own := [], ghosts := [] } (Tryz.f67.body.getD .skip) = c_sameAction by kernel_rfl, show Tryz.f67.ntmps = 66 by kernel_rfl]
  unfold c_sameAction
  have hs1 : IdsS (σ ++ [AObj.row (encA a), AObj.row (encA a)]).length (σ ++ [AObj.row (encA a), AObj.row (encA a)]) := idsS_app _ hσ (all_cons' (idsO_row (ids_encA a)) (all_cons' (idsO_row (ids_encA a)) all_nil'))
  simp only [encA] at hs1
  simp only [go_sem, Int.reduceToNat, Int.reduceLE, Int.reduceLT, Nat.reduceBEq, Nat.reduceLT, Nat.reduceAdd, Nat.reduceLeDiff, dr_sameAction_0, encA, bne_self_eq_false]
  refine (sameLits_self a.pre _ h1).is ?_
  simp only [go_sem, Int.reduceToNat, Int.reduceLE, Int.reduceLT, Nat.reduceBEq, Nat.reduceLT, Nat.reduceAdd, Nat.reduceLeDiff, dr_sameAction_0, bne_self_eq_false]
  refine wpc_while (fun (i : Nat) => [(3, .ptr (σ.length + 1) 0), (37, .slice .unk (a.effects.map encE)), (38, .int .i64 a.effects.length), (39, .int .i64 (i : Nat))]) (fun _ => σ ++ [.row (encA a), .row (encA a)]) (fun i => i ≤ a.effects.length) (fun i => a.effects.length - i) 0 (Nat.zero_le _) (by simp only [encA]; exact (by (try dsimp only); first | exact ghL (hs1) | exact ghL0 (hs1))) ?_
  intro i hi K hK hE hR
  by_cases h : i < a.effects.length
  · obtain ⟨e, hx⟩ := get_ex h; have hlt : ((i : Int) < (a.effects.length : Int)) := (by omega); have hw : IntKind.i64.wrap ((i : Int) + 1) = ((i + 1 : Nat) : Int) := (by rw [wrap_ok (by omega)]; omega)
    have hf := flat_lit e.lit e.lit
    simp only [encLit] at hf
    have hd : decide (e.lit = e.lit) = true := decide_eq_true rfl
    simp only [go_sem, Int.reduceToNat, Int.reduceLE, Int.reduceLT, Nat.reduceBEq, Nat.reduceLT, Nat.reduceAdd, Nat.reduceLeDiff, dr_sameAction_0, hlt, hx, encE, encA, hf, hd]
    refine ⟨_, sameLits_self e.when_ _ (h3 e (List.mem_of_getElem? hx)), ?_⟩
    simp only [go_sem, Int.reduceToNat, Int.reduceLE, Int.reduceLT, Nat.reduceBEq, Nat.reduceLT, Nat.reduceAdd, Nat.reduceLeDiff, dr_sameAction_0]
    refine hK _ _ (i + 1) (by omega) (by omega) ?_
    simp only [encA]
    exact (by (try dsimp only); (try simp only [ hw]); first | exact ghL (hs1) | exact ghL0 (hs1))
  · have hlt : ¬ ((i : Int) < (a.effects.length : Int)) := by omega
    simp only [go_sem, Int.reduceToNat, Int.reduceLE, Int.reduceLT, Nat.reduceBEq, Nat.reduceLT, Nat.reduceAdd, Nat.reduceLeDiff, dr_sameAction_0, hlt, hE]
    first | exact rtk (.bool true) ⟨rfl, rfl⟩ | exact rtk0 (.bool true) ⟨rfl, rfl⟩
def d_same01_0 : List COp := [⟨some 65, .load (some 4) (.tmp 8), none, []⟩, ⟨some 66, .faddr 3 (.tmp 3), none, []⟩, ⟨some 67, .load none (.tmp 66), none, [1]⟩, ⟨some 68, .move (.tmp 7), none, []⟩, ⟨some 69, .iaddr 4 (.tmp 67) (.tmp 68), none, [2, 3]⟩, ⟨some 70, .load (some 4) (.tmp 69), none, [4]⟩, ⟨some 71, .call (.lit (.func 67 [])) [.tmp 65, .tmp 70], none, [0, 5]⟩, ⟨some 72, .un .not (.tmp 71), none, [6]⟩]
theorem dr_same01_0 (P : Program) (nt n0 : Nat) (Q : Post) (s : Slots) (σ : Store) : wpc P nt n0 (.draw d_same01_0) Q s σ = aOpsD P nt [⟨some 65, .load (some 4) (.tmp 8), none, []⟩, ⟨some 66, .faddr 3 (.tmp 3), none, []⟩, ⟨some 67, .load none (.tmp 66), none, [1]⟩, ⟨some 68, .move (.tmp 7), none, []⟩, ⟨some 69, .iaddr 4 (.tmp 67) (.tmp 68), none, [2, 3]⟩, ⟨some 70, .load (some 4) (.tmp 69), none, [4]⟩, ⟨some 71, .call (.lit (.func 67 [])) [.tmp 65, .tmp 70], none, [0, 5]⟩, ⟨some 72, .un .not (.tmp 71), none, [6]⟩] (Q .normal) s σ := wpc_draw _ (by decide)
def c_same01 : CCode := .seq (.ops [⟨some 2, .box (.tmp 0), none, []⟩, ⟨some 3, .box (.tmp 1), none, []⟩, ⟨some 4, .move (.lit (.bool false)), none, []⟩]) (.seq (.seq (.ops [⟨some 9, .faddr 0 (.tmp 2), none, []⟩, ⟨some 10, .load none (.tmp 9), none, []⟩, ⟨some 11, .blen 1 (.tmp 10), none, []⟩, ⟨some 12, .faddr 0 (.tmp 3), none, []⟩, ⟨some 13, .load none (.tmp 12), none, []⟩, ⟨some 14, .blen 1 (.tmp 13), none, []⟩, ⟨some 15, .bin .neq .none (.tmp 11) (.tmp 14), none, []⟩, ⟨some 16, .move (.tmp 15), none, []⟩, ⟨some 17, .faddr 1 (.tmp 2), some (some 16, false), []⟩, ⟨some 18, .load none (.tmp 17), some (some 16, false), []⟩, ⟨some 19, .faddr 1 (.tmp 3), some (some 16, false), []⟩, ⟨some 20, .load none (.tmp 19), some (some 16, false), []⟩, ⟨some 21, .call (.lit (.func 36 [])) [.tmp 18, .tmp 20], some (some 16, false), []⟩, ⟨some 22, .un .not (.tmp 21), some (some 16, false), []⟩, ⟨some 23, .pick (.tmp 16) (.lit (.bool true)) (.tmp 22), none, []⟩, ⟨some 24, .move (.tmp 23), none, []⟩, ⟨some 25, .faddr 2 (.tmp 2), some (some 24, false), []⟩, ⟨some 26, .load none (.tmp 25), some (some 24, false), []⟩, ⟨some 27, .faddr 2 (.tmp 3), some (some 24, false), []⟩, ⟨some 28, .load none (.tmp 27), some (some 24, false), []⟩, ⟨some 29, .call (.lit (.func 61 [])) [.tmp 26, .tmp 28], some (some 24, false), []⟩, ⟨some 30, .un .not (.tmp 29), some (some 24, false), []⟩, ⟨some 31, .pick (.tmp 24) (.lit (.bool true)) (.tmp 30), none, []⟩, ⟨some 32, .move (.tmp 31), none, []⟩, ⟨some 33, .faddr 3 (.tmp 2), some (some 32, false), []⟩, ⟨some 34, .load none (.tmp 33), some (some 32, false), []⟩, ⟨some 35, .blen 1 (.tmp 34), some (some 32, false), []⟩, ⟨some 36, .faddr 3 (.tmp 3), some (some 32, false), []⟩, ⟨some 37, .load none (.tmp 36), some (some 32, false), []⟩, ⟨some 38, .blen 1 (.tmp 37), some (some 32, false), []⟩, ⟨some 39, .bin .neq .none (.tmp 35) (.tmp 38), some (some 32, false), []⟩, ⟨some 40, .pick (.tmp 32) (.lit (.bool true)) (.tmp 39), none, []⟩]) (.cond (.tmp 40) (.seq (.ops [⟨some 4, .move (.lit (.bool false)), none, []⟩]) .ret) .skip)) (.seq (.seq (.ops [⟨some 41, .faddr 0 (.tmp 2), none, []⟩, ⟨some 42, .load none (.tmp 41), none, []⟩, ⟨some 43, .blen 1 (.tmp 42), none, []⟩, ⟨some 44, .move (.lit (.int .i64 0)), none, []⟩]) (.block 0 (.loop (.seq (.ops [⟨some 45, .bin .lss .none (.tmp 44) (.tmp 43), none, []⟩]) (.seq (.cond (.tmp 45) .skip (.exit 0)) (.seq (.block 1 (.seq (.ops [⟨some 46, .move (.tmp 44), none, []⟩, ⟨some 47, .iaddr 1 (.tmp 42) (.tmp 44), none, []⟩, ⟨some 48, .load none (.tmp 47), none, []⟩, ⟨some 5, .move (.tmp 46), none, []⟩, ⟨some 6, .move (.tmp 48), none, []⟩]) (.seq (.ops [⟨some 49, .move (.tmp 6), none, []⟩, ⟨some 50, .faddr 0 (.tmp 3), none, []⟩, ⟨some 51, .load none (.tmp 50), none, []⟩, ⟨some 52, .move (.tmp 5), none, []⟩, ⟨some 53, .iaddr 1 (.tmp 51) (.tmp 52), none, []⟩, ⟨some 54, .load none (.tmp 53), none, []⟩, ⟨some 55, .bin .neq .none (.tmp 49) (.tmp 54), none, []⟩]) (.cond (.tmp 55) (.seq (.ops [⟨some 4, .move (.lit (.bool false)), none, []⟩]) .ret) .skip)))) (.ops [⟨some 56, .bin .add .none (.tmp 44) (.lit (.int .i64 1)), none, []⟩, ⟨some 44, .move (.tmp 56), none, []⟩]))))))) (.seq (.seq (.ops [⟨some 57, .faddr 3 (.tmp 2), none, []⟩, ⟨some 58, .load none (.tmp 57), none, []⟩, ⟨some 59, .blen 1 (.tmp 58), none, []⟩, ⟨some 60, .move (.lit (.int .i64 0)), none, []⟩]) (.block 2 (.loop (.seq (.ops [⟨some 61, .bin .lss .none (.tmp 60) (.tmp 59), none, []⟩]) (.seq (.cond (.tmp 61) .skip (.exit 2)) (.seq (.block 3 (.seq (.ops [⟨some 62, .move (.tmp 60), none, []⟩, ⟨some 63, .iaddr 4 (.tmp 58) (.tmp 60), none, []⟩, ⟨some 64, .load (some 4) (.tmp 63), none, []⟩, ⟨some 8, .alloc (.agg [.str (bys []), .int .i64 0, .slice .nil [], .slice .nil []]), none, []⟩, ⟨some 7, .move (.tmp 62), none, []⟩, ⟨none, .store 4 (.tmp 8) (.tmp 64), none, []⟩]) (.seq (.draw d_same01_0) (.cond (.tmp 72) (.seq (.ops [⟨some 4, .move (.lit (.bool false)), none, []⟩]) .ret) .skip)))) (.ops [⟨some 73, .bin .add .none (.tmp 60) (.lit (.int .i64 1)), none, []⟩, ⟨some 60, .move (.tmp 73), none, []⟩]))))))) (.seq (.ops [⟨some 4, .move (.lit (.bool true)), none, []⟩]) .ret))))
set_option maxRecDepth 20000 in
theorem same01_self (t : FTask) (σ : Store) (ht : CB t) :
    ACalls Tryz.prog 24 [.agg (encTask t), .agg (encTask t)] σ (isR (.bool true) σ) := by
  refine ACalls.intro (rs := [(.tmp 4)]) (by kernel_rfl) { own := [], ghosts := [] } Tryz.func24 (c := Tryz.f24.body.getD .skip) (by kernel_rfl) (by decide) (by rw [show Tryz.f24.ntmps = 74 by kernel_rfl]; exact Nat.le_of_ble_eq_true rfl) (by kernel_rfl) ?_
  intro hσ hids
  rw [show comp Tryz.prog { own := [], ghosts := [] } (Tryz.f24.body.getD .skip) = c_same01 by kernel_rfl, show Tryz.f24.ntmps = 74 by kernel_rfl]
  unfold c_same01
  have hs1 : IdsS (σ ++ [AObj.row (encTask t), AObj.row (encTask t)]).length (σ ++ [AObj.row (encTask t), AObj.row (encTask t)]) := idsS_app _ hσ (all_cons' (idsO_row (ids_encTask t)) (all_cons' (idsO_row (ids_encTask t)) all_nil'))
  simp only [encTask] at hs1
  have hb : ∀ s : ByteArray, (s.toList == s.toList) = true := fun s => beq_self_eq_true _
  have hsi : ∀ σ, ACalls Tryz.prog 36 [.slice .unk (t.init.map Ahl.encI), .slice .unk (t.init.map Ahl.encI)] σ (isR (.bool true) σ) := fun σ => by
    have := sameInts_spec t.init t.init .unk .unk σ (by have := ht.init; omega) (by have := ht.init; omega)
    simpa using this
  simp only [go_sem, Int.reduceToNat, Int.reduceLE, Int.reduceLT, Nat.reduceBEq, Nat.reduceLT, Nat.reduceAdd, Nat.reduceLeDiff, dr_same01_0, encTask, bne_self_eq_false]
  refine (hsi _).is ?_
  simp only [go_sem, Int.reduceToNat, Int.reduceLE, Int.reduceLT, Nat.reduceBEq, Nat.reduceLT, Nat.reduceAdd, Nat.reduceLeDiff, dr_same01_0, bne_self_eq_false]
  refine (sameLits_self t.goal _ ht.goal).is ?_
  simp only [go_sem, Int.reduceToNat, Int.reduceLE, Int.reduceLT, Nat.reduceBEq, Nat.reduceLT, Nat.reduceAdd, Nat.reduceLeDiff, dr_same01_0, bne_self_eq_false]
  have b1 := ht.facts
  have b4 := ht.acts
  refine wpc_while (fun (i : Nat) => [(2, .ptr σ.length 0), (3, .ptr (σ.length + 1) 0), (42, .slice .unk (t.facts.map encT)), (43, .int .i64 t.facts.length), (44, .int .i64 (i : Nat))]) (fun _ => σ ++ [.row (encTask t), .row (encTask t)]) (fun i => i ≤ t.facts.length) (fun i => t.facts.length - i) 0 (Nat.zero_le _) (by simp only [encTask]; exact (by (try dsimp only); first | exact ghL (hs1) | exact ghL0 (hs1))) ?_
  intro i hi K hK hE hR
  by_cases h : i < t.facts.length
  · obtain ⟨x, hx⟩ := get_ex h; have hlt : ((i : Int) < (t.facts.length : Int)) := (by omega); have hw : IntKind.i64.wrap ((i : Int) + 1) = ((i + 1 : Nat) : Int) := (by rw [wrap_ok (by omega)]; omega)
    simp only [go_sem, Int.reduceToNat, Int.reduceLE, Int.reduceLT, Nat.reduceBEq, Nat.reduceLT, Nat.reduceAdd, Nat.reduceLeDiff, dr_same01_0, hlt, hx, encT, encTask, hb]
    refine hK _ _ (i + 1) (by omega) (by omega) ?_
    simp only [encTask]
    exact (by (try dsimp only); (try simp only [ hw]); first | exact ghL (hs1) | exact ghL0 (hs1))
  · have hlt : ¬ ((i : Int) < (t.facts.length : Int)) := by omega
    simp only [go_sem, Int.reduceToNat, Int.reduceLE, Int.reduceLT, Nat.reduceBEq, Nat.reduceLT, Nat.reduceAdd, Nat.reduceLeDiff, dr_same01_0, hlt, hE, encTask]
    refine wpc_while (fun (i : Nat) => [(3, .ptr (σ.length + 1) 0), (58, .slice .unk (t.actions.map encA)), (59, .int .i64 t.actions.length), (60, .int .i64 (i : Nat))]) (fun _ => σ ++ [.row (encTask t), .row (encTask t)]) (fun i => i ≤ t.actions.length) (fun i => t.actions.length - i) 0 (Nat.zero_le _) (by simp only [encTask]; exact (by (try dsimp only); first | exact ghL (hs1) | exact ghL0 (hs1))) ?_
    intro i hi K hK hE hR
    by_cases h : i < t.actions.length
    · obtain ⟨a, hx⟩ := get_ex h; have hlt : ((i : Int) < (t.actions.length : Int)) := (by omega); have hw : IntKind.i64.wrap ((i : Int) + 1) = ((i + 1 : Nat) : Int) := (by rw [wrap_ok (by omega)]; omega)
      have ha := ht.act a (List.mem_of_getElem? hx)
      simp only [go_sem, Int.reduceToNat, Int.reduceLE, Int.reduceLT, Nat.reduceBEq, Nat.reduceLT, Nat.reduceAdd, Nat.reduceLeDiff, dr_same01_0, hlt, hx, encA, encTask]
      refine ⟨_, sameAction_self a _ ha.1 ha.2.1 ha.2.2, ?_⟩
      simp only [go_sem, Int.reduceToNat, Int.reduceLE, Int.reduceLT, Nat.reduceBEq, Nat.reduceLT, Nat.reduceAdd, Nat.reduceLeDiff, dr_same01_0]
      refine hK _ _ (i + 1) (by omega) (by omega) ?_
      simp only [encTask]
      exact (by (try dsimp only); (try simp only [ hw]); first | exact ghL (hs1) | exact ghL0 (hs1))
    · have hlt : ¬ ((i : Int) < (t.actions.length : Int)) := by omega
      simp only [go_sem, Int.reduceToNat, Int.reduceLE, Int.reduceLT, Nat.reduceBEq, Nat.reduceLT, Nat.reduceAdd, Nat.reduceLeDiff, dr_same01_0, hlt, hE]
      first | exact rtk (.bool true) ⟨rfl, rfl⟩ | exact rtk0 (.bool true) ⟨rfl, rfl⟩
end Go.Proofs.YtocphglkceidhaaGreat
namespace Go.Proofs.YtocphglkceidhaaGreat
open Go.Ahl Go.ChangeShapes Go.WideShapes Go.ChangeAt Go.RowKit
theorem few8_facts {t : FTask} {fs : List (List (List FLit))} (h : few8B t fs = true) : taskSize t ≤ 300 ∧ (fs.map formSize).sum ≤ 300 ∧ (validB t = true → t.facts.length ≤ 8) := by
  unfold few8B fewT at h
  simp only [Bool.and_eq_true, decide_eq_true_eq, Bool.or_eq_true, Bool.not_eq_true'] at h
  obtain ⟨⟨h1, _⟩, h2, h3⟩ := h
  exact ⟨h1, h2, fun hv => by rcases h3 with h3 | h3; exact h3; rw [hv] at h3; simp at h3⟩
theorem leanStep_or (out : List (List FLit)) (c : List FLit) : leanStep out c = out ∨ leanStep out c = out ++ [c] := by
  by_cases h : c.length = 1
  · exact .inr (leanStep_one h)
  · match c, h with
    | [], _ => exact .inl rfl
    | [a], h => exact absurd rfl h
    | [a, b], _ =>
      rw [leanStep_two]
      split
      · exact .inl rfl
      · exact .inr rfl
    | _ :: _ :: _ :: _, h => exact .inl (if_neg h)
theorem leanL_sub : ∀ (l out : List (List FLit)), (leanL out l).length ≤ out.length + l.length ∧ ∀ c ∈ leanL out l, c ∈ out ∨ c ∈ l
  | [], out => ⟨by simp [leanL], fun c hc => .inl hc⟩
  | x :: l, out => by
    obtain ⟨h1, h2⟩ := leanL_sub l (leanStep out x)
    have hs : (leanStep out x).length ≤ out.length + 1 ∧ ∀ c ∈ leanStep out x, c ∈ out ∨ c = x := by
      rcases leanStep_or out x with e | e
      · rw [e]; exact ⟨by omega, fun c hc => .inl hc⟩
      · rw [e]
        refine ⟨by simp, fun c hc => ?_⟩
        rcases List.mem_append.1 hc with hc | hc
        · exact .inl hc
        · exact .inr (List.mem_singleton.1 hc)
    refine ⟨by rw [List.length_cons]; have := h1; show (leanL (leanStep out x) l).length ≤ _; omega, fun c hc => ?_⟩
    rcases h2 c hc with h | h
    · rcases hs.2 c h with h | h
      · exact .inl h
      · exact .inr (by rw [h]; exact List.mem_cons_self)
    · exact .inr (List.mem_cons_of_mem _ h)
theorem largeL_sub (t : FTask) (l : List (List FLit)) : (largeL t l).length ≤ l.length ∧ ∀ c ∈ largeL t l, c ∈ l := by
  obtain ⟨p, e, _, _⟩ := progL_spec (clauseT t.init) (keepB t.facts.length t.actions) (keepB_mono _ _) l.length l (Nat.le_refl _)
  unfold largeL
  rw [e]
  exact ⟨List.length_filter_le _ _, fun c hc => (List.mem_filter.1 hc).1⟩
theorem pairs_FB (t : FTask) (h : t.facts.length ≤ 12) : FB (leanL [] (largeL t (singles (2 * t.facts.length) ++ pairsL (2 * t.facts.length)))) := by
  obtain ⟨q1, q2⟩ := largeL_sub t (singles (2 * t.facts.length) ++ pairsL (2 * t.facts.length))
  obtain ⟨q3, q4⟩ := leanL_sub (largeL t (singles (2 * t.facts.length) ++ pairsL (2 * t.facts.length))) []
  have h1 := belowL_len (2 * t.facts.length) (2 * t.facts.length)
  have h2 : (2 * t.facts.length) * (2 * t.facts.length) ≤ 24 * 24 := Nat.mul_le_mul (by omega) (by omega)
  have h3 : (singles (2 * t.facts.length) ++ pairsL (2 * t.facts.length)).length ≤ 1000 := by
    rw [List.length_append]
    rw [show pairsL (2 * t.facts.length) = belowL (2 * t.facts.length) (2 * t.facts.length) from rfl]
    have : (singles (2 * t.facts.length)).length = 2 * t.facts.length := by simp [singles]
    omega
  refine ⟨by simp only [List.length_nil] at q3; omega, fun c hc => ?_⟩
  have hm : c ∈ singles (2 * t.facts.length) ++ pairsL (2 * t.facts.length) := by
    rcases q4 c hc with h | h
    · simp at h
    · exact q2 c h
  rcases List.mem_append.1 hm with h | h
  · obtain ⟨i, _, rfl⟩ := List.mem_map.1 h; simp
  · obtain ⟨i, _, hi⟩ := List.mem_flatMap.1 h
    obtain ⟨k, _, _, _, rfl⟩ := pairsFrom_mem.1 hi; simp
end Go.Proofs.YtocphglkceidhaaGreat
