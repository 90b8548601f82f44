/- No function of layer 17 modifies its arguments, and results are new memory, at every input of the form that the statement asks for. -/
import Derived.Test.YtcjgoomlaojljaaGreatBase6
set_option maxRecDepth 20000
set_option linter.unusedVariables false
set_option linter.unusedSimpArgs false
namespace Go.Proofs.YtcjgoomlaojljaaGreat
open Go.Ahl
def e_copyAction_0 : List COp := [oS 17 (.move (.tmp 3)), oS 18 (.faddr 0 (.tmp 5)), oA 19 (.load none (.tmp 18)) [1], oA 20 (.call (.lit (.func 54 [])) [.tmp 19]) [2], oS 21 (.faddr 1 (.tmp 5)), oA 22 (.load (some 2) (.tmp 21)) [4], oA 23 (.build [.slice .nil [], .int .i64 0, .bool false] [(0, 1, .tmp 20), (1, 2, .tmp 22)]) [3, 5], oA 24 (.bsliceC 3 [.tmp 23]) [6], oA 25 (.bappend 3 40 (.tmp 17) (.tmp 24) false) [0, 7, 3], oA 3 (.move (.tmp 25)) [8, 8, 0, 1, 2, 3, 4, 5, 6, 7, 8]]
def d_copyAction_0 : List COp := e_copyAction_0
theorem dr_copyAction_0 (P : Program) (nt n0 : Nat) (Q : Post) (s : Slots) (σ : Store) : wpc P nt n0 (.draw d_copyAction_0) Q s σ = aOpsD P nt e_copyAction_0 (Q .normal) s σ := wpc_draw _ (by decide)
attribute [local go_sem] dr_copyAction_0 e_copyAction_0
def c_copyAction : CCode := .seq (.ops [oS 1 (.box (.tmp 0)), oS 2 (.alloc (.agg [.str (bys []), .int .i64 0, .slice .nil [], .slice .nil []]))]) (.seq (.ops [oS 6 (.faddr 2 (.tmp 1)), oS 7 (.load none (.tmp 6)), oS 8 (.call (.lit (.func 54 [])) [.tmp 7]), oS 9 (.faddr 2 (.tmp 1)), oN (.store 1 (.tmp 9) (.tmp 8))]) (.seq (.ops [oS 3 (.move (.lit (.slice .nil [])))]) (.seq (.seq (.ops [oS 10 (.faddr 3 (.tmp 1)), oS 11 (.load none (.tmp 10)), oS 12 (.blen 1 (.tmp 11)), oS 13 (.move (.lit (.int .i64 0)))]) (.block 0 (.loop (.seq (.ops [oS 14 (.bin .lss .none (.tmp 13) (.tmp 12))]) (.seq (.cond (.tmp 14) .skip (.exit 0)) (.seq (.block 1 (.seq (.ops [oS 15 (.iaddr 3 (.tmp 11) (.tmp 13)), oS 16 (.load (some 3) (.tmp 15)), oS 5 (.alloc (.agg [.slice .nil [], .int .i64 0, .bool false])), oN (.store 3 (.tmp 5) (.tmp 16))]) (.draw d_copyAction_0))) (.ops [oS 26 (.bin .add .none (.tmp 13) (.lit (.int .i64 1))), oS 13 (.move (.tmp 26))]))))))) (.seq (.ghost (.ops [oS 27 (.move (.tmp 3)), oS 28 (.faddr 3 (.tmp 1)), oN (.store 1 (.tmp 28) (.tmp 27))])) (.seq (.ops [oS 29 (.load (some 4) (.tmp 1)), oN (.store 4 (.tmp 2) (.tmp 29))]) .ret)))))
theorem copyAction_spec (a : FAct) (σ : Store) (h1 : a.pre.length ≤ 1000000) (h2 : a.effects.length ≤ 1000000) (h3 : ∀ e ∈ a.effects, e.when_.length ≤ 1000000) :
  ACalls Tryz.prog 55 [.agg (encA a)] σ (isR (.agg (encA a)) σ) := by
 refine ACalls.intro (rs := [(.cell (some 4) 2)]) (by kernel_rfl) { own := [], ghosts := [8], cold := [(6, 7)] } Tryz.func55 (c := Tryz.f55.body.getD .skip) (by kernel_rfl) (by decide) (by rw [show Tryz.f55.ntmps = 30 by kernel_rfl]; exact Nat.le_of_ble_eq_true rfl) (by kernel_rfl) ?_
 intro hσ hids
 rw [show comp Tryz.prog { own := [], ghosts := [8], cold := [(6, 7)] } (Tryz.f55.body.getD .skip) = c_copyAction by kernel_rfl, show Tryz.f55.ntmps = 30 by kernel_rfl]
 unfold c_copyAction
 have hz : ∀ n, IdsL n [AV.str (bys []), .int .i64 0, .slice .nil [], .slice .nil []] := fun n => idsL_cons (.str _) (idsL_cons (.int _ _) (idsL_cons (ids_nil _ (by simp)) (idsL_cons (ids_nil _ (by simp)) idsL_nil)))
 have hs0 : IdsS (σ ++ [AObj.row (encA a), AObj.row [AV.str (bys []), .int .i64 0, .slice .nil [], .slice .nil []]]).length (σ ++ [AObj.row (encA a), AObj.row [AV.str (bys []), .int .i64 0, .slice .nil [], .slice .nil []]]) := idsS_app _ hσ (all_cons' (idsO_row (ids_encA a)) (all_cons' (idsO_row (hz _)) all_nil'))
 have hs1 : ∀ n, IdsS (σ ++ [AObj.row (encA a), AObj.row [AV.str (bys []), .int .i64 0, .slice .nil [], .slice .nil []], AObj.grow 3 n]).length (σ ++ [AObj.row (encA a), AObj.row [AV.str (bys []), .int .i64 0, .slice .nil [], .slice .nil []], AObj.grow 3 n]) := fun n => idsS_app _ hσ (all_cons' (idsO_row (ids_encA a)) (all_cons' (idsO_row (hz _)) (all_cons' trivial all_nil')))
 simp only [encA] at hs0 hs1
 simp only [go_sem, simprocAttr, encA]
 refine (copyLits_spec a.pre .unk _ (by omega)).is ?_
 simp only [go_sem, simprocAttr]
 refine wpc_while (fun (i : Nat) => [(3, .slice (.grow (σ.length + 2)) ((a.effects.take i).map encE)), (1, .ptr σ.length 0), (2, .ptr (σ.length + 1) 0), (11, .slice .unk (a.effects.map encE)), (12, .int .i64 a.effects.length), (13, .int .i64 (i : Nat))]) (fun i => σ ++ [.row (encA a), .row [AV.str (bys []), .int .i64 0, .slice .nil [], .slice .nil []], .grow 3 (a.effects.take i).length]) (fun i => i ≤ a.effects.length) (fun i => a.effects.length - i) 0 (Nat.zero_le _) (.beginT [_, _] 3 3 _ tellT hs0) ?_
 intro i hi K hK hE hR
 by_cases h : i < a.effects.length
 ·obtain ⟨e, hx⟩ := get_ex h; have hlt : ((i : Int) < (a.effects.length : Int)) := (by omega); have hw := wrapS (i := i) (by omega)
  have hc : (a.effects.take i).map encE ++ [[AV.slice .unk (e.when_.map encLit), .int .i64 e.lit.fact, .bool e.lit.neg]] = (a.effects.take (i + 1)).map encE := by rw [take_succ' hx]; simp [encE]
  have hl : (a.effects.take i).length = i := List.length_take_of_le (by omega)
  have hl1 : (a.effects.take (i + 1)).length = i + 1 := List.length_take_of_le (by omega)
  have hbig : bigLen (i + 1) 40 := big_ok (by omega) (by omega)
  simp only [go_sem, simprocAttr, hlt, hx, encE, encA]
  refine ⟨_, copyLits_spec e.when_ .unk _ (by have := h3 e (List.mem_of_getElem? hx); omega), ?_⟩
  simp only [go_sem, simprocAttr, hbig, hl, hc]
  refine hK _ _ (i + 1) (by omega) (by omega) ?_
  simp only [hl1, encA]
  exact (by (try dsimp only); (try simp only [ hw]); first | exact ghL (hs1 (i + 1)) | exact ghL0 (hs1 (i + 1)))
 ·have hlt : ¬ ((i : Int) < (a.effects.length : Int)) := by omega
  rw [List.take_of_length_le (by omega)]
  simp only [go_sem, simprocAttr, hlt, hE]
  rw [wpc_ghost]; refine Gh.of (Ghost.weak 3 (.slice .unk (a.effects.map encE)) (Wk.unk _ _)) ?_
  simp only [go_sem, simprocAttr, encA]
  refine ret_cN (cells := encA a) rfl (by simp [encA]) rfl (by simp) hσ (ids_agg (ids_encA _)) ⟨rfl, rfl⟩
structure CB (t : FTask) : Prop where
 facts : t.facts.length ≤ 1000000
 init : t.init.length ≤ 1000000
 goal : t.goal.length ≤ 1000000
 acts : t.actions.length ≤ 1000000
 act : ∀ a ∈ t.actions, a.pre.length ≤ 1000000 ∧ a.effects.length ≤ 1000000 ∧ ∀ e ∈ a.effects, e.when_.length ≤ 1000000
def e_copyTask_0 : List COp := [oS 6 (.faddr 0 (.tmp 1)), oA 7 (.load none (.tmp 6)) [0], oA 8 (.bappendC 1 16 (.lit (.slice .nil [])) (.tmp 7)) [1], oS 9 (.faddr 1 (.tmp 1)), oA 10 (.load none (.tmp 9)) [3], oA 11 (.bappendC 1 8 (.lit (.slice .nil [])) (.tmp 10)) [4, 2], oS 12 (.faddr 2 (.tmp 1)), oA 13 (.load none (.tmp 12)) [6], oA 14 (.call (.lit (.func 54 [])) [.tmp 13]) [7, 5], oA 15 (.build [.slice .nil [], .slice .nil [], .slice .nil [], .slice .nil []] [(0, 1, .tmp 8), (1, 1, .tmp 11), (2, 1, .tmp 14)]) [2, 5, 8], oS 3 (.alloc (.agg [.slice .nil [], .slice .nil [], .slice .nil [], .slice .nil []])), ⟨none, .store 4 (.tmp 3) (.tmp 15), none, [10, 9, 8, 0, 1, 2, 3, 4, 5, 6, 7, 8, 9, 10]⟩]
def d_copyTask_0 : List COp := e_copyTask_0
theorem dr_copyTask_0 (P : Program) (nt n0 : Nat) (Q : Post) (s : Slots) (σ : Store) : wpc P nt n0 (.drawU d_copyTask_0 [[], [10], [], [], [10], [], [], [10], [10], [], [1, 4, 7, 8], []]) Q s σ = aOpsU P nt e_copyTask_0 [[], [10], [], [], [10], [], [], [10], [10], [], [1, 4, 7, 8], []] 0 [] [] (Q .normal) s σ := wpc_drawU _ _ (by decide)
def e_copyTask_1 : List COp := [oS 23 (.faddr 3 (.tmp 3)), oA 24 (.load none (.tmp 23)) [0], oS 25 (.load (some 4) (.tmp 5)), oA 26 (.call (.lit (.func 55 [])) [.tmp 25]) [2], oA 27 (.bsliceC 4 [.tmp 26]) [3], oA 28 (.bappend 4 72 (.tmp 24) (.tmp 27) false) [1, 4, 3], oA 29 (.faddr 3 (.tmp 3)) [0, 1, 2, 3, 4, 5], ⟨none, .store 1 (.tmp 29) (.tmp 28), none, [6, 5, 5, 0, 1, 2, 3, 4, 5]⟩]
def d_copyTask_1 : List COp := e_copyTask_1
theorem dr_copyTask_1 (P : Program) (nt n0 : Nat) (Q : Post) (s : Slots) (σ : Store) : wpc P nt n0 (.draw d_copyTask_1) Q s σ = aOpsD P nt e_copyTask_1 (Q .normal) s σ := wpc_draw _ (by decide)
attribute [local go_sem] dr_copyTask_0 e_copyTask_0 dr_copyTask_1 e_copyTask_1
def c_copyTask : CCode := .seq (.ops [oS 1 (.box (.tmp 0)), oS 2 (.alloc (.agg [.slice .nil [], .slice .nil [], .slice .nil [], .slice .nil []]))]) (.seq (.drawU d_copyTask_0 [[], [10], [], [], [10], [], [], [10], [10], [], [1, 4, 7, 8], []]) (.seq (.seq (.ghost (.ops [oS 16 (.faddr 3 (.tmp 1)), oS 17 (.load none (.tmp 16)), oS 18 (.blen 1 (.tmp 17)), oS 19 (.move (.lit (.int .i64 0)))])) (.block 0 (.loop (.seq (.ops [oS 20 (.bin .lss .none (.tmp 19) (.tmp 18))]) (.seq (.cond (.tmp 20) .skip (.exit 0)) (.seq (.block 1 (.seq (.ops [oS 21 (.iaddr 4 (.tmp 17) (.tmp 19)), oS 22 (.load (some 4) (.tmp 21)), oS 5 (.alloc (.agg [.str (bys []), .int .i64 0, .slice .nil [], .slice .nil []])), oN (.store 4 (.tmp 5) (.tmp 22))]) (.draw d_copyTask_1))) (.ops [oS 30 (.bin .add .none (.tmp 19) (.lit (.int .i64 1))), oS 19 (.move (.tmp 30))]))))))) (.seq (.ghost (.ops [oS 31 (.load (some 4) (.tmp 3)), oN (.store 4 (.tmp 2) (.tmp 31))])) .ret)))
theorem copyTask_spec (t : FTask) (σ : Store) (ht : CB t) :
  ACalls Tryz.prog 27 [.agg (encTask t)] σ (isR (.agg (encTask t)) σ) := by
 refine ACalls.intro (rs := [(.cell (some 4) 2)]) (by kernel_rfl) { own := [], ghosts := [2, 7], cold := [(1, 2), (1, 5), (5, 4)], free := [(1, [[], [10], [], [], [10], [], [], [10], [10], [], [1, 4, 7, 8], []])] } Tryz.func27 (c := Tryz.f27.body.getD .skip) (by kernel_rfl) (by decide) (by rw [show Tryz.f27.ntmps = 32 by kernel_rfl]; exact Nat.le_of_ble_eq_true rfl) (by kernel_rfl) ?_
 intro hσ hids
 rw [show comp Tryz.prog { own := [], ghosts := [2, 7], cold := [(1, 2), (1, 5), (5, 4)], free := [(1, [[], [10], [], [], [10], [], [], [10], [10], [], [1, 4, 7, 8], []])] } (Tryz.f27.body.getD .skip) = c_copyTask by kernel_rfl, show Tryz.f27.ntmps = 32 by kernel_rfl]
 unfold c_copyTask
 have b1 := ht.facts
 have b2 := ht.init
 have b3 := ht.goal
 have b4 := ht.acts
 have hz : ∀ n, IdsL n [AV.slice .nil [], .slice .nil [], .slice .nil [], .slice .nil []] := fun n => idsL_cons (ids_nil _ (by simp)) (idsL_cons (ids_nil _ (by simp)) (idsL_cons (ids_nil _ (by simp)) (idsL_cons (ids_nil _ (by simp)) idsL_nil)))
 have hbig1 : bigLen t.facts.length 16 := big_ok (by omega) (by omega)
 have hbig2 : bigLen t.init.length 8 := big_ok (by omega) (by omega)
 have hall1 : ∀ x ∈ t.facts, (encT x).length = 1 ∧ (encT x).all AV.one = true := fun x _ => ⟨rfl, rfl⟩
 have hall2 : ∀ x ∈ t.init, (Ahl.encI x).length = 1 ∧ (Ahl.encI x).all AV.one = true := fun x _ => ⟨rfl, rfl⟩
 let S : Nat → Store := fun i => [.row (encTask t), .row [AV.slice .nil [], .slice .nil [], .slice .nil [], .slice .nil []], .row [AV.slice .fresh (t.facts.map encT), .slice .fresh (t.init.map Ahl.encI), .slice .unk (t.goal.map encLit), .slice (.grow (σ.length + 3)) ((t.actions.take i).map encA)], .grow 4 (t.actions.take i).length]
 have hS : ∀ i, IdsS (σ ++ S i).length (σ ++ S i) := fun i => idsS_app _ hσ (all_cons' (idsO_row (ids_encTask t)) (all_cons' (idsO_row (hz _)) (all_cons' (idsO_row (idsL_cons (ids_mapf ids_encT _) (idsL_cons (ids_mapf ids_encI _) (idsL_cons (ids_map ids_encLit _) (idsL_cons (ids_grow_map ids_encA (by simp [S])) idsL_nil))))) (all_cons' trivial all_nil'))))
 simp only [go_sem, simprocAttr, encTask, hbig1, hbig2]
 refine ⟨hall1, hall2, ?_⟩
 refine ⟨_, copyLits_spec t.goal .unk _ (by omega), ?_⟩
 simp only [go_sem, simprocAttr]
 refine ⟨copyLits_spec t.goal .unk _ (by omega), ?_⟩
 rw [wpc_ghost]; refine Gh.of (Ghost.tokRow (σ.length + 2) 3 4 (cells := [AV.slice .fresh (t.facts.map encT), .slice .fresh (t.init.map Ahl.encI), .slice .unk (t.goal.map encLit), .slice .nil []]) (by rw [g_get]; rfl) rfl) ?_
 simp only [go_sem, simprocAttr]
 refine wpc_while (fun (i : Nat) => [(2, .ptr (σ.length + 1) 0), (3, .ptr (σ.length + 2) 0), (17, .slice .unk (t.actions.map encA)), (18, .int .i64 t.actions.length), (19, .int .i64 (i : Nat))]) (fun i => σ ++ S i) (fun i => i ≤ t.actions.length) (fun i => t.actions.length - i) 0 (Nat.zero_le _) (by simp only [S, encTask]; exact (by (try dsimp only); first | exact ghL (hS 0) | exact ghL0 (hS 0))) ?_
 intro i hi K hK hE hR
 by_cases h : i < t.actions.length
 ·obtain ⟨a, hx⟩ := get_ex h; have hlt : ((i : Int) < (t.actions.length : Int)) := (by omega); have hw := wrapS (i := i) (by omega)
  have hc : (t.actions.take i).map encA ++ [encA a] = (t.actions.take (i + 1)).map encA := by rw [take_succ' hx]; simp
  have hl : (t.actions.take i).length = i := List.length_take_of_le (by omega)
  have hl1 : (t.actions.take (i + 1)).length = i + 1 := List.length_take_of_le (by omega)
  have hbig : bigLen (i + 1) 72 := big_ok (by omega) (by omega)
  have ha := ht.act a (List.mem_of_getElem? hx)
  simp only [encA] at hc
  simp only [go_sem, simprocAttr, S, hlt, hx, encA, encTask]
  refine ⟨_, copyAction_spec a _ ha.1 ha.2.1 ha.2.2, ?_⟩
  simp only [go_sem, simprocAttr, hbig, hl, hc, encA]
  refine hK _ _ (i + 1) (by omega) (by omega) ?_
  have hq := hS (i + 1)
  simp only [S, hl1, encTask] at hq ⊢
  exact (by (try dsimp only); (try simp only [ hw]); first | exact ghL (hq) | exact ghL0 (hq))
 ·have hlt : ¬ ((i : Int) < (t.actions.length : Int)) := by omega
  simp only [go_sem, simprocAttr, S, hlt, hE, encTask]
  rw [List.take_of_length_le (by omega)]
  rw [wpc_ghost]; refine Gh.of (Ghost.rewk (σ.length + 2) (by rw [g_get]; rfl) (ys := encTask t) (.cons (Wk.unk _ _) (.cons (Wk.unk _ _) (.cons (.refl _) (.cons (Wk.unk _ _) .nil))))) ?_
  simp only [go_sem, simprocAttr, encTask]
  refine ret_cN (cells := encTask t) rfl (by simp [encTask]) rfl (by simp) hσ (ids_agg (ids_encTask _)) ⟨rfl, rfl⟩
theorem sameLits_self (l : List FLit) (σ : Store) (hl : l.length ≤ 1000000) : ACalls Tryz.prog 17 [.slice .unk (l.map encLit), .slice .unk (l.map encLit)] σ (isR (.bool true) σ) := by
 have := sameLits_spec l l .unk .unk σ (by omega) (by omega)
 simpa using this
def e_sameAction_0 : List COp := [oS 44 (.faddr 1 (.tmp 6)), oA 45 (.load (some 2) (.tmp 44)) [0], oS 46 (.faddr 3 (.tmp 3)), oA 47 (.load none (.tmp 46)) [2], oS 48 (.move (.tmp 5)), oA 49 (.iaddr 3 (.tmp 47) (.tmp 48)) [3, 4], oA 50 (.faddr 1 (.tmp 49)) [5], oA 51 (.load (some 2) (.tmp 50)) [6], oA 52 (.bin .neq (.flat [1, 0]) (.tmp 45) (.tmp 51)) [1, 7], oA 53 (.move (.tmp 52)) [8], ⟨some 54, .faddr 0 (.tmp 6), some (some 53, false), [9]⟩, ⟨some 55, .load none (.tmp 54), some (some 53, false), [10, 9]⟩, ⟨some 56, .faddr 3 (.tmp 3), some (some 53, false), [9]⟩, ⟨some 57, .load none (.tmp 56), some (some 53, false), [12, 9]⟩, ⟨some 58, .move (.tmp 5), some (some 53, false), [9]⟩, ⟨some 59, .iaddr 3 (.tmp 57) (.tmp 58), some (some 53, false), [13, 14, 9]⟩, ⟨some 60, .faddr 0 (.tmp 59), some (some 53, false), [15, 9]⟩, ⟨some 61, .load none (.tmp 60), some (some 53, false), [16, 9]⟩, ⟨some 62, .call (.lit (.func 17 [])) [.tmp 55, .tmp 61], some (some 53, false), [11, 17, 9, 9]⟩, ⟨some 63, .un .not (.tmp 62), some (some 53, false), [18, 9]⟩, oA 64 (.pick (.tmp 53) (.lit (.bool true)) (.tmp 63)) [9, 19]]
def d_sameAction_0 : List COp := e_sameAction_0
theorem dr_sameAction_0 (P : Program) (nt n0 : Nat) (Q : Post) (s : Slots) (σ : Store) : wpc P nt n0 (.draw d_sameAction_0) Q s σ = aOpsD P nt e_sameAction_0 (Q .normal) s σ := wpc_draw _ (by decide)
attribute [local go_sem] dr_sameAction_0 e_sameAction_0
def c_sameAction : CCode := .seq (.ops [oS 2 (.box (.tmp 0)), oS 3 (.box (.tmp 1)), oS 4 (.move (.lit (.bool false)))]) (.seq (.seq (.ops [oS 7 (.faddr 0 (.tmp 2)), oS 8 (.load none (.tmp 7)), oS 9 (.faddr 0 (.tmp 3)), oS 10 (.load none (.tmp 9)), oS 11 (.bin .neq .none (.tmp 8) (.tmp 10)), oS 12 (.move (.tmp 11)), oG 13 12 false (.faddr 1 (.tmp 2)), oG 14 12 false (.load none (.tmp 13)), oG 15 12 false (.faddr 1 (.tmp 3)), oG 16 12 false (.load none (.tmp 15)), oG 17 12 false (.bin .neq .none (.tmp 14) (.tmp 16)), oS 18 (.pick (.tmp 12) (.lit (.bool true)) (.tmp 17)), oS 19 (.move (.tmp 18)), oG 20 19 false (.faddr 2 (.tmp 2)), oG 21 19 false (.load none (.tmp 20)), oG 22 19 false (.faddr 2 (.tmp 3)), oG 23 19 false (.load none (.tmp 22)), oG 24 19 false (.call (.lit (.func 17 [])) [.tmp 21, .tmp 23]), oG 25 19 false (.un .not (.tmp 24)), oS 26 (.pick (.tmp 19) (.lit (.bool true)) (.tmp 25)), oS 27 (.move (.tmp 26)), oG 28 27 false (.faddr 3 (.tmp 2)), oG 29 27 false (.load none (.tmp 28)), oG 30 27 false (.blen 1 (.tmp 29)), oG 31 27 false (.faddr 3 (.tmp 3)), oG 32 27 false (.load none (.tmp 31)), oG 33 27 false (.blen 1 (.tmp 32)), oG 34 27 false (.bin .neq .none (.tmp 30) (.tmp 33)), oS 35 (.pick (.tmp 27) (.lit (.bool true)) (.tmp 34))]) (.cond (.tmp 35) (.seq (.ops [oS 4 (.move (.lit (.bool false)))]) .ret) .skip)) (.seq (.seq (.ops [oS 36 (.faddr 3 (.tmp 2)), oS 37 (.load none (.tmp 36)), oS 38 (.blen 1 (.tmp 37)), oS 39 (.move (.lit (.int .i64 0)))]) (.block 0 (.loop (.seq (.ops [oS 40 (.bin .lss .none (.tmp 39) (.tmp 38))]) (.seq (.cond (.tmp 40) .skip (.exit 0)) (.seq (.block 1 (.seq (.ops [oS 41 (.move (.tmp 39)), oS 42 (.iaddr 3 (.tmp 37) (.tmp 39)), oS 43 (.load (some 3) (.tmp 42)), oS 6 (.alloc (.agg [.slice .nil [], .int .i64 0, .bool false])), oS 5 (.move (.tmp 41)), oN (.store 3 (.tmp 6) (.tmp 43))]) (.seq (.draw d_sameAction_0) (.cond (.tmp 64) (.seq (.ops [oS 4 (.move (.lit (.bool false)))]) .ret) .skip)))) (.ops [oS 65 (.bin .add .none (.tmp 39) (.lit (.int .i64 1))), oS 39 (.move (.tmp 65))]))))))) (.seq (.ops [oS 4 (.move (.lit (.bool true)))]) .ret)))
theorem sameAction_self (a : FAct) (σ : Store) (h1 : a.pre.length ≤ 1000000) (h2 : a.effects.length ≤ 1000000) (h3 : ∀ e ∈ a.effects, e.when_.length ≤ 1000000) :
  ACalls Tryz.prog 56 [.agg (encA a), .agg (encA a)] σ (isR (.bool true) σ) := by
 refine ACalls.intro (rs := [(.tmp 4)]) (by kernel_rfl) { own := [], ghosts := [] } Tryz.func56 (c := Tryz.f56.body.getD .skip) (by kernel_rfl) (by decide) (by rw [show Tryz.f56.ntmps = 66 by kernel_rfl]; exact Nat.le_of_ble_eq_true rfl) (by kernel_rfl) ?_
 intro hσ hids
 rw [show comp Tryz.prog { own := [], ghosts := [] } (Tryz.f56.body.getD .skip) = c_sameAction by kernel_rfl, show Tryz.f56.ntmps = 66 by kernel_rfl]
 unfold c_sameAction
 have hs1 : IdsS (σ ++ [AObj.row (encA a), AObj.row (encA a)]).length (σ ++ [AObj.row (encA a), AObj.row (encA a)]) := idsS_app _ hσ (all_cons' (idsO_row (ids_encA a)) (all_cons' (idsO_row (ids_encA a)) all_nil'))
 simp only [encA] at hs1
 simp only [go_sem, simprocAttr, encA, bne_self_eq_false]
 refine (sameLits_self a.pre _ h1).is ?_
 simp only [go_sem, simprocAttr, bne_self_eq_false]
 refine wpc_while (fun (i : Nat) => [(3, .ptr (σ.length + 1) 0), (37, .slice .unk (a.effects.map encE)), (38, .int .i64 a.effects.length), (39, .int .i64 (i : Nat))]) (fun _ => σ ++ [.row (encA a), .row (encA a)]) (fun i => i ≤ a.effects.length) (fun i => a.effects.length - i) 0 (Nat.zero_le _) (by simp only [encA]; exact (by (try dsimp only); first | exact ghL (hs1) | exact ghL0 (hs1))) ?_
 intro i hi K hK hE hR
 by_cases h : i < a.effects.length
 ·obtain ⟨e, hx⟩ := get_ex h; have hlt : ((i : Int) < (a.effects.length : Int)) := (by omega); have hw := wrapS (i := i) (by omega)
  have hf := flat_lit e.lit e.lit
  simp only [encLit] at hf
  have hd : decide (e.lit = e.lit) = true := decide_eq_true rfl
  simp only [go_sem, simprocAttr, hlt, hx, encE, encA, hf, hd]
  refine ⟨_, sameLits_self e.when_ _ (h3 e (List.mem_of_getElem? hx)), ?_⟩
  simp only [go_sem, simprocAttr]
  refine hK _ _ (i + 1) (by omega) (by omega) ?_
  simp only [encA]
  exact (by (try dsimp only); (try simp only [ hw]); first | exact ghL (hs1) | exact ghL0 (hs1))
 ·have hlt : ¬ ((i : Int) < (a.effects.length : Int)) := by omega
  simp only [go_sem, simprocAttr, hlt, hE]
  exact rt (.bool true) ⟨rfl, rfl⟩
def e_same01_0 : List COp := [oS 65 (.load (some 4) (.tmp 8)), oS 66 (.faddr 3 (.tmp 3)), oA 67 (.load none (.tmp 66)) [1], oS 68 (.move (.tmp 7)), oA 69 (.iaddr 4 (.tmp 67) (.tmp 68)) [2, 3], oA 70 (.load (some 4) (.tmp 69)) [4], oA 71 (.call (.lit (.func 56 [])) [.tmp 65, .tmp 70]) [0, 5], oA 72 (.un .not (.tmp 71)) [6]]
def d_same01_0 : List COp := e_same01_0
theorem dr_same01_0 (P : Program) (nt n0 : Nat) (Q : Post) (s : Slots) (σ : Store) : wpc P nt n0 (.draw d_same01_0) Q s σ = aOpsD P nt e_same01_0 (Q .normal) s σ := wpc_draw _ (by decide)
attribute [local go_sem] dr_same01_0 e_same01_0
def c_same01 : CCode := .seq (.ops [oS 2 (.box (.tmp 0)), oS 3 (.box (.tmp 1)), oS 4 (.move (.lit (.bool false)))]) (.seq (.seq (.ops [oS 9 (.faddr 0 (.tmp 2)), oS 10 (.load none (.tmp 9)), oS 11 (.blen 1 (.tmp 10)), oS 12 (.faddr 0 (.tmp 3)), oS 13 (.load none (.tmp 12)), oS 14 (.blen 1 (.tmp 13)), oS 15 (.bin .neq .none (.tmp 11) (.tmp 14)), oS 16 (.move (.tmp 15)), oG 17 16 false (.faddr 1 (.tmp 2)), oG 18 16 false (.load none (.tmp 17)), oG 19 16 false (.faddr 1 (.tmp 3)), oG 20 16 false (.load none (.tmp 19)), oG 21 16 false (.call (.lit (.func 42 [])) [.tmp 18, .tmp 20]), oG 22 16 false (.un .not (.tmp 21)), oS 23 (.pick (.tmp 16) (.lit (.bool true)) (.tmp 22)), oS 24 (.move (.tmp 23)), oG 25 24 false (.faddr 2 (.tmp 2)), oG 26 24 false (.load none (.tmp 25)), oG 27 24 false (.faddr 2 (.tmp 3)), oG 28 24 false (.load none (.tmp 27)), oG 29 24 false (.call (.lit (.func 17 [])) [.tmp 26, .tmp 28]), oG 30 24 false (.un .not (.tmp 29)), oS 31 (.pick (.tmp 24) (.lit (.bool true)) (.tmp 30)), oS 32 (.move (.tmp 31)), oG 33 32 false (.faddr 3 (.tmp 2)), oG 34 32 false (.load none (.tmp 33)), oG 35 32 false (.blen 1 (.tmp 34)), oG 36 32 false (.faddr 3 (.tmp 3)), oG 37 32 false (.load none (.tmp 36)), oG 38 32 false (.blen 1 (.tmp 37)), oG 39 32 false (.bin .neq .none (.tmp 35) (.tmp 38)), oS 40 (.pick (.tmp 32) (.lit (.bool true)) (.tmp 39))]) (.cond (.tmp 40) (.seq (.ops [oS 4 (.move (.lit (.bool false)))]) .ret) .skip)) (.seq (.seq (.ops [oS 41 (.faddr 0 (.tmp 2)), oS 42 (.load none (.tmp 41)), oS 43 (.blen 1 (.tmp 42)), oS 44 (.move (.lit (.int .i64 0)))]) (.block 0 (.loop (.seq (.ops [oS 45 (.bin .lss .none (.tmp 44) (.tmp 43))]) (.seq (.cond (.tmp 45) .skip (.exit 0)) (.seq (.block 1 (.seq (.ops [oS 46 (.move (.tmp 44)), oS 47 (.iaddr 1 (.tmp 42) (.tmp 44)), oS 48 (.load none (.tmp 47)), oS 5 (.move (.tmp 46)), oS 6 (.move (.tmp 48))]) (.seq (.ops [oS 49 (.move (.tmp 6)), oS 50 (.faddr 0 (.tmp 3)), oS 51 (.load none (.tmp 50)), oS 52 (.move (.tmp 5)), oS 53 (.iaddr 1 (.tmp 51) (.tmp 52)), oS 54 (.load none (.tmp 53)), oS 55 (.bin .neq .none (.tmp 49) (.tmp 54))]) (.cond (.tmp 55) (.seq (.ops [oS 4 (.move (.lit (.bool false)))]) .ret) .skip)))) (.ops [oS 56 (.bin .add .none (.tmp 44) (.lit (.int .i64 1))), oS 44 (.move (.tmp 56))]))))))) (.seq (.seq (.ops [oS 57 (.faddr 3 (.tmp 2)), oS 58 (.load none (.tmp 57)), oS 59 (.blen 1 (.tmp 58)), oS 60 (.move (.lit (.int .i64 0)))]) (.block 2 (.loop (.seq (.ops [oS 61 (.bin .lss .none (.tmp 60) (.tmp 59))]) (.seq (.cond (.tmp 61) .skip (.exit 2)) (.seq (.block 3 (.seq (.ops [oS 62 (.move (.tmp 60)), oS 63 (.iaddr 4 (.tmp 58) (.tmp 60)), oS 64 (.load (some 4) (.tmp 63)), oS 8 (.alloc (.agg [.str (bys []), .int .i64 0, .slice .nil [], .slice .nil []])), oS 7 (.move (.tmp 62)), oN (.store 4 (.tmp 8) (.tmp 64))]) (.seq (.draw d_same01_0) (.cond (.tmp 72) (.seq (.ops [oS 4 (.move (.lit (.bool false)))]) .ret) .skip)))) (.ops [oS 73 (.bin .add .none (.tmp 60) (.lit (.int .i64 1))), oS 60 (.move (.tmp 73))]))))))) (.seq (.ops [oS 4 (.move (.lit (.bool true)))]) .ret))))
theorem same01_self (t : FTask) (σ : Store) (ht : CB t) :
  ACalls Tryz.prog 29 [.agg (encTask t), .agg (encTask t)] σ (isR (.bool true) σ) := by
 refine ACalls.intro (rs := [(.tmp 4)]) (by kernel_rfl) { own := [], ghosts := [] } Tryz.func29 (c := Tryz.f29.body.getD .skip) (by kernel_rfl) (by decide) (by rw [show Tryz.f29.ntmps = 74 by kernel_rfl]; exact Nat.le_of_ble_eq_true rfl) (by kernel_rfl) ?_
 intro hσ hids
 rw [show comp Tryz.prog { own := [], ghosts := [] } (Tryz.f29.body.getD .skip) = c_same01 by kernel_rfl, show Tryz.f29.ntmps = 74 by kernel_rfl]
 unfold c_same01
 have hs1 : IdsS (σ ++ [AObj.row (encTask t), AObj.row (encTask t)]).length (σ ++ [AObj.row (encTask t), AObj.row (encTask t)]) := idsS_app _ hσ (all_cons' (idsO_row (ids_encTask t)) (all_cons' (idsO_row (ids_encTask t)) all_nil'))
 simp only [encTask] at hs1
 have hb : ∀ s : ByteArray, (s.toList == s.toList) = true := fun s => beq_self_eq_true _
 have hsi : ∀ σ, ACalls Tryz.prog 42 [.slice .unk (t.init.map Ahl.encI), .slice .unk (t.init.map Ahl.encI)] σ (isR (.bool true) σ) := fun σ => by
  have := sameInts_spec t.init t.init .unk .unk σ (by have := ht.init; omega) (by have := ht.init; omega)
  simpa using this
 simp only [go_sem, simprocAttr, encTask, bne_self_eq_false]
 refine (hsi _).is ?_
 simp only [go_sem, simprocAttr, bne_self_eq_false]
 refine (sameLits_self t.goal _ ht.goal).is ?_
 simp only [go_sem, simprocAttr, bne_self_eq_false]
 have b1 := ht.facts
 have b4 := ht.acts
 refine wpc_while (fun (i : Nat) => [(2, .ptr σ.length 0), (3, .ptr (σ.length + 1) 0), (42, .slice .unk (t.facts.map encT)), (43, .int .i64 t.facts.length), (44, .int .i64 (i : Nat))]) (fun _ => σ ++ [.row (encTask t), .row (encTask t)]) (fun i => i ≤ t.facts.length) (fun i => t.facts.length - i) 0 (Nat.zero_le _) (by simp only [encTask]; exact (by (try dsimp only); first | exact ghL (hs1) | exact ghL0 (hs1))) ?_
 intro i hi K hK hE hR
 by_cases h : i < t.facts.length
 ·obtain ⟨x, hx⟩ := get_ex h; have hlt : ((i : Int) < (t.facts.length : Int)) := (by omega); have hw := wrapS (i := i) (by omega)
  simp only [go_sem, simprocAttr, hlt, hx, encT, encTask, hb]
  refine hK _ _ (i + 1) (by omega) (by omega) ?_
  simp only [encTask]
  exact (by (try dsimp only); (try simp only [ hw]); first | exact ghL (hs1) | exact ghL0 (hs1))
 ·have hlt : ¬ ((i : Int) < (t.facts.length : Int)) := by omega
  simp only [go_sem, simprocAttr, hlt, hE, encTask]
  refine wpc_while (fun (i : Nat) => [(3, .ptr (σ.length + 1) 0), (58, .slice .unk (t.actions.map encA)), (59, .int .i64 t.actions.length), (60, .int .i64 (i : Nat))]) (fun _ => σ ++ [.row (encTask t), .row (encTask t)]) (fun i => i ≤ t.actions.length) (fun i => t.actions.length - i) 0 (Nat.zero_le _) (by simp only [encTask]; exact (by (try dsimp only); first | exact ghL (hs1) | exact ghL0 (hs1))) ?_
  intro i hi K hK hE hR
  by_cases h : i < t.actions.length
  ·obtain ⟨a, hx⟩ := get_ex h; have hlt : ((i : Int) < (t.actions.length : Int)) := (by omega); have hw := wrapS (i := i) (by omega)
   have ha := ht.act a (List.mem_of_getElem? hx)
   simp only [go_sem, simprocAttr, hlt, hx, encA, encTask]
   refine ⟨_, sameAction_self a _ ha.1 ha.2.1 ha.2.2, ?_⟩
   simp only [go_sem, simprocAttr]
   refine hK _ _ (i + 1) (by omega) (by omega) ?_
   simp only [encTask]
   exact (by (try dsimp only); (try simp only [ hw]); first | exact ghL (hs1) | exact ghL0 (hs1))
  ·have hlt : ¬ ((i : Int) < (t.actions.length : Int)) := by omega
   simp only [go_sem, simprocAttr, hlt, hE]
   exact rt (.bool true) ⟨rfl, rfl⟩
theorem ids_wI17 {n : Nat} (hn : 0 < n) (l : List Int) : Ids n (.wslice (l.map wI)) := .wslice _ hn fun i e h j x hx => by
 rw [List.getElem?_map] at h
 cases q : l[i]? with
 | none => rw [q] at h; simp at h
 | some y =>
  rw [q] at h; simp at h; subst h
  match j with
  | 0 => simp [wI] at hx; subst hx; exact .cell _
  | j + 1 => simp [wI] at hx
theorem ids_wLs17 {n : Nat} (hn : 0 < n) (f : List (List Int)) : Ids n (.wslice (f.map wL)) := .wslice _ hn fun i e h j x hx => by
 rw [List.getElem?_map] at h
 cases q : f[i]? with
 | none => rw [q] at h; simp at h
 | some y =>
  rw [q] at h; simp at h; subst h
  match j with
  | 0 => simp [wL] at hx; subst hx; exact ids_wI17 hn _
  | j + 1 => simp [wL] at hx
theorem ids_wLit17 {n : Nat} (hn : 0 < n) (l : List FLit) : Ids n (.wslice (l.map wLit)) := .wslice _ hn fun i e h j x hx => by
 rw [List.getElem?_map] at h
 cases q : l[i]? with
 | none => rw [q] at h; simp at h
 | some y =>
  rw [q] at h; simp at h; subst h
  match j with
  | 0 => simp [wLit] at hx; subst hx; exact .cell _
  | 1 => simp [wLit] at hx; subst hx; exact .cell _
  | j + 2 => simp [wLit] at hx
def c_spoil17 : CCode := .seq (.ops [oS 5 (.move (.tmp 0)), oS 6 (.blen 1 (.tmp 5)), oS 7 (.move (.lit (.int .i64 0)))]) (.block 0 (.loop (.seq (.ops [oS 8 (.bin .lss .none (.tmp 7) (.tmp 6))]) (.seq (.cond (.tmp 8) .skip (.exit 0)) (.seq (.block 1 (.seq (.ops [oS 9 (.iaddr 1 (.tmp 5) (.tmp 7)), oS 10 (.load none (.tmp 9)), oS 3 (.move (.tmp 10))]) (.seq (.ops [oS 11 (.move (.tmp 3)), oS 12 (.blen 1 (.tmp 11)), oS 13 (.move (.lit (.int .i64 0)))]) (.block 2 (.loop (.seq (.ops [oS 14 (.bin .lss .none (.tmp 13) (.tmp 12))]) (.seq (.cond (.tmp 14) .skip (.exit 2)) (.seq (.block 3 (.seq (.ops [oS 15 (.move (.tmp 13)), oS 4 (.move (.tmp 15))]) (.ops [oS 16 (.move (.tmp 3)), oS 17 (.move (.tmp 4)), oS 18 (.iaddr 1 (.tmp 16) (.tmp 17)), oN (.store 1 (.tmp 18) (.lit (.int .i64 (-7))))]))) (.ops [oS 19 (.bin .add .none (.tmp 13) (.lit (.int .i64 1))), oS 13 (.move (.tmp 19))]))))))))) (.ops [oS 20 (.bin .add .none (.tmp 7) (.lit (.int .i64 1))), oS 7 (.move (.tmp 20))]))))))
theorem spoil17_spec (ls : List (List Int)) (σ : Store) (h0 : 0 < σ.length) (hl : ls.length ≤ 1000000) (hls : ∀ l ∈ ls, l.length ≤ 1000000) : ACalls Tryz.prog 28 [.wslice (ls.map wL)] σ (isR (.tuple []) σ) := by
 refine ACalls.intro (rs := []) (by kernel_rfl) { own := [], ghosts := [] } Tryz.func28 (c := Tryz.f28.body.getD .skip) (by kernel_rfl) (by decide) (by rw [show Tryz.f28.ntmps = 21 by kernel_rfl]; exact Nat.le_of_ble_eq_true rfl) (by kernel_rfl) ?_
 intro hσ hids
 rw [show comp Tryz.prog { own := [], ghosts := [] } (Tryz.f28.body.getD .skip) = c_spoil17 by kernel_rfl, show Tryz.f28.ntmps = 21 by kernel_rfl]
 unfold c_spoil17
 have hig : Ids σ.length (.wslice (ls.map wL)) := ids_wLs17 h0 ls
 simp only [go_sem, simprocAttr]
 refine wpc_while (fun (i : Nat) => [(5, .wslice (ls.map wL)), (6, .int .i64 ls.length), (7, .int .i64 (i : Nat))]) (fun _ => σ) (fun i => i ≤ ls.length) (fun i => ls.length - i) 0 (Nat.zero_le _) (by (try dsimp only); exact ghA) ?_
 intro i hi K hK hE hR
 by_cases h : i < ls.length
 ·obtain ⟨l, hx⟩ := get_ex h; have hlt : ((i : Int) < (ls.length : Int)) := (by omega); have hw := wrapS (i := i) (by omega)
  have hll := hls l (List.mem_of_getElem? hx)
  have hil : Ids σ.length (.wslice (l.map wI)) := ids_wI17 h0 l
  simp only [go_sem, simprocAttr, hlt, hx, wL]
  refine wpc_while (fun (j : Nat) => [(3, .wslice (l.map wI)), (5, .wslice (ls.map wL)), (6, .int .i64 ls.length), (7, .int .i64 i), (12, .int .i64 l.length), (13, .int .i64 (j : Nat))]) (fun _ => σ) (fun j => j ≤ l.length) (fun j => l.length - j) 0 (Nat.zero_le _) (by (try dsimp only); exact ghA) ?_
  intro j hj0 K2 hK2 hE2 hR2
  by_cases hj : j < l.length
  ·obtain ⟨v, hxj⟩ := get_ex hj; have hltj : ((j : Int) < (l.length : Int)) := (by omega); have hwj := wrapS (i := j) (by omega)
   have hj1 : (0 : Int) ≤ (j : Int) := by omega
   simp only [go_sem, simprocAttr, hltj, hxj, wI, hj1]
   refine hK2 _ _ (j + 1) (by omega) (by omega) ?_
   (try dsimp only)
   rw [hwj]
   exact ghA
  ·have hltj : ¬ ((j : Int) < (l.length : Int)) := by omega
   simp only [go_sem, simprocAttr, hltj, hE2]
   refine hK _ _ (i + 1) (by omega) (by omega) ?_
   (try dsimp only)
   rw [hw]
   exact ghA
 ·have hlt : ¬ ((i : Int) < (ls.length : Int)) := by omega
  simp only [go_sem, simprocAttr, hlt, hE]
  exact ret_gh0 (Ghost.keep0 (s' := []) (Nat.le_refl _) trivial hσ) (Nat.le_refl _) hσ ⟨rfl, rfl⟩
end Go.Proofs.YtcjgoomlaojljaaGreat
namespace Go.Ahl
section
variable {P : Program} {t : TypeId}
def encU (n : Int) : List AV := [.int .u8 n]
theorem Reads.u8 (ht : P.underlying t = some (.int .u8)) : Reads P t encU (fun n => 0 ≤ n ∧ n ≤ 255) := by
 intro H enc w fuel cs d ps h hw
 cases fuel with
 | zero => simp [DataW.trod] at h
 | succ n =>
  simp only [DataW.trod, ht] at h
  split at h <;> try (simp_all; done)
  rename_i k k' nn hk
  have hk : IntKind.u8 = k := by injection hk with q; injection q
  subst hk
  split at h
  ·rename_i hc
   obtain ⟨rfl, hwf⟩ := hc
   refine ⟨nn, ?_, cells_one (.int _ _)⟩
   simpa [Lit.wf, IntKind.min, IntKind.max, IntKind.signed, IntKind.bits] using hwf
  ·simp at h
variable {e : TypeId}
def okLB {α : Type} (n : Nat) (ok : α → Prop) (l : List α) : Prop := l.length * n ≤ 140737488355328 ∧ ∀ x ∈ l, ok x
theorem Reads.sliceB {α : Type} {f : α → List AV} {ok : α → Prop} (ht : P.underlying t = some (.slice e)) (hb : 0 < P.bytesOf e) (hc0 : 0 < P.cellsOf e) (he : Reads P e f ok) :
  Reads P t (encS f) (okLB (P.bytesOf e) ok) := by
 intro H enc w fuel cs d ps h hw
 cases fuel with
 | zero => simp [DataW.trod] at h
 | succ n =>
  simp only [DataW.trod, ht] at h
  split at h
  all_goals first | (simp at h; done) | skip
  all_goals try (rename_i heq; simp at heq; done)
  ·simp at h
   refine ⟨[], ⟨by simp, by simp⟩, cells_one ?_⟩
   exact .slice .unk [] none 0 0 0 0 (fun _ _ => undef) (Nat.le_refl _) trivial (by simp) (fun h => absurd rfl h) (fun i hi => absurd hi (by simp)) (by simp)
  ·rename_i e' a len cap heq
   have heq' : e = e' := by injection heq with q; injection q
   subst heq'
   split at h
   ·rename_i hc
    obtain ⟨_, hcap, _⟩ := hc
    cases hm : (List.range len).mapM (fun i => (w.cells? 0 (a.add (i * P.cellsOf e)) (P.cellsOf e)).bind (DataW.trod enc P w 0 (fun _ => true) true n e)) with
    | none => rw [hm] at h; simp at h
    | some elems =>
     rw [hm] at h
     simp only [Option.bind_some, if_true, Option.map_eq_some_iff] at h
     obtain ⟨rest, hr, hd⟩ := h
     injection hd with hd1 hd2
     subst hd1
     obtain ⟨q1, q2⟩ := mapM_get _ _ _ hm
     simp only [List.length_range] at q1
     have hwt : ∀ x ∈ ((elems.map (·.1)).length + (rest.map (·.1)).length) * P.bytesOf e :: (DataW.weightsAll P e (elems.map (·.1)) ++ DataW.weightsAll P e (rest.map (·.1))), x ≤ reachBytes := by
      intro x hx; apply hw x; simp only [DataW.weights, ht]; exact hx
     have hlen : len * P.bytesOf e ≤ 140737488355328 := by
      have h1 := hwt _ List.mem_cons_self
      simp only [List.length_map, q1, reachBytes] at h1
      have h2 : len * P.bytesOf e ≤ (len + rest.length) * P.bytesOf e := Nat.mul_le_mul_right _ (Nat.le_add_right _ _)
      exact Nat.le_trans h2 (Nat.le_trans h1 (by decide))
     have key : ∀ i, i < len → ∃ x, ok x ∧ ∃ cs, Cells (memOf w) [] (f x) cs ∧ cs.length = P.cellsOf e ∧ ∀ (j : Nat) v, cs[j]? = some v → w.cell? ((a.add (i * P.cellsOf e)).add j) = some v := by
      intro i hi
      obtain ⟨y, h3, h4⟩ := q2 i i (by rw [List.getElem?_range hi])
      cases hcs : w.cells? 0 (a.add (i * P.cellsOf e)) (P.cellsOf e) with
      | none => rw [hcs] at h3; simp at h3
      | some cs =>
       rw [hcs] at h3
       obtain ⟨y1, y2⟩ := y
       simp only [Option.bind_some] at h3
       obtain ⟨x, hx1, hx2⟩ := he H enc w n cs y1 y2 h3 (fun z hz => hwt z (List.mem_cons_of_mem _ (List.mem_append_left _ (weightsAll_mem (List.mem_map.2 ⟨_, List.mem_of_getElem? h4, rfl⟩) z hz))))
       obtain ⟨c1, c2⟩ := cells?_some hcs
       exact ⟨x, hx1, cs, hx2, c1, c2⟩
     obtain ⟨l, hl1, hl2⟩ := choose_list len key
     refine ⟨l, ⟨by rw [hl1]; exact hlen, fun x hx => ?_⟩, cells_one ?_⟩
     ·obtain ⟨i, hi, rfl⟩ := List.mem_iff_getElem.1 hx
      exact (hl2 i _ (List.getElem?_eq_getElem hi)).1
     ·obtain ⟨ab, ao, ap⟩ := a
      by_cases hz : len = 0
      ·have : l = [] := List.length_eq_zero_iff.1 (by omega)
       subst this; subst hz
       exact .slice .unk [] (some ⟨ab, ao, ap⟩) cap 0 0 0 (fun _ _ => undef) (Nat.zero_le _) trivial (by simp) (fun h => absurd rfl h) (fun i hi => absurd hi (by simp)) (by simp)
      have hap : ap = none := by
       obtain ⟨x, hx⟩ : ∃ x, l[0]? = some x := get_ex (by omega)
       obtain ⟨_, cs, _, c1, c2⟩ := hl2 0 x hx
       obtain ⟨v, hv⟩ : ∃ v, cs[0]? = some v := get_ex (by omega)
       have := c2 0 v hv
       cases ap with
       | none => rfl
       | some q => simp [World.cell?, Addr.add] at this; split at this <;> simp at this
      subst hap
      have hadd : ∀ i j, ((⟨ab, ao, none⟩ : Addr).add (i * P.cellsOf e)).add j = ⟨ab, ao + (i * P.cellsOf e + j), none⟩ := by
       intro i j; rw [add_at, add_at]; congr 1; omega
      have hcl : ∀ (i : Nat) x, l[i]? = some x → (f x).length = P.cellsOf e := by
       intro i x hx
       obtain ⟨_, cs, c0, c1, _⟩ := hl2 i x hx
       rw [← c0.1, c1]
      have hval : ∀ i, i < len → ∀ j, j < P.cellsOf e → ∃ v, w.cell? ⟨ab, ao + (i * P.cellsOf e + j), none⟩ = some v := by
       intro i hi j hj
       obtain ⟨x, hx⟩ : ∃ x, l[i]? = some x := get_ex (by omega)
       obtain ⟨_, cs, _, c1, c2⟩ := hl2 i x hx
       obtain ⟨v, hv⟩ : ∃ v, cs[j]? = some v := get_ex (by omega)
       exact ⟨v, by rw [← hadd]; exact c2 j v hv⟩
      have hR := Rel.slice (m := memOf w) (loc := []) .unk (l.map f) (some ⟨ab, ao, none⟩) cap (P.cellsOf e) ab ao (fun i j => (w.cell? ⟨ab, ao + (i * P.cellsOf e + j), none⟩).getD undef)
       (by simp; omega) trivial ?_ (fun _ => rfl) ?_ ?_
      ·rw [List.length_map, hl1] at hR; exact hR
      ·intro y hy
       obtain ⟨x, hx, rfl⟩ := List.mem_map.1 hy
       obtain ⟨i, hi, rfl⟩ := List.mem_iff_getElem.1 hx
       exact hcl i _ (List.getElem?_eq_getElem hi)
      ·intro i hi j hj
       simp only [List.length_map, hl1] at hi
       obtain ⟨v, hv⟩ := hval i hi j hj
       show w.cell? _ = _
       rw [hv]; rfl
      ·intro i y hy j z hz'
       rw [List.getElem?_map] at hy
       cases hx : l[i]? with
       | none => rw [hx] at hy; simp at hy
       | some x =>
        rw [hx] at hy; simp at hy; subst hy
        obtain ⟨_, cs, c0, c1, c2⟩ := hl2 i x hx
        have hj : j < P.cellsOf e := by have := lt_of_get hz'; rw [hcl i x hx] at this; exact this
        obtain ⟨v, hv⟩ : ∃ v, cs[j]? = some v := get_ex (by omega)
        have h5 := c2 j v hv
        rw [hadd] at h5
        simp only [h5, Option.getD_some]
        exact c0.2 j z v hz' hv
   ·simp at h
end
end Go.Ahl
namespace Go.Proofs.YtcjgoomlaojljaaGreat
open Go.Ahl Go.ChangeShapes Go.WideShapes Go.ChangeAt Go.RowKit
abbrev Small (ls : List (List Int)) : Prop := ls.length ≤ 1000 ∧ ∀ x ∈ ls, x.length ≤ 1000
theorem small_nil : Small [] := ⟨by simp, by simp⟩
theorem small_bel {n : Nat} (hn : n ≤ 200) {u : Bel} (h : BelOk n u) : Small u := ⟨by have := h.le; omega, fun s hs => by have := rising_200 hn (h.st s hs); omega⟩
theorem apply_wkn {t : FTask} {b : Bel} (ht : TB t) : ∃ r', WknT (applyR t b 0) r' ∧ ∃ (ls : List (List Int)) (k : Bool) (e : Int), Small ls ∧ r' = .tuple [.wslice (ls.map wL), .bool k, .int .i64 e] := by
 have hnil : ∀ k e, ∃ r', WknT (.tuple [.slice .nil [], .bool k, .int .i64 e]) r' ∧ ∃ (ls : List (List Int)) (k : Bool) (e : Int), Small ls ∧ r' = .tuple [.wslice (ls.map wL), .bool k, .int .i64 e] := fun k e =>
  ⟨_, .three (.inl .nil) (.flat rfl) (.flat rfl), [], k, e, small_nil, rfl⟩
 unfold applyR
 by_cases he : bErr t b = 0
 ·obtain ⟨hv, hbel⟩ := bErr_zero he
  have hVT := valid_VT ht hv
  rw [if_pos he]
  split
  ·cases hs : stB t b (0 : Int).toNat with
   | none => exact hnil _ _
   | some u => exact ⟨_, .three (.inl (wkn_lists _)) (.flat rfl) (.flat rfl), u, _, _, small_bel hVT.nf (stB_ok hVT (bel_ok hbel) hs), rfl⟩
  ·exact hnil _ _
 ·rw [if_neg he]; exact hnil _ _
theorem reveal_wkn {t : FTask} {b : Bel} : ∃ r', WknT (revealRes t b 0) r' ∧ ∃ (l1 l2 : List (List Int)) (e : Int), Small l1 ∧ Small l2 ∧ r' = .tuple [.wslice (l1.map wL), .wslice (l2.map wL), .int .i64 e] := by
 have hnil : ∀ e, ∃ r', WknT (.tuple [.slice .nil [], .slice .nil [], .int .i64 e]) r' ∧ ∃ (l1 l2 : List (List Int)) (e : Int), Small l1 ∧ Small l2 ∧ r' = .tuple [.wslice (l1.map wL), .wslice (l2.map wL), .int .i64 e] := fun e =>
  ⟨_, .three (.inl .nil) (.inl .nil) (.flat rfl), [], [], e, small_nil, small_nil, rfl⟩
 unfold revealRes
 by_cases he : bErr t b = 0
 ·obtain ⟨hv, hbel⟩ := bErr_zero he
  have hnf := valid_facts hv
  have hsm := small_bel (by omega) (bel_ok hbel)
  rw [if_pos he]
  split
  ·refine ⟨_, .three (.inl (wkn_lists _)) (.inl (wkn_lists _)) (.flat rfl), yesL b 0, noL b 0, _, ⟨?_, fun x hx => hsm.2 x (List.mem_filter.1 hx).1⟩, ⟨?_, fun x hx => hsm.2 x (List.mem_filter.1 hx).1⟩, rfl⟩
   ·have := yesL_len b 0; have := hsm.1; omega
   ·have := noL_len b 0; have := hsm.1; omega
  ·exact hnil _
 ·rw [if_neg he]; exact hnil _
theorem make_wkn {t : FTask} (ht : TB t) : ∃ r', WknT (makeR t []) r' ∧ ∃ (ls : List (List Int)) (e : Int), Small ls ∧ r' = .tuple [.wslice (ls.map wL), .int .i64 e] := by
 unfold makeR
 split
 ·rename_i he
  have hv : validB t = true := by
   unfold makeE at he
   cases h : validB t
   ·rw [h] at he; simp at he
   ·rfl
  have hnf := valid_facts hv
  have h6 : (openL t.facts.length []).length ≤ 6 := by
   unfold makeE at he
   rw [hv, if_pos rfl, show condB t.facts.length (-1) [] = true from rfl, if_pos rfl] at he
   split at he
   ·assumption
   ·simp at he
  refine ⟨_, .two (.inl (wkn_lists _)) (.flat rfl), makeB t.facts.length [], _, ⟨?_, fun s hs => ?_⟩, rfl⟩
  ·have h1 := merge_len (makeAll t.facts.length [])
   have h2 : (makeAll t.facts.length []).length ≤ 2 ^ 6 := by
    unfold makeAll; rw [List.length_map, List.length_range]; exact Nat.pow_le_pow_right (by omega) h6
   have h3 : (2 : Nat) ^ 6 = 64 := rfl
   unfold makeB; omega
  ·obtain ⟨⟨h1, h2⟩, _⟩ := (makeAll_iff rfl).1 (merge_mem.1 hs)
   have := rising_200 (n := t.facts.length) (by omega) (rising_mk (n := t.facts.length) (p := -1) h1 (fun x hx => by have := h2 x hx; omega))
   omega
 ·exact ⟨_, .two (.inl .nil) (.flat rfl), [], _, small_nil, rfl⟩
theorem known_wkn {t : FTask} {b : Bel} : ∃ r', WknT (knownRes t b) r' ∧ ∃ (l : List FLit) (e : Int), l.length ≤ 1000 ∧ r' = .tuple [.wslice (l.map wLit), .int .i64 e] := by
 unfold knownRes
 split
 ·rename_i he
  obtain ⟨hv, _⟩ := bErr_zero he
  have hnf := valid_facts hv
  exact ⟨_, .two (.inl (wkn_lits _)) (.flat rfl), knownL t.facts.length b, _, by have := knownU_len b t.facts.length 0; unfold knownL; omega, rfl⟩
 ·exact ⟨_, .two (.inl .nil) (.flat rfl), [], _, by simp, rfl⟩
def FindW (t : FTask) (b : Bel) (r' : AV) : Prop := ∃ (tok : Tok) (p : List Int) (n e : Int), FindOut t b (.tuple [.slice tok (p.map Ahl.encI), .int .i64 n, .int .i64 e]) ∧ p.length ≤ 10000 ∧ r' = .tuple [.wslice (p.map wI), .int .i64 n, .int .i64 e]
theorem find_wkn {t : FTask} {b : Bel} {r : AV} (h : FindOut t b r) : ∃ r', WknT r r' ∧ FindW t b r' := by
 have hnil : ∀ n e, FindOut t b (.tuple [.slice .nil [], .int .i64 n, .int .i64 e]) → ∃ r', WknT (.tuple [.slice .nil [], .int .i64 n, .int .i64 e]) r' ∧ FindW t b r' := fun n e h =>
  ⟨_, .three (.inl .nil) (.flat rfl) (.flat rfl), .nil, [], n, e, h, by simp, rfl⟩
 have h' := h
 rcases h with ⟨_, rfl⟩ | ⟨_, s, _, h⟩
 ·exact hnil _ _ h'
 ·rcases h with ⟨_, rfl, _⟩ | ⟨_, _, rfl, _⟩ | ⟨_, i, x, l, _, _, _, _, _, _, _, _, h⟩
  ·exact hnil _ _ h'
  ·exact hnil _ _ h'
  ·rcases h with ⟨hl, rfl⟩ | ⟨_, rfl, _⟩
   ·exact ⟨_, .three (.inl (wkn_ints _)) (.flat rfl) (.flat rfl), .fresh, _, _, _, h', by simpa using hl, rfl⟩
   ·exact hnil _ _ h'
theorem same17_selfT (b : List (List Int)) (tok tok' : Tok) (σ : Store) (hb : LT b) :
  ACalls Tryz.prog 16 [.slice tok (b.map encL), .slice tok' (b.map encL)] σ (isR (.bool true) σ) := by
 refine ACalls.intro (rs := [(.tmp 4)]) (by kernel_rfl) { own := [], ghosts := [] } Tryz.func16 (c := Tryz.f16.body.getD .skip) (by kernel_rfl) (by decide) (by rw [show Tryz.f16.ntmps = 27 by kernel_rfl]; exact Nat.le_of_ble_eq_true rfl) (by kernel_rfl) ?_
 intro hσ hids
 rw [show comp Tryz.prog { own := [], ghosts := [] } (Tryz.f16.body.getD .skip) = c_same17 by kernel_rfl, show Tryz.f16.ntmps = 27 by kernel_rfl]
 unfold c_same17
 have hia : Ids σ.length (.slice tok (b.map encL)) := hids _ (by simp)
 have hib : Ids σ.length (.slice tok' (b.map encL)) := hids _ (by simp)
 have hb1 := hb.1
 have hn : ((b.length : Int) != (b.length : Int)) = false := by simp
 simp only [go_sem, simprocAttr, hn]
 refine wpc_while (fun (i : Nat) => [(12, .slice tok (b.map encL)), (1, .slice tok' (b.map encL)), (13, .int .i64 b.length), (14, .int .i64 (i : Nat))]) (fun _ => σ) (fun i => i ≤ b.length) (fun i => b.length - i) 0 (Nat.zero_le _) (by (try dsimp only); exact ghA) ?_
 intro i hi K hK hE hR
 by_cases h : i < b.length
 ·obtain ⟨x, hx⟩ := get_ex h; have hlt : ((i : Int) < (b.length : Int)) := (by omega); have hw := wrapS (i := i) (by omega)
  simp only [go_sem, simprocAttr, hlt, hx, encL]
  refine (sameInts_spec x x .unk .unk _ (hb.2 x (List.mem_of_getElem? hx)) (hb.2 x (List.mem_of_getElem? hx))).is ?_
  rw [decide_eq_true rfl]
  simp only [go_sem, simprocAttr]
  refine hK _ _ (i + 1) (by omega) om ?_; (try dsimp only); (try simp only [ hw]); exact ghA
 ·have hlt : ¬ ((i : Int) < (b.length : Int)) := by omega
  simp only [go_sem, simprocAttr, hlt, hE]
  exact rt (.bool true) ⟨rfl, rfl⟩
theorem le_sum17 {l : List Nat} {x : Nat} (h : x ∈ l) : x ≤ l.sum := by
 induction l with
 | nil => simp at h
 | cons y l ih =>
  rw [List.sum_cons]
  rcases List.mem_cons.1 h with rfl | h
  ·omega
  ·have := ih h; omega
theorem CB_of17 {t : FTask} (h : taskSize t ≤ 400) : CB t := by
 unfold taskSize at h
 refine ⟨by omega, by omega, by omega, by omega, fun a ha => ?_⟩
 have h1 := le_sum17 (List.mem_map_of_mem (f := actSize) ha)
 have h2 : actSize a ≤ 400 := by omega
 unfold actSize whenSize at h2
 refine ⟨by omega, by omega, fun e he => ?_⟩
 have := le_sum17 (List.mem_map_of_mem (f := fun e : FEff => e.when_.length) he)
 omega
theorem few17_len {t : FTask} {b : List (List Int)} (h : few17B t b = true) : taskSize t ≤ 300 ∧ b.length ≤ 600 := by
 unfold few17B fewT at h
 simp only [Bool.and_eq_true, decide_eq_true_eq] at h
 refine ⟨h.2.1, ?_⟩
 have key : ∀ (l : List (List Int)) (n : Int), n ≤ fewN l n := by
  intro l
  induction l with
  | nil => intro n; exact Int.le_refl _
  | cons s r ih =>
   intro n
   rw [fewN]
   split
   ·have := ih (n + s.length); omega
   ·exact Int.le_refl _
 have := key b b.length
 omega
def r_law_0 : CCode := .seq (.ghost (.ops [oS 47 (.load (some 4) (.tmp 2)), oS 48 (.call (.lit (.func 27 [])) [.tmp 47]), oS 7 (.alloc (.agg [.slice .nil [], .slice .nil [], .slice .nil [], .slice .nil []])), oN (.store 4 (.tmp 7) (.tmp 48))])) (.seq (.ops [oS 8 (.move (.lit (.slice .nil [])))]) (.seq (.seq (.ops [oS 49 (.move (.tmp 1)), oS 50 (.blen 1 (.tmp 49)), oS 51 (.move (.lit (.int .i64 0)))]) (.block 0 (.loop (.seq (.ops [oS 52 (.bin .lss .none (.tmp 51) (.tmp 50))]) (.seq (.cond (.tmp 52) .skip (.exit 0)) (.seq (.block 1 (.seq (.ops [oS 53 (.iaddr 1 (.tmp 49) (.tmp 51)), oS 54 (.load none (.tmp 53)), oS 10 (.move (.tmp 54))]) (.ops [oS 55 (.move (.tmp 8)), oS 56 (.move (.tmp 10)), oS 57 (.bappendC 1 8 (.lit (.slice .nil [])) (.tmp 56)), oS 58 (.bsliceC 1 [.tmp 57]), oS 59 (.bappend 1 24 (.tmp 55) (.tmp 58) false), oS 8 (.move (.tmp 59))]))) (.ops [oS 60 (.bin .add .none (.tmp 51) (.lit (.int .i64 1))), oS 51 (.move (.tmp 60))]))))))) (.seq (.ops [oS 62 (.load (some 4) (.tmp 2)), oS 63 (.move (.tmp 1)), oS 64 (.call (.lit (.func 20 [])) [.tmp 62, .tmp 63, .lit (.int .i64 0)]), oS 61 (.move (.tmp 64)), oS 65 (.extract (.tmp 61) 0), oS 66 (.extract (.tmp 61) 1), oS 67 (.extract (.tmp 61) 2), oS 11 (.move (.tmp 65)), oS 12 (.move (.tmp 66)), oS 13 (.move (.tmp 67))]) (.seq (.ops [oS 68 (.move (.tmp 11)), oS 69 (.call (.lit (.func 28 [])) [.tmp 68])]) (.seq (.ops [oS 71 (.load (some 4) (.tmp 2)), oS 72 (.move (.tmp 1)), oS 73 (.call (.lit (.func 11 [])) [.tmp 71, .tmp 72, .lit (.int .i64 0)]), oS 70 (.move (.tmp 73)), oS 74 (.extract (.tmp 70) 0), oS 75 (.extract (.tmp 70) 1), oS 76 (.extract (.tmp 70) 2), oS 14 (.move (.tmp 74)), oS 15 (.move (.tmp 75)), oS 16 (.move (.tmp 76))]) (.seq (.ops [oS 77 (.move (.tmp 14)), oS 78 (.call (.lit (.func 28 [])) [.tmp 77])]) (.seq (.ops [oS 79 (.move (.tmp 15)), oS 80 (.call (.lit (.func 28 [])) [.tmp 79])]) (.seq (.ops [oS 82 (.load (some 4) (.tmp 2)), oS 83 (.call (.lit (.func 9 [])) [.tmp 82, .lit (.slice .nil [])]), oS 81 (.move (.tmp 83)), oS 84 (.extract (.tmp 81) 0), oS 85 (.extract (.tmp 81) 1), oS 17 (.move (.tmp 84)), oS 18 (.move (.tmp 85))]) (.seq (.ops [oS 86 (.move (.tmp 17)), oS 87 (.call (.lit (.func 28 [])) [.tmp 86])]) (.seq (.ops [oS 89 (.load (some 4) (.tmp 2)), oS 90 (.move (.tmp 1)), oS 91 (.call (.lit (.func 10 [])) [.tmp 89, .tmp 90]), oS 88 (.move (.tmp 91)), oS 92 (.extract (.tmp 88) 0), oS 93 (.extract (.tmp 88) 1), oS 19 (.move (.tmp 92)), oS 20 (.move (.tmp 93))]) (.seq (.seq (.ops [oS 94 (.move (.tmp 19)), oS 95 (.blen 1 (.tmp 94)), oS 96 (.move (.lit (.int .i64 0)))]) (.block 2 (.loop (.seq (.ops [oS 97 (.bin .lss .none (.tmp 96) (.tmp 95))]) (.seq (.cond (.tmp 97) .skip (.exit 2)) (.seq (.block 3 (.seq (.ops [oS 98 (.move (.tmp 96)), oS 21 (.move (.tmp 98))]) (.ops [oS 99 (.move (.tmp 19)), oS 100 (.move (.tmp 21)), oS 101 (.iaddr 2 (.tmp 99) (.tmp 100)), oS 102 (.faddr 0 (.tmp 101)), oN (.store 1 (.tmp 102) (.lit (.int .i64 (-7))))]))) (.ops [oS 103 (.bin .add .none (.tmp 96) (.lit (.int .i64 1))), oS 96 (.move (.tmp 103))]))))))) (.seq (.ops [oS 105 (.load (some 4) (.tmp 2)), oS 106 (.move (.tmp 1)), oS 107 (.call (.lit (.func 26 [])) [.tmp 105, .tmp 106]), oS 104 (.move (.tmp 107)), oS 108 (.extract (.tmp 104) 0), oS 109 (.extract (.tmp 104) 1), oS 110 (.extract (.tmp 104) 2), oS 22 (.move (.tmp 108)), oS 23 (.move (.tmp 109)), oS 24 (.move (.tmp 110))]) (.seq (.seq (.ops [oS 111 (.move (.tmp 22)), oS 112 (.blen 1 (.tmp 111)), oS 113 (.move (.lit (.int .i64 0)))]) (.block 4 (.loop (.seq (.ops [oS 114 (.bin .lss .none (.tmp 113) (.tmp 112))]) (.seq (.cond (.tmp 114) .skip (.exit 4)) (.seq (.block 5 (.seq (.ops [oS 115 (.move (.tmp 113)), oS 25 (.move (.tmp 115))]) (.ops [oS 116 (.move (.tmp 22)), oS 117 (.move (.tmp 25)), oS 118 (.iaddr 1 (.tmp 116) (.tmp 117)), oN (.store 1 (.tmp 118) (.lit (.int .i64 (-7))))]))) (.ops [oS 119 (.bin .add .none (.tmp 113) (.lit (.int .i64 1))), oS 113 (.move (.tmp 119))]))))))) (.seq (.ops [oS 121 (.load (some 4) (.tmp 2)), oS 122 (.move (.tmp 1)), oS 123 (.call (.lit (.func 26 [])) [.tmp 121, .tmp 122]), oS 120 (.move (.tmp 123)), oS 124 (.extract (.tmp 120) 0), oS 125 (.extract (.tmp 120) 1), oS 126 (.extract (.tmp 120) 2), oS 26 (.move (.tmp 124)), oS 27 (.move (.tmp 125)), oS 28 (.move (.tmp 126))]) (.seq (.ops [oS 127 (.load (some 4) (.tmp 7)), oS 128 (.load (some 4) (.tmp 2)), oS 129 (.call (.lit (.func 29 [])) [.tmp 127, .tmp 128]), oS 130 (.move (.tmp 129)), oG 131 130 true (.move (.tmp 8)), oG 132 130 true (.move (.tmp 1)), oG 133 130 true (.call (.lit (.func 16 [])) [.tmp 131, .tmp 132]), oS 134 (.pick (.tmp 130) (.tmp 133) (.lit (.bool false))), oS 135 (.move (.tmp 134)), oG 136 135 true (.move (.tmp 24)), oG 137 135 true (.move (.tmp 28)), oG 138 135 true (.bin .eql .none (.tmp 136) (.tmp 137)), oS 139 (.pick (.tmp 135) (.tmp 138) (.lit (.bool false))), oS 140 (.move (.tmp 139)), oG 141 140 true (.move (.tmp 22)), oG 142 140 true (.blen 1 (.tmp 141)), oG 143 140 true (.move (.tmp 26)), oG 144 140 true (.blen 1 (.tmp 143)), oG 145 140 true (.bin .eql .none (.tmp 142) (.tmp 144)), oS 146 (.pick (.tmp 140) (.tmp 145) (.lit (.bool false))), oS 147 (.move (.tmp 146)), oG 148 147 true (.call (.lit (.func 8 [])) []), oS 149 (.pick (.tmp 147) (.tmp 148) (.lit (.bool false))), oS 4 (.move (.tmp 149))]) .ret)))))))))))))))
def c_law : CCode := .seq (.ops [oS 2 (.box (.tmp 0)), oS 4 (.move (.lit (.bool false)))]) (.seq (.seq (.ops [oS 29 (.load (some 4) (.tmp 2)), oS 30 (.move (.tmp 1)), oS 31 (.call (.lit (.func 7 [])) [.tmp 29, .tmp 30]), oS 32 (.un .not (.tmp 31))]) (.cond (.tmp 32) (.seq (.ops [oS 33 (.call (.lit (.func 8 [])) []), oS 4 (.move (.tmp 33))]) .ret) .skip)) (.seq (.seq (.ops [oS 34 (.load (some 4) (.tmp 2)), oS 35 (.move (.tmp 1)), oS 36 (.call (.lit (.func 12 [])) [.tmp 34, .tmp 35]), oS 37 (.bin .eql .none (.tmp 36) (.lit (.int .i64 0)))]) (.cond (.tmp 37) (.seq (.ops [oS 39 (.load (some 4) (.tmp 2)), oS 40 (.move (.tmp 1)), oS 41 (.call (.lit (.func 25 [])) [.tmp 39, .tmp 40, .lit (.int .i64 1500)]), oS 38 (.move (.tmp 41)), oS 42 (.extract (.tmp 38) 0), oS 43 (.extract (.tmp 38) 1), oS 5 (.move (.tmp 42)), oS 6 (.move (.tmp 43))]) (.seq (.ops [oS 44 (.move (.tmp 6)), oS 45 (.un .not (.tmp 44))]) (.cond (.tmp 45) (.seq (.ops [oS 46 (.call (.lit (.func 8 [])) []), oS 4 (.move (.tmp 46))]) .ret) .skip))) .skip)) r_law_0))
set_option maxHeartbeats 4000000 in
theorem law_spec (t : FTask) (b : List (List Int)) (ht : TB t) (hb : okL (okLB 8 okI) b) (σ : Store) :
  ACalls Tryz.prog 6 [.agg (encTask t), .slice .unk (b.map encL)] σ (isR (.bool true) σ) := by
 refine ACalls.intro (rs := [(.tmp 4)]) (by kernel_rfl) { own := [], ghosts := [7], cold := [(12, 2), (12, 3)] } Tryz.func6 (c := Tryz.f6.body.getD .skip) (by kernel_rfl) (by decide) (by rw [show Tryz.f6.ntmps = 150 by kernel_rfl]; exact Nat.le_of_ble_eq_true rfl) (by kernel_rfl) ?_
 intro hσ hids
 rw [show comp Tryz.prog { own := [], ghosts := [7], cold := [(12, 2), (12, 3)] } (Tryz.f6.body.getD .skip) = c_law by kernel_rfl, show Tryz.f6.ntmps = 150 by kernel_rfl]
 unfold c_law
 have hLT : LT b := ⟨hb.1, fun s hs => by have := (hb.2 s hs).1; omega⟩
 have hb8 : ∀ s ∈ b, bigLen s.length 8 := fun s hs => ⟨(hb.2 s hs).1, by have := (hb.2 s hs).1; omega⟩
 have hib : Ids σ.length (.slice .unk (b.map encL)) := hids _ (by simp)
 simp only [go_sem, simprocAttr, encTask]
 refine ACalls.is (few17_spec t b _ _ ht hLT) ?_
 cases hfew : few17B t b
 ·simp only [go_sem, simprocAttr]
  refine (awake17_spec _).is ?_
  simp only [go_sem, simprocAttr]
  exact rt (.bool true) ⟨rfl, rfl⟩
 obtain ⟨hsz, hbn⟩ := few17_len hfew
 have hcb := CB_of17 (t := t) (by omega)
 have main : ∀ (sl : Slots), lk sl 1 = .slice .unk (b.map encL) → lk sl 2 = .ptr σ.length 0 → wpc Tryz.prog 150 σ.length r_law_0 (bodyK [.tmp 4] σ.length 150 (isR (.bool true) σ)) sl (σ ++ [AObj.row (encTask t)]) := by
  intro sl l1 l2
  have it : Ids 0 (.agg (encTask t)) := ids_agg (ids_encTask t)
  have ib : Ids 0 (.slice .unk (b.map encL)) := ids_map ids_encL b
  have ut := unf_task t
  have ub : Unf (.slice .unk (b.map encL)) := .map unf_encL b
  have a2 : ∀ x ∈ [AV.agg (encTask t), .slice .unk (b.map encL)], Ids 0 x := by intro x hx; simp at hx; rcases hx with rfl | rfl <;> assumption
  have a3 : ∀ x ∈ [AV.agg (encTask t), .slice .unk (b.map encL), .int .i64 0], Ids 0 x := by intro x hx; simp at hx; rcases hx with rfl | rfl | rfl <;> first | assumption | exact .int _ _
  have a1 : ∀ x ∈ [AV.agg (encTask t), .slice .nil (([] : List FLit).map encLit)], Ids 0 x := by intro x hx; simp at hx; rcases hx with rfl | rfl <;> first | assumption | exact ids_nil _ (by simp)
  have u2 : UnfL [AV.agg (encTask t), .slice .unk (b.map encL)] := .cons ut (.cons ub .nil)
  have u3 : UnfL [AV.agg (encTask t), .slice .unk (b.map encL), .int .i64 0] := .cons ut (.cons ub (.cons (.int _ _) .nil))
  have u1 : UnfL [AV.agg (encTask t), .slice .nil (([] : List FLit).map encLit)] := .cons ut (.cons Unf.nil .nil)
  have wApp := fun σ => (bapply_specF t b 0 .unk [] ht hLT).weak (Q := fun r => ∃ (ls : List (List Int)) (k : Bool) (e : Int), Small ls ∧ r = .tuple [.wslice (ls.map wL), .bool k, .int .i64 e]) (fun r σ' hr => by obtain ⟨rfl, _⟩ := hr; exact apply_wkn ht) a3 u3 σ
  have wRev := fun σ => (reveal_specF t b 0 .unk [] ht hLT).weak (Q := fun r => ∃ (x y : List (List Int)) (e : Int), Small x ∧ Small y ∧ r = .tuple [.wslice (x.map wL), .wslice (y.map wL), .int .i64 e]) (fun r σ' hr => by obtain ⟨rfl, _⟩ := hr; exact reveal_wkn) a3 u3 σ
  have wMak := fun σ => (bmake_specF t [] .nil [] ht (by simp)).weak (Q := fun r => ∃ (ls : List (List Int)) (e : Int), Small ls ∧ r = .tuple [.wslice (ls.map wL), .int .i64 e]) (fun r σ' hr => by obtain ⟨rfl, _⟩ := hr; exact make_wkn ht) a1 u1 σ
  have wKno := fun σ => (known_specF t b .unk [] ht hLT).weak (Q := fun r => ∃ (l : List FLit) (e : Int), l.length ≤ 1000 ∧ r = .tuple [.wslice (l.map wLit), .int .i64 e]) (fun r σ' hr => by obtain ⟨rfl, _⟩ := hr; exact known_wkn) a2 u2 σ
  have wFin := fun σ => (bfind_spec t b .unk [] ht hLT).weak (Q := FindW t b) (fun r σ' hr => find_wkn hr.1) a2 u2 σ
  have hfi := fun σ => bfind_spec t b .unk σ ht hLT
  have hcp := copyTask_spec t
  have hst := same01_self t
  simp only [encTask] at wApp wRev wMak wKno wFin hfi hcp hst
  have hLd : ∀ n k, IdsS (σ ++ ([AObj.row (encTask t), .row (encTask t), .grow 1 n] ++ List.replicate k AObj.dead)).length (σ ++ ([AObj.row (encTask t), .row (encTask t), .grow 1 n] ++ List.replicate k AObj.dead)) := fun n k => idsS_app _ hσ (by
   intro o ho
   simp only [List.cons_append, List.nil_append, List.mem_cons] at ho
   rcases ho with rfl | rfl | rfl | ho
   ·exact idsO_row (ids_encTask t)
   ·exact idsO_row (ids_encTask t)
   ·trivial
   ·rw [List.eq_of_mem_replicate ho]; trivial)
  have hL0 := fun n => hLd n 0
  have hL4 := hLd b.length 4
  have hL5 := hLd b.length 5
  have hrr : IdsS (σ ++ [AObj.row (encTask t), .row (encTask t)]).length (σ ++ [AObj.row (encTask t), .row (encTask t)]) := idsS_app _ hσ (all_cons' (idsO_row (ids_encTask t)) (all_cons' (idsO_row (ids_encTask t)) all_nil'))
  have hr1 := ids_grow hσ (ids_encTask t)
  simp only [List.replicate, List.cons_append, List.nil_append, List.append_nil, encTask] at hL0 hL4 hL5 hrr
  have hgh : Ghost σ.length 150 sl (σ ++ [AObj.row (encTask t)]) [(1, .slice .unk (b.map encL)), (2, .ptr σ.length 0)] (σ ++ [AObj.row (encTask t)]) :=
   Ghost.keepL0 [.row (encTask t)] rfl (Nat.le_refl _) ⟨⟨by rw [l1]; exact .refl _, ids_map ids_encL _⟩, ⟨by rw [l2]; exact .refl _, .ptr _ _ (by simp)⟩, trivial⟩ hr1
  rw [r_law_0]
  simp only [go_sem, simprocAttr]
  rw [wpc_ghost]
  refine ⟨_, _, hgh, ?_⟩
  simp only [go_sem, simprocAttr, encTask]
  refine (hcp _ hcb).is ?_
  simp only [go_sem, simprocAttr]
  refine wpc_while (fun (i : Nat) => [(8, .slice (.grow (σ.length + 2)) ((b.take i).map encLf)), (1, .slice .unk (b.map encL)), (2, .ptr σ.length 0), (7, .ptr (σ.length + 1) 0), (49, .slice .unk (b.map encL)), (50, .int .i64 b.length), (51, .int .i64 (i : Nat))]) (fun i => σ ++ [.row (encTask t), .row (encTask t), .grow 1 (b.take i).length]) (fun i => i ≤ b.length) (fun i => b.length - i) 0 (Nat.zero_le _) ?_ ?_
  ·(try dsimp only)
   simp only [encTask]
   exact Ghost.beginT (σ := σ) [.row _, .row _] 8 1 _ tellT hrr
  intro i hi K hK hE hR
  by_cases h : i < b.length
  ·obtain ⟨s, hx⟩ := get_ex h; have hlt : ((i : Int) < (b.length : Int)) := (by omega); have hw := wrapS (i := i) (by omega)
   have hc : (b.take i).map encLf ++ [[AV.slice .fresh (s.map Ahl.encI)]] = (b.take (i + 1)).map encLf := by rw [take_succ' hx, List.map_append]; rfl
   have hall : ∀ e ∈ s, (Ahl.encI e).length = 1 ∧ (Ahl.encI e).all AV.one = true := fun _ _ => ⟨rfl, rfl⟩
   have hl : (b.take i).length = i := List.length_take_of_le (by omega)
   have hl1 : (b.take (i + 1)).length = i + 1 := List.length_take_of_le (by omega)
   have hbig : bigLen (i + 1) 24 := big_ok (by omega) (by omega)
   have hbl := hb8 s (List.mem_of_getElem? hx)
   simp only [go_sem, simprocAttr, hlt, hx, encL, hbig, hl, hc, hbl]
   refine ⟨hall, ?_⟩
   refine hK _ _ (i + 1) (by omega) (by omega) ?_
   (try dsimp only)
   rw [hw, hl1]
   simp only [encTask]
   exact (by (try dsimp only); first | exact ghL (hL0 (i + 1)) | exact ghL0 (hL0 (i + 1)))
  have hlt : ¬ ((i : Int) < (b.length : Int)) := by omega
  rw [List.take_of_length_le (by omega)]
  simp only [go_sem, simprocAttr, hlt, hE, encTask]
  clear hK hE hR hlt h hi
  refine (wApp _).mono ?_
  rintro _ _ ⟨⟨ls, k1, e1, hls, rfl⟩, rfl⟩
  simp only [go_sem, simprocAttr]
  refine (spoil17_spec ls _ (by simp) (by have := hls.1; omega) (fun l hl => by have := hls.2 l hl; omega)).is ?_
  simp only [go_sem, simprocAttr, encTask]
  refine (wRev _).mono ?_
  rintro _ _ ⟨⟨x1, x2, e2, hx1, hx2, rfl⟩, rfl⟩
  simp only [go_sem, simprocAttr]
  refine (spoil17_spec x1 _ (by simp) (by have := hx1.1; omega) (fun l hl => by have := hx1.2 l hl; omega)).is ?_
  simp only [go_sem, simprocAttr]
  refine (spoil17_spec x2 _ (by simp) (by have := hx2.1; omega) (fun l hl => by have := hx2.2 l hl; omega)).is ?_
  simp only [go_sem, simprocAttr, encTask]
  refine (wMak _).mono ?_
  rintro _ _ ⟨⟨ms, e3, hms, rfl⟩, rfl⟩
  simp only [go_sem, simprocAttr]
  refine (spoil17_spec ms _ (by simp) (by have := hms.1; omega) (fun l hl => by have := hms.2 l hl; omega)).is ?_
  simp only [go_sem, simprocAttr, encTask]
  refine (wKno _).mono ?_
  rintro _ _ ⟨⟨kl, e4, hkl, rfl⟩, rfl⟩
  simp only [go_sem, simprocAttr]
  have hik : Ids (σ.length + 7) (.wslice (kl.map wLit)) := ids_wLit17 (by omega) kl
  refine wpc_while (fun (i : Nat) => [(1, .slice .unk (b.map encL)), (2, .ptr σ.length 0), (7, .ptr (σ.length + 1) 0), (8, .slice (.grow (σ.length + 2)) (b.map encLf)), (19, .wslice (kl.map wLit)), (95, .int .i64 kl.length), (96, .int .i64 (i : Nat))])
   (fun _ => σ ++ [.row (encTask t), .row (encTask t), .grow 1 b.length, .dead, .dead, .dead, .dead]) (fun i => i ≤ kl.length) (fun i => kl.length - i) 0 (Nat.zero_le _) (by simp only [encTask]; exact (by (try dsimp only); first | exact ghL (hL4) | exact ghL0 (hL4))) ?_
  intro i hi K hK hE hR
  by_cases h : i < kl.length
  ·obtain ⟨y, hx⟩ := get_ex h; have hlt : ((i : Int) < (kl.length : Int)) := (by omega); have hw := wrapS (i := i) (by omega)
   have hi0 : (0 : Int) ≤ (i : Int) := by omega
   simp only [go_sem, simprocAttr, hlt, hx, wLit, hi0, encTask]
   refine hK _ _ (i + 1) (by omega) (by omega) ?_
   simp only [encTask]
   exact (by (try dsimp only); (try simp only [ hw]); first | exact ghL (hL4) | exact ghL0 (hL4))
  have hlt : ¬ ((i : Int) < (kl.length : Int)) := by omega
  simp only [go_sem, simprocAttr, hlt, hE, encTask]
  clear hK hE hR hlt h hi
  refine (wFin _).mono ?_
  rintro _ _ ⟨⟨tok, p, n, e, hF1, hpl, rfl⟩, rfl⟩
  simp only [go_sem, simprocAttr]
  have hip : Ids (σ.length + 8) (.wslice (p.map wI)) := ids_wI17 (by omega) p
  refine wpc_while (fun (i : Nat) => [(1, .slice .unk (b.map encL)), (2, .ptr σ.length 0), (7, .ptr (σ.length + 1) 0), (8, .slice (.grow (σ.length + 2)) (b.map encLf)), (22, .wslice (p.map wI)), (24, .int .i64 e), (112, .int .i64 p.length), (113, .int .i64 (i : Nat))])
   (fun _ => σ ++ [.row (encTask t), .row (encTask t), .grow 1 b.length, .dead, .dead, .dead, .dead, .dead]) (fun i => i ≤ p.length) (fun i => p.length - i) 0 (Nat.zero_le _) (by simp only [encTask]; exact (by (try dsimp only); first | exact ghL (hL5) | exact ghL0 (hL5))) ?_
  intro i hi K hK hE hR
  by_cases h : i < p.length
  ·obtain ⟨y, hx⟩ := get_ex h; have hlt : ((i : Int) < (p.length : Int)) := (by omega); have hw := wrapS (i := i) (by omega)
   have hi0 : (0 : Int) ≤ (i : Int) := by omega
   simp only [go_sem, simprocAttr, hlt, hx, wI, hi0, encTask]
   refine hK _ _ (i + 1) (by omega) (by omega) ?_
   simp only [encTask]
   exact (by (try dsimp only); (try simp only [ hw]); first | exact ghL (hL5) | exact ghL0 (hL5))
  have hlt : ¬ ((i : Int) < (p.length : Int)) := by omega
  simp only [go_sem, simprocAttr, hlt, hE, encTask]
  clear hK hE hR hlt h hi
  refine ACalls.mono (hfi _) ?_
  rintro r _ ⟨hr, rfl⟩
  have hrr2 := hF1.uniq hr
  subst hrr2
  simp only [go_sem, simprocAttr, encTask]
  refine (hst _ hcb).is ?_
  simp only [go_sem, simprocAttr]
  refine (ACalls.wk (same17_selfT b (.grow (σ.length + 2)) .unk _ hLT) (.cons (Wk.lf _ _) (.cons (.refl _) .nil))).is ?_
  have eee : (e == e) = true := beq_self_eq_true _
  have ell : (((p.length : Nat) : Int) == ((p.length : Nat) : Int)) = true := beq_self_eq_true _
  simp only [go_sem, simprocAttr, eee, ell]
  refine (awake17_spec _).is ?_
  simp only [go_sem, simprocAttr]
  exact rt (.bool true) ⟨rfl, rfl⟩
 have e00 : ((0 : Int) == 0) = true := rfl
 simp only [go_sem, simprocAttr, encTask]
 refine ACalls.is (fault17_spec t b .unk _ ht hLT) ?_
 by_cases he : bErr t b = 0
 ·obtain ⟨hv, hbel⟩ := bErr_zero he
  have hVT := valid_VT ht hv
  have hbo := bel_ok hbel
  rw [he]
  simp only [go_sem, simprocAttr, e00, encTask]
  refine ACalls.mono (best17_spec t b 1500 .unk _ hv hVT hbo (by omega) (by omega)) ?_
  rintro r _ ⟨hr, rfl⟩
  rcases hr with rfl | ⟨all, d, rfl, _⟩
  ·simp only [go_sem, simprocAttr]
   refine (awake17_spec _).is ?_
   simp only [go_sem, simprocAttr]
   exact rt (.bool true) ⟨rfl, rfl⟩
  simp only [go_sem, simprocAttr]
  exact main _ rfl rfl
 ·have hg0 : (bErr t b == 0) = false := by simpa using he
  simp only [go_sem, simprocAttr, hg0]
  exact main _ rfl rfl
theorem rd_ints8 : Reads Tryz.prog 23 (Ahl.encS Ahl.encI) (okLB 8 okI) := by
 have h := Reads.sliceB (P := Tryz.prog) (f := Ahl.encI) Tryz.underlying23 (Nat.le_of_ble_eq_true (by kernel_rfl)) (Nat.le_of_ble_eq_true (by kernel_rfl)) rd_int
 rwa [show Tryz.prog.bytesOf 3 = 8 by kernel_rfl] at h
theorem rd_intss8 : Reads Tryz.prog 28 (Ahl.encS (Ahl.encS Ahl.encI)) (okL (okLB 8 okI)) := .slice Tryz.underlying28 (Nat.le_of_ble_eq_true (by kernel_rfl)) (Nat.le_of_ble_eq_true (by kernel_rfl)) rd_ints8
theorem ra_intss8 : RArg Tryz.prog 28 (fun l : List (List Int) => .slice .unk (l.map encL)) (okL (okLB 8 okI)) := .one rd_intss8 (by intro d h; rw [Tryz.underlying28] at h; injection h with h; subst h; rfl)
theorem law_reads : ReadsAll Tryz.prog Tryz.f6.params.toList (fun avs => ACalls Tryz.prog 6 avs [] (isR (.bool true) [])) := by
 rw [show Tryz.f6.params.toList = [27, 28] by kernel_rfl]
 exact .cons ra_task fun t ht => .cons ra_intss8 fun b hb => .nil (law_spec t b ht hb [])
set_option maxRecDepth 100000 in
theorem lifted (os : Os) (started : os.Started) (H : Type) (enc : TypeId × Value → H) :
  ReturnsInHanded {} Tryz.checked os 6 .any (Rows.beliefOwnSpec.pre6 enc Tryz.prog Tryz.f6 Rows.beliefOwnRow.domain false) (Rows.beliefOwnSpec.post enc Tryz.prog Tryz.f6 false true false false) := by
 refine returnsInHanded_of_change_sized (C := Tryz.checked) own started (by kernel_rfl) Tryz.func6
  (ChangeSpec.witness6 (enc := enc) (C := Tryz.checked) false ⟨#[], #[.agg #[.slice none 0 0, .slice none 0 0, .slice none 0 0, .slice none 0 0], .slice none 0 0], []⟩ 8 (by kernel_rfl) (by kernel_rfl) (by kernel_rfl) (by kernel_rfl)) ?_
 intro W base args ds gs before hval hW _ hsz _
 refine law_post (P := Tryz.prog) Tryz.func6 (by kernel_rfl) (by decide) rfl ?_ laidOut (rdble (by kernel_rfl)) (by kernel_rfl) Tryz.underlying4 law_reads hval hW hsz
 intro ds h
 rw [show Tryz.f6.params.size = 2 by kernel_rfl] at h
 match ds, h with
 | [a, b], _ => rfl
theorem holds : Rows.BeliefOwnSaid :=
 OpenClaim.holds_of_wide 6 Tryz.f6 rfl rfl rfl rfl rfl rfl rfl ⟨rfl, rfl, rfl, rfl, rfl⟩ rfl rfl rfl rfl rfl (by kernel_rfl) Tryz.func6 (by kernel_rfl)
  (of_decide_eq_true (by kernel_rfl)) (by unfold Func.isWrapper; first | (rw [if_pos (by decide +kernel)]; kernel_rfl) | (rw [if_neg (by decide +kernel)]; exact ⟨rfl, rfl⟩))
  (fun os started H enc _ => lifted os started H enc)
end Go.Proofs.YtcjgoomlaojljaaGreat
