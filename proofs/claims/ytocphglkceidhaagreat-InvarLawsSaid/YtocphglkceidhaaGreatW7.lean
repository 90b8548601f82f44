/- For every task, clauses and plan (within the bounds that the statement itself names) the law InvarLaws returns true and does not panic; no further condition. -/
import Derived.Test.YtocphglkceidhaaGreatBase6
set_option linter.unusedVariables false
set_option linter.unusedSimpArgs false
namespace Go.Proofs.YtocphglkceidhaaGreat
open Go.Ahl Go.ChangeShapes Go.WideShapes Go.ChangeAt Go.RowKit
instance : IdE encF := ⟨fun _ => ids_encF⟩
/-- Is a clause in a list? -/
def inB (m : List (List FLit)) (x : List FLit) : Bool := m.any fun y => decide (x = y)
def c_inside : CCode := .seq (.ops [⟨some 4, .move (.lit (.bool false)), none, []⟩]) (.seq (.seq (.ops [⟨some 10, .move (.tmp 0), none, []⟩, ⟨some 11, .blen 1 (.tmp 10), none, []⟩, ⟨some 12, .move (.lit (.int .i64 0)), none, []⟩]) (.block 0 (.loop (.seq (.ops [⟨some 13, .bin .lss .none (.tmp 12) (.tmp 11), none, []⟩]) (.seq (.cond (.tmp 13) .skip (.exit 0)) (.seq (.block 1 (.seq (.ops [⟨some 14, .iaddr 1 (.tmp 10) (.tmp 12), none, []⟩, ⟨some 15, .load none (.tmp 14), none, []⟩, ⟨some 6, .move (.tmp 15), none, []⟩]) (.seq (.ops [⟨some 7, .move (.lit (.bool false)), none, []⟩]) (.seq (.seq (.ops [⟨some 16, .move (.tmp 1), none, []⟩, ⟨some 17, .blen 1 (.tmp 16), none, []⟩, ⟨some 18, .move (.lit (.int .i64 0)), none, []⟩]) (.block 2 (.loop (.seq (.ops [⟨some 19, .bin .lss .none (.tmp 18) (.tmp 17), none, []⟩]) (.seq (.cond (.tmp 19) .skip (.exit 2)) (.seq (.block 3 (.seq (.ops [⟨some 20, .iaddr 1 (.tmp 16) (.tmp 18), none, []⟩, ⟨some 21, .load none (.tmp 20), none, []⟩, ⟨some 9, .move (.tmp 21), none, []⟩]) (.ops [⟨some 22, .move (.tmp 7), none, []⟩, ⟨some 23, .move (.tmp 22), none, []⟩, ⟨some 24, .move (.tmp 6), some (some 23, false), []⟩, ⟨some 25, .move (.tmp 9), some (some 23, false), []⟩, ⟨some 26, .call (.lit (.func 61 [])) [.tmp 24, .tmp 25], some (some 23, false), []⟩, ⟨some 27, .pick (.tmp 23) (.lit (.bool true)) (.tmp 26), none, []⟩, ⟨some 7, .move (.tmp 27), none, []⟩]))) (.ops [⟨some 28, .bin .add .none (.tmp 18) (.lit (.int .i64 1)), none, []⟩, ⟨some 18, .move (.tmp 28), none, []⟩]))))))) (.seq (.ops [⟨some 29, .move (.tmp 7), none, []⟩, ⟨some 30, .un .not (.tmp 29), none, []⟩]) (.cond (.tmp 30) (.seq (.ops [⟨some 4, .move (.lit (.bool false)), none, []⟩]) .ret) .skip)))))) (.ops [⟨some 31, .bin .add .none (.tmp 12) (.lit (.int .i64 1)), none, []⟩, ⟨some 12, .move (.tmp 31), none, []⟩]))))))) (.seq (.ops [⟨some 4, .move (.lit (.bool true)), none, []⟩]) .ret))
set_option maxRecDepth 20000 in
theorem inside_spec (l m : List (List FLit)) (tok tok' : Tok) (σ : Store) (hl : FB l) (hm : FB m) :
    ACalls Tryz.prog 30 [.slice tok (l.map encC), .slice tok' (m.map encC)] σ (isR (.bool (l.all (inB m))) σ) := by
  refine ACalls.intro (rs := [(.tmp 4)]) (by kernel_rfl) { own := [], ghosts := [] } Tryz.func30 (c := Tryz.f30.body.getD .skip) (by kernel_rfl) (by decide) (by rw [show Tryz.f30.ntmps = 32 by kernel_rfl]; exact Nat.le_of_ble_eq_true rfl) (by kernel_rfl) ?_
  intro hσ hids
  rw [show comp Tryz.prog { own := [], ghosts := [] } (Tryz.f30.body.getD .skip) = c_inside by kernel_rfl, show Tryz.f30.ntmps = 32 by kernel_rfl]
  unfold c_inside
  have hil : Ids σ.length (.slice tok (l.map encC)) := hids _ (by simp)
  have him : Ids σ.length (.slice tok' (m.map encC)) := hids _ (by simp)
  have hl1 := hl.1
  have hm1 := hm.1
  simp only [go_sem, Int.reduceToNat, Int.reduceLE, Int.reduceLT, Nat.reduceBEq, Nat.reduceLT, Nat.reduceAdd, Nat.reduceLeDiff]
  refine wpc_while (fun (i : Nat) => [(1, .slice tok' (m.map encC)), (10, .slice tok (l.map encC)), (11, .int .i64 l.length), (12, .int .i64 (i : Nat))]) (fun _ => σ) (fun i => i ≤ l.length ∧ l.all (inB m) = (l.drop i).all (inB m)) (fun i => l.length - i) 0 ⟨Nat.zero_le _, rfl⟩ (by (try dsimp only); first | exact ghk | exact ghk0) ?_
  rintro i ⟨hi, hv⟩ K hK hE hR
  by_cases h : i < l.length
  · obtain ⟨x, hx⟩ := get_ex h; have hlt : ((i : Int) < (l.length : Int)) := (by omega); have hw : IntKind.i64.wrap ((i : Int) + 1) = ((i + 1 : Nat) : Int) := (by rw [wrap_ok (by omega)]; omega)
    rw [drop_cons hx, List.all_cons] at hv
    simp only [go_sem, Int.reduceToNat, Int.reduceLE, Int.reduceLT, Nat.reduceBEq, Nat.reduceLT, Nat.reduceAdd, Nat.reduceLeDiff, hlt, hx, encC]
    refine wpc_while (fun (j : Nat) => [(1, .slice tok' (m.map encC)), (6, .slice .unk (x.map encLit)), (7, .bool ((m.take j).any fun y => decide (x = y))), (10, .slice tok (l.map encC)), (11, .int .i64 l.length), (12, .int .i64 (i : Nat)), (16, .slice tok' (m.map encC)), (17, .int .i64 m.length), (18, .int .i64 (j : Nat))]) (fun _ => σ) (fun j => j ≤ m.length) (fun j => m.length - j) 0 (Nat.zero_le _) (by (try dsimp only); first | exact ghk | exact ghk0) ?_
    intro j hj' K' hK' hE' hR'
    by_cases hj : j < m.length
    · obtain ⟨y, hxj⟩ := get_ex hj; have hltj : ((j : Int) < (m.length : Int)) := (by omega); have hwj : IntKind.i64.wrap ((j : Int) + 1) = ((j + 1 : Nat) : Int) := (by rw [wrap_ok (by omega)]; omega)
      have hta : (m.take (j + 1)).any (fun y => decide (x = y)) = ((m.take j).any (fun y => decide (x = y)) || decide (x = y)) := by rw [take_succ' hxj, List.any_append]; simp
      cases hb : (m.take j).any (fun y => decide (x = y))
      · simp only [go_sem, Int.reduceToNat, Int.reduceLE, Int.reduceLT, Nat.reduceBEq, Nat.reduceLT, Nat.reduceAdd, Nat.reduceLeDiff, hltj, hxj, encC]
        refine (sameLits_spec x y .unk .unk _ (hl.2 x (List.mem_of_getElem? hx)) (hm.2 y (List.mem_of_getElem? hxj))).is ?_
        rw [hb, Bool.false_or] at hta
        simp only [go_sem, Int.reduceToNat, Int.reduceLE, Int.reduceLT, Nat.reduceBEq, Nat.reduceLT, Nat.reduceAdd, Nat.reduceLeDiff]
        rw [← hta]
        refine hK' _ _ (j + 1) (by omega) (by omega) ?_
        exact (by (try dsimp only); (try simp only [hwj]); first | exact ghk | exact ghk0)
      · simp only [go_sem, Int.reduceToNat, Int.reduceLE, Int.reduceLT, Nat.reduceBEq, Nat.reduceLT, Nat.reduceAdd, Nat.reduceLeDiff, hltj, hxj, encC]
        rw [hb, Bool.true_or] at hta
        rw [← hta]
        refine hK' _ _ (j + 1) (by omega) (by omega) ?_
        exact (by (try dsimp only); (try simp only [hwj]); first | exact ghk | exact ghk0)
    · have hltj : ¬ ((j : Int) < (m.length : Int)) := by omega
      have hta : (m.take j) = m := List.take_of_length_le (by omega)
      rw [hta]
      cases hb : m.any (fun y => decide (x = y))
      · simp only [go_sem, Int.reduceToNat, Int.reduceLE, Int.reduceLT, Nat.reduceBEq, Nat.reduceLT, Nat.reduceAdd, Nat.reduceLeDiff, hltj, hE', hR]
        have : l.all (inB m) = false := by rw [hv]; unfold inB; rw [hb]; rfl
        first | exact rtk (.bool false) ⟨by rw [this], rfl⟩ | exact rtk0 (.bool false) ⟨by rw [this], rfl⟩
      · simp only [go_sem, Int.reduceToNat, Int.reduceLE, Int.reduceLT, Nat.reduceBEq, Nat.reduceLT, Nat.reduceAdd, Nat.reduceLeDiff, hltj, hE']
        have hv2 : l.all (inB m) = (l.drop (i + 1)).all (inB m) := by rw [hv]; unfold inB; rw [hb]; rfl
        refine hK _ _ (i + 1) (⟨by omega, hv2⟩) (by first | omega | (simp only []; omega) | (simp; omega)) ?_; (try dsimp only); (try simp only [ hw]); first | exact ghk | exact ghk0
  · have hlt : ¬ ((i : Int) < (l.length : Int)) := by omega
    rw [drop_len h, List.all_nil] at hv
    simp only [go_sem, Int.reduceToNat, Int.reduceLE, Int.reduceLT, Nat.reduceBEq, Nat.reduceLT, Nat.reduceAdd, Nat.reduceLeDiff, hlt, hE]
    first | exact rtk (.bool true) ⟨by rw [hv], rfl⟩ | exact rtk0 (.bool true) ⟨by rw [hv], rfl⟩
theorem clE_of {t : FTask} {l : List (List FLit)} (hv : validB t = true) (h : l.length ≤ 2000) (hf : vF t.facts.length l) : clE t l = 0 := by
  unfold clE isClauses
  rw [hv, if_pos rfl, decide_eq_true h, Bool.true_and, show formB (t.facts.length : Int) l = true from List.all_eq_true.2 hf]; rfl
theorem pairs_len2 (t : FTask) (h : t.facts.length ≤ 12) : (leanL [] (largeL t (singles (2 * t.facts.length) ++ pairsL (2 * t.facts.length)))).length ≤ 2000 ∧
    (∀ c ∈ leanL [] (largeL t (singles (2 * t.facts.length) ++ pairsL (2 * t.facts.length))), c ∈ singles (2 * t.facts.length) ++ pairsL (2 * t.facts.length)) ∧
    ∀ c ∈ largeL t (singles (2 * t.facts.length) ++ pairsL (2 * t.facts.length)), c.length = 1 ∨ c.length = 2 := by
  obtain ⟨q1, q2⟩ := largeL_sub t (singles (2 * t.facts.length) ++ pairsL (2 * t.facts.length))
  obtain ⟨q3, q4⟩ := leanL_sub (largeL t (singles (2 * t.facts.length) ++ pairsL (2 * t.facts.length))) []
  have h1 := belowL_len (2 * t.facts.length) (2 * t.facts.length)
  have h2 : (2 * t.facts.length) * (2 * t.facts.length) ≤ 24 * 24 := Nat.mul_le_mul (by omega) (by omega)
  have h3 : (singles (2 * t.facts.length) ++ pairsL (2 * t.facts.length)).length ≤ 1000 := by
    rw [List.length_append]
    rw [show pairsL (2 * t.facts.length) = belowL (2 * t.facts.length) (2 * t.facts.length) from rfl]
    have : (singles (2 * t.facts.length)).length = 2 * t.facts.length := by simp [singles]
    omega
  refine ⟨by simp only [List.length_nil] at q3; omega, fun c hc => ?_, fun c hc => ?_⟩
  · rcases q4 c hc with h | h
    · simp at h
    · exact q2 c h
  · rcases List.mem_append.1 (q2 c hc) with h | h
    · obtain ⟨i, _, rfl⟩ := List.mem_map.1 h; exact .inl (by simp)
    · obtain ⟨i, _, hi⟩ := List.mem_flatMap.1 h
      obtain ⟨k, _, _, _, rfl⟩ := pairsFrom_mem.1 hi; exact .inr (by simp)
theorem vF_FB {n : Nat} (hn : n ≤ 12) {l : List (List FLit)} (hl : l.length ≤ 2000) (h : vF (n : Int) l) : FB l := by
  refine ⟨by omega, fun c hc => ?_⟩
  rcases condB_len (h c hc) with rfl | q
  · simp
  · omega
theorem insL_foldsV : ∀ (l out : List (List Int)), (l.foldl insL out).length = out.length + l.length
  | [], out => by simp
  | x :: l, out => by
    have hi : insAt out x ≤ out.length := by
      unfold insAt; exact (List.takeWhile_sublist _).length_le
    rw [List.foldl_cons, insL_foldsV l]
    unfold insL
    rw [List.length_append, List.length_append, List.length_take, List.length_drop, List.length_singleton, List.length_cons]; omega
theorem groups_len (n : Nat) (f : List (List FLit)) (h8 : n ≤ 8) : (groupsL n f).length ≤ 1000000 := by
  have h256 : (2 : Nat) ^ n ≤ 2 ^ 8 := Nat.pow_le_pow_right (by omega) h8
  have h1 := insL_foldsV ((statesL n).filter (isGroupB n f)) []
  have h2 := List.length_filter_le (isGroupB n f) (statesL n)
  have h3 : (groupsL n f).length = ((statesL n).filter (isGroupB n f)).length := by
    unfold groupsL; rw [h1]; simp
  rw [statesL_len] at h2; omega
theorem groups_le {n : Nat} {f : List (List FLit)} {g : List Int} (hg : g ∈ groupsL n f) : g.length ≤ n := by
  obtain ⟨q1, q2⟩ := insAll ((statesL n).filter (isGroupB n f)) [] (by simp) ((statesL_nodup _).filter _) (by simp)
  rcases (q2 g).1 hg with h | h
  · exact (statesL_mem n g (List.mem_filter.1 h).1).1
  · simp at h
def d_law_0 : List COp := [⟨some 127, .load (some 4) (.tmp 4), none, []⟩, ⟨some 128, .move (.tmp 1), none, []⟩, ⟨some 129, .bappend 1 24 (.lit (.slice .nil [])) (.tmp 128) false, none, [1]⟩, ⟨some 130, .move (.tmp 2), none, []⟩, ⟨some 131, .bappend 1 24 (.tmp 129) (.tmp 130) false, none, [2, 3, 2]⟩, ⟨some 132, .call (.lit (.func 14 [])) [.tmp 127, .tmp 131], none, [0, 4, 4]⟩, ⟨some 126, .move (.tmp 132), none, [5]⟩, ⟨some 133, .extract (.tmp 126) 0, none, [6]⟩, ⟨some 134, .extract (.tmp 126) 1, none, [6]⟩, ⟨some 23, .move (.tmp 133), none, [7, 5, 0, 1, 2, 3, 4, 5, 6, 7]⟩, ⟨some 24, .move (.tmp 134), none, [8, 9, 0, 1, 2, 3, 4, 5, 6, 7, 8, 9]⟩]
theorem dr_law_0 (P : Program) (nt n0 : Nat) (Q : Post) (s : Slots) (σ : Store) : wpc P nt n0 (.drawU d_law_0 [[2, 4], [], [0], [], [0], [], [], [], [], [], []]) Q s σ = aOpsU P nt [⟨some 127, .load (some 4) (.tmp 4), none, []⟩, ⟨some 128, .move (.tmp 1), none, []⟩, ⟨some 129, .bappend 1 24 (.lit (.slice .nil [])) (.tmp 128) false, none, [1]⟩, ⟨some 130, .move (.tmp 2), none, []⟩, ⟨some 131, .bappend 1 24 (.tmp 129) (.tmp 130) false, none, [2, 3, 2]⟩, ⟨some 132, .call (.lit (.func 14 [])) [.tmp 127, .tmp 131], none, [0, 4, 4]⟩, ⟨some 126, .move (.tmp 132), none, [5]⟩, ⟨some 133, .extract (.tmp 126) 0, none, [6]⟩, ⟨some 134, .extract (.tmp 126) 1, none, [6]⟩, ⟨some 23, .move (.tmp 133), none, [7, 5, 0, 1, 2, 3, 4, 5, 6, 7]⟩, ⟨some 24, .move (.tmp 134), none, [8, 9, 0, 1, 2, 3, 4, 5, 6, 7, 8, 9]⟩] [[2, 4], [], [0], [], [0], [], [], [], [], [], []] 0 [] [] (Q .normal) s σ := wpc_drawU _ _ (by decide)
def c_law : CCode := .seq (.ops [⟨some 4, .box (.tmp 0), none, []⟩, ⟨some 8, .move (.lit (.bool false)), none, []⟩]) (.seq (.seq (.ops [⟨some 39, .load (some 4) (.tmp 4), none, []⟩, ⟨some 40, .move (.tmp 1), none, []⟩, ⟨some 41, .move (.tmp 2), none, []⟩, ⟨some 42, .bsliceC 1 [.tmp 40, .tmp 41], none, []⟩, ⟨some 43, .call (.lit (.func 8 [])) [.tmp 39, .tmp 42], none, []⟩, ⟨some 44, .un .not (.tmp 43), none, []⟩, ⟨some 45, .move (.tmp 44), none, []⟩, ⟨some 46, .move (.tmp 3), some (some 45, false), []⟩, ⟨some 47, .blen 1 (.tmp 46), some (some 45, false), []⟩, ⟨some 48, .bin .gtr .none (.tmp 47) (.lit (.int .i64 60)), some (some 45, false), []⟩, ⟨some 49, .pick (.tmp 45) (.lit (.bool true)) (.tmp 48), none, []⟩, ⟨some 50, .move (.tmp 49), none, []⟩, ⟨some 51, .load (some 4) (.tmp 4), some (some 50, false), []⟩, ⟨some 52, .move (.tmp 1), some (some 50, false), []⟩, ⟨some 53, .move (.tmp 2), some (some 50, false), []⟩, ⟨some 54, .bsliceC 1 [.tmp 52, .tmp 53], some (some 50, false), []⟩, ⟨some 55, .call (.lit (.func 11 [])) [.tmp 51, .tmp 54], some (some 50, false), []⟩, ⟨some 56, .bin .neq .none (.tmp 55) (.lit (.int .i64 0)), some (some 50, false), []⟩, ⟨some 57, .pick (.tmp 50) (.lit (.bool true)) (.tmp 56), none, []⟩]) (.cond (.tmp 57) (.seq (.ops [⟨some 58, .call (.lit (.func 9 [])) [], none, []⟩, ⟨some 8, .move (.tmp 58), none, []⟩]) .ret) .skip)) (.seq (.ops [⟨some 60, .load (some 4) (.tmp 4), none, []⟩, ⟨some 61, .move (.tmp 1), none, []⟩, ⟨some 62, .call (.lit (.func 14 [])) [.tmp 60, .tmp 61], none, []⟩, ⟨some 59, .move (.tmp 62), none, []⟩, ⟨some 63, .extract (.tmp 59) 0, none, []⟩, ⟨some 64, .extract (.tmp 59) 1, none, []⟩, ⟨some 9, .move (.tmp 63), none, []⟩, ⟨some 10, .move (.tmp 64), none, []⟩]) (.seq (.ops [⟨some 66, .load (some 4) (.tmp 4), none, []⟩, ⟨some 67, .move (.tmp 2), none, []⟩, ⟨some 68, .call (.lit (.func 14 [])) [.tmp 66, .tmp 67], none, []⟩, ⟨some 65, .move (.tmp 68), none, []⟩, ⟨some 69, .extract (.tmp 65) 0, none, []⟩, ⟨some 70, .extract (.tmp 65) 1, none, []⟩, ⟨some 11, .move (.tmp 69), none, []⟩, ⟨some 12, .move (.tmp 70), none, []⟩]) (.seq (.ops [⟨some 72, .load (some 4) (.tmp 4), none, []⟩, ⟨some 73, .call (.lit (.func 15 [])) [.tmp 72], none, []⟩, ⟨some 71, .move (.tmp 73), none, []⟩, ⟨some 74, .extract (.tmp 71) 0, none, []⟩, ⟨some 75, .extract (.tmp 71) 1, none, []⟩, ⟨some 13, .move (.tmp 74), none, []⟩, ⟨some 14, .move (.tmp 75), none, []⟩]) (.seq (.seq (.ops [⟨some 76, .move (.tmp 10), none, []⟩, ⟨some 77, .bin .neq .none (.tmp 76) (.lit (.int .i64 0)), none, []⟩, ⟨some 78, .move (.tmp 77), none, []⟩, ⟨some 79, .move (.tmp 12), some (some 78, false), []⟩, ⟨some 80, .bin .neq .none (.tmp 79) (.lit (.int .i64 0)), some (some 78, false), []⟩, ⟨some 81, .pick (.tmp 78) (.lit (.bool true)) (.tmp 80), none, []⟩, ⟨some 82, .move (.tmp 81), none, []⟩, ⟨some 83, .move (.tmp 14), some (some 82, false), []⟩, ⟨some 84, .bin .neq .none (.tmp 83) (.lit (.int .i64 0)), some (some 82, false), []⟩, ⟨some 85, .pick (.tmp 82) (.lit (.bool true)) (.tmp 84), none, []⟩]) (.cond (.tmp 85) (.seq (.ops [⟨some 8, .move (.lit (.bool false)), none, []⟩]) .ret) .skip)) (.seq (.seq (.ops [⟨some 86, .move (.tmp 9), none, []⟩, ⟨some 87, .move (.tmp 11), none, []⟩, ⟨some 88, .move (.tmp 13), none, []⟩, ⟨some 89, .move (.tmp 9), none, []⟩, ⟨some 90, .bappend 1 24 (.lit (.slice .nil [])) (.tmp 89) false, none, []⟩, ⟨some 91, .move (.tmp 11), none, []⟩, ⟨some 92, .bappend 1 24 (.tmp 90) (.tmp 91) false, none, []⟩, ⟨some 93, .bsliceC 1 [.tmp 86, .tmp 87, .tmp 88, .tmp 92], none, []⟩, ⟨some 94, .blen 1 (.tmp 93), none, []⟩, ⟨some 95, .move (.lit (.int .i64 0)), none, []⟩]) (.block 0 (.loop (.seq (.ops [⟨some 96, .bin .lss .none (.tmp 95) (.tmp 94), none, []⟩]) (.seq (.cond (.tmp 96) .skip (.exit 0)) (.seq (.block 1 (.seq (.ops [⟨some 97, .iaddr 1 (.tmp 93) (.tmp 95), none, []⟩, ⟨some 98, .load none (.tmp 97), none, []⟩, ⟨some 16, .move (.tmp 98), none, []⟩]) (.seq (.ops [⟨some 100, .load (some 4) (.tmp 4), none, []⟩, ⟨some 101, .move (.tmp 16), none, []⟩, ⟨some 102, .call (.lit (.func 22 [])) [.tmp 100, .tmp 101], none, []⟩, ⟨some 99, .move (.tmp 102), none, []⟩, ⟨some 103, .extract (.tmp 99) 0, none, []⟩, ⟨some 104, .extract (.tmp 99) 1, none, []⟩, ⟨some 17, .move (.tmp 103), none, []⟩, ⟨some 18, .move (.tmp 104), none, []⟩]) (.seq (.ops [⟨some 105, .move (.tmp 18), none, []⟩, ⟨some 106, .bin .neq .none (.tmp 105) (.lit (.int .i64 0)), none, []⟩, ⟨some 107, .move (.tmp 106), none, []⟩, ⟨some 108, .move (.tmp 17), some (some 107, false), []⟩, ⟨some 109, .un .not (.tmp 108), some (some 107, false), []⟩, ⟨some 110, .pick (.tmp 107) (.lit (.bool true)) (.tmp 109), none, []⟩]) (.cond (.tmp 110) (.seq (.ops [⟨some 8, .move (.lit (.bool false)), none, []⟩]) .ret) .skip))))) (.ops [⟨some 111, .bin .add .none (.tmp 95) (.lit (.int .i64 1)), none, []⟩, ⟨some 95, .move (.tmp 111), none, []⟩]))))))) (.seq (.seq (.ops [⟨some 112, .move (.tmp 1), none, []⟩, ⟨some 113, .move (.tmp 2), none, []⟩, ⟨some 114, .bsliceC 1 [.tmp 112, .tmp 113], none, []⟩, ⟨some 115, .blen 1 (.tmp 114), none, []⟩, ⟨some 116, .move (.lit (.int .i64 0)), none, []⟩]) (.block 2 (.loop (.seq (.ops [⟨some 117, .bin .lss .none (.tmp 116) (.tmp 115), none, []⟩]) (.seq (.cond (.tmp 117) .skip (.exit 2)) (.seq (.block 3 (.seq (.ops [⟨some 118, .iaddr 1 (.tmp 114) (.tmp 116), none, []⟩, ⟨some 119, .load none (.tmp 118), none, []⟩, ⟨some 20, .move (.tmp 119), none, []⟩]) (.seq (.ops [⟨some 121, .load (some 4) (.tmp 4), none, []⟩, ⟨some 122, .move (.tmp 20), none, []⟩, ⟨some 123, .call (.lit (.func 22 [])) [.tmp 121, .tmp 122], none, []⟩, ⟨some 120, .move (.tmp 123), none, []⟩, ⟨some 124, .extract (.tmp 120) 0, none, []⟩, ⟨some 125, .extract (.tmp 120) 1, none, []⟩, ⟨some 21, .move (.tmp 124), none, []⟩, ⟨some 22, .move (.tmp 125), none, []⟩]) (.seq (.drawU d_law_0 [[2, 4], [], [0], [], [0], [], [], [], [], [], []]) (.seq (.ops [⟨some 135, .move (.tmp 22), none, []⟩, ⟨some 136, .bin .neq .none (.tmp 135) (.lit (.int .i64 0)), none, []⟩, ⟨some 137, .move (.tmp 136), none, []⟩, ⟨some 138, .move (.tmp 24), some (some 137, false), []⟩, ⟨some 139, .bin .neq .none (.tmp 138) (.lit (.int .i64 0)), some (some 137, false), []⟩, ⟨some 140, .pick (.tmp 137) (.lit (.bool true)) (.tmp 139), none, []⟩, ⟨some 141, .move (.tmp 140), none, []⟩, ⟨some 142, .move (.tmp 21), some (some 141, false), []⟩, ⟨some 143, .move (.tmp 142), some (some 141, false), []⟩, ⟨some 144, .move (.tmp 20), some (some 143, true), []⟩, ⟨some 145, .move (.tmp 23), some (some 143, true), []⟩, ⟨some 146, .call (.lit (.func 30 [])) [.tmp 144, .tmp 145], some (some 143, true), []⟩, ⟨some 147, .un .not (.tmp 146), some (some 143, true), []⟩, ⟨some 148, .pick (.tmp 143) (.tmp 147) (.lit (.bool false)), some (some 141, false), []⟩, ⟨some 149, .pick (.tmp 141) (.lit (.bool true)) (.tmp 148), none, []⟩]) (.cond (.tmp 149) (.seq (.ops [⟨some 8, .move (.lit (.bool false)), none, []⟩]) .ret) .skip)))))) (.ops [⟨some 150, .bin .add .none (.tmp 116) (.lit (.int .i64 1)), none, []⟩, ⟨some 116, .move (.tmp 150), none, []⟩]))))))) (.seq (.ops [⟨some 152, .load (some 4) (.tmp 4), none, []⟩, ⟨some 153, .move (.tmp 13), none, []⟩, ⟨some 154, .call (.lit (.func 10 [])) [.tmp 152, .tmp 153], none, []⟩, ⟨some 151, .move (.tmp 154), none, []⟩, ⟨some 155, .extract (.tmp 151) 0, none, []⟩, ⟨some 156, .extract (.tmp 151) 1, none, []⟩, ⟨some 25, .move (.tmp 155), none, []⟩, ⟨some 10, .move (.tmp 156), none, []⟩]) (.seq (.ops [⟨some 158, .load (some 4) (.tmp 4), none, []⟩, ⟨some 159, .faddr 1 (.tmp 4), none, []⟩, ⟨some 160, .load none (.tmp 159), none, []⟩, ⟨some 161, .move (.tmp 3), none, []⟩, ⟨some 162, .call (.lit (.func 31 [])) [.tmp 158, .tmp 160, .tmp 161], none, []⟩, ⟨some 157, .move (.tmp 162), none, []⟩, ⟨some 163, .extract (.tmp 157) 0, none, []⟩, ⟨some 164, .extract (.tmp 157) 1, none, []⟩, ⟨some 165, .extract (.tmp 157) 2, none, []⟩, ⟨some 26, .alloc (.agg [.slice .nil [], .int .i64 0, .bool false]), none, []⟩, ⟨none, .store 3 (.tmp 26) (.tmp 163), none, []⟩, ⟨some 27, .move (.tmp 164), none, []⟩, ⟨some 12, .move (.tmp 165), none, []⟩]) (.seq (.seq (.ops [⟨some 166, .move (.tmp 10), none, []⟩, ⟨some 167, .bin .neq .none (.tmp 166) (.lit (.int .i64 0)), none, []⟩, ⟨some 168, .move (.tmp 167), none, []⟩, ⟨some 169, .move (.tmp 12), some (some 168, false), []⟩, ⟨some 170, .bin .neq .none (.tmp 169) (.lit (.int .i64 0)), some (some 168, false), []⟩, ⟨some 171, .pick (.tmp 168) (.lit (.bool true)) (.tmp 170), none, []⟩]) (.cond (.tmp 171) (.seq (.ops [⟨some 172, .move (.tmp 10), none, []⟩, ⟨some 173, .bin .eql .none (.tmp 172) (.lit (.int .i64 0)), none, []⟩, ⟨some 174, .move (.tmp 173), none, []⟩, ⟨some 175, .call (.lit (.func 9 [])) [], some (some 174, true), []⟩, ⟨some 176, .pick (.tmp 174) (.tmp 175) (.lit (.bool false)), none, []⟩, ⟨some 8, .move (.tmp 176), none, []⟩]) .ret) .skip)) (.seq (.seq (.ops [⟨some 177, .faddr 0 (.tmp 26), none, []⟩, ⟨some 178, .load none (.tmp 177), none, []⟩, ⟨some 179, .blen 1 (.tmp 178), none, []⟩, ⟨some 180, .move (.lit (.int .i64 0)), none, []⟩]) (.block 4 (.loop (.seq (.ops [⟨some 181, .bin .lss .none (.tmp 180) (.tmp 179), none, []⟩]) (.seq (.cond (.tmp 181) .skip (.exit 4)) (.seq (.block 5 (.seq (.ops [⟨some 182, .iaddr 1 (.tmp 178) (.tmp 180), none, []⟩, ⟨some 183, .load none (.tmp 182), none, []⟩, ⟨some 29, .move (.tmp 183), none, []⟩]) (.seq (.ops [⟨some 185, .load (some 4) (.tmp 4), none, []⟩, ⟨some 186, .move (.tmp 29), none, []⟩, ⟨some 187, .move (.tmp 13), none, []⟩, ⟨some 188, .call (.lit (.func 25 [])) [.tmp 185, .tmp 186, .tmp 187], none, []⟩, ⟨some 184, .move (.tmp 188), none, []⟩, ⟨some 189, .extract (.tmp 184) 0, none, []⟩, ⟨some 190, .extract (.tmp 184) 1, none, []⟩, ⟨some 30, .move (.tmp 189), none, []⟩, ⟨some 31, .move (.tmp 190), none, []⟩]) (.seq (.ops [⟨some 192, .load (some 4) (.tmp 4), none, []⟩, ⟨some 193, .move (.tmp 29), none, []⟩, ⟨some 194, .move (.tmp 9), none, []⟩, ⟨some 195, .call (.lit (.func 25 [])) [.tmp 192, .tmp 193, .tmp 194], none, []⟩, ⟨some 191, .move (.tmp 195), none, []⟩, ⟨some 196, .extract (.tmp 191) 0, none, []⟩, ⟨some 197, .extract (.tmp 191) 1, none, []⟩, ⟨some 32, .move (.tmp 196), none, []⟩, ⟨some 33, .move (.tmp 197), none, []⟩]) (.seq (.seq (.ops [⟨some 198, .move (.tmp 31), none, []⟩, ⟨some 199, .bin .neq .none (.tmp 198) (.lit (.int .i64 0)), none, []⟩, ⟨some 200, .move (.tmp 199), none, []⟩, ⟨some 201, .move (.tmp 33), some (some 200, false), []⟩, ⟨some 202, .bin .neq .none (.tmp 201) (.lit (.int .i64 0)), some (some 200, false), []⟩, ⟨some 203, .pick (.tmp 200) (.lit (.bool true)) (.tmp 202), none, []⟩, ⟨some 204, .move (.tmp 203), none, []⟩, ⟨some 205, .move (.tmp 30), some (some 204, false), []⟩, ⟨some 206, .un .not (.tmp 205), some (some 204, false), []⟩, ⟨some 207, .pick (.tmp 204) (.lit (.bool true)) (.tmp 206), none, []⟩, ⟨some 208, .move (.tmp 207), none, []⟩, ⟨some 209, .move (.tmp 32), some (some 208, false), []⟩, ⟨some 210, .un .not (.tmp 209), some (some 208, false), []⟩, ⟨some 211, .pick (.tmp 208) (.lit (.bool true)) (.tmp 210), none, []⟩]) (.cond (.tmp 211) (.seq (.ops [⟨some 8, .move (.lit (.bool false)), none, []⟩]) .ret) .skip)) (.seq (.ops [⟨some 212, .move (.tmp 25), none, []⟩, ⟨some 213, .blen 1 (.tmp 212), none, []⟩, ⟨some 214, .move (.lit (.int .i64 0)), none, []⟩]) (.block 6 (.loop (.seq (.ops [⟨some 215, .bin .lss .none (.tmp 214) (.tmp 213), none, []⟩]) (.seq (.cond (.tmp 215) .skip (.exit 6)) (.seq (.block 7 (.seq (.ops [⟨some 216, .iaddr 1 (.tmp 212) (.tmp 214), none, []⟩, ⟨some 217, .load none (.tmp 216), none, []⟩, ⟨some 35, .move (.tmp 217), none, []⟩]) (.seq (.ops [⟨some 36, .move (.lit (.int .i64 0)), none, []⟩]) (.seq (.seq (.ops [⟨some 218, .move (.tmp 35), none, []⟩, ⟨some 219, .blen 1 (.tmp 218), none, []⟩, ⟨some 220, .move (.lit (.int .i64 0)), none, []⟩]) (.block 8 (.loop (.seq (.ops [⟨some 221, .bin .lss .none (.tmp 220) (.tmp 219), none, []⟩]) (.seq (.cond (.tmp 221) .skip (.exit 8)) (.seq (.block 9 (.seq (.ops [⟨some 222, .iaddr 1 (.tmp 218) (.tmp 220), none, []⟩, ⟨some 223, .load none (.tmp 222), none, []⟩, ⟨some 38, .move (.tmp 223), none, []⟩]) (.seq (.ops [⟨some 224, .move (.tmp 29), none, []⟩, ⟨some 225, .move (.tmp 38), none, []⟩, ⟨some 226, .call (.lit (.func 32 [])) [.tmp 224, .tmp 225], none, []⟩]) (.cond (.tmp 226) (.ops [⟨some 227, .move (.tmp 36), none, []⟩, ⟨some 228, .bin .add .none (.tmp 227) (.lit (.int .i64 1)), none, []⟩, ⟨some 36, .move (.tmp 228), none, []⟩]) .skip)))) (.ops [⟨some 229, .bin .add .none (.tmp 220) (.lit (.int .i64 1)), none, []⟩, ⟨some 220, .move (.tmp 229), none, []⟩]))))))) (.seq (.ops [⟨some 230, .move (.tmp 36), none, []⟩, ⟨some 231, .bin .gtr .none (.tmp 230) (.lit (.int .i64 1)), none, []⟩]) (.cond (.tmp 231) (.seq (.ops [⟨some 8, .move (.lit (.bool false)), none, []⟩]) .ret) .skip)))))) (.ops [⟨some 232, .bin .add .none (.tmp 214) (.lit (.int .i64 1)), none, []⟩, ⟨some 214, .move (.tmp 232), none, []⟩])))))))))))) (.ops [⟨some 233, .bin .add .none (.tmp 180) (.lit (.int .i64 1)), none, []⟩, ⟨some 180, .move (.tmp 233), none, []⟩]))))))) (.seq (.ops [⟨some 234, .call (.lit (.func 9 [])) [], none, []⟩, ⟨some 8, .move (.tmp 234), none, []⟩]) .ret))))))))))))
set_option maxRecDepth 20000 in
set_option maxHeartbeats 4000000 in
theorem law_spec (t : FTask) (l m : List (List FLit)) (p : List Int) (ht : TB t) (hl : FB l) (hm : FB m) (hp : okL okI p) (σ : Store) :
    ACalls Tryz.prog 7 [.agg (encTask t), .slice .unk (l.map encC), .slice .unk (m.map encC), .slice .unk (p.map Ahl.encI)] σ (isR (.bool true) σ) := by
  refine ACalls.intro (rs := [(.tmp 8)]) (by kernel_rfl) { own := [], ghosts := [], cold := [(1, 3), (1, 15), (8, 7), (15, 2)], free := [(19, [[2, 4], [], [0], [], [0], [], [], [], [], [], []])] } Tryz.func7 (c := Tryz.f7.body.getD .skip) (by kernel_rfl) (by decide) (by rw [show Tryz.f7.ntmps = 235 by kernel_rfl]; exact Nat.le_of_ble_eq_true rfl) (by kernel_rfl) ?_
  intro hσ hids
  rw [show comp Tryz.prog { own := [], ghosts := [], cold := [(1, 3), (1, 15), (8, 7), (15, 2)], free := [(19, [[2, 4], [], [0], [], [0], [], [], [], [], [], []])] } (Tryz.f7.body.getD .skip) = c_law by kernel_rfl, show Tryz.f7.ntmps = 235 by kernel_rfl]
  unfold c_law
  have hpl := hp.1
  have hfs : ∀ x ∈ [l, m], FB x := by intro x hx; simp at hx; rcases hx with rfl | rfl <;> assumption
  simp only [go_sem, Int.reduceToNat, Int.reduceLE, Int.reduceLT, Nat.reduceBEq, Nat.reduceLT, Nat.reduceAdd, Nat.reduceLeDiff, dr_law_0, encTask]
  refine ACalls.is (ACalls.wk (few8_spec t [l, m] .unk _ ht (by simp) hfs) (.cons (.refl _) (WkL.one (wk_two _ _ _ l m)))) ?_
  cases hfew : few8B t [l, m]
  · simp only [go_sem, Int.reduceToNat, Int.reduceLE, Int.reduceLT, Nat.reduceBEq, Nat.reduceLT, Nat.reduceAdd, Nat.reduceLeDiff, dr_law_0]
    refine (awake8_spec _).is ?_
    simp only [go_sem, Int.reduceToNat, Int.reduceLE, Int.reduceLT, Nat.reduceBEq, Nat.reduceLT, Nat.reduceAdd, Nat.reduceLeDiff, dr_law_0]
    first | exact rtk (.bool true) ⟨rfl, rfl⟩ | exact rtk0 (.bool true) ⟨rfl, rfl⟩
  by_cases h60 : (p.length : Int) > 60
  · simp only [go_sem, Int.reduceToNat, Int.reduceLE, Int.reduceLT, Nat.reduceBEq, Nat.reduceLT, Nat.reduceAdd, Nat.reduceLeDiff, dr_law_0, h60]
    refine (awake8_spec _).is ?_
    simp only [go_sem, Int.reduceToNat, Int.reduceLE, Int.reduceLT, Nat.reduceBEq, Nat.reduceLT, Nat.reduceAdd, Nat.reduceLeDiff, dr_law_0]
    first | exact rtk (.bool true) ⟨rfl, rfl⟩ | exact rtk0 (.bool true) ⟨rfl, rfl⟩
  obtain ⟨hsz, hfz, h8⟩ := few8_facts hfew
  simp only [go_sem, Int.reduceToNat, Int.reduceLE, Int.reduceLT, Nat.reduceBEq, Nat.reduceLT, Nat.reduceAdd, Nat.reduceLeDiff, dr_law_0, h60, encTask]
  have hflt := fun σ => fault8_spec t [l, m] .unk σ ht (by simp) hfs
  generalize hw : (if validB t then (if [l, m].all (isClauses t.facts.length) then (0 : Int) else 70) else 10) = E at hflt
  refine ACalls.is (ACalls.wk (hflt _) (.cons (.refl _) (WkL.one (wk_two _ _ _ l m)))) ?_
  by_cases hE0 : ¬ E = 0
  · have h0 : (E != 0) = true := by simpa using hE0
    simp only [go_sem, Int.reduceToNat, Int.reduceLE, Int.reduceLT, Nat.reduceBEq, Nat.reduceLT, Nat.reduceAdd, Nat.reduceLeDiff, dr_law_0, h0]
    refine (awake8_spec _).is ?_
    simp only [go_sem, Int.reduceToNat, Int.reduceLE, Int.reduceLT, Nat.reduceBEq, Nat.reduceLT, Nat.reduceAdd, Nat.reduceLeDiff, dr_law_0]
    first | exact rtk (.bool true) ⟨rfl, rfl⟩ | exact rtk0 (.bool true) ⟨rfl, rfl⟩
  replace hE0 := Decidable.not_not.1 hE0
  subst hE0
  have hcl : clE t l = 0 ∧ clE t m = 0 := by
    unfold clE
    cases h1 : validB t
    · rw [h1] at hw; simp at hw
    · rw [h1, if_pos rfl] at hw
      simp only [List.all_cons, List.all_nil, Bool.and_true] at hw
      cases h2 : isClauses t.facts.length l <;> cases h3 : isClauses t.facts.length m <;> rw [h2, h3] at hw <;> simp at hw ⊢
  obtain ⟨hv, hl2, hvl⟩ := clE_zero hcl.1
  obtain ⟨_, hm2, hvm⟩ := clE_zero hcl.2
  have hn8 := h8 hv
  have h12 : validB t = true → t.facts.length ≤ 12 := fun _ => by omega
  have hlm : l.length + m.length ≤ 300 := by
    simp at hfz
    unfold formSize at hfz
    omega
  simp only [go_sem, Int.reduceToNat, Int.reduceLE, Int.reduceLT, Nat.reduceBEq, Nat.reduceLT, Nat.reduceAdd, Nat.reduceLeDiff, dr_law_0, encTask]
  refine (Largest_spec t l .unk _ ht hl h12).is ?_
  rw [larR, if_pos hcl.1]
  simp only [go_sem, Int.reduceToNat, Int.reduceLE, Int.reduceLT, Nat.reduceBEq, Nat.reduceLT, Nat.reduceAdd, Nat.reduceLeDiff, dr_law_0, encTask]
  refine (Largest_spec t m .unk _ ht hm h12).is ?_
  rw [larR, if_pos hcl.2]
  simp only [go_sem, Int.reduceToNat, Int.reduceLE, Int.reduceLT, Nat.reduceBEq, Nat.reduceLT, Nat.reduceAdd, Nat.reduceLeDiff, dr_law_0, encTask]
  refine (Pairs_spec t _ ht h12).is ?_
  rw [pairsR, hv, if_pos rfl]
  obtain ⟨qa1, qa2⟩ := largeL_sub t l
  obtain ⟨qb1, qb2⟩ := largeL_sub t m
  obtain ⟨qp1, qp2, qp3⟩ := pairs_len2 t (by omega)
  have hsA := large_stay t l
  have hsB := large_stay t m
  have hsP := lean_stay qp3 (large_stay t (singles (2 * t.facts.length) ++ pairsL (2 * t.facts.length)))
  have hvP : vF t.facts.length (leanL [] (largeL t (singles (2 * t.facts.length) ++ pairsL (2 * t.facts.length)))) := fun c hc => small_V _ c (qp2 c hc)
  generalize hPr : leanL [] (largeL t (singles (2 * t.facts.length) ++ pairsL (2 * t.facts.length))) = Pr at qp1 hsP hvP
  clear qp2 qp3
  have hvA : vF t.facts.length (largeL t l) := fun c hc => hvl c (qa2 c hc)
  have hvB : vF t.facts.length (largeL t m) := fun c hc => hvm c (qb2 c hc)
  generalize hAA : largeL t l = A at qa1 qa2 hsA hvA
  generalize hBB : largeL t m = B at qb1 qb2 hsB hvB
  have hvAB : vF t.facts.length (A ++ B) := fun c hc => by rcases List.mem_append.1 hc with h | h; exact hvA c h; exact hvB c h
  have hsAB := union_stay hsA hsB
  have hbig1 : bigLen A.length 24 := big_ok (by omega) (by omega)
  have hbig2 : bigLen (A.length + B.length) 24 := big_ok (by omega) (by omega)
  have hAll : ∀ (q : List (List FLit)), ∀ x ∈ q, (encC x).length = 1 ∧ (encC x).all AV.one = true := fun _ x _ => ⟨rfl, rfl⟩
  simp only [go_sem, Int.reduceToNat, Int.reduceLE, Int.reduceLT, Nat.reduceBEq, Nat.reduceLT, Nat.reduceAdd, Nat.reduceLeDiff, dr_law_0, encTask, hbig1, hbig2]
  refine ⟨hAll A, hAll B, ?_⟩
  have hrow : IdsS (σ ++ [AObj.row (encTask t)]).length (σ ++ [AObj.row (encTask t)]) := idsS_push hσ (idsO_row (ids_encTask t))
  obtain ⟨es, hes0⟩ : ∃ es, es = [A, B, Pr, A ++ B] := ⟨_, rfl⟩
  have hes : ∀ x ∈ es, clE t x = 0 ∧ x.all (stayB t x) = true ∧ FB x := by
    intro x hx
    simp only [hes0, List.mem_cons, List.not_mem_nil, or_false] at hx
    rcases hx with rfl | rfl | rfl | rfl
    · exact ⟨clE_of hv (by omega) hvA, hsA, vF_FB (by omega) (by omega) hvA⟩
    · exact ⟨clE_of hv (by omega) hvB, hsB, vF_FB (by omega) (by omega) hvB⟩
    · exact ⟨clE_of hv (by omega) hvP, hsP, vF_FB (by omega) (by omega) hvP⟩
    · exact ⟨clE_of hv (by rw [List.length_append]; omega) hvAB, hsAB, vF_FB (by omega) (by rw [List.length_append]; omega) hvAB⟩
  have hels : es.length = 4 := by rw [hes0]; rfl
  simp only [encTask] at hrow
  refine wpc_while (fun (i : Nat) => [(1, .slice .unk (l.map encC)), (2, .slice .unk (m.map encC)), (3, .slice .unk (p.map Ahl.encI)), (4, .ptr σ.length 0), (9, .slice .unk (A.map encC)), (13, .slice .unk (Pr.map encC)), (93, .slice .unk (es.map encF)), (94, .int .i64 4), (95, .int .i64 (i : Nat))]) (fun _ => σ ++ [.row (encTask t)]) (fun i => i ≤ es.length) (fun i => es.length - i) 0 (Nat.zero_le _) ?_ ?_
  · simp only [encTask]
    refine ghL hrow (h1 := ?_)
    simp only [TellW, lk, Nat.reduceBEq, cond_true, cond_false, and_true, List.length_cons, List.length_nil, Nat.reduceAdd]
    refine ⟨⟨.refl _, ids_map ids_encC _⟩, ⟨.refl _, ids_map ids_encC _⟩, ⟨.refl _, ids_map ids_encI _⟩, ⟨.refl _, .ptr _ _ (by omega)⟩, ⟨.refl _, ids_map ids_encC _⟩, ⟨.refl _, ids_map ids_encC _⟩, ⟨?_, ids_map ids_encF _⟩, ⟨.refl _, .int _ _⟩, ⟨.refl _, .int _ _⟩⟩
    rw [hes0]
    refine Wk.sl _ (.cons (.refl _) (.cons (.refl _) (.cons (.refl _) (WkLL.one (WkL.one ?_)))))
    rw [← List.map_append]
    exact Wk.unk _ _
  intro i hi K hK hE hR
  by_cases h : i < es.length
  · obtain ⟨x, hx⟩ := get_ex h
    have hlt : ((i : Int) < 4) := by omega
    have hw : IntKind.i64.wrap ((i : Int) + 1) = ((i + 1 : Nat) : Int) := by rw [wrap_ok (by omega)]; omega
    obtain ⟨hx1, hx2, hx3⟩ := hes x (List.mem_of_getElem? hx)
    simp only [go_sem, Int.reduceToNat, Int.reduceLE, Int.reduceLT, Nat.reduceBEq, Nat.reduceLT, Nat.reduceAdd, Nat.reduceLeDiff, dr_law_0, hlt, hx, encF, encTask]
    refine (Inductive_spec t x .unk _ ht hx3 h12).is ?_
    rw [indR, if_pos hx1, hx2]
    simp only [go_sem, Int.reduceToNat, Int.reduceLE, Int.reduceLT, Nat.reduceBEq, Nat.reduceLT, Nat.reduceAdd, Nat.reduceLeDiff, dr_law_0, encTask]
    refine hK _ _ (i + 1) (by omega) (by omega) ?_
    simp only [encTask]
    exact (by (try dsimp only); (try simp only [ hw]); first | exact ghL (hrow) | exact ghL0 (hrow))
  · have hlt : ¬ ((i : Int) < 4) := by omega
    simp only [go_sem, Int.reduceToNat, Int.reduceLE, Int.reduceLT, Nat.reduceBEq, Nat.reduceLT, Nat.reduceAdd, Nat.reduceLeDiff, dr_law_0, hlt, hE, encTask]
    have hbl1 : bigLen l.length 24 := big_ok (by omega) (by omega)
    have hbl2 : bigLen (l.length + m.length) 24 := big_ok (by omega) (by omega)
    have hlmF : FB (l ++ m) := ⟨by rw [List.length_append]; omega, fun c hc => by rcases List.mem_append.1 hc with h | h; exact hl.2 c h; exact hm.2 c h⟩
    have hclm : clE t (l ++ m) = 0 := clE_of hv (by rw [List.length_append]; omega) (fun c hc => by rcases List.mem_append.1 hc with h | h; exact hvl c h; exact hvm c h)
    obtain ⟨ds, hds0⟩ : ∃ ds, ds = [l, m] := ⟨_, rfl⟩
    have hdl : ds.length = 2 := by rw [hds0]; rfl
    have hds : ∀ x ∈ ds, clE t x = 0 ∧ FB x ∧ ∀ c ∈ x, c ∈ l ++ m := by
      intro x hx
      simp only [hds0, List.mem_cons, List.not_mem_nil, or_false] at hx
      rcases hx with rfl | rfl
      · exact ⟨hcl.1, hl, fun c hc => List.mem_append.2 (.inl hc)⟩
      · exact ⟨hcl.2, hm, fun c hc => List.mem_append.2 (.inr hc)⟩
    have hFbig : FB (largeL t (l ++ m)) := ⟨by have := (largeL_sub t (l ++ m)).1; rw [List.length_append] at this; omega, fun c hc => hlmF.2 c ((largeL_sub t (l ++ m)).2 c hc)⟩
    refine wpc_while (fun (i : Nat) => [(1, .slice .unk (l.map encC)), (2, .slice .unk (m.map encC)), (3, .slice .unk (p.map Ahl.encI)), (4, .ptr σ.length 0), (9, .slice .unk (A.map encC)), (13, .slice .unk (Pr.map encC)), (114, .slice .unk (ds.map encF)), (115, .int .i64 2), (116, .int .i64 (i : Nat))]) (fun _ => σ ++ [.row (encTask t)]) (fun i => i ≤ ds.length) (fun i => ds.length - i) 0 (Nat.zero_le _) (by rw [hds0]; simp only [encTask]; exact (by (try dsimp only); first | exact ghL (hrow) | exact ghL0 (hrow))) ?_
    intro i hi K hK hE hR
    by_cases h : i < ds.length
    · obtain ⟨x, hx⟩ := get_ex h
      have hlt : ((i : Int) < 2) := by omega
      have hw : IntKind.i64.wrap ((i : Int) + 1) = ((i + 1 : Nat) : Int) := by rw [wrap_ok (by omega)]; omega
      obtain ⟨hx1, hx2, hx3⟩ := hds x (List.mem_of_getElem? hx)
      simp only [go_sem, Int.reduceToNat, Int.reduceLE, Int.reduceLT, Nat.reduceBEq, Nat.reduceLT, Nat.reduceAdd, Nat.reduceLeDiff, dr_law_0, hlt, hx, encF, encTask]
      refine (Inductive_spec t x .unk _ ht hx2 h12).is ?_
      rw [indR, if_pos hx1]
      simp only [go_sem, Int.reduceToNat, Int.reduceLE, Int.reduceLT, Nat.reduceBEq, Nat.reduceLT, Nat.reduceAdd, Nat.reduceLeDiff, dr_law_0, encTask, hbl1, hbl2]
      refine ⟨hAll l, hAll m, ?_⟩
      have hlarge := fun σ => Largest_spec t (l ++ m) (.grow (List.length (α := AObj) σ)) σ ht hlmF h12
      rw [← List.map_append]
      refine ⟨_, Largest_spec t (l ++ m) _ _ ht hlmF h12, ?_⟩
      rw [larR, if_pos hclm]
      simp only [go_sem, Int.reduceToNat, Int.reduceLE, Int.reduceLT, Nat.reduceBEq, Nat.reduceLT, Nat.reduceAdd, Nat.reduceLeDiff, dr_law_0, encTask]
      cases hst : x.all (stayB t x)
      · simp only [go_sem, Int.reduceToNat, Int.reduceLE, Int.reduceLT, Nat.reduceBEq, Nat.reduceLT, Nat.reduceAdd, Nat.reduceLeDiff, dr_law_0, encTask]
        refine hK _ _ (i + 1) (by omega) (by omega) ?_
        simp only [encTask]
        exact (by (try dsimp only); (try simp only [ hw]); first | exact ghL (hrow) | exact ghL0 (hrow))
      · have hin : x.all (inB (largeL t (l ++ m))) = true := by
          rw [List.all_eq_true]
          intro c hc
          exact List.any_eq_true.2 ⟨c, large_max hst hx3 c hc, by simp⟩
        simp only [go_sem, Int.reduceToNat, Int.reduceLE, Int.reduceLT, Nat.reduceBEq, Nat.reduceLT, Nat.reduceAdd, Nat.reduceLeDiff, dr_law_0, encTask]
        refine (inside_spec x (largeL t (l ++ m)) .unk .unk _ hx2 hFbig).is ?_
        rw [hin]
        simp only [go_sem, Int.reduceToNat, Int.reduceLE, Int.reduceLT, Nat.reduceBEq, Nat.reduceLT, Nat.reduceAdd, Nat.reduceLeDiff, dr_law_0, encTask]
        refine hK _ _ (i + 1) (by omega) (by omega) ?_
        simp only [encTask]
        exact (by (try dsimp only); (try simp only [ hw]); first | exact ghL (hrow) | exact ghL0 (hrow))
    · have hlt : ¬ ((i : Int) < 2) := by omega
      simp only [go_sem, Int.reduceToNat, Int.reduceLE, Int.reduceLT, Nat.reduceBEq, Nat.reduceLT, Nat.reduceAdd, Nat.reduceLeDiff, dr_law_0, hlt, hE, encTask]
      refine (iGroups_spec t Pr .unk _ ht (vF_FB (by omega) (by omega) hvP) h8).is ?_
      rw [groR, if_pos (clE_of hv (by omega) hvP)]
      simp only [go_sem, Int.reduceToNat, Int.reduceLE, Int.reduceLT, Nat.reduceBEq, Nat.reduceLT, Nat.reduceAdd, Nat.reduceLeDiff, dr_law_0, encTask]
      have hact := taskSize_acts hsz
      have hSB : SB t := ⟨by omega, ht.pre, fun a ha => (valid_AOk hv ha).eff, fun a ha e he => by have := (valid_AOk hv ha).whens e he; omega⟩
      have hri : risingB t.facts.length (-1) t.init = true := by
        have := hv
        unfold validB at this
        simp only [Bool.and_eq_true] at this
        exact this.2.2.1
      have hstE : stE t t.init = 0 := by unfold stE; rw [hv, if_pos rfl, hri]; rfl
      have hEO : EOk t := ⟨fun a ha => (valid_AOk hv ha).rng⟩
      refine (exec_spec t t.init p _ ht hSB (by have := ht.init; omega) (by omega) (fun _ _ k => stk_ok hEO (by omega) hri k)).is ?_
      unfold execR
      rw [if_neg (by rw [hstE]; simp)]
      cases hli : slistedB t p
      · rw [if_pos rfl]
        simp only [go_sem, Int.reduceToNat, Int.reduceLE, Int.reduceLT, Nat.reduceBEq, Nat.reduceLT, Nat.reduceAdd, Nat.reduceLeDiff, dr_law_0, encTask]
        refine (awake8_spec _).is ?_
        simp only [go_sem, Int.reduceToNat, Int.reduceLE, Int.reduceLT, Nat.reduceBEq, Nat.reduceLT, Nat.reduceAdd, Nat.reduceLeDiff, dr_law_0]
        first | exact rtk (.bool true) ⟨rfl, rfl⟩ | exact rtk0 (.bool true) ⟨rfl, rfl⟩
      · rw [if_neg (by simp)]
        simp only [go_sem, Int.reduceToNat, Int.reduceLE, Int.reduceLT, Nat.reduceBEq, Nat.reduceLT, Nat.reduceAdd, Nat.reduceLeDiff, dr_law_0, encTask]
        have hqle := stopN_le t t.init p
        generalize hq : stopN t t.init p = q at hqle
        have hSl : (statesK t t.init p q).length = q + 1 := by simp [statesK]
        have hS : ∀ s ∈ statesK t t.init p q, risingB t.facts.length (-1) s = true ∧ s.length ≤ 1000000 ∧ clausesT s Pr = true ∧ clausesT s A = true := by
          intro s hs
          obtain ⟨k, hk, rfl⟩ := List.mem_map.1 hs
          have hkq : k ≤ stopN t t.init p := by have := List.mem_range.1 hk; omega
          exact ⟨stk_rising hEO hri k, (stk_ok hEO (by omega) hri k).1, stay_reach hEO hsP hri k hkq, stay_reach hEO hsA hri k hkq⟩
        generalize hSS : statesK t t.init p q = S at hSl hS
        have hclP := clE_of hv (show Pr.length ≤ 2000 by omega) hvP
        have hclA := clE_of hv (show A.length ≤ 2000 by omega) hvA
        have hG : ∀ g ∈ groupsL t.facts.length Pr, g.length ≤ 8 ∧ ∀ s, clausesT s Pr = true → (g.filter fun k => s.contains k).length ≤ 1 := fun g hg => ⟨by have := groups_le hg; omega, fun s hs => group_one hg hs⟩
        have hGl := groups_len t.facts.length Pr hn8
        generalize hGG : groupsL t.facts.length Pr = G at hG hGl
        refine wpc_while (fun (i : Nat) => [(4, .ptr σ.length 0), (9, .slice .unk (A.map encC)), (13, .slice .unk (Pr.map encC)), (25, .slice .unk (G.map encL)), (178, .slice .unk (S.map encL)), (179, .int .i64 S.length), (180, .int .i64 (i : Nat))]) (fun _ => σ ++ [.row (encTask t)]) (fun i => i ≤ S.length) (fun i => S.length - i) 0 (Nat.zero_le _) (by simp only [encTask]; exact (by (try dsimp only); first | exact ghL (hrow) | exact ghL0 (hrow))) ?_
        intro i hi K hK hE hR
        by_cases h : i < S.length
        · obtain ⟨s, hx⟩ := get_ex h; have hlt : ((i : Int) < (S.length : Int)) := (by omega); have hw : IntKind.i64.wrap ((i : Int) + 1) = ((i + 1 : Nat) : Int) := (by rw [wrap_ok (by omega)]; omega)
          obtain ⟨s1, s2, s3, s4⟩ := hS s (List.mem_of_getElem? hx)
          have hstE : stE t s = 0 := by unfold stE; rw [hv, if_pos rfl, s1]; rfl
          simp only [go_sem, Int.reduceToNat, Int.reduceLE, Int.reduceLT, Nat.reduceBEq, Nat.reduceLT, Nat.reduceAdd, Nat.reduceLeDiff, dr_law_0, hlt, hx, encL, encTask]
          refine (iHolds_spec t s Pr .unk .unk _ ht (by omega) (vF_FB (by omega) (by omega) hvP)).is ?_
          rw [show ihR t s Pr = .tuple [.bool true, .int .i64 0] by unfold ihR; rw [hstE, hclP, s3]; rfl]
          simp only [go_sem, Int.reduceToNat, Int.reduceLE, Int.reduceLT, Nat.reduceBEq, Nat.reduceLT, Nat.reduceAdd, Nat.reduceLeDiff, dr_law_0, encTask]
          refine (iHolds_spec t s A .unk .unk _ ht (by omega) (vF_FB (by omega) (by omega) hvA)).is ?_
          rw [show ihR t s A = .tuple [.bool true, .int .i64 0] by unfold ihR; rw [hstE, hclA, s4]; rfl]
          simp only [go_sem, Int.reduceToNat, Int.reduceLE, Int.reduceLT, Nat.reduceBEq, Nat.reduceLT, Nat.reduceAdd, Nat.reduceLeDiff, dr_law_0, encTask]
          refine wpc_while (fun (j : Nat) => [(4, .ptr σ.length 0), (9, .slice .unk (A.map encC)), (13, .slice .unk (Pr.map encC)), (25, .slice .unk (G.map encL)), (29, .slice .unk (s.map Ahl.encI)), (178, .slice .unk (S.map encL)), (179, .int .i64 S.length), (180, .int .i64 (i : Nat)), (212, .slice .unk (G.map encL)), (213, .int .i64 G.length), (214, .int .i64 (j : Nat))]) (fun _ => σ ++ [.row (encTask t)]) (fun j => j ≤ G.length) (fun j => G.length - j) 0 (Nat.zero_le _) (by simp only [encTask]; exact (by (try dsimp only); first | exact ghL (hrow) | exact ghL0 (hrow))) ?_
          intro j hj' K' hK' hE' hR'
          by_cases hj : j < G.length
          · obtain ⟨g, hxj⟩ := get_ex hj; have hltj : ((j : Int) < (G.length : Int)) := (by omega); have hwj : IntKind.i64.wrap ((j : Int) + 1) = ((j + 1 : Nat) : Int) := (by rw [wrap_ok (by omega)]; omega)
            obtain ⟨g1, g2⟩ := hG g (List.mem_of_getElem? hxj)
            have g3 := g2 s s3
            simp only [go_sem, Int.reduceToNat, Int.reduceLE, Int.reduceLT, Nat.reduceBEq, Nat.reduceLT, Nat.reduceAdd, Nat.reduceLeDiff, dr_law_0, hltj, hxj, encL, encTask]
            refine wpc_while (fun (k : Nat) => [(4, .ptr σ.length 0), (9, .slice .unk (A.map encC)), (13, .slice .unk (Pr.map encC)), (25, .slice .unk (G.map encL)), (29, .slice .unk (s.map Ahl.encI)), (36, .int .i64 ((g.take k).filter fun x => s.contains x).length), (178, .slice .unk (S.map encL)), (179, .int .i64 S.length), (180, .int .i64 (i : Nat)), (212, .slice .unk (G.map encL)), (213, .int .i64 G.length), (214, .int .i64 (j : Nat)), (218, .slice .unk (g.map Ahl.encI)), (219, .int .i64 g.length), (220, .int .i64 (k : Nat))]) (fun _ => σ ++ [.row (encTask t)]) (fun k => k ≤ g.length) (fun k => g.length - k) 0 (Nat.zero_le _) (by simp only [encTask]; exact (by (try dsimp only); first | exact ghL (hrow) | exact ghL0 (hrow))) ?_
            intro k hk' K2 hK2 hE2 hR2
            by_cases hk : k < g.length
            · obtain ⟨x, hxk⟩ := get_ex hk; have hltk : ((k : Int) < (g.length : Int)) := (by omega); have hwk : IntKind.i64.wrap ((k : Int) + 1) = ((k + 1 : Nat) : Int) := (by rw [wrap_ok (by omega)]; omega)
              have hfl : ((g.take k).filter fun x => s.contains x).length ≤ k := Nat.le_trans (List.length_filter_le _ _) (by simp; omega)
              simp only [go_sem, Int.reduceToNat, Int.reduceLE, Int.reduceLT, Nat.reduceBEq, Nat.reduceLT, Nat.reduceAdd, Nat.reduceLeDiff, dr_law_0, hltk, hxk, Ahl.encI, encTask]
              refine (has_spec s x .unk _ (by omega)).is ?_
              cases hc : s.contains x
              · have hf : ((g.take (k + 1)).filter fun x => s.contains x).length = ((g.take k).filter fun x => s.contains x).length := by rw [take_succ' hxk, List.filter_append, List.filter_cons, hc]; simp
                simp only [go_sem, Int.reduceToNat, Int.reduceLE, Int.reduceLT, Nat.reduceBEq, Nat.reduceLT, Nat.reduceAdd, Nat.reduceLeDiff, dr_law_0, encTask]
                rw [← hf]
                refine hK2 _ _ (k + 1) (by omega) (by omega) ?_
                simp only [encTask]
                exact (by (try dsimp only); (try simp only [ hwk]); first | exact ghL (hrow) | exact ghL0 (hrow))
              · have hf : ((g.take (k + 1)).filter fun x => s.contains x).length = ((g.take k).filter fun x => s.contains x).length + 1 := by rw [take_succ' hxk, List.filter_append, List.filter_cons, hc]; simp
                have hww : IntKind.i64.wrap ((((g.take k).filter fun x => s.contains x).length : Int) + 1) = (((g.take (k + 1)).filter fun x => s.contains x).length : Nat) := by rw [wrap_ok (by omega), hf]; omega
                simp only [go_sem, Int.reduceToNat, Int.reduceLE, Int.reduceLT, Nat.reduceBEq, Nat.reduceLT, Nat.reduceAdd, Nat.reduceLeDiff, dr_law_0, encTask, hww]
                refine hK2 _ _ (k + 1) (by omega) (by omega) ?_
                simp only [encTask]
                exact (by (try dsimp only); (try simp only [ hwk]); first | exact ghL (hrow) | exact ghL0 (hrow))
            · have hltk : ¬ ((k : Int) < (g.length : Int)) := by omega
              have htk : g.take k = g := List.take_of_length_le (by omega)
              rw [htk]
              have hno : decide (((g.filter fun x => s.contains x).length : Int) > 1) = false := decide_eq_false (by have := g3; omega)
              simp only [go_sem, Int.reduceToNat, Int.reduceLE, Int.reduceLT, Nat.reduceBEq, Nat.reduceLT, Nat.reduceAdd, Nat.reduceLeDiff, dr_law_0, hltk, hE2, encTask, hno]
              refine hK' _ _ (j + 1) (by omega) (by omega) ?_
              simp only [encTask]
              exact (by (try dsimp only); (try simp only [ hwj]); first | exact ghL (hrow) | exact ghL0 (hrow))
          · have hltj : ¬ ((j : Int) < (G.length : Int)) := by omega
            simp only [go_sem, Int.reduceToNat, Int.reduceLE, Int.reduceLT, Nat.reduceBEq, Nat.reduceLT, Nat.reduceAdd, Nat.reduceLeDiff, dr_law_0, hltj, hE', encTask]
            refine hK _ _ (i + 1) (by omega) (by omega) ?_
            simp only [encTask]
            exact (by (try dsimp only); (try simp only [ hw]); first | exact ghL (hrow) | exact ghL0 (hrow))
        · have hlt : ¬ ((i : Int) < (S.length : Int)) := by omega
          simp only [go_sem, Int.reduceToNat, Int.reduceLE, Int.reduceLT, Nat.reduceBEq, Nat.reduceLT, Nat.reduceAdd, Nat.reduceLeDiff, dr_law_0, hlt, hE, encTask]
          refine (awake8_spec _).is ?_
          simp only [go_sem, Int.reduceToNat, Int.reduceLE, Int.reduceLT, Nat.reduceBEq, Nat.reduceLT, Nat.reduceAdd, Nat.reduceLeDiff, dr_law_0]
          first | exact rtk (.bool true) ⟨rfl, rfl⟩ | exact rtk0 (.bool true) ⟨rfl, rfl⟩
theorem law_reads : ReadsAll Tryz.prog Tryz.f7.params.toList (fun avs => ACalls Tryz.prog 7 avs [] (isR (.bool true) [])) := by
  rw [show Tryz.f7.params.toList = [27, 28, 28, 23] by kernel_rfl]
  exact .cons ra_task fun t ht => .cons ra_form fun f hf => .cons ra_form fun g hg => .cons ra_ints fun p hp => .nil (law_spec t f g p ht hf hg hp [])
set_option maxRecDepth 100000 in
theorem lifted (os : Os) (started : os.Started) (H : Type) (enc : TypeId × Value → H) :
    ReturnsInHanded {} Tryz.checked os 7 .any (Rows.invarLawsSpec.pre6 enc Tryz.prog Tryz.f7 Rows.invarLawsRow.domain false) (Rows.invarLawsSpec.post enc Tryz.prog Tryz.f7 false true false false) := by
  refine returnsInHanded_of_change_sized (C := Tryz.checked) own started (by kernel_rfl) Tryz.func7
    (ChangeSpec.witness6 (enc := enc) (C := Tryz.checked) false ⟨#[], #[.agg #[.slice none 0 0, .slice none 0 0, .slice none 0 0, .slice none 0 0], .slice none 0 0, .slice none 0 0, .slice none 0 0], []⟩ 8 (by kernel_rfl) (by kernel_rfl) (by kernel_rfl) (by kernel_rfl)) ?_
  intro W base args ds gs before hval hW _ hsz _
  refine law_post (P := Tryz.prog) Tryz.func7 (by kernel_rfl) (by decide) rfl ?_ laidOut (rdble (by kernel_rfl)) (by kernel_rfl) Tryz.underlying4 law_reads hval hW hsz
  intro ds h
  rw [show Tryz.f7.params.size = 4 by kernel_rfl] at h
  match ds, h with
  | [a, b, c, d], _ => rfl
theorem holds : Rows.InvarLawsSaid :=
  OpenClaim.holds_of_wide 7 Tryz.f7 rfl rfl rfl rfl rfl rfl rfl ⟨rfl, rfl, rfl, rfl, rfl⟩ rfl rfl rfl rfl rfl (by kernel_rfl) Tryz.func7 (by kernel_rfl)
    (of_decide_eq_true (by kernel_rfl)) (by unfold Func.isWrapper; first | (rw [if_pos (by decide +kernel)]; kernel_rfl) | (rw [if_neg (by decide +kernel)]; exact ⟨rfl, rfl⟩))
    (fun os started H enc _ => lifted os started H enc)
end Go.Proofs.YtocphglkceidhaaGreat
