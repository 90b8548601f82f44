/- Contracts of the given program's functions, and an abstract layer over the model; no condition. -/
import Derived.Test.YtocphglkceidhaaGreatBase5
set_option linter.unusedVariables false
set_option linter.unusedSimpArgs false
namespace Go.Proofs.YtocphglkceidhaaGreat
open Go.Ahl
def groR (t : FTask) (l : List (List FLit)) : AV := if clE t l = 0 then .tuple [.slice .unk ((groupsL t.facts.length l).map encL), .int .i64 0] else .tuple [.slice .nil [], .int .i64 (clE t l)]
def groRf (t : FTask) (l : List (List FLit)) : AV := if clE t l = 0 then .tuple [.slice .fresh ((groupsL t.facts.length l).map encLf), .int .i64 0] else .tuple [.slice .nil [], .int .i64 (clE t l)]
theorem groRf_wk (t : FTask) (l : List (List FLit)) : Wk (groRf t l) (groR t l) := by
  unfold groRf groR
  split
  · exact Wk.tuple (.cons (Wk.lfu _ _) (WkL.refl _))
  · exact .refl _
def outerC (b n i : Nat) : List AV := (List.range n).map fun j => if j < i then AV.ref (b + j) 1 0 n else .slice .nil []
theorem outerC_len (b n i : Nat) : (outerC b n i).length = n := by simp [outerC]
theorem outerC_zero (b n : Nat) : (List.replicate n [AV.slice .nil []]).flatten = outerC b n 0 := by
  unfold outerC
  apply List.ext_getElem (by simp)
  intro j h1 h2
  simp at h1 h2
  simp
theorem outerC_set {b n i : Nat} (hi : i < n) : (outerC b n i).set i (.ref (b + i) 1 0 n) = outerC b n (i + 1) := by
  unfold outerC
  apply List.ext_getElem (by simp)
  intro j h1 h2
  simp at h1 h2
  rw [List.getElem_set]
  by_cases h : i = j
  · subst h; simp
  · rw [if_neg h]
    simp only [List.getElem_map, List.getElem_range]
    by_cases hj : j < i
    · rw [if_pos hj, if_pos (by omega)]
    · rw [if_neg hj, if_neg (by omega)]
theorem outerC_end (b n : Nat) : outerC b n n = (List.range n).map fun j => AV.ref (b + j) 1 0 n := by
  unfold outerC
  exact List.map_congr_left fun j hj => by rw [if_pos (List.mem_range.1 hj)]
theorem outerC_ids {b n i k : Nat} (h : b + i ≤ k) : IdsL k (outerC b n i) := by
  intro x hx
  obtain ⟨j, _, rfl⟩ := List.mem_map.1 hx
  by_cases hj : j < i
  · simp only [if_pos hj]; exact .ref _ _ _ _ (by omega)
  · simp only [if_neg hj]; exact ids_nil _ (by simp)
/-- The table under way: i rows are made. -/
def tab0 (σ : Store) (t : FTask) (n i : Nat) : Store := σ ++ (([AObj.row (encTask t), .row (outerC (σ.length + 3) n i), .row [.ref (σ.length + 1) 1 0 n]] : Store) ++ List.replicate i (.row ((genB n fun _ => false).map ab)))
theorem tab0_len (σ : Store) (t : FTask) (n i : Nat) : (tab0 σ t n i).length = σ.length + 3 + i := by simp [tab0]; omega
theorem tab0_get (σ : Store) (t : FTask) (n i : Nat) (r : Store) (j : Nat) : (tab0 σ t n i ++ r)[σ.length + j]? = (([AObj.row (encTask t), .row (outerC (σ.length + 3) n i), .row [.ref (σ.length + 1) 1 0 n]] : Store) ++ List.replicate i (.row ((genB n fun _ => false).map ab)) ++ r)[j]? := by
  unfold tab0; rw [List.append_assoc, g_get]
theorem tab0_set {σ : Store} {t : FTask} {n i : Nat} (hi : i < n) : (tab0 σ t n i ++ [AObj.row ((genB n fun _ => false).map ab)]).set (σ.length + 1) (.row ((outerC (σ.length + 3) n i).set i (.ref (σ.length + 3 + i) 1 0 n))) = tab0 σ t n (i + 1) := by
  unfold tab0
  rw [outerC_set hi, List.append_assoc, g_set, List.append_assoc, ← List.replicate_succ']; rfl
theorem tab0_ids {σ : Store} {t : FTask} {n i : Nat} (h : IdsS σ.length σ) : IdsS (tab0 σ t n i).length (tab0 σ t n i) := by
  unfold tab0
  refine idsS_app _ h fun o ho => ?_
  rcases List.mem_append.1 ho with ho | ho
  · simp only [List.mem_cons, List.not_mem_nil, or_false] at ho
    rcases ho with rfl | rfl | rfl
    · exact idsO_row (ids_encTask t)
    · exact idsO_row (outerC_ids (by simp; omega))
    · exact idsO_row (by intro x hx; simp at hx; subst hx; exact .ref _ _ _ _ (by simp))
  · rw [List.eq_of_mem_replicate ho]; exact ids_ab _
theorem xst_ids {B : Store} {V D b n Oc Lc E G : Nat} {p : Nat → Nat → Bool} (h : XS B V D b n Oc Lc E G p) {k : Int} {o : List (List Int)} (hs : IdsS B.length B) : IdsS B.length (xst B Oc Lc G k o) := by
  intro i ob hi
  have o4 := h.o4
  have o5 := h.o5
  have o6 := h.o6
  have o7 := h.o7
  by_cases h1 : i = Oc
  · subst h1; rw [xst_O h] at hi; injection hi with hi; subst hi
    exact idsO_row (by intro x hx; simp at hx; subst hx; exact .vec _ _ _ (by omega))
  · by_cases h2 : i = Lc
    · subst h2; rw [xst_L h] at hi; injection hi with hi; subst hi
      exact idsO_row (by intro x hx; simp at hx; subst hx; exact .int _ _)
    · by_cases h3 : i = G
      · subst h3; rw [xst_G h] at hi; injection hi with hi; subst hi
        intro j x hx
        rw [List.getElem?_map] at hx
        cases hq : o[j]? with
        | none => rw [hq] at hx; simp at hx
        | some y => rw [hq] at hx; simp at hx; subst hx; exact ids_mapF _
      · rw [xst_old h _ _ h1 h2 h3] at hi
        exact hs i ob hi
theorem xst_id {B : Store} {Oc Lc G : Nat} {k : Int} (h1 : B[Oc]? = some (.row [.vec G 1 0])) (h2 : B[Lc]? = some (.row [.int .i64 k])) (h3 : B[G]? = some (.vec 1 0 [])) : xst B Oc Lc G k [] = B := by
  unfold xst
  rw [List.length_nil, List.map_nil, set_same h1, set_same h2, set_same h3]
theorem row_frzL (l : List (List Int)) : ∀ (i : Nat) e, (l.map encLf)[i]? = some e → e.length = 1 ∧ ∀ j, j < 1 → (l.map vI)[0 + (i * 1 + j)]? = e[j]? := by
  intro i e he
  rw [List.getElem?_map] at he
  cases hq : l[i]? with
  | none => rw [hq] at he; simp at he
  | some y =>
    rw [hq] at he; simp at he; subst he
    refine ⟨rfl, fun j hj => ?_⟩
    obtain rfl : j = 0 := by omega
    rw [List.getElem?_map, show 0 + (i * 1 + 0) = i by omega, hq]; rfl
theorem allI_succ (k : Nat) : (allI (k + 1)).map Ahl.encI = (allI k).map Ahl.encI ++ [[.int .i64 (k : Int)]] := by
  unfold allI; rw [List.range_succ, List.map_append, List.map_append]; rfl
def d_iGroups_0 : List COp := [⟨some 35, .load none (.tmp 8), none, []⟩, ⟨some 36, .move (.tmp 9), none, []⟩, ⟨some 37, .move (.tmp 7), none, []⟩, ⟨some 38, .mkslice 1 1 [.bool false] (.tmp 37) (.tmp 37) true, none, [2, 2]⟩, ⟨some 39, .iaddr 1 (.tmp 35) (.tmp 36), none, [0, 1, 0, 1, 2, 3]⟩, ⟨none, .store 1 (.tmp 39) (.tmp 38), none, [4, 3, 0, 1, 2, 3]⟩]
theorem dr_iGroups_0 (P : Program) (nt n0 : Nat) (Q : Post) (s : Slots) (σ : Store) : wpc P nt n0 (.drawU d_iGroups_0 [[3], [], [], [0], [], []]) Q s σ = aOpsU P nt [⟨some 35, .load none (.tmp 8), none, []⟩, ⟨some 36, .move (.tmp 9), none, []⟩, ⟨some 37, .move (.tmp 7), none, []⟩, ⟨some 38, .mkslice 1 1 [.bool false] (.tmp 37) (.tmp 37) true, none, [2, 2]⟩, ⟨some 39, .iaddr 1 (.tmp 35) (.tmp 36), none, [0, 1, 0, 1, 2, 3]⟩, ⟨none, .store 1 (.tmp 39) (.tmp 38), none, [4, 3, 0, 1, 2, 3]⟩] [[3], [], [], [0], [], []] 0 [] [] (Q .normal) s σ := wpc_drawU _ _ (by decide)
def d_iGroups_1 : List COp := [⟨some 86, .move (.tmp 10), none, []⟩, ⟨some 87, .move (.tmp 12), none, []⟩, ⟨some 88, .iaddr 2 (.tmp 87) (.lit (.int .i64 0)), none, [1]⟩, ⟨some 89, .faddr 0 (.tmp 88), none, [2]⟩, ⟨some 90, .load none (.tmp 89), none, [3]⟩, ⟨some 91, .move (.tmp 12), none, []⟩, ⟨some 92, .iaddr 2 (.tmp 91) (.lit (.int .i64 1)), none, [5]⟩, ⟨some 93, .faddr 0 (.tmp 92), none, [6]⟩, ⟨some 94, .load none (.tmp 93), none, [7]⟩, ⟨some 95, .callE (.tmp 86) [.tmp 90, .tmp 94], none, [0, 4, 8]⟩]
theorem dr_iGroups_1 (P : Program) (nt n0 : Nat) (Q : Post) (s : Slots) (σ : Store) : wpc P nt n0 (.draw d_iGroups_1) Q s σ = aOpsD P nt [⟨some 86, .move (.tmp 10), none, []⟩, ⟨some 87, .move (.tmp 12), none, []⟩, ⟨some 88, .iaddr 2 (.tmp 87) (.lit (.int .i64 0)), none, [1]⟩, ⟨some 89, .faddr 0 (.tmp 88), none, [2]⟩, ⟨some 90, .load none (.tmp 89), none, [3]⟩, ⟨some 91, .move (.tmp 12), none, []⟩, ⟨some 92, .iaddr 2 (.tmp 91) (.lit (.int .i64 1)), none, [5]⟩, ⟨some 93, .faddr 0 (.tmp 92), none, [6]⟩, ⟨some 94, .load none (.tmp 93), none, [7]⟩, ⟨some 95, .callE (.tmp 86) [.tmp 90, .tmp 94], none, [0, 4, 8]⟩] (Q .normal) s σ := wpc_draw _ (by decide)
def c_iGroups : CCode := .seq (.ops [⟨some 2, .box (.tmp 0), none, []⟩, ⟨some 4, .move (.lit (.slice .nil [])), none, []⟩, ⟨some 5, .move (.lit (.int .i64 0)), none, []⟩]) (.seq (.seq (.ops [⟨some 19, .load (some 4) (.tmp 2), none, []⟩, ⟨some 20, .move (.tmp 1), none, []⟩, ⟨some 21, .call (.lit (.func 37 [])) [.tmp 19, .tmp 20], none, []⟩, ⟨some 6, .move (.tmp 21), none, []⟩]) (.seq (.ops [⟨some 22, .move (.tmp 6), none, []⟩, ⟨some 23, .bin .neq .none (.tmp 22) (.lit (.int .i64 0)), none, []⟩]) (.cond (.tmp 23) (.seq (.ops [⟨some 24, .move (.tmp 6), none, []⟩, ⟨some 4, .move (.lit (.slice .nil [])), none, []⟩, ⟨some 5, .move (.tmp 24), none, []⟩]) .ret) .skip))) (.seq (.ops [⟨some 25, .faddr 0 (.tmp 2), none, []⟩, ⟨some 26, .load none (.tmp 25), none, []⟩, ⟨some 27, .blen 1 (.tmp 26), none, []⟩, ⟨some 7, .move (.tmp 27), none, []⟩]) (.seq (.ops [⟨some 28, .move (.tmp 7), none, []⟩, ⟨some 29, .mkslice 1 24 [.slice .nil []] (.tmp 28) (.tmp 28) true, none, []⟩, ⟨some 8, .alloc (.slice .nil []), none, []⟩, ⟨none, .store 1 (.tmp 8) (.tmp 29), none, []⟩]) (.seq (.seq (.ops [⟨some 30, .load none (.tmp 8), none, []⟩, ⟨some 31, .blen 1 (.tmp 30), none, []⟩, ⟨some 32, .move (.lit (.int .i64 0)), none, []⟩]) (.block 0 (.loop (.seq (.ops [⟨some 33, .bin .lss .none (.tmp 32) (.tmp 31), none, []⟩]) (.seq (.cond (.tmp 33) .skip (.exit 0)) (.seq (.block 1 (.seq (.ops [⟨some 34, .move (.tmp 32), none, []⟩, ⟨some 9, .move (.tmp 34), none, []⟩]) (.drawU d_iGroups_0 [[3], [], [], [0], [], []]))) (.ops [⟨some 40, .bin .add .none (.tmp 32) (.lit (.int .i64 1)), none, []⟩, ⟨some 32, .move (.tmp 40), none, []⟩]))))))) (.seq (.ops [⟨some 41, .mkfunc 38 [.tmp 8], none, []⟩, ⟨some 10, .move (.tmp 41), none, []⟩]) (.seq (.seq (.ops [⟨some 42, .move (.tmp 1), none, []⟩, ⟨some 43, .blen 1 (.tmp 42), none, []⟩, ⟨some 44, .move (.lit (.int .i64 0)), none, []⟩]) (.block 2 (.loop (.seq (.ops [⟨some 45, .bin .lss .none (.tmp 44) (.tmp 43), none, []⟩]) (.seq (.cond (.tmp 45) .skip (.exit 2)) (.seq (.block 3 (.seq (.ops [⟨some 46, .iaddr 1 (.tmp 42) (.tmp 44), none, []⟩, ⟨some 47, .load none (.tmp 46), none, []⟩, ⟨some 12, .move (.tmp 47), none, []⟩]) (.block 4 (.seq (.ops [⟨some 49, .move (.tmp 12), none, []⟩, ⟨some 50, .blen 1 (.tmp 49), none, []⟩, ⟨some 51, .bin .eql .none (.tmp 50) (.lit (.int .i64 1)), none, []⟩, ⟨some 52, .move (.tmp 51), none, []⟩, ⟨some 53, .move (.tmp 12), some (some 52, true), []⟩, ⟨some 54, .iaddr 2 (.tmp 53) (.lit (.int .i64 0)), some (some 52, true), []⟩, ⟨some 55, .faddr 1 (.tmp 54), some (some 52, true), []⟩, ⟨some 56, .load none (.tmp 55), some (some 52, true), []⟩, ⟨some 57, .pick (.tmp 52) (.tmp 56) (.lit (.bool false)), none, []⟩, ⟨some 48, .move (.tmp 57), none, []⟩]) (.cond (.tmp 48) (.seq (.ops [⟨some 58, .move (.tmp 7), none, []⟩, ⟨some 59, .move (.lit (.int .i64 0)), none, []⟩]) (.block 5 (.loop (.seq (.ops [⟨some 60, .bin .lss .none (.tmp 59) (.tmp 58), none, []⟩]) (.seq (.cond (.tmp 60) .skip (.exit 5)) (.seq (.block 6 (.seq (.ops [⟨some 61, .move (.tmp 59), none, []⟩, ⟨some 13, .move (.tmp 61), none, []⟩]) (.ops [⟨some 62, .move (.tmp 10), none, []⟩, ⟨some 63, .move (.tmp 12), none, []⟩, ⟨some 64, .iaddr 2 (.tmp 63) (.lit (.int .i64 0)), none, []⟩, ⟨some 65, .faddr 0 (.tmp 64), none, []⟩, ⟨some 66, .load none (.tmp 65), none, []⟩, ⟨some 67, .move (.tmp 13), none, []⟩, ⟨some 68, .call (.tmp 62) [.tmp 66, .tmp 67], none, []⟩]))) (.ops [⟨some 69, .bin .add .none (.tmp 59) (.lit (.int .i64 1)), none, []⟩, ⟨some 59, .move (.tmp 69), none, []⟩]))))))) (.seq (.ops [⟨some 71, .move (.tmp 12), none, []⟩, ⟨some 72, .blen 1 (.tmp 71), none, []⟩, ⟨some 73, .bin .eql .none (.tmp 72) (.lit (.int .i64 2)), none, []⟩, ⟨some 74, .move (.tmp 73), none, []⟩, ⟨some 75, .move (.tmp 12), some (some 74, true), []⟩, ⟨some 76, .iaddr 2 (.tmp 75) (.lit (.int .i64 0)), some (some 74, true), []⟩, ⟨some 77, .faddr 1 (.tmp 76), some (some 74, true), []⟩, ⟨some 78, .load none (.tmp 77), some (some 74, true), []⟩, ⟨some 79, .pick (.tmp 74) (.tmp 78) (.lit (.bool false)), none, []⟩, ⟨some 80, .move (.tmp 79), none, []⟩, ⟨some 81, .move (.tmp 12), some (some 80, true), []⟩, ⟨some 82, .iaddr 2 (.tmp 81) (.lit (.int .i64 1)), some (some 80, true), []⟩, ⟨some 83, .faddr 1 (.tmp 82), some (some 80, true), []⟩, ⟨some 84, .load none (.tmp 83), some (some 80, true), []⟩, ⟨some 85, .pick (.tmp 80) (.tmp 84) (.lit (.bool false)), none, []⟩, ⟨some 70, .move (.tmp 85), none, []⟩]) (.cond (.tmp 70) (.draw d_iGroups_1) .skip))))))) (.ops [⟨some 96, .bin .add .none (.tmp 44) (.lit (.int .i64 1)), none, []⟩, ⟨some 44, .move (.tmp 96), none, []⟩]))))))) (.seq (.ops [⟨some 14, .alloc (.slice .nil []), none, []⟩]) (.seq (.ops [⟨some 15, .alloc (.int .i64 0), none, []⟩, ⟨none, .store 1 (.tmp 15) (.lit (.int .i64 262144)), none, []⟩]) (.seq (.ops [⟨some 16, .alloc (.conc Value.nilFunc), none, []⟩]) (.seq (.ops [⟨some 97, .mkfunc 39 [.tmp 15, .tmp 14, .tmp 8, .tmp 16], none, []⟩, ⟨none, .store 1 (.tmp 16) (.tmp 97), none, []⟩]) (.seq (.ghost (.ops [⟨some 17, .move (.lit (.slice .nil [])), none, []⟩])) (.seq (.seq (.ops [⟨some 98, .move (.tmp 7), none, []⟩, ⟨some 99, .move (.lit (.int .i64 0)), none, []⟩]) (.block 7 (.loop (.seq (.ops [⟨some 100, .bin .lss .none (.tmp 99) (.tmp 98), none, []⟩]) (.seq (.cond (.tmp 100) .skip (.exit 7)) (.seq (.block 8 (.seq (.ops [⟨some 101, .move (.tmp 99), none, []⟩, ⟨some 18, .move (.tmp 101), none, []⟩]) (.ops [⟨some 102, .move (.tmp 17), none, []⟩, ⟨some 103, .move (.tmp 18), none, []⟩, ⟨some 104, .bsliceC 1 [.tmp 103], none, []⟩, ⟨some 105, .bappend 1 8 (.tmp 102) (.tmp 104) false, none, []⟩, ⟨some 17, .move (.tmp 105), none, []⟩]))) (.ops [⟨some 106, .bin .add .none (.tmp 99) (.lit (.int .i64 1)), none, []⟩, ⟨some 99, .move (.tmp 106), none, []⟩]))))))) (.seq (.ops [⟨some 107, .load none (.tmp 16), none, []⟩, ⟨some 108, .move (.tmp 17), none, []⟩, ⟨some 109, .call (.tmp 107) [.lit (.slice .nil []), .tmp 108, .lit (.slice .nil [])], none, []⟩]) (.seq (.seq (.ops [⟨some 110, .load none (.tmp 15), none, []⟩, ⟨some 111, .bin .lss .none (.tmp 110) (.lit (.int .i64 0)), none, []⟩]) (.cond (.tmp 111) (.seq (.ops [⟨some 4, .move (.lit (.slice .nil [])), none, []⟩, ⟨some 5, .move (.lit (.int .i64 3)), none, []⟩]) .ret) .skip)) (.seq (.ghost (.ops [⟨some 112, .load none (.tmp 14), none, []⟩, ⟨some 113, .call (.lit (.func 45 [])) [.tmp 112, .lit (.func 46 [])], none, []⟩])) (.seq (.ops [⟨some 114, .load none (.tmp 14), none, []⟩, ⟨some 4, .move (.tmp 114), none, []⟩, ⟨some 5, .move (.lit (.int .i64 0)), none, []⟩]) .ret))))))))))))))))
set_option maxRecDepth 20000 in
set_option maxHeartbeats 4000000 in
theorem iGroups_specF (t : FTask) (l : List (List FLit)) (tok : Tok) (σ : Store) (ht : TB t) (hl : FB l) (h8 : validB t = true → t.facts.length ≤ 8) :
    ACalls Tryz.prog 10 [.agg (encTask t), .slice tok (l.map encC)] σ (isR (groRf t l) σ) := by
  refine ACalls.intro (rs := [(.tmp 4), (.tmp 5)]) (by kernel_rfl) { own := [(5, 1), (9, 3)], ghosts := [28, 37], cold := [(32, 2)], loud := [(22, 9)], free := [(9, [[3], [], [], [0], [], []])] } Tryz.func10 (c := Tryz.f10.body.getD .skip) (by kernel_rfl) (by decide) (by rw [show Tryz.f10.ntmps = 115 by kernel_rfl]; exact Nat.le_of_ble_eq_true rfl) (by kernel_rfl) ?_
  intro hσ hids
  rw [show comp Tryz.prog { own := [(5, 1), (9, 3)], ghosts := [28, 37], cold := [(32, 2)], loud := [(22, 9)], free := [(9, [[3], [], [], [0], [], []])] } (Tryz.f10.body.getD .skip) = c_iGroups by kernel_rfl, show Tryz.f10.ntmps = 115 by kernel_rfl]
  unfold c_iGroups
  have hil : Ids σ.length (.slice tok (l.map encC)) := hids _ (by simp)
  have htk4 : (encTask t).take 4 = encTask t := rfl
  have hle4 : 4 ≤ (encTask t).length := Nat.le_refl 4
  simp only [go_sem, Int.reduceToNat, Int.reduceLE, Int.reduceLT, Nat.reduceBEq, Nat.reduceLT, Nat.reduceAdd, Nat.reduceLeDiff, dr_iGroups_0, dr_iGroups_1, htk4, hle4]
  refine (clauses_spec t l tok _ ht hl).is ?_
  by_cases h1 : clE t l = 0
  rotate_left
  · have h1' : (clE t l != 0) = true := by simpa using h1
    simp only [go_sem, Int.reduceToNat, Int.reduceLE, Int.reduceLT, Nat.reduceBEq, Nat.reduceLT, Nat.reduceAdd, Nat.reduceLeDiff, dr_iGroups_0, dr_iGroups_1, h1']
    first | exact rtl (.slice .nil []) (.int .i64 (clE t l)) ⟨by rw [groRf, if_neg h1], rfl⟩ | exact rtl0 (.slice .nil []) (.int .i64 (clE t l)) ⟨by rw [groRf, if_neg h1], rfl⟩
  rw [h1]
  obtain ⟨hv, hll, hvf⟩ := clE_zero h1
  have hn8 := h8 hv
  obtain ⟨n, hn⟩ : ∃ n, n = t.facts.length := ⟨_, rfl⟩
  have h0 : ((0 : Int) != 0) = false := rfl
  have hen0 : (encTask t)[0]? = some (.slice .unk (t.facts.map encT)) := rfl
  have hr0 : ∀ b, (List.replicate n [AV.slice .nil []]).flatten = outerC b n 0 := fun b => outerC_zero b n
  have hnn : (t.facts.length : Int) = (n : Int) := by rw [hn]
  simp only [go_sem, Int.reduceToNat, Int.reduceLE, Int.reduceLT, Nat.reduceBEq, Nat.reduceLT, Nat.reduceAdd, Nat.reduceLeDiff, dr_iGroups_0, dr_iGroups_1, hen0, h0, aMkslice, hnn]
  refine ⟨Int.le_refl _, by omega, by omega, ?_⟩
  rw [hr0 (σ.length + 3), show σ ++ [AObj.row (encTask t), AObj.row (outerC (σ.length + 3) n 0), AObj.row [AV.ref (σ.length + 1) 1 0 n]] = tab0 σ t n 0 by simp [tab0]]
  have hi0 := fun i => tab0_ids (t := t) (n := n) (i := i) hσ
  have hl0 := tab0_len σ t n
  have ilk : ∀ k, σ.length ≤ k → Ids k (.slice tok (l.map encC)) := fun k hk => ids_up hk hil
  have gc0 : ∀ i r, (tab0 σ t n i ++ r)[σ.length + 2]? = some (.row [.ref (σ.length + 1) 1 0 n]) := fun i r => by rw [tab0_get]; rfl
  have gc00 : ∀ i, (tab0 σ t n i)[σ.length + 2]? = some (.row [.ref (σ.length + 1) 1 0 n]) := fun i => by have := gc0 i []; rwa [List.append_nil] at this
  have go0 : ∀ i r, (tab0 σ t n i ++ r)[σ.length + 1]? = some (.row (outerC (σ.length + 3) n i)) := fun i r => by rw [tab0_get]; rfl
  refine wpc_while (fun (i : Nat) => [(1, .slice tok (l.map encC)), (7, .int .i64 n), (8, .ptr (σ.length + 2) 0), (31, .int .i64 n), (32, .int .i64 i)]) (fun i => tab0 σ t n i) (fun i => i ≤ n) (fun i => n - i) 0 (Nat.zero_le _)
    (by
      have := hl0 0
      have hilk := ilk (tab0 σ t n 0).length (by omega)
      (try dsimp only)
      first | exact ghN0 (hi0 0) | exact ghN (hi0 0)) ?_
  intro i hi K hK hE hR
  by_cases h : i < n
  · have hlt : ((i : Int) < (n : Int)) := by omega
    have hw : IntKind.i64.wrap ((i : Int) + 1) = ((i + 1 : Nat) : Int) := by rw [wrap_ok (by omega)]; omega
    have hi1 : i + 1 ≤ (outerC (σ.length + 3) n i).length := by rw [outerC_len]; omega
    have hi2 : 0 ≤ (i : Int) := by omega
    simp only [go_sem, Int.reduceToNat, Int.reduceLE, Int.reduceLT, Nat.reduceBEq, Nat.reduceLT, Nat.reduceAdd, Nat.reduceLeDiff, dr_iGroups_0, dr_iGroups_1, hlt, gc0, gc00, go0, aMkslice, hl0, rep_ab, h, hi1]
    refine ⟨Int.le_refl _, by omega, by omega, ?_⟩
    rw [tab0_set h, hw]
    refine hK _ _ (i + 1) (by omega) (by omega) ?_
    have := hl0 (i + 1)
    have hilk := ilk (tab0 σ t n (i + 1)).length (by omega)
    (try dsimp only)
    first | exact ghN0 (hi0 (i + 1)) | exact ghN (hi0 (i + 1))
  obtain rfl : n = i := by omega
  have hlt : ¬ ((n : Int) < (n : Int)) := by omega
  simp only [go_sem, Int.reduceToNat, Int.reduceLE, Int.reduceLT, Nat.reduceBEq, Nat.reduceLT, Nat.reduceAdd, Nat.reduceLeDiff, dr_iGroups_0, dr_iGroups_1, hlt, hE]
  clear hK hE hR
  obtain ⟨pre, hpre⟩ : ∃ pre, pre = σ ++ [AObj.row (encTask t), .row (outerC (σ.length + 3) n n), .row [.ref (σ.length + 1) 1 0 n]] := ⟨_, rfl⟩
  obtain ⟨T, hT⟩ : ∃ T : (Nat → Nat → Bool) → Store, ∀ q, T q = pre ++ rowsP n q := ⟨_, fun _ => rfl⟩
  have hpl : pre.length = σ.length + 3 := by rw [hpre]; simp
  have hT0 : tab0 σ t n n = T (linkP []) := by
    rw [hT, rowsP_cong (q := fun _ _ => false) (fun i j _ _ => linkP_nil i j), hpre, tab0, List.append_assoc]
    congr 2
    unfold rowsP; rw [List.map_const', List.length_range]
  have hTl : ∀ q, (T q).length = σ.length + 3 + n := fun q => by rw [hT, List.length_append, rowsP_len, hpl]
  have hTi : ∀ q, IdsS (T q).length (T q) := fun q => by
    rw [hT, hpre, List.append_assoc]
    refine idsS_app _ hσ fun o ho => ?_
    rcases List.mem_append.1 ho with ho | ho
    · simp only [List.mem_cons, List.not_mem_nil, or_false] at ho
      rcases ho with rfl | rfl | rfl
      · exact idsO_row (ids_encTask t)
      · exact idsO_row (outerC_ids (by simp [rowsP_len]; omega))
      · exact idsO_row (by intro x hx; simp at hx; subst hx; exact .ref _ _ _ _ (by simp))
    · exact ids_rowsP o ho
  have hfk : ∀ k, σ.length + 3 ≤ k → Ids k (.func 38 [.ptr (σ.length + 2) 0]) := fun k hk => .func _ _ (fun j x hx => by
    cases j with
    | zero => simp at hx; subst hx; exact .ptr _ _ (by omega)
    | succ j => simp at hx)
  have hpV : pre[σ.length + 2]? = some (.row [.ref (σ.length + 1) 1 0 n]) := by rw [hpre, g_get]; rfl
  have hpD : pre[σ.length + 1]? = some (.row ((List.range n).map fun i => .ref (pre.length + i) 1 0 n)) := by rw [hpl, ← outerC_end, hpre, g_get]; rfl
  have hTc : ∀ p q, (∀ i j, i < n → j < n → p i j = q i j) → T p = T q := fun p q h => by rw [hT, hT, rowsP_cong h]
  have lnk : ∀ p (x y : Int), 0 ≤ x ∧ x < n → 0 ≤ y ∧ y < n → ACalls Tryz.prog 38 [.int .i64 x, .int .i64 y, .ptr (σ.length + 2) 0] (T p) (isR (.tuple []) (T (updP (updP p x.toNat y.toNat (x != y)) y.toNat x.toNat (x != y)))) := fun p x y hx hy => by
    rw [hT, hT]; exact gLink_spec pre _ _ n p x y hpV hpD hx hy
  rw [hT0]
  have hll1 := hl.1
  refine wpc_while (fun (i : Nat) => [(7, .int .i64 n), (8, .ptr (σ.length + 2) 0), (10, .func 38 [.ptr (σ.length + 2) 0]), (42, .slice tok (l.map encC)), (43, .int .i64 l.length), (44, .int .i64 i)]) (fun i => T (linkP (l.take i))) (fun i => i ≤ l.length) (fun i => l.length - i) 0 (Nat.zero_le _)
    (by
      have := hTl (linkP [])
      have hilk := ilk (T (linkP [])).length (by omega)
      have hifk := hfk (T (linkP [])).length (by omega)
      (try dsimp only)
      rw [List.take_zero]
      first | exact ghN0 (hTi _) | exact ghN (hTi _)) ?_
  intro i hi K hK hE hR
  by_cases h : i < l.length
  · obtain ⟨c, hx⟩ := get_ex h; have hlt : ((i : Int) < (l.length : Int)) := (by omega); have hw : IntKind.i64.wrap ((i : Int) + 1) = ((i + 1 : Nat) : Int) := (by rw [wrap_ok (by omega)]; omega)
    have hcv := hvf c (List.mem_of_getElem? hx)
    have hx' : (l.map encC)[i]? = some [AV.slice .unk (c.map encLit)] := by rw [List.getElem?_map, hx]; rfl
    have htk : l.take (i + 1) = l.take i ++ [c] := take_succ' hx
    match c, hcv with
    | [], _ =>
      have h1 : ((0 : Int) == 2) = false := rfl
      have h2 : ((0 : Int) == 1) = false := rfl
      have hc := noP_end (l.take i) [] (fun _ _ => rfl)
      simp only [go_sem, Int.reduceToNat, Int.reduceLE, Int.reduceLT, Nat.reduceBEq, Nat.reduceLT, Nat.reduceAdd, Nat.reduceLeDiff, dr_iGroups_0, dr_iGroups_1, hlt, hx', h1, h2]
      rw [hc, ← htk]
      refine hK _ _ (i + 1) (by omega) (by omega) ?_
      have := hTl (linkP (l.take (i + 1)))
      have hilk := ilk (T (linkP (l.take (i + 1)))).length (by omega)
      have hifk := hfk (T (linkP (l.take (i + 1)))).length (by omega)
      (try dsimp only)
      rw [hw]
      first | exact ghN0 (hTi _) | exact ghN (hTi _)
    | [a], hcv =>
      have h1 : (((1 : Nat) : Int) == 2) = false := rfl
      have h2 : (((1 : Nat) : Int) == 1) = true := rfl
      have h1' : ((1 : Int) == 2) = false := rfl
      have h2' : ((1 : Int) == 1) = true := rfl
      simp only [cV, condB, Bool.and_eq_true, decide_eq_true_eq] at hcv
      cases ha : a.neg
      · have hc := noP_end (l.take i) [a] (fun _ _ => by simp [apartC, ha])
        simp only [go_sem, Int.reduceToNat, Int.reduceLE, Int.reduceLT, Nat.reduceBEq, Nat.reduceLT, Nat.reduceAdd, Nat.reduceLeDiff, dr_iGroups_0, dr_iGroups_1, hlt, hx', h1, h2, h1', h2', encLit, ha]
        rw [hc, ← htk]
        refine hK _ _ (i + 1) (by omega) (by omega) ?_
        have := hTl (linkP (l.take (i + 1)))
        have hilk := ilk (T (linkP (l.take (i + 1)))).length (by omega)
        have hifk := hfk (T (linkP (l.take (i + 1)))).length (by omega)
        (try dsimp only)
        rw [hw]
        first | exact ghN0 (hTi _) | exact ghN (hTi _)
      · obtain ⟨A, hA⟩ : ∃ A : Nat, a.fact = (A : Int) := ⟨a.fact.toNat, by omega⟩
        have hc : T (oneP (l.take i) A n) = T (linkP (l.take i ++ [[a]])) := hTc _ _ fun x y hx hy => oneP_end _ a hA ha hx hy
        rw [htk.symm] at hc
        have h12 : ∀ k, Ids k (.slice .unk [[AV.int .i64 (A : Int), AV.bool true]]) := fun k => ids_map (f := encLit) ids_encLit [⟨A, true⟩]
        simp only [go_sem, Int.reduceToNat, Int.reduceLE, Int.reduceLT, Nat.reduceBEq, Nat.reduceLT, Nat.reduceAdd, Nat.reduceLeDiff, dr_iGroups_0, dr_iGroups_1, hlt, hx', h1, h2, h1', h2', encLit, ha, hA]
        refine wpc_while (fun (z : Nat) => [(7, .int .i64 n), (8, .ptr (σ.length + 2) 0), (10, .func 38 [.ptr (σ.length + 2) 0]), (12, .slice .unk [[.int .i64 (A : Int), .bool true]]), (42, .slice tok (l.map encC)), (43, .int .i64 l.length), (44, .int .i64 i), (58, .int .i64 n), (59, .int .i64 z)])
          (fun z => T (oneP (l.take i) A z)) (fun z => z ≤ n) (fun z => n - z) 0 (Nat.zero_le _)
          (by
            have := hTl (linkP (l.take i))
            have hilk := ilk (T (linkP (l.take i))).length (by omega)
            have hifk := hfk (T (linkP (l.take i))).length (by omega)
            have h12k := h12 (T (linkP (l.take i))).length
            (try dsimp only)
            rw [oneP_zero]
            first | exact ghN0 (hTi _) | exact ghN (hTi _)) ?_
        intro z hz K2 hK2 hE2 hR2
        by_cases hzn : z < n
        · have hlt2 : ((z : Int) < (n : Int)) := by omega
          have hw2 : IntKind.i64.wrap ((z : Int) + 1) = ((z + 1 : Nat) : Int) := by rw [wrap_ok (by omega)]; omega
          simp only [go_sem, Int.reduceToNat, Int.reduceLE, Int.reduceLT, Nat.reduceBEq, Nat.reduceLT, Nat.reduceAdd, Nat.reduceLeDiff, dr_iGroups_0, dr_iGroups_1, hlt2]
          refine (lnk _ (A : Int) (z : Int) (by omega) (by omega)).to ?_
          rw [Int.toNat_natCast, Int.toNat_natCast, oneP_succ]
          simp only [go_sem, Int.reduceToNat, Int.reduceLE, Int.reduceLT, Nat.reduceBEq, Nat.reduceLT, Nat.reduceAdd, Nat.reduceLeDiff, dr_iGroups_0, dr_iGroups_1]
          refine hK2 _ _ (z + 1) (by omega) (by omega) ?_
          have := hTl (oneP (l.take i) A (z + 1))
          have hilk := ilk (T (oneP (l.take i) A (z + 1))).length (by omega)
          have hifk := hfk (T (oneP (l.take i) A (z + 1))).length (by omega)
          have h12k := h12 (T (oneP (l.take i) A (z + 1))).length
          (try dsimp only)
          rw [hw2]
          first | exact ghN0 (hTi _) | exact ghN (hTi _)
        · obtain rfl : n = z := by omega
          have hlt2 : ¬ ((n : Int) < (n : Int)) := by omega
          rw [hc]
          simp only [go_sem, Int.reduceToNat, Int.reduceLE, Int.reduceLT, Nat.reduceBEq, Nat.reduceLT, Nat.reduceAdd, Nat.reduceLeDiff, dr_iGroups_0, dr_iGroups_1, hlt2, hE2]
          refine hK _ _ (i + 1) (by omega) (by omega) ?_
          have := hTl (linkP (l.take (i + 1)))
          have hilk := ilk (T (linkP (l.take (i + 1)))).length (by omega)
          have hifk := hfk (T (linkP (l.take (i + 1)))).length (by omega)
          (try dsimp only)
          rw [hw]
          first | exact ghN0 (hTi _) | exact ghN (hTi _)
    | [a, b], hcv =>
      have h1 : (((2 : Nat) : Int) == 2) = true := rfl
      have h2 : (((2 : Nat) : Int) == 1) = false := rfl
      have h1' : ((2 : Int) == 2) = true := rfl
      have h2' : ((2 : Int) == 1) = false := rfl
      simp only [cV, condB, Bool.and_eq_true, decide_eq_true_eq] at hcv
      cases ha : a.neg
      · have hc := noP_end (l.take i) [a, b] (fun x y => by
          have : a ≠ (⟨if y < x then y else x, true⟩ : FLit) := by intro e; rw [e] at ha; simp at ha
          simp [apartC, this])
        simp only [go_sem, Int.reduceToNat, Int.reduceLE, Int.reduceLT, Nat.reduceBEq, Nat.reduceLT, Nat.reduceAdd, Nat.reduceLeDiff, dr_iGroups_0, dr_iGroups_1, hlt, hx', h1, h2, h1', h2', encLit, ha]
        rw [hc, ← htk]
        refine hK _ _ (i + 1) (by omega) (by omega) ?_
        have := hTl (linkP (l.take (i + 1)))
        have hilk := ilk (T (linkP (l.take (i + 1)))).length (by omega)
        have hifk := hfk (T (linkP (l.take (i + 1)))).length (by omega)
        (try dsimp only)
        rw [hw]
        first | exact ghN0 (hTi _) | exact ghN (hTi _)
      · cases hb : b.neg
        · have hc := noP_end (l.take i) [a, b] (fun x y => by
            have : b ≠ (⟨if y > x then y else x, true⟩ : FLit) := by intro e; rw [e] at hb; simp at hb
            simp [apartC, this])
          simp only [go_sem, Int.reduceToNat, Int.reduceLE, Int.reduceLT, Nat.reduceBEq, Nat.reduceLT, Nat.reduceAdd, Nat.reduceLeDiff, dr_iGroups_0, dr_iGroups_1, hlt, hx', h1, h2, h1', h2', encLit, ha, hb]
          rw [hc, ← htk]
          refine hK _ _ (i + 1) (by omega) (by omega) ?_
          have := hTl (linkP (l.take (i + 1)))
          have hilk := ilk (T (linkP (l.take (i + 1)))).length (by omega)
          have hifk := hfk (T (linkP (l.take (i + 1)))).length (by omega)
          (try dsimp only)
          rw [hw]
          first | exact ghN0 (hTi _) | exact ghN (hTi _)
        · obtain ⟨A, hA⟩ : ∃ A : Nat, a.fact = (A : Int) := ⟨a.fact.toNat, by omega⟩
          obtain ⟨B, hB⟩ : ∃ B : Nat, b.fact = (B : Int) := ⟨b.fact.toNat, by omega⟩
          have hc := twoP_end (l.take i) a b hA hB (by omega) ha hb
          simp only [go_sem, Int.reduceToNat, Int.reduceLE, Int.reduceLT, Nat.reduceBEq, Nat.reduceLT, Nat.reduceAdd, Nat.reduceLeDiff, dr_iGroups_0, dr_iGroups_1, hlt, hx', h1, h2, h1', h2', encLit, ha, hb, hA, hB]
          refine ⟨_, _, lnk _ (A : Int) (B : Int) (by omega) (by omega), ?_⟩
          rw [Int.toNat_natCast, Int.toNat_natCast]
          rw [hc, ← htk]
          refine hK _ _ (i + 1) (by omega) (by omega) ?_
          have := hTl (linkP (l.take (i + 1)))
          have hilk := ilk (T (linkP (l.take (i + 1)))).length (by omega)
          have hifk := hfk (T (linkP (l.take (i + 1)))).length (by omega)
          (try dsimp only)
          rw [hw]
          first | exact ghN0 (hTi _) | exact ghN (hTi _)
    | a :: b :: d :: r, _ =>
      have h1 : (((r.length + 1 + 1 + 1 : Nat) : Int) == 2) = false := by simp; omega
      have h2 : (((r.length + 1 + 1 + 1 : Nat) : Int) == 1) = false := by simp; omega
      have hc := noP_end (l.take i) (a :: b :: d :: r) (fun _ _ => rfl)
      simp only [go_sem, Int.reduceToNat, Int.reduceLE, Int.reduceLT, Nat.reduceBEq, Nat.reduceLT, Nat.reduceAdd, Nat.reduceLeDiff, dr_iGroups_0, dr_iGroups_1, hlt, hx', h1, h2]
      rw [hc, ← htk]
      refine hK _ _ (i + 1) (by omega) (by omega) ?_
      have := hTl (linkP (l.take (i + 1)))
      have hilk := ilk (T (linkP (l.take (i + 1)))).length (by omega)
      have hifk := hfk (T (linkP (l.take (i + 1)))).length (by omega)
      (try dsimp only)
      rw [hw]
      first | exact ghN0 (hTi _) | exact ghN (hTi _)
  · have hlt : ¬ ((i : Int) < (l.length : Int)) := by omega
    rw [List.take_of_length_le (by omega : l.length ≤ i)]
    have hnf : Value.nilFunc.oneCell' = true := rfl
    simp only [go_sem, Int.reduceToNat, Int.reduceLE, Int.reduceLT, Nat.reduceBEq, Nat.reduceLT, Nat.reduceAdd, Nat.reduceLeDiff, dr_iGroups_0, dr_iGroups_1, hlt, hE, hnf]
    clear hK hE hR
    obtain ⟨N, hN⟩ : ∃ N, N = σ.length + 3 + n := ⟨_, rfl⟩
    have hTN : (T (linkP l)).length = N := by rw [hTl, hN]
    rw [hTN]
    have gT : ∀ r j, (T (linkP l) ++ r)[N + j]? = r[j]? := fun r j => by rw [← hTN]; exact g_get _ _ _
    have gT0 : ∀ r, (T (linkP l) ++ r)[N]? = r[0]? := fun r => by rw [← hTN]; exact g_get0 _ _
    obtain ⟨B0, hB0⟩ : ∃ B0, B0 = T (linkP l) ++ [AObj.row [.vec (N + 3) 1 0], .row [.int .i64 262144], .row [.func 39 [.ptr (N + 1) 0, .ptr N 0, .ptr (σ.length + 2) 0, .ptr (N + 2) 0]], .vec 1 0 []] := ⟨_, rfl⟩
    have hB0l : B0.length = N + 4 := by rw [hB0, List.length_append, hTN]; rfl
    rw [wpc_ghost]
    refine Gh.of (Ghost.vecCell N 1 (by rw [gT0]; rfl)) ?_
    have hst1 : ∀ (f : AObj), ((T (linkP l) ++ [AObj.row [AV.slice .nil []], .row [.int .i64 262144], f]) ++ [AObj.vec 1 0 []]).set N (.row [.vec (T (linkP l) ++ [AObj.row [AV.slice .nil []], .row [.int .i64 262144], f]).length 1 0]) = T (linkP l) ++ [AObj.row [.vec (N + 3) 1 0], .row [.int .i64 262144], f, .vec 1 0 []] := fun f => by
      rw [List.append_assoc, ← hTN, g_set0, List.length_append]; rfl
    rw [hst1, ← hB0]
    have hif : ∀ k, N + 4 ≤ k → Ids k (.func 39 [.ptr (N + 1) 0, .ptr N 0, .ptr (σ.length + 2) 0, .ptr (N + 2) 0]) := fun k hk => .func _ _ (fun j x hx => by
      match j, hx with
      | 0, hx => simp at hx; subst hx; exact .ptr _ _ (by omega)
      | 1, hx => simp at hx; subst hx; exact .ptr _ _ (by omega)
      | 2, hx => simp at hx; subst hx; exact .ptr _ _ (by omega)
      | 3, hx => simp at hx; subst hx; exact .ptr _ _ (by omega)
      | j + 4, hx => simp at hx)
    have hB0i : ∀ r : Store, (∀ o ∈ r, IdsO (N + 4 + r.length) o) → IdsS (B0 ++ r).length (B0 ++ r) := fun r hr => by
      rw [hB0, List.append_assoc]
      refine idsS_app _ (hTi _) fun o ho => ?_
      have hlen : (T (linkP l)).length + ([AObj.row [.vec (N + 3) 1 0], .row [.int .i64 262144], .row [.func 39 [.ptr (N + 1) 0, .ptr N 0, .ptr (σ.length + 2) 0, .ptr (N + 2) 0]], .vec 1 0 []] ++ r).length = N + 4 + r.length := by
        rw [List.length_append, hTN]; simp only [List.length_cons, List.length_nil]; omega
      rw [hlen]
      rcases List.mem_append.1 ho with ho | ho
      · simp only [List.mem_cons, List.not_mem_nil, or_false] at ho
        rcases ho with rfl | rfl | rfl | rfl
        · exact idsO_row (by intro x hx; simp at hx; subst hx; exact .vec _ _ _ (by omega))
        · exact idsO_row (by intro x hx; simp at hx; subst hx; exact .int _ _)
        · exact idsO_row (by intro x hx; simp at hx; subst hx; exact hif _ (by omega))
        · intro j x hx; simp at hx
      · exact hr o ho
    have hBi0 : IdsS B0.length B0 := by have := hB0i [] (by simp); rwa [List.append_nil] at this
    have hBi1 : ∀ k : Nat, IdsS (B0 ++ [AObj.grow 1 k]).length (B0 ++ [AObj.grow 1 k]) := fun k => hB0i _ (by simp [IdsO])
    simp only [go_sem, Int.reduceToNat, Int.reduceLE, Int.reduceLT, Nat.reduceBEq, Nat.reduceLT, Nat.reduceAdd, Nat.reduceLeDiff, dr_iGroups_0, dr_iGroups_1]
    refine wpc_while (fun (k : Nat) => [(14, .ptr N 0), (15, .ptr (N + 1) 0), (16, .ptr (N + 2) 0), (17, .slice (.grow (N + 4)) ((allI k).map Ahl.encI)), (98, .int .i64 n), (99, .int .i64 k)])
      (fun k => B0 ++ [AObj.grow 1 k]) (fun k => k ≤ n) (fun k => n - k) 0 (Nat.zero_le _)
      (by
        (try dsimp only)
        refine Ghost.trans (s' := [(17, .slice .nil []), (14, .ptr N 0), (15, .ptr (N + 1) 0), (16, .ptr (N + 2) 0), (98, .int .i64 n), (99, .int .i64 0)]) (σ' := B0) ?_ ?_
        · first | exact ghN0 hBi0 | exact ghN hBi0
        · refine (Ghost.tok 17 1 (.inl rfl)).trans ?_
          rw [hB0l]
          have hl4 : (B0 ++ [AObj.grow 1 0]).length = N + 5 := by rw [List.length_append, hB0l]; rfl
          have hq := hBi1 0
          first | exact ghN0 hq | exact ghN hq) ?_
    intro k hk K hK hE hR
    by_cases hkn : k < n
    · have hltk : ((k : Int) < (n : Int)) := by omega
      have hwk : IntKind.i64.wrap ((k : Int) + 1) = ((k + 1 : Nat) : Int) := by rw [wrap_ok (by omega)]; omega
      have hbk : bigLen (k + 1) 8 := big_ok (by omega) (by omega)
      have hak : (allI k).length = k := by simp [allI]
      have gB : ∀ r, (B0 ++ r)[N + 4]? = r[0]? := fun r => by rw [← hB0l]; exact g_get0 _ _
      have sB : ∀ r x, (B0 ++ r).set (N + 4) x = B0 ++ r.set 0 x := fun r x => by rw [← hB0l]; exact g_set0 _ _ _
      simp only [go_sem, Int.reduceToNat, Int.reduceLE, Int.reduceLT, Nat.reduceBEq, Nat.reduceLT, Nat.reduceAdd, Nat.reduceLeDiff, dr_iGroups_0, dr_iGroups_1, hltk, hwk, hbk, hak, gB, sB]
      rw [← allI_succ]
      refine hK _ _ (k + 1) (by omega) (by omega) ?_
      have hl4 : (B0 ++ [AObj.grow 1 (k + 1)]).length = N + 5 := by rw [List.length_append, hB0l]; rfl
      have hq := hBi1 (k + 1)
      (try dsimp only)
      first | exact ghN0 hq | exact ghN hq
    obtain rfl : n = k := by omega
    have hltk : ¬ ((n : Int) < (n : Int)) := by omega
    obtain ⟨B, hB⟩ : ∃ B, B = B0 ++ [AObj.grow 1 n] := ⟨_, rfl⟩
    have hBl : B.length = N + 5 := by rw [hB, List.length_append, hB0l]; rfl
    have hBi : IdsS B.length B := by rw [hB]; exact hBi1 n
    have gBj : ∀ j, B[N + j]? = ([AObj.row [.vec (N + 3) 1 0], .row [.int .i64 262144], .row [.func 39 [.ptr (N + 1) 0, .ptr N 0, .ptr (σ.length + 2) 0, .ptr (N + 2) 0]], .vec 1 0 [], .grow 1 n] : Store)[j]? := fun j => by
      rw [hB, hB0, List.append_assoc, gT]; rfl
    have gBN : B[N]? = some (.row [.vec (N + 3) 1 0]) := gBj 0
    have gBL : B[N + 1]? = some (.row [.int .i64 262144]) := gBj 1
    have gBE : B[N + 2]? = some (.row [.func 39 [.ptr (N + 1) 0, .ptr N 0, .ptr (σ.length + 2) 0, .ptr (N + 2) 0]]) := gBj 2
    have gBG : B[N + 3]? = some (.vec 1 0 []) := gBj 3
    rw [← hB]
    have hXS : XS B (σ.length + 2) (σ.length + 1) (σ.length + 3) n N (N + 1) (N + 2) (N + 3) (linkP l) := by
      refine ⟨⟨?_, ?_, fun i hi => ?_⟩, gBE, by omega, by omega, by omega, by omega, by omega, by omega, by omega⟩
      · rw [hB, hB0, List.append_assoc, hT, List.append_assoc, List.getElem?_append_left (by omega)]; exact hpV
      · rw [hB, hB0, List.append_assoc, hT, List.append_assoc, List.getElem?_append_left (by omega), hpD, hpl]
      · rw [hB, hB0, List.append_assoc, hT, List.append_assoc, List.getElem?_append_right (by omega), List.getElem?_append_left (by rw [rowsP_len]; omega), hpl, Nat.add_sub_cancel_left, rowsP_get _ hi]
    have hxid := xst_id gBN gBL gBG
    have hal : (allI n).length = n := by simp [allI]
    obtain ⟨out, hout⟩ : ∃ out, out = bk (lkB (linkP l)) (n + 1) [] (allI n) [] := ⟨_, rfl⟩
    obtain ⟨k', hk'⟩ : ∃ k' : Int, k' = 262144 - (bkN (lkB (linkP l)) (n + 1) (allI n) : Int) := ⟨_, rfl⟩
    have hbn : bkN (lkB (linkP l)) (n + 1) (allI n) ≤ 256 := by
      refine Nat.le_trans (bkN_le _ _ _) ?_
      rw [hal]; exact Nat.pow_le_pow_right (by omega : 0 < 2) (show n ≤ 8 by omega)
    have hc := gExt_spec (σ.length + 2) (σ.length + 1) (σ.length + 3) n N (N + 1) (N + 2) (N + 3) (linkP l) (linkP_self l) (n + 1) B [] (allI n) [] 262144 [] .nil (.grow (N + 4)) hXS (by omega) (fun x hx => allI_mem.1 hx) (by simp) (by simp; omega) (by simp; omega) (by omega) (by simp)
    rw [List.length_nil, List.nil_append, ← hout, ← hk', xt, hxid, xt] at hc
    have hxi := xst_ids hXS (k := k') (o := out) hBi
    rw [← xst_len B N (N + 1) (N + 3) k' out] at hxi
    have hc2 := ACalls.nilTok [.slice .nil [], .slice (.grow (N + 4)) ((allI n).map Ahl.encI)] [.ptr (N + 1) 0, .ptr N 0, .ptr (σ.length + 2) 0, .ptr (N + 2) 0] 1 hc (xst_len _ _ _ _ _ _) hxi (.tuple [] (by simp))
    simp only [go_sem, Int.reduceToNat, Int.reduceLE, Int.reduceLT, Nat.reduceBEq, Nat.reduceLT, Nat.reduceAdd, Nat.reduceLeDiff, dr_iGroups_0, dr_iGroups_1, hltk, hE, gBE]
    refine hc2.to ?_
    have gL := xst_L hXS k' out
    have gO := xst_O hXS k' out
    have gG := xst_G hXS k' out
    have hk0 : ¬ (k' < 0) := by omega
    simp only [go_sem, Int.reduceToNat, Int.reduceLE, Int.reduceLT, Nat.reduceBEq, Nat.reduceLT, Nat.reduceAdd, Nat.reduceLeDiff, dr_iGroups_0, dr_iGroups_1, gL, hk0]
    rw [wpc_ghost]
    refine Gh.of (Ghost.vecRef N (N + 3) gO gG) ?_
    rw [xst_len]
    obtain ⟨Z, hZ⟩ : ∃ Z, Z = ((xst B N (N + 1) (N + 3) k' out).set (N + 3) .dead ++ [AObj.row (out.map vI)]).set N (.row [.ref B.length 1 0 out.length]) := ⟨_, rfl⟩
    rw [← hZ]
    have hZl : Z.length = N + 6 := by rw [hZ, List.length_set, List.length_append, List.length_set, xst_len, hBl]; rfl
    have hZN : Z[N]? = some (.row [.ref B.length 1 0 out.length]) := by rw [hZ, List.getElem?_set_self (by rw [List.length_append, List.length_set, xst_len, hBl]; omega)]
    have hZB : Z[B.length]? = some (.row (out.map vI)) := by
      rw [hZ, List.getElem?_set_ne (by omega), List.getElem?_append_right (by rw [List.length_set, xst_len]; exact Nat.le_refl _), List.length_set, xst_len, Nat.sub_self]; rfl
    have hσB : B.take σ.length = σ := by rw [hB, hB0, hT, hpre]; simp
    have hZt : Z.take σ.length = σ := by
      rw [hZ, List.take_set_of_le (by omega), List.take_append_of_le_length (by rw [List.length_set, xst_len, hBl]; omega), List.take_set_of_le (by omega)]
      unfold xst
      rw [List.take_set_of_le (by omega), List.take_set_of_le (by omega), List.take_set_of_le (by omega)]
      exact hσB
    have hol : out.length ≤ 256 := by rw [hout]; exact Nat.le_trans (bk_len _ _ _ _ _) hbn
    have hsym : ∀ a b, lkB (linkP l) a b = lkB (linkP l) b a := fun a b => linkP_swap l _ _
    have hirr : ∀ a, lkB (linkP l) a a = false := fun a => linkP_self l _
    have honl : ∀ x ∈ out, x.length ≤ 140737488355328 := fun x hx => by
      rw [hout] at hx
      have hA := (bk_mem hsym hirr n (n + 1) [] (allI n) [] (by omega) (bk_start n _) x).1 hx
      have hm := statesL_mem n x (statesL_all n x hA.1.srt hA.1.rng)
      omega
    have hnd : out.Nodup := by rw [hout]; exact bk_nodup hsym hirr n (n + 1) [] (allI n) [] (by omega) (bk_start n _)
    simp only [go_sem, Int.reduceToNat, Int.reduceLE, Int.reduceLT, Nat.reduceBEq, Nat.reduceLT, Nat.reduceAdd, Nat.reduceLeDiff, dr_iGroups_0, dr_iGroups_1, hZN]
    refine (sortLL_spec B.length out honl hnd Z hZB (by omega)).mono ?_
    rintro _ _ ⟨rfl, l', hp, hs, rfl⟩
    have hgr := groups_same n l (hout ▸ hp) hs
    have hZN2 : (Z.set B.length (.row (l'.map vI)))[N]? = some (.row [.ref B.length 1 0 out.length]) := by rw [List.getElem?_set_ne (by omega)]; exact hZN
    simp only [go_sem, Int.reduceToNat, Int.reduceLE, Int.reduceLT, Nat.reduceBEq, Nat.reduceLT, Nat.reduceAdd, Nat.reduceLeDiff, dr_iGroups_0, dr_iGroups_1, hZN2]
    refine ret_gh2 (v := .slice .fresh (l'.map encLf)) (x := .int .i64 0) (σ' := σ) ?_ rfl (Nat.le_refl _) hσ (ids_mapf ids_encLf _) (.int _ _) ⟨by rw [groRf, if_pos h1, hgr, hn], rfl⟩
    refine Ghost.trans (Ghost.freezeF 4 (l'.map encLf) rfl (by rw [List.getElem?_set_self (by omega)]) (by rw [List.length_map, hp.length_eq]) (row_frzL _)) ?_
    have hfin : ((Z.set B.length (.row (l'.map vI))).set B.length .dead).take σ.length = σ := by rw [List.set_set, List.take_set_of_le (by omega)]; exact hZt
    have hct : ∀ s, Wk (lk s 4) (.slice .fresh (l'.map encLf)) → Wk (lk s 5) (.int .i64 0) → Ghost σ.length 115 s ((Z.set B.length (.row (l'.map vI))).set B.length .dead) [(4, .slice .fresh (l'.map encLf)), (5, .int .i64 0)] σ := fun s w1 w2 => by
      have := Ghost.cut (n0 := σ.length) (nt := 115) (σ := (Z.set B.length (.row (l'.map vI))).set B.length .dead) (s := s) [(4, .slice .fresh (l'.map encLf)), (5, .int .i64 0)] σ.length (Nat.le_refl _) ⟨⟨w1, ids_mapf ids_encLf _⟩, ⟨w2, .int _ _⟩, trivial⟩ (by rw [hfin]; exact hσ)
      rw [hfin] at this; exact this
    exact hct _ (.refl _) (.refl _)
theorem iGroups_spec (t : FTask) (l : List (List FLit)) (tok : Tok) (σ : Store) (ht : TB t) (hl : FB l) (h8 : validB t = true → t.facts.length ≤ 8) :
    ACalls Tryz.prog 10 [.agg (encTask t), .slice tok (l.map encC)] σ (isR (groR t l) σ) := (iGroups_specF t l tok σ ht hl h8).wkR (groRf_wk t l)
end Go.Proofs.YtocphglkceidhaaGreat
namespace Go.Proofs.YtocphglkceidhaaGreat
open Go.Ahl
def t0 : FTask := ⟨[bys [104, 101, 114, 101], bys [116, 104, 101, 114, 101]], [0], [⟨1, false⟩], [⟨bys [103, 111], 2, [⟨0, false⟩], [⟨[], ⟨0, true⟩⟩, ⟨[], ⟨1, false⟩⟩]⟩]⟩
theorem t0_TB : TB t0 := ⟨by decide, by decide, by decide, by decide, by decide, by decide, by decide, by decide, by decide⟩
theorem FB_small {f : List (List FLit)} (h : f.length ≤ 1000 ∧ ∀ l ∈ f, l.length ≤ 1000) : FB f := ⟨by have := h.1; omega, fun l hl => by have := h.2 l hl; omega⟩
end Go.Proofs.YtocphglkceidhaaGreat
namespace Go.Proofs.YtocphglkceidhaaGreat
open Go.Ahl
def p0 : List (List FLit) := [[⟨0, false⟩, ⟨1, false⟩], [⟨0, true⟩, ⟨1, true⟩]]
theorem t0_pairs : pairsR t0 = .tuple [.slice .unk (p0.map encC), .int .i64 0] := by kernel_rfl
theorem t0_groups : groR t0 p0 = .tuple [.slice .unk ([[0, 1]].map encL), .int .i64 0] := by kernel_rfl
theorem t0_ind : indR t0 p0 = .tuple [.bool true, .int .i64 0] := by kernel_rfl
theorem t0_noind : indR t0 [[⟨0, false⟩]] = .tuple [.bool false, .int .i64 0] := by kernel_rfl
def c_awake8 : CCode := .seq (.ops [⟨some 0, .move (.lit (.bool false)), none, []⟩]) (.seq (.ops [⟨some 10, .bslice 1 [.lit (.str (bys [104, 101, 114, 101])), .lit (.str (bys [116, 104, 101, 114, 101]))] false, none, []⟩, ⟨some 11, .bslice 1 [.lit (.int .i64 0)] false, none, []⟩, ⟨some 12, .build [.int .i64 0, .bool false] [(0, 1, .lit (.int .i64 1))], none, []⟩, ⟨some 13, .bslice 2 [.tmp 12] false, none, []⟩, ⟨some 14, .build [.int .i64 0, .bool false] [(0, 1, .lit (.int .i64 0))], none, []⟩, ⟨some 15, .bslice 2 [.tmp 14] false, none, []⟩, ⟨some 16, .build [.int .i64 0, .bool false] [(0, 1, .lit (.int .i64 0)), (1, 1, .lit (.bool true))], none, []⟩, ⟨some 17, .build [.slice .nil [], .int .i64 0, .bool false] [(1, 2, .tmp 16)], none, []⟩, ⟨some 18, .build [.int .i64 0, .bool false] [(0, 1, .lit (.int .i64 1))], none, []⟩, ⟨some 19, .build [.slice .nil [], .int .i64 0, .bool false] [(1, 2, .tmp 18)], none, []⟩, ⟨some 20, .bslice 3 [.tmp 17, .tmp 19] false, none, []⟩, ⟨some 21, .build [.str (bys []), .int .i64 0, .slice .nil [], .slice .nil []] [(0, 1, .lit (.str (bys [103, 111]))), (1, 1, .lit (.int .i64 2)), (2, 1, .tmp 15), (3, 1, .tmp 20)], none, []⟩, ⟨some 22, .bslice 4 [.tmp 21] false, none, []⟩, ⟨some 23, .build [.slice .nil [], .slice .nil [], .slice .nil [], .slice .nil []] [(0, 1, .tmp 10), (1, 1, .tmp 11), (2, 1, .tmp 13), (3, 1, .tmp 22)], none, []⟩, ⟨some 1, .alloc (.agg [.slice .nil [], .slice .nil [], .slice .nil [], .slice .nil []]), none, []⟩, ⟨none, .store 4 (.tmp 1) (.tmp 23), none, []⟩]) (.seq (.ops [⟨some 25, .load (some 4) (.tmp 1), none, []⟩, ⟨some 26, .call (.lit (.func 15 [])) [.tmp 25], none, []⟩, ⟨some 24, .move (.tmp 26), none, []⟩, ⟨some 27, .extract (.tmp 24) 0, none, []⟩, ⟨some 28, .extract (.tmp 24) 1, none, []⟩, ⟨some 2, .move (.tmp 27), none, []⟩, ⟨some 3, .move (.tmp 28), none, []⟩]) (.seq (.ops [⟨some 30, .load (some 4) (.tmp 1), none, []⟩, ⟨some 31, .move (.tmp 2), none, []⟩, ⟨some 32, .call (.lit (.func 10 [])) [.tmp 30, .tmp 31], none, []⟩, ⟨some 29, .move (.tmp 32), none, []⟩, ⟨some 33, .extract (.tmp 29) 0, none, []⟩, ⟨some 34, .extract (.tmp 29) 1, none, []⟩, ⟨some 4, .move (.tmp 33), none, []⟩, ⟨some 5, .move (.tmp 34), none, []⟩]) (.seq (.ops [⟨some 36, .load (some 4) (.tmp 1), none, []⟩, ⟨some 37, .move (.tmp 2), none, []⟩, ⟨some 38, .call (.lit (.func 22 [])) [.tmp 36, .tmp 37], none, []⟩, ⟨some 35, .move (.tmp 38), none, []⟩, ⟨some 39, .extract (.tmp 35) 0, none, []⟩, ⟨some 40, .extract (.tmp 35) 1, none, []⟩, ⟨some 6, .move (.tmp 39), none, []⟩, ⟨some 7, .move (.tmp 40), none, []⟩]) (.seq (.ops [⟨some 42, .load (some 4) (.tmp 1), none, []⟩, ⟨some 43, .build [.int .i64 0, .bool false] [(0, 1, .lit (.int .i64 0))], none, []⟩, ⟨some 44, .bslice 2 [.tmp 43] false, none, []⟩, ⟨some 45, .bslice 1 [.tmp 44] false, none, []⟩, ⟨some 46, .call (.lit (.func 22 [])) [.tmp 42, .tmp 45], none, []⟩, ⟨some 41, .move (.tmp 46), none, []⟩, ⟨some 47, .extract (.tmp 41) 0, none, []⟩, ⟨some 48, .extract (.tmp 41) 1, none, []⟩, ⟨some 8, .move (.tmp 47), none, []⟩, ⟨some 9, .move (.tmp 48), none, []⟩]) (.seq (.ops [⟨some 49, .move (.tmp 3), none, []⟩, ⟨some 50, .bin .eql .none (.tmp 49) (.lit (.int .i64 0)), none, []⟩, ⟨some 51, .move (.tmp 50), none, []⟩, ⟨some 52, .move (.tmp 2), some (some 51, true), []⟩, ⟨some 53, .blen 1 (.tmp 52), some (some 51, true), []⟩, ⟨some 54, .bin .eql .none (.tmp 53) (.lit (.int .i64 2)), some (some 51, true), []⟩, ⟨some 55, .pick (.tmp 51) (.tmp 54) (.lit (.bool false)), none, []⟩, ⟨some 56, .move (.tmp 55), none, []⟩, ⟨some 57, .move (.tmp 5), some (some 56, true), []⟩, ⟨some 58, .bin .eql .none (.tmp 57) (.lit (.int .i64 0)), some (some 56, true), []⟩, ⟨some 59, .pick (.tmp 56) (.tmp 58) (.lit (.bool false)), none, []⟩, ⟨some 60, .move (.tmp 59), none, []⟩, ⟨some 61, .move (.tmp 4), some (some 60, true), []⟩, ⟨some 62, .blen 1 (.tmp 61), some (some 60, true), []⟩, ⟨some 63, .bin .eql .none (.tmp 62) (.lit (.int .i64 1)), some (some 60, true), []⟩, ⟨some 64, .pick (.tmp 60) (.tmp 63) (.lit (.bool false)), none, []⟩, ⟨some 65, .move (.tmp 64), none, []⟩, ⟨some 66, .move (.tmp 4), some (some 65, true), []⟩, ⟨some 67, .iaddr 1 (.tmp 66) (.lit (.int .i64 0)), some (some 65, true), []⟩, ⟨some 68, .load none (.tmp 67), some (some 65, true), []⟩, ⟨some 69, .bslice 1 [.lit (.int .i64 0), .lit (.int .i64 1)] false, some (some 65, true), []⟩, ⟨some 70, .call (.lit (.func 36 [])) [.tmp 68, .tmp 69], some (some 65, true), []⟩, ⟨some 71, .pick (.tmp 65) (.tmp 70) (.lit (.bool false)), none, []⟩, ⟨some 72, .move (.tmp 71), none, []⟩, ⟨some 73, .move (.tmp 6), some (some 72, true), []⟩, ⟨some 74, .pick (.tmp 72) (.tmp 73) (.lit (.bool false)), none, []⟩, ⟨some 75, .move (.tmp 74), none, []⟩, ⟨some 76, .move (.tmp 7), some (some 75, true), []⟩, ⟨some 77, .bin .eql .none (.tmp 76) (.lit (.int .i64 0)), some (some 75, true), []⟩, ⟨some 78, .pick (.tmp 75) (.tmp 77) (.lit (.bool false)), none, []⟩, ⟨some 79, .move (.tmp 78), none, []⟩, ⟨some 80, .move (.tmp 8), some (some 79, true), []⟩, ⟨some 81, .un .not (.tmp 80), some (some 79, true), []⟩, ⟨some 82, .pick (.tmp 79) (.tmp 81) (.lit (.bool false)), none, []⟩, ⟨some 83, .move (.tmp 82), none, []⟩, ⟨some 84, .move (.tmp 9), some (some 83, true), []⟩, ⟨some 85, .bin .eql .none (.tmp 84) (.lit (.int .i64 0)), some (some 83, true), []⟩, ⟨some 86, .pick (.tmp 83) (.tmp 85) (.lit (.bool false)), none, []⟩, ⟨some 0, .move (.tmp 86), none, []⟩]) .ret))))))
set_option maxRecDepth 20000 in
set_option maxHeartbeats 1000000 in
theorem awake8_spec (σ : Store) : ACalls Tryz.prog 9 [] σ (isR (.bool true) σ) := by
  refine ACalls.intro (rs := [(.tmp 0)]) (by kernel_rfl) { own := [], ghosts := [] } Tryz.func9 (c := Tryz.f9.body.getD .skip) (by kernel_rfl) (by decide) (by rw [show Tryz.f9.ntmps = 87 by kernel_rfl]; exact Nat.le_of_ble_eq_true rfl) (by kernel_rfl) ?_
  intro hσ hids
  rw [show comp Tryz.prog { own := [], ghosts := [] } (Tryz.f9.body.getD .skip) = c_awake8 by kernel_rfl, show Tryz.f9.ntmps = 87 by kernel_rfl]
  unfold c_awake8
  simp only [go_sem, Int.reduceToNat, Int.reduceLE, Int.reduceLT, Nat.reduceBEq, Nat.reduceLT, Nat.reduceAdd, Nat.reduceLeDiff]
  have e1 := fun σ => Pairs_spec t0 σ t0_TB (fun _ => by decide)
  rw [t0_pairs] at e1
  refine ACalls.is (ACalls.wk (e1 _) ?_) ?_
  · repeat (first | exact Wk.refl _ | exact WkL.nil | exact WkLL.nil | exact WkL.refl _ | refine Wk.agg ?_ | refine Wk.sl _ ?_ | refine WkL.cons ?_ ?_ | refine WkLL.cons ?_ ?_)
  have e2 := fun σ => iGroups_spec t0 p0 .unk σ t0_TB (FB_small (by decide)) (fun _ => by decide)
  rw [t0_groups] at e2
  simp only [go_sem, Int.reduceToNat, Int.reduceLE, Int.reduceLT, Nat.reduceBEq, Nat.reduceLT, Nat.reduceAdd, Nat.reduceLeDiff]
  refine ACalls.is (ACalls.wk (e2 _) ?_) ?_
  · repeat (first | exact Wk.refl _ | exact WkL.nil | exact WkLL.nil | exact WkL.refl _ | refine Wk.agg ?_ | refine Wk.sl _ ?_ | refine WkL.cons ?_ ?_ | refine WkLL.cons ?_ ?_)
  have e3 := fun σ => Inductive_spec t0 p0 .unk σ t0_TB (FB_small (by decide)) (fun _ => by decide)
  rw [t0_ind] at e3
  simp only [go_sem, Int.reduceToNat, Int.reduceLE, Int.reduceLT, Nat.reduceBEq, Nat.reduceLT, Nat.reduceAdd, Nat.reduceLeDiff]
  refine ACalls.is (ACalls.wk (e3 _) ?_) ?_
  · repeat (first | exact Wk.refl _ | exact WkL.nil | exact WkLL.nil | exact WkL.refl _ | refine Wk.agg ?_ | refine Wk.sl _ ?_ | refine WkL.cons ?_ ?_ | refine WkLL.cons ?_ ?_)
  have e4 := fun σ => Inductive_spec t0 [[⟨0, false⟩]] .unk σ t0_TB (FB_small (by decide)) (fun _ => by decide)
  rw [t0_noind] at e4
  simp only [go_sem, Int.reduceToNat, Int.reduceLE, Int.reduceLT, Nat.reduceBEq, Nat.reduceLT, Nat.reduceAdd, Nat.reduceLeDiff]
  refine ACalls.is (ACalls.wk (e4 _) ?_) ?_
  · repeat (first | exact Wk.refl _ | exact WkL.nil | exact WkLL.nil | exact WkL.refl _ | refine Wk.agg ?_ | refine Wk.sl _ ?_ | refine WkL.cons ?_ ?_ | refine WkLL.cons ?_ ?_)
  have h1 : ((p0.length : Int) == 2) = true := rfl
  have h2 : (((1 : Nat) : Int) == 1) = true := rfl
  have h3 : ((1 : Int) == 1) = true := rfl
  simp only [go_sem, Int.reduceToNat, Int.reduceLE, Int.reduceLT, Nat.reduceBEq, Nat.reduceLT, Nat.reduceAdd, Nat.reduceLeDiff, h1, h2, h3, encL]
  refine ACalls.is (ACalls.wk (sameInts_spec [0, 1] [0, 1] .unk .unk _ (by decide) (by decide)) ?_) ?_
  · repeat (first | exact Wk.refl _ | exact WkL.nil | exact WkLL.nil | exact WkL.refl _ | refine Wk.agg ?_ | refine Wk.sl _ ?_ | refine WkL.cons ?_ ?_ | refine WkLL.cons ?_ ?_)
  rw [show decide (([0, 1] : List Int) = [0, 1]) = true by decide]
  simp only [go_sem, Int.reduceToNat, Int.reduceLE, Int.reduceLT, Nat.reduceBEq, Nat.reduceLT, Nat.reduceAdd, Nat.reduceLeDiff]
  first | exact rtk (.bool true) ⟨rfl, rfl⟩ | exact rtk0 (.bool true) ⟨rfl, rfl⟩
end Go.Proofs.YtocphglkceidhaaGreat
namespace Go.Proofs.YtocphglkceidhaaGreat
open Go.Ahl Go.ChangeShapes Go.WideShapes Go.ChangeAt Go.RowKit
theorem taskSize_acts {t : FTask} (h : taskSize t ≤ 300) : t.actions.length ≤ 300 := by
  unfold taskSize at h; omega
theorem few8_facts {t : FTask} {fs : List (List (List FLit))} (h : few8B t fs = true) : taskSize t ≤ 300 ∧ (fs.map formSize).sum ≤ 300 ∧ (validB t = true → t.facts.length ≤ 8) := by
  unfold few8B fewT at h
  simp only [Bool.and_eq_true, decide_eq_true_eq, Bool.or_eq_true, Bool.not_eq_true'] at h
  obtain ⟨⟨h1, _⟩, h2, h3⟩ := h
  exact ⟨h1, h2, fun hv => by rcases h3 with h3 | h3; exact h3; rw [hv] at h3; simp at h3⟩
theorem leanStep_or (out : List (List FLit)) (c : List FLit) : leanStep out c = out ∨ leanStep out c = out ++ [c] := by
  by_cases h : c.length = 1
  · exact .inr (leanStep_one h)
  · match c, h with
    | [], _ => exact .inl rfl
    | [a], h => exact absurd rfl h
    | [a, b], _ =>
      rw [leanStep_two]
      split
      · exact .inl rfl
      · exact .inr rfl
    | _ :: _ :: _ :: _, h => exact .inl (if_neg h)
theorem leanL_sub : ∀ (l out : List (List FLit)), (leanL out l).length ≤ out.length + l.length ∧ ∀ c ∈ leanL out l, c ∈ out ∨ c ∈ l
  | [], out => ⟨by simp [leanL], fun c hc => .inl hc⟩
  | x :: l, out => by
    obtain ⟨h1, h2⟩ := leanL_sub l (leanStep out x)
    have hs : (leanStep out x).length ≤ out.length + 1 ∧ ∀ c ∈ leanStep out x, c ∈ out ∨ c = x := by
      rcases leanStep_or out x with e | e
      · rw [e]; exact ⟨by omega, fun c hc => .inl hc⟩
      · rw [e]
        refine ⟨by simp, fun c hc => ?_⟩
        rcases List.mem_append.1 hc with hc | hc
        · exact .inl hc
        · exact .inr (List.mem_singleton.1 hc)
    refine ⟨by rw [List.length_cons]; have := h1; show (leanL (leanStep out x) l).length ≤ _; omega, fun c hc => ?_⟩
    rcases h2 c hc with h | h
    · rcases hs.2 c h with h | h
      · exact .inl h
      · exact .inr (by rw [h]; exact List.mem_cons_self)
    · exact .inr (List.mem_cons_of_mem _ h)
theorem largeL_sub (t : FTask) (l : List (List FLit)) : (largeL t l).length ≤ l.length ∧ ∀ c ∈ largeL t l, c ∈ l := by
  obtain ⟨p, e, _, _⟩ := progL_spec (clauseT t.init) (keepB t.facts.length t.actions) (keepB_mono _ _) l.length l (Nat.le_refl _)
  unfold largeL
  rw [e]
  exact ⟨List.length_filter_le _ _, fun c hc => (List.mem_filter.1 hc).1⟩
end Go.Proofs.YtocphglkceidhaaGreat
namespace Go.Proofs.YtocphglkceidhaaGreat
open Go.Ahl
theorem clausesT_app (s : List Int) (l m : List (List FLit)) : clausesT s (l ++ m) = (clausesT s l && clausesT s m) := List.all_append
theorem stepB_of {n : Nat} {l l' : List (List FLit)} (h : ∀ s, clausesT s l' = true → clausesT s l = true) {a : FAct} {c : List FLit} (k : stepB n l a c = true) : stepB n l' a c = true := by
  unfold stepB at k ⊢
  rw [List.all_eq_true] at k ⊢
  intro s hs
  have := k s hs
  cases h1 : condHolds s a.pre <;> cases h2 : clausesT s l' <;> simp only [h1, h2, Bool.and_true, Bool.and_false, Bool.not_true, Bool.not_false, Bool.true_or, Bool.false_or, Bool.and_self] at this ⊢
  · rw [h s h2] at this; simpa using this
theorem keepB_of {n : Nat} {acts : List FAct} {l l' : List (List FLit)} (h : ∀ s, clausesT s l' = true → clausesT s l = true) {c : List FLit} (k : keepB n acts l c = true) : keepB n acts l' c = true := by
  unfold keepB at k ⊢
  rw [List.all_eq_true] at k ⊢
  exact fun a ha => stepB_of h (k a ha)
theorem large_stay (t : FTask) (l : List (List FLit)) : (largeL t l).all (stayB t (largeL t l)) = true := by
  obtain ⟨p, e, g, _⟩ := progL_spec (clauseT t.init) (keepB t.facts.length t.actions) (keepB_mono _ _) l.length l (Nat.le_refl _)
  unfold largeL
  rw [e, List.all_eq_true]
  intro c hc
  obtain ⟨h1, h2⟩ := List.mem_filter.1 hc
  obtain ⟨g1, g2⟩ := g c h1 h2
  unfold stayB
  rw [g1, g2]; rfl
theorem large_max {t : FTask} {l x : List (List FLit)} (hx : x.all (stayB t x) = true) (hs : ∀ c ∈ x, c ∈ l) : ∀ c ∈ x, c ∈ largeL t l := by
  obtain ⟨p, e, g, mx⟩ := progL_spec (clauseT t.init) (keepB t.facts.length t.actions) (keepB_mono _ _) l.length l (Nat.le_refl _)
  intro c hc
  unfold largeL
  rw [e]
  refine List.mem_filter.2 ⟨hs c hc, mx (fun c => decide (c ∈ x)) ?_ c (hs c hc) (decide_eq_true hc)⟩
  intro d hd hq
  have hdx : d ∈ x := of_decide_eq_true hq
  have h1 := List.all_eq_true.1 hx d hdx
  unfold stayB at h1
  rw [Bool.and_eq_true] at h1
  exact ⟨h1.1, keepB_mono _ _ _ _ _ (fun y hy => List.mem_filter.2 ⟨hs y hy, decide_eq_true hy⟩) h1.2⟩
theorem hasOne_T {s : List Int} {out : List (List FLit)} {x : FLit} (h : hasOne out x = true) (k : clausesT s out = true) : (s.contains x.fact != x.neg) = true := by
  have := List.all_eq_true.1 k [x] (hasOne_iff.1 h)
  simpa [clauseT] using this
theorem leanStep_T (s : List Int) (out : List (List FLit)) (c : List FLit) (hc : c.length = 1 ∨ c.length = 2) : clausesT s (leanStep out c) = (clausesT s out && clauseT s c) := by
  rcases hc with hc | hc
  · rw [leanStep_one hc, clausesT_app]; simp [clausesT]
  · match c, hc with
    | [a, b], _ =>
      rw [leanStep_two]
      cases h : hasOne out a || hasOne out b
      · rw [if_neg (by simp), clausesT_app]; simp [clausesT]
      · rw [if_pos rfl]
        cases k : clausesT s out
        · rfl
        · rw [Bool.true_and]
          rw [Bool.or_eq_true] at h
          symm
          rw [clauseT, List.any_eq_true]
          rcases h with h | h
          · exact ⟨a, by simp, hasOne_T h k⟩
          · exact ⟨b, by simp, hasOne_T h k⟩
theorem leanL_T (s : List Int) : ∀ (l out : List (List FLit)), (∀ c ∈ l, c.length = 1 ∨ c.length = 2) → clausesT s (leanL out l) = (clausesT s out && clausesT s l)
  | [], out, _ => by simp [leanL, clausesT]
  | c :: l, out, h => by
    show clausesT s (leanL (leanStep out c) l) = _
    rw [leanL_T s l _ (fun d hd => h d (List.mem_cons_of_mem _ hd)), leanStep_T s out c (h c List.mem_cons_self), Bool.and_assoc]
    rfl
theorem lean_stay {t : FTask} {l : List (List FLit)} (hl : ∀ c ∈ l, c.length = 1 ∨ c.length = 2) (h : l.all (stayB t l) = true) : (leanL [] l).all (stayB t (leanL [] l)) = true := by
  rw [List.all_eq_true] at h ⊢
  intro c hc
  have hcl : c ∈ l := by
    rcases (leanL_sub l []).2 c hc with q | q
    · simp at q
    · exact q
  have := h c hcl
  unfold stayB at this ⊢
  rw [Bool.and_eq_true] at this ⊢
  refine ⟨this.1, keepB_of (fun s hs => ?_) this.2⟩
  rw [leanL_T s l [] hl] at hs
  simpa [clausesT] using hs
theorem union_stay {t : FTask} {a b : List (List FLit)} (ha : a.all (stayB t a) = true) (hb : b.all (stayB t b) = true) : (a ++ b).all (stayB t (a ++ b)) = true := by
  rw [List.all_eq_true] at ha hb ⊢
  intro c hc
  unfold stayB
  rcases List.mem_append.1 hc with h | h
  · have := ha c h
    unfold stayB at this
    rw [Bool.and_eq_true] at this ⊢
    exact ⟨this.1, keepB_of (fun s hs => by rw [clausesT_app, Bool.and_eq_true] at hs; exact hs.1) this.2⟩
  · have := hb c h
    unfold stayB at this
    rw [Bool.and_eq_true] at this ⊢
    exact ⟨this.1, keepB_of (fun s hs => by rw [clausesT_app, Bool.and_eq_true] at hs; exact hs.2) this.2⟩
theorem rising_state {n : Nat} {s : List Int} (h : risingB n (-1) s = true) : s ∈ statesL n := by
  obtain ⟨h1, h2⟩ := rising_pw h
  exact statesL_all n s h1 fun v hv => by have := h2 v hv; omega
/-- The states that are reached satisfy what keeps itself. -/
theorem stay_reach {t : FTask} (he : EOk t) {l : List (List FLit)} (hl : l.all (stayB t l) = true) {p : List Int} (hi : risingB t.facts.length (-1) t.init = true) : ∀ k, k ≤ stopN t t.init p → clausesT (stk t t.init p k) l = true
  | 0, _ => by
    unfold clausesT
    rw [List.all_eq_true] at hl ⊢
    intro c hc
    have := hl c hc
    unfold stayB at this
    rw [Bool.and_eq_true] at this
    exact this.1
  | k + 1, hk => by
    have ih := stay_reach he hl hi (p := p) k (by omega)
    obtain ⟨h1, h2⟩ := stopN_lt.1 (show k < stopN t t.init p by omega)
    have hc := h2 k (Nat.le_refl _)
    obtain ⟨n, hn⟩ := get_ex h1
    unfold canB at hc
    rw [hn, Option.bind_some] at hc
    cases ha : t.actions[n.toNat]? with
    | none => rw [ha] at hc; simp at hc
    | some a =>
      rw [ha] at hc
      rw [stk_next he hi hn ha]
      unfold clausesT
      rw [List.all_eq_true] at hl ⊢
      intro c hcl
      have := hl c hcl
      unfold stayB keepB at this
      rw [Bool.and_eq_true, List.all_eq_true] at this
      have h3 := this.2 a (List.mem_of_getElem? ha)
      unfold stepB at h3
      have h4 := List.all_eq_true.1 h3 _ (rising_state (stk_rising he hi (p := p) k))
      simp only at hc
      rw [hc, ih] at h4
      simpa using h4
theorem apart_not {s : List Int} {l : List (List FLit)} (hs : clausesT s l = true) {x y : Int} (h : apartB l x y = true) : ¬ (s.contains x = true ∧ s.contains y = true) := by
  rintro ⟨hx, hy⟩
  obtain ⟨c, hc, hq⟩ := List.any_eq_true.1 h
  have hT := List.all_eq_true.1 hs c hc
  unfold apartC at hq
  split at hq
  · rename_i a
    rw [Bool.and_eq_true, Bool.or_eq_true] at hq
    simp only [clauseT, List.any_cons, List.any_nil, Bool.or_false] at hT
    rw [hq.1] at hT
    rcases hq.2 with q | q
    · have := eq_of_beq q; rw [this, hx] at hT; simp at hT
    · have := eq_of_beq q; rw [this, hy] at hT; simp at hT
  · rename_i a b
    rw [Bool.and_eq_true] at hq
    have h1 := of_decide_eq_true hq.1
    have h2 := of_decide_eq_true hq.2
    simp only [clauseT, List.any_cons, List.any_nil, Bool.or_false] at hT
    rw [h1, h2] at hT
    by_cases hxy : y < x
    · rw [if_pos hxy, if_neg (by omega)] at hT; simp only [hx, hy] at hT; simp at hT
    · by_cases hyx : y > x
      · rw [if_neg hxy, if_pos hyx] at hT; simp only [hx, hy] at hT; simp at hT
      · rw [if_neg hxy, if_neg hyx] at hT; simp only [hx] at hT; simp at hT
  · simp at hq
theorem group_one {n : Nat} {l : List (List FLit)} {g s : List Int} (hg : g ∈ groupsL n l) (hs : clausesT s l = true) : (g.filter fun k => s.contains k).length ≤ 1 := by
  obtain ⟨q1, q2⟩ := insAll ((statesL n).filter (isGroupB n l)) [] (by simp) ((statesL_nodup _).filter _) (by simp)
  have hm : g ∈ (statesL n).filter (isGroupB n l) := by
    rcases (q2 g).1 hg with h | h
    · exact h
    · simp at h
  obtain ⟨h1, h2⟩ := List.mem_filter.1 hm
  have hr := (statesL_mem n g h1).2
  have hnd : g.Nodup := (rising_pw hr).1.imp fun h => by omega
  unfold isGroupB at h2
  rw [Bool.and_eq_true, Bool.and_eq_true] at h2
  have hap := (groupB_iff hnd).1 h2.1.2
  rcases Nat.lt_or_ge 1 (g.filter fun k => s.contains k).length with q | q
  · exfalso
    have hfn : (g.filter fun k => s.contains k).Nodup := hnd.filter _
    match hf : g.filter fun k => s.contains k, q with
    | a :: b :: r, _ =>
      rw [hf] at hfn
      have ha : a ∈ g.filter fun k => s.contains k := by rw [hf]; simp
      have hb : b ∈ g.filter fun k => s.contains k := by rw [hf]; simp
      have hab : a ≠ b := by
        have := (List.nodup_cons.1 hfn).1
        intro e; subst e; simp at this
      obtain ⟨a1, a2⟩ := List.mem_filter.1 ha
      obtain ⟨b1, b2⟩ := List.mem_filter.1 hb
      exact apart_not hs (hap a a1 b b1 hab) ⟨a2, b2⟩
    | [_], q => simp at q
    | [], q => simp at q
  · exact q
end Go.Proofs.YtocphglkceidhaaGreat
namespace Go.Proofs.YtocphglkceidhaaGreat
open Go.Ahl
end Go.Proofs.YtocphglkceidhaaGreat
