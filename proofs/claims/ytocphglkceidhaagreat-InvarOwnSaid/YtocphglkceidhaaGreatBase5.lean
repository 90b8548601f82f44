/- Contracts of the given program's functions, and an abstract layer over the model; no condition. -/
import Derived.Test.YtocphglkceidhaaGreatBase4
set_option linter.unusedVariables false
set_option linter.unusedSimpArgs false
namespace Go.Proofs.YtocphglkceidhaaGreat
open Go.Ahl
/-- The pairs with the literals below i, and those of i with the literals below k. -/
def partL (i k : Nat) : List (List FLit) := ((List.range' (i + 1) (k - (i + 1))).filter fun k => i / 2 != k / 2).map fun k => [litI i, litI k]
def belowL (n i : Nat) : List (List FLit) := (List.range i).flatMap (pairsFrom n)
theorem partL_end (n i : Nat) : partL i n = pairsFrom n i := rfl
theorem partL_zero (i : Nat) : partL i (i + 1) = [] := by unfold partL; simp
theorem partL_succ {i k : Nat} (h : i < k) : partL i (k + 1) = partL i k ++ if i / 2 != k / 2 then [[litI i, litI k]] else [] := by
  unfold partL
  rw [show k + 1 - (i + 1) = (k - (i + 1)) + 1 by omega, List.range'_concat, List.filter_append, List.map_append]
  congr 1
  rw [show i + 1 + 1 * (k - (i + 1)) = k by omega, List.filter_cons]
  split <;> simp
theorem belowL_succ (n i : Nat) : belowL n (i + 1) = belowL n i ++ pairsFrom n i := by unfold belowL; rw [List.range_succ, List.flatMap_append]; simp
theorem partL_len (i k : Nat) : (partL i k).length ≤ k := by
  unfold partL; rw [List.length_map]; exact Nat.le_trans (List.length_filter_le _ _) (by simp only [List.length_range']; omega)
theorem belowL_len (n : Nat) : ∀ i, (belowL n i).length ≤ i * n
  | 0 => by simp [belowL]
  | i + 1 => by
    have h1 := belowL_len n i
    have h2 := partL_len i n
    rw [partL_end] at h2
    rw [belowL_succ, List.length_append, Nat.succ_mul]; omega
theorem singles_succ (i : Nat) : singles (i + 1) = singles i ++ [[litI i]] := by unfold singles; rw [List.range_succ, List.map_append]; rfl
/-- The inductive clauses with one or two literals. -/
def pairsR (t : FTask) : AV := if validB t then .tuple [.slice .unk ((leanL [] (largeL t (singles (2 * t.facts.length) ++ pairsL (2 * t.facts.length)))).map encC), .int .i64 0] else .tuple [.slice .nil [], .int .i64 10]
def pairsRf (t : FTask) : AV := if validB t then .tuple [.slice .fresh ((leanL [] (largeL t (singles (2 * t.facts.length) ++ pairsL (2 * t.facts.length)))).map encCf), .int .i64 0] else .tuple [.slice .nil [], .int .i64 10]
theorem pairsRf_wk (t : FTask) : Wk (pairsRf t) (pairsR t) := by
  unfold pairsRf pairsR
  split
  · exact Wk.tuple (.cons (Wk.cfu _ _) (WkL.refl _))
  · exact .refl _
def c_Pairs : CCode := .seq (.ops [⟨some 1, .box (.tmp 0), none, []⟩, ⟨some 2, .move (.lit (.slice .nil [])), none, []⟩, ⟨some 3, .move (.lit (.int .i64 0)), none, []⟩]) (.seq (.seq (.ops [⟨some 16, .load (some 4) (.tmp 1), none, []⟩, ⟨some 17, .call (.lit (.func 53 [])) [.tmp 16], none, []⟩, ⟨some 18, .un .not (.tmp 17), none, []⟩]) (.cond (.tmp 18) (.seq (.ops [⟨some 2, .move (.lit (.slice .nil [])), none, []⟩, ⟨some 3, .move (.lit (.int .i64 10)), none, []⟩]) .ret) .skip)) (.seq (.ops [⟨some 19, .faddr 0 (.tmp 1), none, []⟩, ⟨some 20, .load none (.tmp 19), none, []⟩, ⟨some 21, .blen 1 (.tmp 20), none, []⟩, ⟨some 22, .bin .mul .none (.lit (.int .i64 2)) (.tmp 21), none, []⟩, ⟨some 4, .move (.tmp 22), none, []⟩]) (.seq (.seq (.ops [⟨some 23, .faddr 0 (.tmp 1), none, []⟩, ⟨some 24, .load none (.tmp 23), none, []⟩, ⟨some 25, .blen 1 (.tmp 24), none, []⟩, ⟨some 26, .bin .gtr .none (.tmp 25) (.lit (.int .i64 20)), none, []⟩]) (.cond (.tmp 26) (.seq (.ops [⟨some 2, .move (.lit (.slice .nil [])), none, []⟩, ⟨some 3, .move (.lit (.int .i64 3)), none, []⟩]) .ret) .skip)) (.seq (.ops [⟨some 5, .move (.lit (.func 54 [])), none, []⟩]) (.seq (.ops [⟨some 6, .move (.lit (.slice .nil [])), none, []⟩]) (.seq (.seq (.ops [⟨some 27, .move (.tmp 4), none, []⟩, ⟨some 28, .move (.lit (.int .i64 0)), none, []⟩]) (.block 0 (.loop (.seq (.ops [⟨some 29, .bin .lss .none (.tmp 28) (.tmp 27), none, []⟩]) (.seq (.cond (.tmp 29) .skip (.exit 0)) (.seq (.block 1 (.seq (.ops [⟨some 30, .move (.tmp 28), none, []⟩, ⟨some 7, .move (.tmp 30), none, []⟩]) (.ops [⟨some 31, .move (.tmp 6), none, []⟩, ⟨some 32, .move (.tmp 5), none, []⟩, ⟨some 33, .move (.tmp 7), none, []⟩, ⟨some 34, .call (.tmp 32) [.tmp 33], none, []⟩, ⟨some 35, .bslice 2 [.tmp 34] false, none, []⟩, ⟨some 36, .bslice 1 [.tmp 35] false, none, []⟩, ⟨some 37, .bappend 1 24 (.tmp 31) (.tmp 36) false, none, []⟩, ⟨some 6, .move (.tmp 37), none, []⟩]))) (.ops [⟨some 38, .bin .add .none (.tmp 28) (.lit (.int .i64 1)), none, []⟩, ⟨some 28, .move (.tmp 38), none, []⟩]))))))) (.seq (.seq (.ops [⟨some 39, .move (.tmp 4), none, []⟩, ⟨some 40, .move (.lit (.int .i64 0)), none, []⟩]) (.block 2 (.loop (.seq (.ops [⟨some 41, .bin .lss .none (.tmp 40) (.tmp 39), none, []⟩]) (.seq (.cond (.tmp 41) .skip (.exit 2)) (.seq (.block 3 (.seq (.ops [⟨some 42, .move (.tmp 40), none, []⟩, ⟨some 8, .move (.tmp 42), none, []⟩]) (.seq (.ops [⟨some 43, .move (.tmp 8), none, []⟩, ⟨some 44, .bin .add .none (.tmp 43) (.lit (.int .i64 1)), none, []⟩, ⟨some 9, .move (.tmp 44), none, []⟩]) (.block 4 (.loop (.seq (.seq (.ops [⟨some 45, .move (.tmp 9), none, []⟩, ⟨some 46, .move (.tmp 4), none, []⟩, ⟨some 47, .bin .lss .none (.tmp 45) (.tmp 46), none, []⟩]) (.cond (.tmp 47) .skip (.exit 4))) (.seq (.block 5 (.seq (.ops [⟨some 50, .move (.tmp 8), none, []⟩, ⟨some 51, .bin .quo .none (.tmp 50) (.lit (.int .i64 2)), none, []⟩, ⟨some 52, .move (.tmp 9), none, []⟩, ⟨some 53, .bin .quo .none (.tmp 52) (.lit (.int .i64 2)), none, []⟩, ⟨some 54, .bin .neq .none (.tmp 51) (.tmp 53), none, []⟩]) (.cond (.tmp 54) (.ops [⟨some 55, .move (.tmp 6), none, []⟩, ⟨some 56, .move (.tmp 5), none, []⟩, ⟨some 57, .move (.tmp 8), none, []⟩, ⟨some 58, .call (.tmp 56) [.tmp 57], none, []⟩, ⟨some 59, .move (.tmp 5), none, []⟩, ⟨some 60, .move (.tmp 9), none, []⟩, ⟨some 61, .call (.tmp 59) [.tmp 60], none, []⟩, ⟨some 62, .bslice 2 [.tmp 58, .tmp 61] false, none, []⟩, ⟨some 63, .bslice 1 [.tmp 62] false, none, []⟩, ⟨some 64, .bappend 1 24 (.tmp 55) (.tmp 63) false, none, []⟩, ⟨some 6, .move (.tmp 64), none, []⟩]) .skip))) (.ops [⟨some 48, .move (.tmp 9), none, []⟩, ⟨some 49, .bin .add .none (.tmp 48) (.lit (.int .i64 1)), none, []⟩, ⟨some 9, .move (.tmp 49), none, []⟩])))))))) (.ops [⟨some 65, .bin .add .none (.tmp 40) (.lit (.int .i64 1)), none, []⟩, ⟨some 40, .move (.tmp 65), none, []⟩]))))))) (.seq (.ops [⟨some 67, .load (some 4) (.tmp 1), none, []⟩, ⟨some 68, .move (.tmp 6), none, []⟩, ⟨some 69, .call (.lit (.func 52 [])) [.tmp 67, .tmp 68], none, []⟩, ⟨some 66, .move (.tmp 69), none, []⟩, ⟨some 70, .extract (.tmp 66) 0, none, []⟩, ⟨some 71, .extract (.tmp 66) 1, none, []⟩, ⟨some 10, .move (.tmp 70), none, []⟩, ⟨some 11, .move (.tmp 71), none, []⟩]) (.seq (.seq (.ops [⟨some 72, .move (.tmp 11), none, []⟩, ⟨some 73, .un .not (.tmp 72), none, []⟩]) (.cond (.tmp 73) (.seq (.ops [⟨some 2, .move (.lit (.slice .nil [])), none, []⟩, ⟨some 3, .move (.lit (.int .i64 3)), none, []⟩]) .ret) .skip)) (.seq (.ops [⟨some 12, .alloc (.slice .nil []), none, []⟩]) (.seq (.seq (.ops [⟨some 74, .move (.tmp 10), none, []⟩, ⟨some 75, .blen 1 (.tmp 74), none, []⟩, ⟨some 76, .move (.lit (.int .i64 0)), none, []⟩]) (.block 6 (.loop (.seq (.ops [⟨some 77, .bin .lss .none (.tmp 76) (.tmp 75), none, []⟩]) (.seq (.cond (.tmp 77) .skip (.exit 6)) (.seq (.block 7 (.seq (.ops [⟨some 78, .iaddr 1 (.tmp 74) (.tmp 76), none, []⟩, ⟨some 79, .load none (.tmp 78), none, []⟩, ⟨some 14, .move (.tmp 79), none, []⟩]) (.seq (.ops [⟨some 80, .mkfunc 55 [.tmp 12], none, []⟩, ⟨some 15, .move (.tmp 80), none, []⟩]) (.seq (.ops [⟨some 81, .move (.tmp 14), none, []⟩, ⟨some 82, .blen 1 (.tmp 81), none, []⟩, ⟨some 83, .bin .eql .none (.tmp 82) (.lit (.int .i64 1)), none, []⟩, ⟨some 84, .move (.tmp 83), none, []⟩, ⟨some 85, .move (.tmp 15), some (some 84, false), []⟩, ⟨some 86, .move (.tmp 14), some (some 84, false), []⟩, ⟨some 87, .iaddr 2 (.tmp 86) (.lit (.int .i64 0)), some (some 84, false), []⟩, ⟨some 88, .load (some 2) (.tmp 87), some (some 84, false), []⟩, ⟨some 89, .call (.tmp 85) [.tmp 88], some (some 84, false), []⟩, ⟨some 90, .un .not (.tmp 89), some (some 84, false), []⟩, ⟨some 91, .move (.tmp 90), some (some 84, false), []⟩, ⟨some 92, .move (.tmp 15), some (some 91, true), []⟩, ⟨some 93, .move (.tmp 14), some (some 91, true), []⟩, ⟨some 94, .iaddr 2 (.tmp 93) (.lit (.int .i64 1)), some (some 91, true), []⟩, ⟨some 95, .load (some 2) (.tmp 94), some (some 91, true), []⟩, ⟨some 96, .call (.tmp 92) [.tmp 95], some (some 91, true), []⟩, ⟨some 97, .un .not (.tmp 96), some (some 91, true), []⟩, ⟨some 98, .pick (.tmp 91) (.tmp 97) (.lit (.bool false)), some (some 84, false), []⟩, ⟨some 99, .pick (.tmp 84) (.lit (.bool true)) (.tmp 98), none, []⟩]) (.cond (.tmp 99) (.ops [⟨some 100, .load none (.tmp 12), none, []⟩, ⟨some 101, .move (.tmp 14), none, []⟩, ⟨some 102, .bslice 1 [.tmp 101] false, none, []⟩, ⟨some 103, .bappend 1 24 (.tmp 100) (.tmp 102) false, none, []⟩, ⟨none, .store 1 (.tmp 12) (.tmp 103), none, []⟩]) .skip))))) (.ops [⟨some 104, .bin .add .none (.tmp 76) (.lit (.int .i64 1)), none, []⟩, ⟨some 76, .move (.tmp 104), none, []⟩]))))))) (.seq (.ops [⟨some 105, .load none (.tmp 12), none, []⟩, ⟨some 2, .move (.tmp 105), none, []⟩, ⟨some 3, .move (.lit (.int .i64 0)), none, []⟩]) .ret))))))))))))
set_option maxRecDepth 20000 in
set_option maxHeartbeats 4000000 in
theorem Pairs_specF (t : FTask) (σ : Store) (ht : TB t) (h12 : validB t = true → t.facts.length ≤ 12) :
    ACalls Tryz.prog 15 [.agg (encTask t)] σ (isR (pairsRf t) σ) := by
  refine ACalls.intro (rs := [(.tmp 2), (.tmp 3)]) (by kernel_rfl) { own := [], ghosts := [] } Tryz.func15 (c := Tryz.f15.body.getD .skip) (by kernel_rfl) (by decide) (by rw [show Tryz.f15.ntmps = 106 by kernel_rfl]; exact Nat.le_of_ble_eq_true rfl) (by kernel_rfl) ?_
  intro hσ hids
  rw [show comp Tryz.prog { own := [], ghosts := [] } (Tryz.f15.body.getD .skip) = c_Pairs by kernel_rfl, show Tryz.f15.ntmps = 106 by kernel_rfl]
  unfold c_Pairs
  have hσ1 := ids_grow hσ (ids_encTask t)
  simp only [go_sem, Int.reduceToNat, Int.reduceLE, Int.reduceLT, Nat.reduceBEq, Nat.reduceLT, Nat.reduceAdd, Nat.reduceLeDiff, encTask]
  refine (valid_spec t _ ht).is ?_
  cases hv : validB t
  · simp only [go_sem, Int.reduceToNat, Int.reduceLE, Int.reduceLT, Nat.reduceBEq, Nat.reduceLT, Nat.reduceAdd, Nat.reduceLeDiff]
    first | exact rtl (.slice .nil []) (.int .i64 10) ⟨by rw [pairsRf, hv]; rfl, rfl⟩ | exact rtl0 (.slice .nil []) (.int .i64 10) ⟨by rw [pairsRf, hv]; rfl, rfl⟩
  have hn := h12 hv
  have h20 : ¬ ((t.facts.length : Int) > 20) := by omega
  obtain ⟨n, hne⟩ : ∃ n, n = 2 * t.facts.length := ⟨_, rfl⟩
  have hw0 : IntKind.i64.wrap (2 * (t.facts.length : Int)) = (n : Int) := by rw [wrap_ok (by omega)]; omega
  have hs1 : ∀ k : Nat, IdsS (σ ++ [AObj.row (encTask t), AObj.grow 1 k]).length (σ ++ [AObj.row (encTask t), AObj.grow 1 k]) := fun k => by
    have := idsS_push hσ1 (o := .grow 1 k) trivial
    rwa [List.append_assoc] at this
  simp only [go_sem, Int.reduceToNat, Int.reduceLE, Int.reduceLT, Nat.reduceBEq, Nat.reduceLT, Nat.reduceAdd, Nat.reduceLeDiff, encTask, h20, hw0]
  refine wpc_while (fun (i : Nat) => [(6, .slice (.grow (σ.length + 1)) ((singles i).map encC)), (1, .ptr σ.length 0), (4, .int .i64 n), (5, .func 54 []), (27, .int .i64 n), (28, .int .i64 i)])
    (fun i => σ ++ [.row (encTask t), .grow 1 i]) (fun i => i ≤ n) (fun i => n - i) 0 (Nat.zero_le _) (Ghost.begin1 6 1 _ (by omega) tellT hσ1) ?_
  intro i hi K hK hE hR
  by_cases h : i < n
  · have hlt : ((i : Int) < (n : Int)) := by omega
    have hw : IntKind.i64.wrap ((i : Int) + 1) = ((i + 1 : Nat) : Int) := by rw [wrap_ok (by omega)]; omega
    have hb : bigLen (i + 1) 24 := big_ok (by omega) (by omega)
    have hsl : (singles i).length = i := by simp [singles]
    simp only [go_sem, Int.reduceToNat, Int.reduceLE, Int.reduceLT, Nat.reduceBEq, Nat.reduceLT, Nat.reduceAdd, Nat.reduceLeDiff, hlt]
    refine (pairs1_spec i _ (by omega)).is ?_
    simp only [go_sem, Int.reduceToNat, Int.reduceLE, Int.reduceLT, Nat.reduceBEq, Nat.reduceLT, Nat.reduceAdd, Nat.reduceLeDiff, encLit, hsl, hb]
    refine hK _ _ (i + 1) (by omega) (by omega) ?_
    (try dsimp only)
    have e : (singles (i + 1)).map encC = (singles i).map encC ++ [[.slice .unk [encLit (litI i)]]] := by rw [singles_succ, List.map_append]; rfl
    refine Ghost.trans (Ghost.weak 6 (.slice (.grow (σ.length + 1)) ((singles (i + 1)).map encC)) ?_) ?_
    · rw [e]; exact Wk.slice _ (WkLL.append (.refl _) (WkLL.one (WkL.one (Wk.unk _ _))))
    · rw [hw]; first | exact ghL0 (hs1 _) | exact ghL (l := [.row (encTask t), .grow 1 _]) (hs1 _)
  have hlt : ¬ ((i : Int) < (n : Int)) := by omega
  obtain rfl : i = n := by omega
  simp only [go_sem, Int.reduceToNat, Int.reduceLE, Int.reduceLT, Nat.reduceBEq, Nat.reduceLT, Nat.reduceAdd, Nat.reduceLeDiff, hlt, hE]
  clear hK hE hR
  have hsl : (singles i).length = i := by simp [singles]
  refine wpc_while (fun (a : Nat) => [(6, .slice (.grow (σ.length + 1)) ((singles i ++ belowL i a).map encC)), (1, .ptr σ.length 0), (4, .int .i64 i), (5, .func 54 []), (39, .int .i64 i), (40, .int .i64 a)])
    (fun a => σ ++ [.row (encTask t), .grow 1 (singles i ++ belowL i a).length]) (fun a => a ≤ i) (fun a => i - a) 0 (Nat.zero_le _)
    (by
      have e : singles i ++ belowL i 0 = singles i := by simp [belowL]
      (try dsimp only)
      rw [e, hsl]
      first | exact ghL0 (hs1 _) | exact ghL (l := [.row (encTask t), .grow 1 _]) (hs1 _)) ?_
  intro a ha0 K hK hE hR
  by_cases ha : a < i
  · have hlt2 : ((a : Int) < (i : Int)) := by omega
    have hwa : IntKind.i64.wrap ((a : Int) + 1) = ((a + 1 : Nat) : Int) := by rw [wrap_ok (by omega)]; omega
    have hab0 := belowL_len i a
    have hbl3 : a * i ≤ 24 * 24 := Nat.mul_le_mul (by omega) (by omega)
    obtain ⟨acc, hacc⟩ : ∃ acc, acc = singles i ++ belowL i a := ⟨_, rfl⟩
    have haccl : acc.length ≤ 24 + 24 * 24 := by rw [hacc, List.length_append, hsl]; omega
    have hnx : singles i ++ belowL i (a + 1) = acc ++ partL a i := by rw [belowL_succ, ← List.append_assoc, ← hacc, partL_end]
    rw [← hacc]
    simp only [go_sem, Int.reduceToNat, Int.reduceLE, Int.reduceLT, Nat.reduceBEq, Nat.reduceLT, Nat.reduceAdd, Nat.reduceLeDiff, hlt2, hwa]
    refine wpc_while (fun (b : Nat) => [(6, .slice (.grow (σ.length + 1)) ((acc ++ partL a b).map encC)), (1, .ptr σ.length 0), (4, .int .i64 i), (5, .func 54 []), (8, .int .i64 a), (9, .int .i64 b), (39, .int .i64 i), (40, .int .i64 a)])
      (fun b => σ ++ [.row (encTask t), .grow 1 (acc ++ partL a b).length]) (fun b => a < b ∧ b ≤ i) (fun b => i - b) (a + 1) ⟨by omega, by omega⟩
      (by
        have e : acc ++ partL a (a + 1) = acc := by rw [partL_zero, List.append_nil]
        (try dsimp only)
        rw [e]
        first | exact ghL0 (hs1 _) | exact ghL (l := [.row (encTask t), .grow 1 _]) (hs1 _)) ?_
    rintro b ⟨hab, hbi⟩ K2 hK2 hE2 hR2
    by_cases hb : b < i
    · have hlt3 : ((b : Int) < (i : Int)) := by omega
      have hwb : IntKind.i64.wrap ((b : Int) + 1) = ((b + 1 : Nat) : Int) := by rw [wrap_ok (by omega)]; omega
      have hq : ∀ x : Nat, x ≤ 1000 → IntKind.i64.wrap ((x : Int).tdiv 2) = ((x / 2 : Nat) : Int) := fun x hx => by
        rw [show (x : Int).tdiv 2 = ((x / 2 : Nat) : Int) by rw [Int.tdiv_eq_ediv_of_nonneg (by omega)]; omega, wrap_ok (by omega)]
      have hqa := hq a (by omega)
      have hqb := hq b (by omega)
      have hsu := partL_succ hab
      have hbl2 := partL_len a b
      have hbig : bigLen ((acc ++ partL a b).length + 1) 24 := big_ok (by omega) (by rw [List.length_append]; omega)
      obtain ⟨cur, hcur⟩ : ∃ cur, cur = acc ++ partL a b := ⟨_, rfl⟩
      rw [← hcur] at hbig ⊢
      cases hne2 : (((a / 2 : Nat) : Int) == ((b / 2 : Nat) : Int))
      · have hh : (a / 2 != b / 2) = true := by
          have : ¬ (((a / 2 : Nat) : Int) = ((b / 2 : Nat) : Int)) := by simpa using hne2
          simp only [bne_iff_ne, ne_eq]; omega
        rw [hh, if_pos rfl] at hsu
        have hcn : acc ++ partL a (b + 1) = cur ++ [[litI a, litI b]] := by rw [hsu, ← List.append_assoc, ← hcur]
        simp only [go_sem, Int.reduceToNat, Int.reduceLE, Int.reduceLT, Nat.reduceBEq, Nat.reduceLT, Nat.reduceAdd, Nat.reduceLeDiff, hlt3, hqa, hqb, hne2]
        refine ⟨by decide, by decide, ?_⟩
        have hne3 : (((a / 2 : Nat) : Int) != ((b / 2 : Nat) : Int)) = true := by rw [bne, hne2]; rfl
        simp only [go_sem, Int.reduceToNat, Int.reduceLE, Int.reduceLT, Nat.reduceBEq, Nat.reduceLT, Nat.reduceAdd, Nat.reduceLeDiff, hne3]
        refine (pairs1_spec a _ (by omega)).is ?_
        simp only [go_sem, Int.reduceToNat, Int.reduceLE, Int.reduceLT, Nat.reduceBEq, Nat.reduceLT, Nat.reduceAdd, Nat.reduceLeDiff]
        refine (pairs1_spec b _ (by omega)).is ?_
        simp only [go_sem, Int.reduceToNat, Int.reduceLE, Int.reduceLT, Nat.reduceBEq, Nat.reduceLT, Nat.reduceAdd, Nat.reduceLeDiff, encLit, hbig]
        refine hK2 _ _ (b + 1) ⟨by omega, by omega⟩ (by omega) ?_
        (try dsimp only)
        rw [hcn, List.length_append]
        refine Ghost.trans (Ghost.weak 6 (.slice (.grow (σ.length + 1)) ((cur ++ [[litI a, litI b]]).map encC)) ?_) ?_
        · rw [List.map_append]; exact Wk.slice _ (WkLL.append (.refl _) (WkLL.one (WkL.one (Wk.unk _ _))))
        · rw [hwb]; first | exact ghL0 (hs1 _) | exact ghL (l := [.row (encTask t), .grow 1 _]) (hs1 _)
      · have hh : (a / 2 != b / 2) = false := by
          have : (((a / 2 : Nat) : Int) = ((b / 2 : Nat) : Int)) := by simpa using hne2
          simp only [bne_eq_false_iff_eq]; omega
        rw [hh, if_neg (by simp), List.append_nil] at hsu
        have hcn : acc ++ partL a (b + 1) = cur := by rw [hsu, ← hcur]
        simp only [go_sem, Int.reduceToNat, Int.reduceLE, Int.reduceLT, Nat.reduceBEq, Nat.reduceLT, Nat.reduceAdd, Nat.reduceLeDiff, hlt3, hqa, hqb, hne2]
        refine ⟨by decide, by decide, ?_⟩
        have hne3 : (((a / 2 : Nat) : Int) != ((b / 2 : Nat) : Int)) = false := by rw [bne, hne2]; rfl
        simp only [go_sem, Int.reduceToNat, Int.reduceLE, Int.reduceLT, Nat.reduceBEq, Nat.reduceLT, Nat.reduceAdd, Nat.reduceLeDiff, hne3]
        refine hK2 _ _ (b + 1) ⟨by omega, by omega⟩ (by omega) ?_
        (try dsimp only)
        rw [hcn, hwb]
        first | exact ghL0 (hs1 _) | exact ghL (l := [.row (encTask t), .grow 1 _]) (hs1 _)
    · have hlt3 : ¬ ((b : Int) < (i : Int)) := by omega
      obtain rfl : b = i := by omega
      obtain ⟨cur, hcur⟩ : ∃ cur, cur = acc ++ partL a b := ⟨_, rfl⟩
      rw [← hcur]
      simp only [go_sem, Int.reduceToNat, Int.reduceLE, Int.reduceLT, Nat.reduceBEq, Nat.reduceLT, Nat.reduceAdd, Nat.reduceLeDiff, hlt3, hE2, hwa]
      refine hK _ _ (a + 1) (by omega) (by omega) ?_
      (try dsimp only)
      rw [hnx, ← hcur]
      first | exact ghL0 (hs1 _) | exact ghL (l := [.row (encTask t), .grow 1 _]) (hs1 _)
  have hlt2 : ¬ ((a : Int) < (i : Int)) := by omega
  obtain rfl : a = i := by omega
  have hall : singles a ++ belowL a a = singles a ++ pairsL a := rfl
  rw [hall]
  obtain ⟨all, hal⟩ : ∃ all, all = singles a ++ pairsL a := ⟨_, rfl⟩
  have hall2 : all.length ≤ 1000 ∧ ∀ c ∈ all, c.length = 1 ∨ ∃ x y, c = [x, y] := by
    refine ⟨by rw [hal, ← hall, List.length_append, hsl]; have := belowL_len a a; have : a * a ≤ 24 * 24 := Nat.mul_le_mul (by omega) (by omega); omega, fun c hc => ?_⟩
    rw [hal] at hc
    rcases List.mem_append.1 hc with hc | hc
    · obtain ⟨i, _, rfl⟩ := List.mem_map.1 hc; exact .inl rfl
    · obtain ⟨i, _, hi⟩ := List.mem_flatMap.1 hc
      obtain ⟨k, _, _, _, rfl⟩ := pairsFrom_mem.1 hi; exact .inr ⟨_, _, rfl⟩
  have hclen : ∀ c ∈ all, c.length ≤ 1000000 := fun c hc => by rcases hall2.2 c hc with h | ⟨x, y, rfl⟩; omega; simp
  rw [← hal]
  simp only [go_sem, Int.reduceToNat, Int.reduceLE, Int.reduceLT, Nat.reduceBEq, Nat.reduceLT, Nat.reduceAdd, Nat.reduceLeDiff, hlt2, hE, encTask]
  clear hK hE hR
  refine (ilargest_specF t all _ _ ht hn (valid_init hv) (fun a ha => valid_AOk hv ha) (by omega) hclen).is ?_
  obtain ⟨M, hM⟩ : ∃ M, M = largeL t all := ⟨_, rfl⟩
  rw [← hM]
  have hMa : ∀ c ∈ M, c ∈ all := fun c hc => by
    obtain ⟨p, e, _, _⟩ := progL_spec (clauseT t.init) (keepB t.facts.length t.actions) (keepB_mono _ _) all.length all (Nat.le_refl _)
    rw [hM, largeL, e] at hc
    exact (List.mem_filter.1 hc).1
  have hMl : M.length ≤ 1000 := by
    obtain ⟨p, e, _, _⟩ := progL_spec (clauseT t.init) (keepB t.facts.length t.actions) (keepB_mono _ _) all.length all (Nat.le_refl _)
    rw [hM, largeL, e]; exact Nat.le_trans (List.length_filter_le _ _) hall2.1
  have hs6 : ∀ (o : List (List FLit)) (k : Nat), IdsS (σ ++ [AObj.row [.slice (.grow (σ.length + 1)) (o.map encCf)], .grow 1 k]).length (σ ++ [AObj.row [.slice (.grow (σ.length + 1)) (o.map encCf)], .grow 1 k]) := fun o k =>
    idsS_app _ hσ (all_cons' (idsO_row (by intro x hx; simp at hx; subst hx; exact ids_growE (by simp) _)) (all_cons' trivial all_nil'))
  simp only [go_sem, Int.reduceToNat, Int.reduceLE, Int.reduceLT, Nat.reduceBEq, Nat.reduceLT, Nat.reduceAdd, Nat.reduceLeDiff]
  refine wpc_while (fun (q : Nat × List (List FLit)) => [(12, .ptr σ.length 0), (74, .slice .fresh (M.map encCf)), (75, .int .i64 M.length), (76, .int .i64 q.1)])
    (fun q => σ ++ [.row [.slice (.grow (σ.length + 1)) (q.2.map encCf)], .grow 1 q.2.length])
    (fun q => q.1 ≤ M.length ∧ q.2.length ≤ q.1 ∧ (∀ c ∈ q.2, c ∈ M) ∧ leanL [] M = leanL q.2 (M.drop q.1)) (fun q => M.length - q.1) (0, []) ⟨Nat.zero_le _, Nat.le_refl _, by simp, rfl⟩
    (by
      refine Ghost.trans (s' := [(12, .ptr σ.length 0), (74, .slice .fresh (M.map encCf)), (75, .int .i64 M.length), (76, .int .i64 0)]) (σ' := σ ++ [.row [.slice .nil []]]) (ghM 2 (hio := idsO_row (by intro x hx; simp at hx; subst hx; exact ids_nil _ (by simp)))) ?_
      refine Ghost.trans (Ghost.tokCell σ.length 1 (by simp)) ?_
      rw [show ((σ ++ [AObj.row [.slice .nil []]]) ++ [AObj.grow 1 0]).set σ.length (AObj.row [AV.slice (.grow (σ ++ [AObj.row [.slice .nil []]]).length) []]) = σ ++ [.row [.slice (.grow (σ.length + 1)) []], .grow 1 0] by simp]
      exact Ghost.refl _ _ _ _) ?_
  rintro ⟨i, out⟩ ⟨hi, ho, hom, hvl⟩ K hK hE hR
  dsimp only at hi ho hom hvl ⊢
  by_cases h : i < M.length
  · have hlt : ((i : Int) < (M.length : Int)) := by omega
    obtain ⟨c, hx⟩ := get_ex h
    have hw : IntKind.i64.wrap ((i : Int) + 1) = ((i + 1 : Nat) : Int) := by rw [wrap_ok (by omega)]; omega
    have hcm := List.mem_of_getElem? hx
    have hb : bigLen (out.length + 1) 24 := big_ok (by omega) (by omega)
    have hd : leanL out (M.drop i) = leanL (leanStep out c) (M.drop (i + 1)) := by rw [drop_cons hx]; rfl
    rw [hd] at hvl
    have hFB : FB out := ⟨by omega, fun c hc => by have := hclen c (hMa c (hom c hc)); omega⟩
    rcases hall2.2 c (hMa c hcm) with h1 | ⟨x, y, rfl⟩
    · have h1' : ((c.length : Int) == 1) = true := by rw [h1]; rfl
      rw [leanStep_one h1] at hvl
      simp only [go_sem, Int.reduceToNat, Int.reduceLE, Int.reduceLT, Nat.reduceBEq, Nat.reduceLT, Nat.reduceAdd, Nat.reduceLeDiff, hlt, hx, encCf, h1', hb]
      have e3 : out.map encCf ++ [[AV.slice .fresh (c.map encLit)]] = (out ++ [c]).map encCf := by rw [List.map_append]; rfl
      have e4 : out.length + 1 = (out ++ [c]).length := by simp
      rw [e3, e4]
      refine hK _ _ (i + 1, out ++ [c]) ⟨by simp only []; omega, by simp only [List.length_append, List.length_singleton]; omega, fun d hd => by rcases List.mem_append.1 hd with hd | hd; exact hom d hd; simp at hd; subst hd; exact hcm, hvl⟩ (by simp only []; omega) ?_
      (try dsimp only)
      rw [hw]
      first | exact ghL (l := [.row _, .grow 1 _]) (hs6 _ _) | exact ghL0 (hs6 _ _)
    · have h1 : (((2 : Nat) : Int) == 1) = false := rfl
      have h2 : ((2 : Int) == 1) = false := rfl
      have hO : ∀ r, (σ ++ (AObj.row [.slice (.grow (σ.length + 1)) (out.map encCf)] :: r))[σ.length]? = some (.row [.slice (.grow (σ.length + 1)) (out.map encCf)]) := fun r => by rw [List.getElem?_append_right (Nat.le_refl _), Nat.sub_self]; rfl
      rw [leanStep_two] at hvl
      simp only [go_sem, Int.reduceToNat, Int.reduceLE, Int.reduceLT, Nat.reduceBEq, Nat.reduceLT, Nat.reduceAdd, Nat.reduceLeDiff, hlt, hx, encCf, h1, h2, encLit]
      refine (pairs2_spec x out _ σ.length _ hFB (hO _)).is ?_
      cases hx1 : hasOne out x
      · rw [hx1, Bool.false_or] at hvl
        simp only [go_sem, Int.reduceToNat, Int.reduceLE, Int.reduceLT, Nat.reduceBEq, Nat.reduceLT, Nat.reduceAdd, Nat.reduceLeDiff, encLit]
        refine (pairs2_spec y out _ σ.length _ hFB (hO _)).is ?_
        cases hy1 : hasOne out y
        · rw [hy1, if_neg (by simp)] at hvl
          simp only [go_sem, Int.reduceToNat, Int.reduceLE, Int.reduceLT, Nat.reduceBEq, Nat.reduceLT, Nat.reduceAdd, Nat.reduceLeDiff, hb]
          have e3 : out.map encCf ++ [[AV.slice .fresh [[AV.int .i64 x.fact, AV.bool x.neg], [AV.int .i64 y.fact, AV.bool y.neg]]]] = (out ++ [[x, y]]).map encCf := by rw [List.map_append]; rfl
          have e4 : out.length + 1 = (out ++ [[x, y]]).length := by simp
          rw [e3, e4]
          refine hK _ _ (i + 1, out ++ [[x, y]]) ⟨by simp only []; omega, by simp only [List.length_append, List.length_singleton]; omega, fun d hd => by rcases List.mem_append.1 hd with hd | hd; exact hom d hd; simp at hd; subst hd; exact hcm, hvl⟩ (by simp only []; omega) ?_
          (try dsimp only)
          rw [hw]
          first | exact ghL (l := [.row _, .grow 1 _]) (hs6 _ _) | exact ghL0 (hs6 _ _)
        · rw [hy1, if_pos rfl] at hvl
          simp only [go_sem, Int.reduceToNat, Int.reduceLE, Int.reduceLT, Nat.reduceBEq, Nat.reduceLT, Nat.reduceAdd, Nat.reduceLeDiff]
          refine hK _ _ (i + 1, out) ⟨by simp only []; omega, by simp only []; omega, hom, hvl⟩ (by simp only []; omega) ?_
          (try dsimp only)
          rw [hw]
          first | exact ghL (l := [.row _, .grow 1 _]) (hs6 _ _) | exact ghL0 (hs6 _ _)
      · rw [hx1, Bool.true_or, if_pos rfl] at hvl
        simp only [go_sem, Int.reduceToNat, Int.reduceLE, Int.reduceLT, Nat.reduceBEq, Nat.reduceLT, Nat.reduceAdd, Nat.reduceLeDiff]
        refine hK _ _ (i + 1, out) ⟨by simp only []; omega, by simp only []; omega, hom, hvl⟩ (by simp only []; omega) ?_
        (try dsimp only)
        rw [hw]
        first | exact ghL (l := [.row _, .grow 1 _]) (hs6 _ _) | exact ghL0 (hs6 _ _)
  · have hlt : ¬ ((i : Int) < (M.length : Int)) := by omega
    rw [drop_len h] at hvl
    simp only [go_sem, Int.reduceToNat, Int.reduceLE, Int.reduceLT, Nat.reduceBEq, Nat.reduceLT, Nat.reduceAdd, Nat.reduceLeDiff, hlt, hE]
    first | exact rtl (.slice .fresh (out.map encCf)) (.int .i64 0) ⟨by rw [pairsRf, hv, if_pos rfl, ← hne, ← hal, ← hM, hvl]; rfl, rfl⟩ | exact rtl0 (.slice .fresh (out.map encCf)) (.int .i64 0) ⟨by rw [pairsRf, hv, if_pos rfl, ← hne, ← hal, ← hM, hvl]; rfl, rfl⟩
theorem Pairs_spec (t : FTask) (σ : Store) (ht : TB t) (h12 : validB t = true → t.facts.length ≤ 12) :
    ACalls Tryz.prog 15 [.agg (encTask t)] σ (isR (pairsR t) σ) := (Pairs_specF t σ ht h12).wkR (pairsRf_wk t)
end Go.Proofs.YtocphglkceidhaaGreat
namespace Go.Proofs.YtocphglkceidhaaGreat
open Go.Ahl
end Go.Proofs.YtocphglkceidhaaGreat
namespace Go.Proofs.YtocphglkceidhaaGreat
open Go.Ahl
def d_sameInts_0 : List COp := [⟨some 16, .move (.tmp 0), none, []⟩, ⟨some 17, .move (.tmp 5), none, []⟩, ⟨some 18, .iaddr 1 (.tmp 16) (.tmp 17), none, [0, 1]⟩, ⟨some 19, .load none (.tmp 18), none, [2]⟩, ⟨some 20, .move (.tmp 1), none, []⟩, ⟨some 21, .move (.tmp 5), none, []⟩, ⟨some 22, .iaddr 1 (.tmp 20) (.tmp 21), none, [4, 5]⟩, ⟨some 23, .load none (.tmp 22), none, [6]⟩, ⟨some 24, .bin .neq .none (.tmp 19) (.tmp 23), none, [3, 7]⟩]
theorem dr_sameInts_0 (P : Program) (nt n0 : Nat) (Q : Post) (s : Slots) (σ : Store) : wpc P nt n0 (.draw d_sameInts_0) Q s σ = aOpsD P nt [⟨some 16, .move (.tmp 0), none, []⟩, ⟨some 17, .move (.tmp 5), none, []⟩, ⟨some 18, .iaddr 1 (.tmp 16) (.tmp 17), none, [0, 1]⟩, ⟨some 19, .load none (.tmp 18), none, [2]⟩, ⟨some 20, .move (.tmp 1), none, []⟩, ⟨some 21, .move (.tmp 5), none, []⟩, ⟨some 22, .iaddr 1 (.tmp 20) (.tmp 21), none, [4, 5]⟩, ⟨some 23, .load none (.tmp 22), none, [6]⟩, ⟨some 24, .bin .neq .none (.tmp 19) (.tmp 23), none, [3, 7]⟩] (Q .normal) s σ := wpc_draw _ (by decide)
def c_sameInts : CCode := .seq (.ops [⟨some 4, .move (.lit (.bool false)), none, []⟩]) (.seq (.seq (.ops [⟨some 6, .move (.tmp 0), none, []⟩, ⟨some 7, .blen 1 (.tmp 6), none, []⟩, ⟨some 8, .move (.tmp 1), none, []⟩, ⟨some 9, .blen 1 (.tmp 8), none, []⟩, ⟨some 10, .bin .neq .none (.tmp 7) (.tmp 9), none, []⟩]) (.cond (.tmp 10) (.seq (.ops [⟨some 4, .move (.lit (.bool false)), none, []⟩]) .ret) .skip)) (.seq (.seq (.ops [⟨some 11, .move (.tmp 0), none, []⟩, ⟨some 12, .blen 1 (.tmp 11), none, []⟩, ⟨some 13, .move (.lit (.int .i64 0)), none, []⟩]) (.block 0 (.loop (.seq (.ops [⟨some 14, .bin .lss .none (.tmp 13) (.tmp 12), none, []⟩]) (.seq (.cond (.tmp 14) .skip (.exit 0)) (.seq (.block 1 (.seq (.ops [⟨some 15, .move (.tmp 13), none, []⟩, ⟨some 5, .move (.tmp 15), none, []⟩]) (.seq (.draw d_sameInts_0) (.cond (.tmp 24) (.seq (.ops [⟨some 4, .move (.lit (.bool false)), none, []⟩]) .ret) .skip)))) (.ops [⟨some 25, .bin .add .none (.tmp 13) (.lit (.int .i64 1)), none, []⟩, ⟨some 13, .move (.tmp 25), none, []⟩]))))))) (.seq (.ops [⟨some 4, .move (.lit (.bool true)), none, []⟩]) .ret)))
set_option maxRecDepth 20000 in
theorem sameInts_spec (l m : List Int) (tok tok' : Tok) (σ : Store) (hl : l.length ≤ 140737488355328) (hm : m.length ≤ 140737488355328) :
    ACalls Tryz.prog 36 [.slice tok (l.map Ahl.encI), .slice tok' (m.map Ahl.encI)] σ (isR (.bool (decide (l = m))) σ) := by
  refine ACalls.intro (rs := [(.tmp 4)]) (by kernel_rfl) { own := [], ghosts := [] } Tryz.func36 (c := Tryz.f36.body.getD .skip) (by kernel_rfl) (by decide) (by rw [show Tryz.f36.ntmps = 26 by kernel_rfl]; exact Nat.le_of_ble_eq_true rfl) (by kernel_rfl) ?_
  intro hσ hids
  rw [show comp Tryz.prog { own := [], ghosts := [] } (Tryz.f36.body.getD .skip) = c_sameInts by kernel_rfl, show Tryz.f36.ntmps = 26 by kernel_rfl]
  unfold c_sameInts
  have hil : Ids σ.length (.slice tok (l.map Ahl.encI)) := hids _ (by simp)
  have him : Ids σ.length (.slice tok' (m.map Ahl.encI)) := hids _ (by simp)
  by_cases hlen : l.length = m.length
  · have h' : ((l.length : Int) != m.length) = false := by rw [hlen]; exact bne_self_eq_false _
    simp only [go_sem, Int.reduceToNat, Int.reduceLE, Int.reduceLT, Nat.reduceBEq, Nat.reduceLT, Nat.reduceAdd, Nat.reduceLeDiff, dr_sameInts_0, h']
    refine wpc_while (fun (i : Nat) => [(0, .slice tok (l.map Ahl.encI)), (1, .slice tok' (m.map Ahl.encI)), (12, .int .i64 l.length), (13, .int .i64 (i : Nat))]) (fun _ => σ) (fun i => i ≤ l.length ∧ decide (l = m) = decide (l.drop i = m.drop i)) (fun i => l.length - i) 0 ⟨Nat.zero_le _, rfl⟩ (by (try dsimp only); first | exact ghk | exact ghk0) ?_
    rintro i ⟨hi, hv⟩ K hK hE hR
    by_cases h : i < l.length
    · obtain ⟨x, hx⟩ := get_ex h; have hlt : ((i : Int) < (l.length : Int)) := (by omega); have hw : IntKind.i64.wrap ((i : Int) + 1) = ((i + 1 : Nat) : Int) := (by rw [wrap_ok (by omega)]; omega)
      obtain ⟨y, hy⟩ : ∃ y, m[i]? = some y := get_ex (by omega)
      rw [drop_cons hx, drop_cons hy, dec_cons] at hv
      by_cases h1 : x = y
      · have hf : (x != y) = false := by simpa using h1
        simp only [go_sem, Int.reduceToNat, Int.reduceLE, Int.reduceLT, Nat.reduceBEq, Nat.reduceLT, Nat.reduceAdd, Nat.reduceLeDiff, dr_sameInts_0, hlt, hx, hy, Ahl.encI, hf]
        rw [decide_eq_true h1, Bool.true_and] at hv
        refine hK _ _ (i + 1) (⟨by omega, hv⟩) (by first | omega | (simp only []; omega) | (simp; omega)) ?_; (try dsimp only); (try simp only [ hw]); first | exact ghk | exact ghk0
      · have hf : (x != y) = true := by simpa using h1
        simp only [go_sem, Int.reduceToNat, Int.reduceLE, Int.reduceLT, Nat.reduceBEq, Nat.reduceLT, Nat.reduceAdd, Nat.reduceLeDiff, dr_sameInts_0, hlt, hx, hy, Ahl.encI, hf, hR]
        rw [decide_eq_false h1, Bool.false_and] at hv
        first | exact rtk (.bool false) ⟨by rw [hv], rfl⟩ | exact rtk0 (.bool false) ⟨by rw [hv], rfl⟩
    · have hlt : ¬ ((i : Int) < (l.length : Int)) := by omega
      rw [drop_len h, drop_len (by omega : ¬ i < m.length)] at hv
      simp only [go_sem, Int.reduceToNat, Int.reduceLE, Int.reduceLT, Nat.reduceBEq, Nat.reduceLT, Nat.reduceAdd, Nat.reduceLeDiff, dr_sameInts_0, hlt, hE]
      first | exact rtk (.bool true) ⟨by rw [hv]; rfl, rfl⟩ | exact rtk0 (.bool true) ⟨by rw [hv]; rfl, rfl⟩
  · have h' : ((l.length : Int) != m.length) = true := by simp; omega
    simp only [go_sem, Int.reduceToNat, Int.reduceLE, Int.reduceLT, Nat.reduceBEq, Nat.reduceLT, Nat.reduceAdd, Nat.reduceLeDiff, dr_sameInts_0, h']
    first | exact rtk (.bool false) ⟨by rw [decide_eq_false (fun e => hlen (by rw [e]))], rfl⟩ | exact rtk0 (.bool false) ⟨by rw [decide_eq_false (fun e => hlen (by rw [e]))], rfl⟩
end Go.Proofs.YtocphglkceidhaaGreat
namespace Go.Proofs.YtocphglkceidhaaGreat
open Go.Ahl
end Go.Proofs.YtocphglkceidhaaGreat
namespace Go.Proofs.YtocphglkceidhaaGreat
open Go.Ahl
def few8B (t : FTask) (fs : List (List (List FLit))) : Bool := fewT 300 t && (decide ((fs.map formSize).sum ≤ 300) && (decide (t.facts.length ≤ 8) || !(validB t)))
def c_few8 : CCode := .seq (.ops [⟨some 2, .box (.tmp 0), none, []⟩, ⟨some 4, .move (.lit (.bool false)), none, []⟩]) (.seq (.ops [⟨some 5, .load (some 4) (.tmp 2), none, []⟩, ⟨some 6, .call (.lit (.func 33 [])) [.tmp 5, .lit (.int .i64 300)], none, []⟩, ⟨some 7, .move (.tmp 6), none, []⟩, ⟨some 8, .move (.tmp 1), some (some 7, true), []⟩, ⟨some 9, .call (.lit (.func 34 [])) [.lit (.int .i64 300), .tmp 8], some (some 7, true), []⟩, ⟨some 10, .pick (.tmp 7) (.tmp 9) (.lit (.bool false)), none, []⟩, ⟨some 11, .move (.tmp 10), none, []⟩, ⟨some 12, .faddr 0 (.tmp 2), some (some 11, true), []⟩, ⟨some 13, .load none (.tmp 12), some (some 11, true), []⟩, ⟨some 14, .blen 1 (.tmp 13), some (some 11, true), []⟩, ⟨some 15, .bin .leq .none (.tmp 14) (.lit (.int .i64 8)), some (some 11, true), []⟩, ⟨some 16, .move (.tmp 15), some (some 11, true), []⟩, ⟨some 17, .load (some 4) (.tmp 2), some (some 16, false), []⟩, ⟨some 18, .call (.lit (.func 35 [])) [.tmp 17], some (some 16, false), []⟩, ⟨some 19, .un .not (.tmp 18), some (some 16, false), []⟩, ⟨some 20, .pick (.tmp 16) (.lit (.bool true)) (.tmp 19), some (some 11, true), []⟩, ⟨some 21, .pick (.tmp 11) (.tmp 20) (.lit (.bool false)), none, []⟩, ⟨some 4, .move (.tmp 21), none, []⟩]) .ret)
set_option maxRecDepth 20000 in
theorem few8_spec (t : FTask) (fs : List (List (List FLit))) (tok : Tok) (σ : Store) (ht : TB t) (hf : fs.length ≤ 140737488355328) (hl : ∀ f ∈ fs, FB f) :
    ACalls Tryz.prog 8 [.agg (encTask t), .slice tok (fs.map encF)] σ (isR (.bool (few8B t fs)) σ) := by
  refine ACalls.intro (rs := [(.tmp 4)]) (by kernel_rfl) { own := [], ghosts := [] } Tryz.func8 (c := Tryz.f8.body.getD .skip) (by kernel_rfl) (by decide) (by rw [show Tryz.f8.ntmps = 22 by kernel_rfl]; exact Nat.le_of_ble_eq_true rfl) (by kernel_rfl) ?_
  intro hσ hids
  rw [show comp Tryz.prog { own := [], ghosts := [] } (Tryz.f8.body.getD .skip) = c_few8 by kernel_rfl, show Tryz.f8.ntmps = 22 by kernel_rfl]
  unfold c_few8
  simp only [go_sem, Int.reduceToNat, Int.reduceLE, Int.reduceLT, Nat.reduceBEq, Nat.reduceLT, Nat.reduceAdd, Nat.reduceLeDiff, encTask]
  refine (few01_spec t 300 _ ht (by omega)).is ?_
  cases h1 : fewT 300 t
  · simp only [go_sem, Int.reduceToNat, Int.reduceLE, Int.reduceLT, Nat.reduceBEq, Nat.reduceLT, Nat.reduceAdd, Nat.reduceLeDiff]
    first | exact rtk (.bool false) ⟨by rw [few8B, h1]; rfl, rfl⟩ | exact rtk0 (.bool false) ⟨by rw [few8B, h1]; rfl, rfl⟩
  simp only [go_sem, Int.reduceToNat, Int.reduceLE, Int.reduceLT, Nat.reduceBEq, Nat.reduceLT, Nat.reduceAdd, Nat.reduceLeDiff]
  refine (few07_spec 300 (by omega) fs tok _ hf hl).is ?_
  cases h2 : decide ((fs.map formSize).sum ≤ 300)
  · simp only [go_sem, Int.reduceToNat, Int.reduceLE, Int.reduceLT, Nat.reduceBEq, Nat.reduceLT, Nat.reduceAdd, Nat.reduceLeDiff]
    first | exact rtk (.bool false) ⟨by rw [few8B, h1, h2]; rfl, rfl⟩ | exact rtk0 (.bool false) ⟨by rw [few8B, h1, h2]; rfl, rfl⟩
  by_cases h3 : (t.facts.length : Int) ≤ 8
  · simp only [go_sem, Int.reduceToNat, Int.reduceLE, Int.reduceLT, Nat.reduceBEq, Nat.reduceLT, Nat.reduceAdd, Nat.reduceLeDiff, encTask, h3]
    first | exact rtk (.bool true) ⟨by rw [few8B, h1, h2, decide_eq_true (by omega : t.facts.length ≤ 8)]; rfl, rfl⟩ | exact rtk0 (.bool true) ⟨by rw [few8B, h1, h2, decide_eq_true (by omega : t.facts.length ≤ 8)]; rfl, rfl⟩
  · simp only [go_sem, Int.reduceToNat, Int.reduceLE, Int.reduceLT, Nat.reduceBEq, Nat.reduceLT, Nat.reduceAdd, Nat.reduceLeDiff, encTask, h3]
    refine (is01_spec t _ ht).is ?_
    simp only [go_sem, Int.reduceToNat, Int.reduceLE, Int.reduceLT, Nat.reduceBEq, Nat.reduceLT, Nat.reduceAdd, Nat.reduceLeDiff]
    first | exact rtw (v := .bool _) wkS ⟨by rw [few8B, h1, h2, decide_eq_false (by omega : ¬ t.facts.length ≤ 8)]; rfl, rfl⟩ | exact rtw0 (v := .bool _) wkS ⟨by rw [few8B, h1, h2, decide_eq_false (by omega : ¬ t.facts.length ≤ 8)]; rfl, rfl⟩
end Go.Proofs.YtocphglkceidhaaGreat
namespace Go.Proofs.YtocphglkceidhaaGreat
open Go.Ahl
end Go.Proofs.YtocphglkceidhaaGreat
namespace Go.Proofs.YtocphglkceidhaaGreat
open Go.Ahl
end Go.Proofs.YtocphglkceidhaaGreat
namespace Go.Proofs.YtocphglkceidhaaGreat
open Go.Ahl
/-- Does a clause keep two facts apart? -/
def apartC (x y : Int) : List FLit → Bool
  | [a] => a.neg && (a.fact == x || a.fact == y)
  | [a, b] => decide (a = ⟨if y < x then y else x, true⟩) && decide (b = ⟨if y > x then y else x, true⟩)
  | _ => false
def apartB (l : List (List FLit)) (x y : Int) : Bool := l.any (apartC x y)
/-- Are any two of some facts kept apart? -/
def groupB (l : List (List FLit)) (f : List Int) : Bool := (List.range f.length).all fun i => (f.take i).all fun y => apartB l (f.getD i 0) y
end Go.Proofs.YtocphglkceidhaaGreat
namespace Go.Proofs.YtocphglkceidhaaGreat
open Go.Ahl
/-- Can a fact be added? -/
def growB (l : List (List FLit)) (s : List Int) (x : Nat) : Bool := !(s.contains (x : Int)) && groupB l (s ++ [(x : Int)])
def mostB (n : Nat) (l : List (List FLit)) (s : List Int) : Bool := !((List.range n).any (growB l s))
def isGroupB (n : Nat) (l : List (List FLit)) (s : List Int) : Bool := !(decide ((s.length : Int) < 2)) && groupB l s && mostB n l s
def groupsL (n : Nat) (l : List (List FLit)) : List (List Int) := ((statesL n).filter (isGroupB n l)).foldl insL []
end Go.Proofs.YtocphglkceidhaaGreat
/- The abstract layer, part 29: a row told as a shorter one; an answer told in another way. -/
namespace Go.Ahl
theorem own_row (l : Loc) (a b : List AV) : own l (.row a) = own l (.row b) := by cases l <;> rfl
/-- A row may be told as a shorter one. -/
theorem SRel.trunc {m : Mem} {loc : List Loc} {σ : Store} {w : World} (h : SRel m loc σ w) (id k : Nat) {cells : List AV} (hs : σ[id]? = some (.row cells)) : SRel m loc (σ.set id (.row (cells.take k))) w where
  len := by simp [h.len]
  im := h.im
  bs := h.bs
  obj := by
    intro i l o h1 h2
    rcases get_set h2 with ⟨rfl, rfl⟩ | ⟨_, h2⟩
    · have := h.obj _ l _ h1 hs
      cases l with
      | nowhere => have e : cells = [] := this; subst e; show List.take k [] = []; simp
      | tok sz f => exact this.elim
      | blk b =>
        obtain ⟨arr, t, h1, h2, h3, h4, h5⟩ := this
        exact ⟨arr, t, h1, h2, Nat.le_trans (by rw [List.length_take]; omega) h3, fun j x v e1 e2 => h4 j x v (get_take e1).2 e2, h5⟩
    · exact h.obj i l o h1 h2
  inj := by
    intro i j l l' o o' b h1 h2 h3 h4 w1 w2
    have fix : ∀ {i : Nat} {l : Loc} {o : AObj}, (σ.set id (.row (cells.take k)))[i]? = some o → own l o = some b → ∃ o2, σ[i]? = some o2 ∧ own l o2 = some b := by
      intro i l o h3 w1
      rcases get_set h3 with ⟨rfl, rfl⟩ | ⟨_, h3⟩
      · exact ⟨_, hs, by rw [own_row l cells (cells.take k)]; exact w1⟩
      · exact ⟨_, h3, w1⟩
    obtain ⟨o2, q1, q2⟩ := fix h3 w1
    obtain ⟨o3, q3, q4⟩ := fix h4 w2
    exact h.inj i j l l' o2 o3 b h1 h2 q1 q3 q2 q4
  lt := h.lt
  mp := h.mp
  mpo := by
    intro i l o b h1 h2 w1
    rcases get_set h2 with ⟨rfl, rfl⟩ | ⟨_, h2⟩
    · exact h.mpo _ l _ b h1 hs (by rw [own_row l cells (cells.take k)]; exact w1)
    · exact h.mpo i l o b h1 h2 w1
  ok := h.ok
theorem Ghost.trunc {n0 nt : Nat} {s : Slots} {σ : Store} (id k : Nat) {cells : List AV} (hs : σ[id]? = some (.row cells)) : Ghost n0 nt s σ s (σ.set id (.row (cells.take k))) :=
  fun m loc w t _ h1 h2 => ⟨m, loc, h1.trunc id k hs, h2, .refl _ _ _ _⟩
theorem ACalls.to {P : Program} {f : FuncId} {args : List AV} {σ τ : Store} {v : AV} {K : Cont} (h : ACalls P f args σ (isR v τ)) (k : K v τ) : ACalls P f args σ K :=
  h.mono fun r σ' hr => by obtain ⟨rfl, rfl⟩ := hr; exact k
/-- An answer, told in another way. -/
theorem ACalls.ghost {P : Program} {f : FuncId} {args : List AV} {σ τ τ' : Store} {a b : AV} (h : ACalls P f args σ (isR a τ)) (hg : IdsS σ.length σ → Ghost σ.length 1 [(0, a)] τ [(0, b)] τ') : ACalls P f args σ (isR b τ') := by
  intro m loc w vs hs ha
  have key : ∀ v w', ARet loc m w (isR a τ) v w' → ARet loc m w (isR b τ') v w' := by
    rintro v w' ⟨r, σ', m', loc', ⟨rfl, rfl⟩, h2, h3, h4⟩
    have hn : σ.length ≤ loc'.length := by
      have := h4.len (Nat.le_refl _)
      rw [← hs.len]; exact this
    obtain ⟨m2, loc2, g1, g2, g3⟩ := hg hs.ids m' loc' w' #[v] hn h3 ⟨rfl, fun i => by
      cases i with
      | zero => exact h2
      | succ i => exact .any _⟩
    refine ⟨b, τ', m2, loc2, ⟨rfl, rfl⟩, g2.rel 0, g1, ?_⟩
    rw [← hs.len] at g3
    exact h4.trans g3
  rcases h m loc w vs hs ha with ⟨fn, h1, h2, h3, h4⟩ | ⟨v, w', h1, h2⟩
  · exact .inl ⟨fn, h1, h2, h3, h4.mono fun e w' ⟨v, e1, e2⟩ => ⟨v, e1, key _ _ e2⟩⟩
  · exact .inr ⟨v, w', h1, key _ _ h2⟩
end Go.Ahl
namespace Go.Proofs.YtocphglkceidhaaGreat
open Go.Ahl
theorem idxFrom_nat {α : Type} (p : α → Bool) : ∀ (l : List α) (k : Int), (idxFrom p k l = -1 ∧ ∀ x ∈ l, p x = false) ∨ ∃ n, idxFrom p k l = k + (n : Nat) ∧ (∀ x ∈ l.take n, p x = false) ∧ ∃ x, l[n]? = some x ∧ p x = true
  | [], k => .inl ⟨rfl, by simp⟩
  | x :: l, k => by
    rw [idxFrom]
    cases hx : p x
    · simp only [Bool.false_eq_true, if_false]
      rcases idxFrom_nat p l (k + 1) with ⟨h1, h2⟩ | ⟨n, h1, h2, h3⟩
      · exact .inl ⟨h1, fun y hy => by rcases List.mem_cons.1 hy with rfl | hy; exact hx; exact h2 y hy⟩
      · exact .inr ⟨n + 1, by rw [h1]; omega, fun y hy => by rw [List.take_succ_cons] at hy; rcases List.mem_cons.1 hy with rfl | hy; exact hx; exact h2 y hy, h3⟩
    · exact .inr ⟨0, by simp, by simp, x, rfl, hx⟩
def c_idxI : CCode := .seq (.ops [⟨some 4, .move (.lit (.int .i64 0)), none, []⟩]) (.seq (.seq (.ops [⟨some 6, .move (.tmp 0), none, []⟩, ⟨some 7, .blen 1 (.tmp 6), none, []⟩, ⟨some 8, .move (.lit (.int .i64 0)), none, []⟩]) (.block 0 (.loop (.seq (.ops [⟨some 9, .bin .lss .none (.tmp 8) (.tmp 7), none, []⟩]) (.seq (.cond (.tmp 9) .skip (.exit 0)) (.seq (.block 1 (.seq (.ops [⟨some 10, .move (.tmp 8), none, []⟩, ⟨some 5, .move (.tmp 10), none, []⟩]) (.seq (.ops [⟨some 11, .move (.tmp 1), none, []⟩, ⟨some 12, .move (.tmp 0), none, []⟩, ⟨some 13, .move (.tmp 5), none, []⟩, ⟨some 14, .iaddr 1 (.tmp 12) (.tmp 13), none, []⟩, ⟨some 15, .load none (.tmp 14), none, []⟩, ⟨some 16, .call (.tmp 11) [.tmp 15], none, []⟩]) (.cond (.tmp 16) (.seq (.ops [⟨some 17, .move (.tmp 5), none, []⟩, ⟨some 4, .move (.tmp 17), none, []⟩]) .ret) .skip)))) (.ops [⟨some 18, .bin .add .none (.tmp 8) (.lit (.int .i64 1)), none, []⟩, ⟨some 8, .move (.tmp 18), none, []⟩]))))))) (.seq (.ops [⟨some 4, .move (.lit (.int .i64 (-1))), none, []⟩]) .ret))
set_option maxRecDepth 20000 in
theorem idxI_spec (id : Nat) (l : List Int) (g : FuncId) (cap : List AV) (p : Int → Bool) (σ : Store) (hl : l.length ≤ 140737488355328) (hr : σ[id]? = some (.row (l.map ai)))
    (hp : ∀ x ∈ l, ACalls Tryz.prog g (ai x :: cap) σ (isR (.bool (p x)) σ)) :
    ACalls Tryz.prog 81 [.ref id 1 0 l.length, .func g cap] σ (isR (.int .i64 (idxFrom p 0 l)) σ) := by
  refine ACalls.intro (rs := [(.tmp 4)]) (by kernel_rfl) { own := [], ghosts := [] } Tryz.func81 (c := Tryz.f81.body.getD .skip) (by kernel_rfl) (by decide) (by rw [show Tryz.f81.ntmps = 19 by kernel_rfl]; exact Nat.le_of_ble_eq_true rfl) (by kernel_rfl) ?_
  intro hσ hids
  rw [show comp Tryz.prog { own := [], ghosts := [] } (Tryz.f81.body.getD .skip) = c_idxI by kernel_rfl, show Tryz.f81.ntmps = 19 by kernel_rfl]
  unfold c_idxI
  have hif : Ids σ.length (.func g cap) := hids _ (by simp)
  have hid := lt_of_get hr
  simp only [go_sem, Int.reduceToNat, Int.reduceLE, Int.reduceLT, Nat.reduceBEq, Nat.reduceLT, Nat.reduceAdd, Nat.reduceLeDiff]
  refine wpc_while (fun i => [(0, .ref id 1 0 l.length), (1, .func g cap), (7, .int .i64 l.length), (8, .int .i64 (i : Nat))]) (fun _ => σ) (fun i => i ≤ l.length ∧ idxFrom p 0 l = idxFrom p i (l.drop i)) (fun i => l.length - i) 0 ⟨Nat.zero_le _, rfl⟩ (by (try dsimp only); first | exact ghk | exact ghk0) ?_
  rintro i ⟨hi, hv⟩ K hK hE hR
  by_cases h : i < l.length
  · obtain ⟨y, hx⟩ := get_ex h; have hlt : ((i : Int) < (l.length : Int)) := (by omega); have hw : IntKind.i64.wrap ((i : Int) + 1) = ((i + 1 : Nat) : Int) := (by rw [wrap_ok (by omega)]; omega)
    rw [drop_cons hx, idxFrom] at hv
    have hx' : (l.map ai)[i]? = some (ai y) := by rw [List.getElem?_map, hx]; rfl
    simp only [go_sem, Int.reduceToNat, Int.reduceLE, Int.reduceLT, Nat.reduceBEq, Nat.reduceLT, Nat.reduceAdd, Nat.reduceLeDiff, hlt, hr, hx', h]
    refine (hp y (List.mem_of_getElem? hx)).is ?_
    cases h1 : p y
    · simp only [go_sem, Int.reduceToNat, Int.reduceLE, Int.reduceLT, Nat.reduceBEq, Nat.reduceLT, Nat.reduceAdd, Nat.reduceLeDiff]
      rw [h1, if_neg (by simp)] at hv
      refine hK _ _ (i + 1) (⟨by omega, by rw [hv]; norm_cast⟩) (by first | omega | (simp only []; omega) | (simp; omega)) ?_; (try dsimp only); (try simp only [ hw]); first | exact ghk | exact ghk0
    · rw [h1, if_pos rfl] at hv
      simp only [go_sem, Int.reduceToNat, Int.reduceLE, Int.reduceLT, Nat.reduceBEq, Nat.reduceLT, Nat.reduceAdd, Nat.reduceLeDiff, hR]
      first | exact rtk (.int .i64 i) ⟨by rw [hv], rfl⟩ | exact rtk0 (.int .i64 i) ⟨by rw [hv], rfl⟩
  · have hlt : ¬ ((i : Int) < (l.length : Int)) := by omega
    rw [drop_len h, idxFrom] at hv
    simp only [go_sem, Int.reduceToNat, Int.reduceLE, Int.reduceLT, Nat.reduceBEq, Nat.reduceLT, Nat.reduceAdd, Nat.reduceLeDiff, hlt, hE]
    first | exact rtk (.int .i64 (-1)) ⟨by rw [hv], rfl⟩ | exact rtk0 (.int .i64 (-1)) ⟨by rw [hv], rfl⟩
def c_cloneR : CCode := .seq (.ops [⟨some 2, .move (.lit (.slice .nil [])), none, []⟩]) (.seq (.seq (.ops [⟨some 3, .move (.tmp 0), none, []⟩, ⟨some 4, .bin .eql .slice (.tmp 3) (.lit (.slice .nil [])), none, []⟩]) (.cond (.tmp 4) (.seq (.ops [⟨some 2, .move (.lit (.slice .nil [])), none, []⟩]) .ret) .skip)) (.seq (.ops [⟨some 5, .bslice 1 [] true, none, []⟩, ⟨some 6, .move (.tmp 0), none, []⟩, ⟨some 7, .bappend 1 8 (.tmp 5) (.tmp 6) true, none, []⟩, ⟨some 2, .move (.tmp 7), none, []⟩]) .ret))
set_option maxRecDepth 20000 in
theorem cloneR_spec (f : List Int) (tok : Tok) (σ : Store) (hf : f.length ≤ 1073741824) :
    ACalls Tryz.prog 40 [.slice tok (f.map Ahl.encI)] σ (isR (.ref σ.length 1 0 f.length) (σ ++ [.row (f.map ai)])) := by
  refine ACalls.intro (rs := [(.tmp 2)]) (by kernel_rfl) { own := [(3, 0), (3, 2)], ghosts := [] } Tryz.func40 (c := Tryz.f40.body.getD .skip) (by kernel_rfl) (by decide) (by rw [show Tryz.f40.ntmps = 8 by kernel_rfl]; exact Nat.le_of_ble_eq_true rfl) (by kernel_rfl) ?_
  intro hσ hids
  rw [show comp Tryz.prog { own := [(3, 0), (3, 2)], ghosts := [] } (Tryz.f40.body.getD .skip) = c_cloneR by kernel_rfl, show Tryz.f40.ntmps = 8 by kernel_rfl]
  unfold c_cloneR
  have hbig : bigLen f.length 8 := big_ok (by omega) (by omega)
  have hσ1 : IdsS (σ ++ [AObj.row (f.map ai)]).length (σ ++ [AObj.row (f.map ai)]) := idsS_push hσ (ids_ai f)
  simp only [go_sem, Int.reduceToNat, Int.reduceLE, Int.reduceLT, Nat.reduceBEq, Nat.reduceLT, Nat.reduceAdd, Nat.reduceLeDiff]
  intro b hb
  cases b
  · have hall : ∀ x ∈ f, (Ahl.encI x).length = 1 ∧ (Ahl.encI x).all AV.one = true := fun x _ => ⟨rfl, rfl⟩
    simp only [go_sem, Int.reduceToNat, Int.reduceLE, Int.reduceLT, Nat.reduceBEq, Nat.reduceLT, Nat.reduceAdd, Nat.reduceLeDiff, hbig, map_ai]
    refine ⟨hall, ?_⟩
    refine ret_gh (v := .ref σ.length 1 0 f.length) (σ' := σ ++ [.row (f.map ai)]) ?_ (by simp) hσ1 (.ref _ _ _ _ (by simp)) ⟨rfl, rfl⟩
    exact .keepL0 _ rfl (Nat.le_refl _) ⟨⟨.refl _, .ref _ _ _ _ (by simp)⟩, trivial⟩ hσ1
  · have hl0 : f = [] := by
      cases f with
      | nil => rfl
      | cons x l => exact absurd (hb (by simp)) (by simp)
    subst hl0
    simp only [go_sem, Int.reduceToNat, Int.reduceLE, Int.reduceLT, Nat.reduceBEq, Nat.reduceLT, Nat.reduceAdd, Nat.reduceLeDiff]
    refine ret_gh (v := .ref σ.length 1 0 0) (σ' := σ ++ [.row []]) ?_ (by simp) hσ1 (.ref _ _ _ _ (by simp)) ⟨rfl, rfl⟩
    exact (Ghost.keep0 (s' := [(2, .slice .nil [])]) (Nat.le_refl _) ⟨⟨.refl _, ids_nil _ (by simp)⟩, trivial⟩ hσ).trans ((Ghost.row0 2 1 0 (.inl rfl)).trans (.same (lk_twice 2 _ _ [])))
def c_cloneG : CCode := .seq (.ops [⟨some 2, .move (.lit (.slice .nil [])), none, []⟩]) (.seq (.seq (.ops [⟨some 3, .move (.tmp 0), none, []⟩, ⟨some 4, .bin .eql .slice (.tmp 3) (.lit (.slice .nil [])), none, []⟩]) (.cond (.tmp 4) (.seq (.ops [⟨some 2, .move (.lit (.slice .nil [])), none, []⟩]) .ret) .skip)) (.seq (.ops [⟨some 5, .bslice 1 [] false, none, []⟩, ⟨some 6, .move (.tmp 0), none, []⟩, ⟨some 7, .bappend 1 8 (.tmp 5) (.tmp 6) false, none, []⟩, ⟨some 2, .move (.tmp 7), none, []⟩]) .ret))
set_option maxRecDepth 20000 in
theorem cloneG_spec (f : List Int) (tok : Tok) (σ : Store) (hf : f.length ≤ 1073741824) :
    ACalls Tryz.prog 40 [.slice tok (f.map Ahl.encI)] σ (isR (.slice (.grow σ.length) (f.map Ahl.encI)) (σ ++ [.grow 1 f.length])) := by
  refine ACalls.intro (rs := [(.tmp 2)]) (by kernel_rfl) { own := [], ghosts := [] } Tryz.func40 (c := Tryz.f40.body.getD .skip) (by kernel_rfl) (by decide) (by rw [show Tryz.f40.ntmps = 8 by kernel_rfl]; exact Nat.le_of_ble_eq_true rfl) (by kernel_rfl) ?_
  intro hσ hids
  rw [show comp Tryz.prog { own := [], ghosts := [] } (Tryz.f40.body.getD .skip) = c_cloneG by kernel_rfl, show Tryz.f40.ntmps = 8 by kernel_rfl]
  unfold c_cloneG
  have hbig : bigLen f.length 8 := big_ok (by omega) (by omega)
  have hσ1 : ∀ k, IdsS (σ ++ [AObj.grow 1 k]).length (σ ++ [AObj.grow 1 k]) := fun k => idsS_push hσ trivial
  simp only [go_sem, Int.reduceToNat, Int.reduceLE, Int.reduceLT, Nat.reduceBEq, Nat.reduceLT, Nat.reduceAdd, Nat.reduceLeDiff]
  intro b hb
  cases b
  · have hall : ∀ x ∈ f, (Ahl.encI x).length = 1 ∧ (Ahl.encI x).all AV.one = true := fun x _ => ⟨rfl, rfl⟩
    simp only [go_sem, Int.reduceToNat, Int.reduceLE, Int.reduceLT, Nat.reduceBEq, Nat.reduceLT, Nat.reduceAdd, Nat.reduceLeDiff, hbig]
    refine ⟨hall, ?_⟩
    refine ret_gh (v := .slice (.grow σ.length) (f.map Ahl.encI)) (σ' := σ ++ [.grow 1 f.length]) ?_ (by simp) (hσ1 _) (ids_growE (by simp) _) ⟨rfl, rfl⟩
    exact .keepL0 _ rfl (Nat.le_refl _) ⟨⟨.refl _, ids_growE (by simp) _⟩, trivial⟩ (hσ1 _)
  · have hl0 : f = [] := by
      cases f with
      | nil => rfl
      | cons x l => exact absurd (hb (by simp)) (by simp)
    subst hl0
    simp only [go_sem, Int.reduceToNat, Int.reduceLE, Int.reduceLT, Nat.reduceBEq, Nat.reduceLT, Nat.reduceAdd, Nat.reduceLeDiff]
    refine ret_gh (v := .slice (.grow σ.length) []) (σ' := σ ++ [.grow 1 0]) ?_ (by simp) (hσ1 _) (ids_nil _ (by intro id h; cases h; simp)) ⟨rfl, rfl⟩
    exact (Ghost.keep0 (s' := [(2, .slice .nil [])]) (Nat.le_refl _) ⟨⟨.refl _, ids_nil _ (by simp)⟩, trivial⟩ hσ).trans ((Ghost.tok 2 1 (.inl rfl)).trans (.same (lk_twice 2 _ _ [])))
theorem take_setAll : ∀ (xs l : List AV) (off : Nat), (setAll l off xs).take off = l.take off
  | [], l, off => rfl
  | x :: xs, l, off => by
    rw [setAll]
    have h := take_setAll xs (l.set off x) (off + 1)
    have h2 : (setAll (l.set off x) (off + 1) xs).take off = ((setAll (l.set off x) (off + 1) xs).take (off + 1)).take off := by rw [List.take_take]; congr 1; omega
    rw [h2, h, List.take_take, Nat.min_eq_left (by omega), List.take_set_of_le (Nat.le_refl _)]
theorem mem_setAll : ∀ (xs l : List AV) (off : Nat) (v : AV), v ∈ setAll l off xs → v ∈ l ∨ v ∈ xs
  | [], l, off, v, h => .inl h
  | x :: xs, l, off, v, h => by
    rcases mem_setAll xs _ _ v h with h | h
    · rcases List.mem_or_eq_of_mem_set h with h | h
      · exact .inl h
      · exact .inr (h ▸ List.mem_cons_self)
    · exact .inr (List.mem_cons_of_mem _ h)
/-- Behind j elements, of which i stayed. -/
def DelInv (l : List Int) (p : Int → Bool) (q : Nat × Nat × List Int) : Prop :=
  q.1 ≤ l.length ∧ q.2.1 < q.1 ∧ q.2.2.length = l.length ∧ q.2.2.take q.2.1 = (l.take q.1).filter (fun x => !(p x)) ∧ q.2.2.drop q.1 = l.drop q.1
theorem DelInv.len {l : List Int} {p : Int → Bool} {j i : Nat} {w : List Int} (h : DelInv l p (j, i, w)) : ((l.take j).filter (fun x => !(p x))).length = i := by
  obtain ⟨h1, h2, h3, h4, h5⟩ := h
  simp only at h1 h2 h3 h4 h5
  rw [← h4, List.length_take]; omega
theorem DelInv.stay {l : List Int} {p : Int → Bool} {j i : Nat} {w : List Int} {x : Int} (h : DelInv l p (j, i, w)) (hx : l[j]? = some x) (hp : p x = false) : DelInv l p (j + 1, i + 1, w.set i x) := by
  have hl := h.len
  obtain ⟨h1, h2, h3, h4, h5⟩ := h
  simp only at h1 h2 h3 h4 h5
  have hj := lt_of_get hx
  have hw : i < w.length := by omega
  refine ⟨hj, by simp only; omega, by simpa using h3, ?_, ?_⟩
  · simp only
    rw [take_succ' hx, List.filter_append, List.filter_cons, hp, ← h4]
    simp only [Bool.not_false, if_true, List.filter_nil]
    rw [List.take_set, List.take_succ_eq_append_getElem hw, List.set_append_right _ _ (by rw [List.length_take]; omega)]
    congr 1
    rw [List.length_take, Nat.min_eq_left (by omega), Nat.sub_self]; rfl
  · simp only
    rw [List.drop_set_of_lt (by omega), ← List.drop_drop, ← List.drop_drop, h5]
theorem DelInv.skip {l : List Int} {p : Int → Bool} {j i : Nat} {w : List Int} {x : Int} (h : DelInv l p (j, i, w)) (hx : l[j]? = some x) (hp : p x = true) : DelInv l p (j + 1, i, w) := by
  obtain ⟨h1, h2, h3, h4, h5⟩ := h
  simp only at h1 h2 h3 h4 h5
  have hj := lt_of_get hx
  refine ⟨hj, by simp only; omega, h3, ?_, ?_⟩
  · simp only
    rw [take_succ' hx, List.filter_append, List.filter_cons, hp, ← h4]; simp
  · simp only
    rw [← List.drop_drop, ← List.drop_drop, h5]
def c_delI : CCode := .seq (.ops [⟨some 4, .move (.lit (.slice .nil [])), none, []⟩]) (.seq (.ops [⟨some 8, .move (.tmp 0), none, []⟩, ⟨some 9, .move (.tmp 1), none, []⟩, ⟨some 10, .call (.lit (.func 81 [])) [.tmp 8, .tmp 9], none, []⟩, ⟨some 5, .move (.tmp 10), none, []⟩]) (.seq (.seq (.ops [⟨some 11, .move (.tmp 5), none, []⟩, ⟨some 12, .bin .eql .none (.tmp 11) (.lit (.int .i64 (-1))), none, []⟩]) (.cond (.tmp 12) (.seq (.ops [⟨some 13, .move (.tmp 0), none, []⟩, ⟨some 4, .move (.tmp 13), none, []⟩]) .ret) .skip)) (.seq (.seq (.ops [⟨some 14, .move (.tmp 5), none, []⟩, ⟨some 15, .bin .add .none (.tmp 14) (.lit (.int .i64 1)), none, []⟩, ⟨some 6, .move (.tmp 15), none, []⟩]) (.block 0 (.loop (.seq (.seq (.ops [⟨some 16, .move (.tmp 6), none, []⟩, ⟨some 17, .move (.tmp 0), none, []⟩, ⟨some 18, .blen 1 (.tmp 17), none, []⟩, ⟨some 19, .bin .lss .none (.tmp 16) (.tmp 18), none, []⟩]) (.cond (.tmp 19) .skip (.exit 0))) (.seq (.block 1 (.seq (.ops [⟨some 22, .move (.tmp 0), none, []⟩, ⟨some 23, .move (.tmp 6), none, []⟩, ⟨some 24, .iaddr 1 (.tmp 22) (.tmp 23), none, []⟩, ⟨some 25, .load none (.tmp 24), none, []⟩, ⟨some 7, .move (.tmp 25), none, []⟩]) (.seq (.ops [⟨some 26, .move (.tmp 1), none, []⟩, ⟨some 27, .move (.tmp 7), none, []⟩, ⟨some 28, .call (.tmp 26) [.tmp 27], none, []⟩, ⟨some 29, .un .not (.tmp 28), none, []⟩]) (.cond (.tmp 29) (.seq (.ops [⟨some 30, .move (.tmp 0), none, []⟩, ⟨some 31, .move (.tmp 5), none, []⟩, ⟨some 32, .move (.tmp 7), none, []⟩, ⟨some 33, .iaddr 1 (.tmp 30) (.tmp 31), none, []⟩, ⟨none, .store 1 (.tmp 33) (.tmp 32), none, []⟩]) (.ops [⟨some 34, .move (.tmp 5), none, []⟩, ⟨some 35, .bin .add .none (.tmp 34) (.lit (.int .i64 1)), none, []⟩, ⟨some 5, .move (.tmp 35), none, []⟩])) .skip)))) (.ops [⟨some 20, .move (.tmp 6), none, []⟩, ⟨some 21, .bin .add .none (.tmp 20) (.lit (.int .i64 1)), none, []⟩, ⟨some 6, .move (.tmp 21), none, []⟩])))))) (.seq (.ops [⟨some 36, .move (.tmp 0), none, []⟩, ⟨some 37, .move (.tmp 5), none, []⟩, ⟨some 38, .slc 1 (.tmp 36) (some (.tmp 37)) none none, none, []⟩, ⟨none, .bclear [.int .i64 0] (.tmp 38), none, []⟩]) (.seq (.ops [⟨some 39, .move (.tmp 0), none, []⟩, ⟨some 40, .move (.tmp 5), none, []⟩, ⟨some 41, .slc 1 (.tmp 39) none (some (.tmp 40)) none, none, []⟩, ⟨some 4, .move (.tmp 41), none, []⟩]) .ret)))))
set_option maxRecDepth 20000 in
set_option maxHeartbeats 1000000 in
theorem delI_spec (id : Nat) (l : List Int) (g : FuncId) (cap : List AV) (p : Int → Bool) (σ : Store) (hl : l.length ≤ 1073741824) (hr : σ[id]? = some (.row (l.map ai)))
    (hp : ∀ (w : List Int), ∀ x ∈ l, ACalls Tryz.prog g (ai x :: cap) (σ.set id (.row (w.map ai))) (isR (.bool (p x)) (σ.set id (.row (w.map ai))))) :
    ACalls Tryz.prog 43 [.ref id 1 0 l.length, .func g cap] σ (isR (.ref id 1 0 (l.filter fun x => !(p x)).length) (σ.set id (.row ((l.filter fun x => !(p x)).map ai)))) := by
  refine ACalls.intro (rs := [(.tmp 4)]) (by kernel_rfl) { own := [], ghosts := [] } Tryz.func43 (c := Tryz.f43.body.getD .skip) (by kernel_rfl) (by decide) (by rw [show Tryz.f43.ntmps = 42 by kernel_rfl]; exact Nat.le_of_ble_eq_true rfl) (by kernel_rfl) ?_
  intro hσ hids
  rw [show comp Tryz.prog { own := [], ghosts := [] } (Tryz.f43.body.getD .skip) = c_delI by kernel_rfl, show Tryz.f43.ntmps = 42 by kernel_rfl]
  unfold c_delI
  have hif : Ids σ.length (.func g cap) := hids _ (by simp)
  have hid := lt_of_get hr
  obtain ⟨T, hT⟩ : ∃ T : List Int → Store, ∀ w, T w = σ.set id (.row (w.map ai)) := ⟨_, fun _ => rfl⟩
  have hT0 : T l = σ := by rw [hT]; exact set_same hr
  have hTl : ∀ w, (T w).length = σ.length := fun w => by rw [hT, List.length_set]
  have hTi : ∀ w, IdsS (T w).length (T w) := fun w => by rw [hTl, hT]; exact idsS_put hσ id (ids_ai _)
  have hTr : ∀ w, (T w)[id]? = some (.row (w.map ai)) := fun w => by rw [hT, List.getElem?_set_self hid]
  have hTs : ∀ w (v : List AV), (T w).set id (.row v) = σ.set id (.row v) := fun w v => by rw [hT, List.set_set]
  simp only [go_sem, Int.reduceToNat, Int.reduceLE, Int.reduceLT, Nat.reduceBEq, Nat.reduceLT, Nat.reduceAdd, Nat.reduceLeDiff]
  refine (idxI_spec id l g cap p σ (by omega) hr (fun x hx => by have := hp l x hx; rwa [set_same hr] at this)).is ?_
  rcases idxFrom_nat p l 0 with ⟨h1, h2⟩ | ⟨n, h1, h2, x0, hx0, hpx⟩
  · have hfl : l.filter (fun x => !(p x)) = l := List.filter_eq_self.2 fun x hx => by rw [h2 x hx]; rfl
    have h3 : (((-1 : Int)) == (-1 : Int)) = true := rfl
    rw [h1, hfl, set_same hr]
    simp only [go_sem, Int.reduceToNat, Int.reduceLE, Int.reduceLT, Nat.reduceBEq, Nat.reduceLT, Nat.reduceAdd, Nat.reduceLeDiff, h3]
    first | exact rtk (.ref id 1 0 l.length) ⟨rfl, rfl⟩ | exact rtk0 (.ref id 1 0 l.length) ⟨rfl, rfl⟩
  · have hnl := lt_of_get hx0
    have h3 : (((n : Int)) == (-1 : Int)) = false := by simp
    have hwn : IntKind.i64.wrap ((n : Int) + 1) = ((n + 1 : Nat) : Int) := by rw [wrap_ok (by omega)]; omega
    rw [h1, Int.zero_add]
    have hinv : DelInv l p (n + 1, n, l) := by
      refine ⟨hnl, Nat.lt_succ_self n, rfl, ?_, rfl⟩
      simp only
      rw [take_succ' hx0, List.filter_append, List.filter_cons, hpx]
      simp only [Bool.not_true, Bool.false_eq_true, if_false, List.filter_nil, List.append_nil]
      exact (List.filter_eq_self.2 fun x hx => by rw [h2 x hx]; rfl).symm
    simp only [go_sem, Int.reduceToNat, Int.reduceLE, Int.reduceLT, Nat.reduceBEq, Nat.reduceLT, Nat.reduceAdd, Nat.reduceLeDiff, h3, hwn]
    refine wpc_while (fun (q : Nat × Nat × List Int) => [(0, .ref id 1 0 l.length), (1, .func g cap), (5, .int .i64 q.2.1), (6, .int .i64 q.1)]) (fun q => T q.2.2) (DelInv l p) (fun q => l.length - q.1) (n + 1, n, l) hinv
      (by rw [show T (n + 1, n, l).2.2 = σ from hT0]; exact (by (try dsimp only); first | exact ghk | exact ghk0)) ?_
    rintro ⟨j, i, w⟩ hq K hK hE hR
    have hq' := hq
    obtain ⟨q1, q2, q3, q4, q5⟩ := hq'
    dsimp only at q1 q2 q3 q4 q5 ⊢
    have hTlw := hTl w
    have hifw : Ids (T w).length (.func g cap) := by rw [hTl]; exact hif
    have hidw : id < (T w).length := by rw [hTl]; exact hid
    by_cases h : j < l.length
    · obtain ⟨x, hx⟩ := get_ex h
      have hltj : ((j : Int) < (l.length : Int)) := by omega
      have hwj : IntKind.i64.wrap ((j : Int) + 1) = ((j + 1 : Nat) : Int) := by rw [wrap_ok (by omega)]; omega
      have hwi : IntKind.i64.wrap ((i : Int) + 1) = ((i + 1 : Nat) : Int) := by rw [wrap_ok (by omega)]; omega
      have hwx : w[j]? = some x := by
        have : (w.drop j)[0]? = (l.drop j)[0]? := by rw [q5]
        rw [List.getElem?_drop, List.getElem?_drop, Nat.add_zero, hx] at this; exact this
      have hwx' : (w.map ai)[j]? = some (ai x) := by rw [List.getElem?_map, hwx]; rfl
      have hil : i < l.length := by omega
      simp only [go_sem, Int.reduceToNat, Int.reduceLE, Int.reduceLT, Nat.reduceBEq, Nat.reduceLT, Nat.reduceAdd, Nat.reduceLeDiff, hltj, hTr, hwx', h]
      have hc := hp w x (List.mem_of_getElem? hx)
      rw [← hT] at hc
      refine hc.is ?_
      cases hpx1 : p x
      · have hiw : i < (w.map ai).length := by rw [List.length_map]; omega
        have hiw1 : i + 1 ≤ w.length := by omega
        simp only [go_sem, Int.reduceToNat, Int.reduceLE, Int.reduceLT, Nat.reduceBEq, Nat.reduceLT, Nat.reduceAdd, Nat.reduceLeDiff, hTr, hil, hwi, hwj, hiw1, ai]
        have hset : ∀ v, (T w).set id (.row ((w.map ai).set i (.int .i64 v))) = T (w.set i v) := fun v => by rw [hTs, hT, mset]
        rw [hset]
        refine hK _ _ (j + 1, i + 1, w.set i x) (hq.stay hx hpx1) (by simp only []; omega) ?_
        (try dsimp only)
        have hTlw2 := hTl (w.set i x)
        first | exact ghN0 (hTi _) | exact ghN (hTi _)
      · simp only [go_sem, Int.reduceToNat, Int.reduceLE, Int.reduceLT, Nat.reduceBEq, Nat.reduceLT, Nat.reduceAdd, Nat.reduceLeDiff, hwj]
        refine hK _ _ (j + 1, i, w) (hq.skip hx hpx1) (by simp only []; omega) ?_
        (try dsimp only)
        first | exact ghN0 (hTi _) | exact ghN (hTi _)
    · have hltj : ¬ ((j : Int) < (l.length : Int)) := by omega
      have hi2 : i ≤ l.length := by omega
      obtain rfl : j = l.length := by omega
      rw [List.take_length] at q4
      have hkl : (l.filter fun x => !(p x)).length = i := by rw [← q4, List.length_take]; omega
      simp only [go_sem, Int.reduceToNat, Int.reduceLE, Int.reduceLT, Nat.reduceBEq, Nat.reduceLT, Nat.reduceAdd, Nat.reduceLeDiff, hltj, hE, hTr, hi2]
      refine ⟨by omega, Nat.zero_le _, ?_⟩
      rw [Nat.sub_zero, hTs]
      refine ret_gh (v := .ref id 1 0 i) (σ' := T (l.filter fun x => !(p x))) ?_ (by rw [hTl]; exact Nat.le_refl _) (hTi _) (.ref _ _ _ _ (by rw [hTl]; exact hid)) ⟨by rw [hkl], hT _⟩
      have hgt := Ghost.trunc (n0 := σ.length) (nt := 42) (s := [(4, .ref id 1 0 i)]) (σ := σ.set id (.row (setAll (w.map ai) i (List.replicate (l.length - i) [AV.int .i64 0]).flatten))) id i (by rw [List.getElem?_set_self hid])
      rw [take_setAll, List.set_set, ← List.map_take, q4, ← hT] at hgt
      refine Ghost.trans ?_ hgt
      have hl0 : (σ.set id (.row (setAll (w.map ai) i (List.replicate (l.length - i) [AV.int .i64 0]).flatten))).length = σ.length := by simp
      refine Ghost.keep0 (by rw [hl0]; exact Nat.le_refl _) ⟨⟨.refl _, .ref _ _ _ _ (by rw [hl0]; exact hid)⟩, trivial⟩ ?_
      rw [hl0]
      refine idsS_put hσ id (idsO_row ?_)
      intro v hv
      rcases mem_setAll _ _ _ _ hv with hv | hv
      · obtain ⟨y, _, rfl⟩ := List.mem_map.1 hv; exact .int _ _
      · obtain ⟨y, hy, hv⟩ := List.mem_flatten.1 hv
        rw [List.eq_of_mem_replicate hy, List.mem_singleton] at hv
        subst hv; exact .int _ _
end Go.Proofs.YtocphglkceidhaaGreat
/- The abstract layer, part 30: a row becomes a slice that never changes, with the right to append to it. -/
namespace Go.Ahl
/-- A row is given up, and what it holds never changes any more. -/
theorem SRel.still {m : Mem} {loc : List Loc} {σ : Store} {w : World} (hS : SRel m loc σ w) {id b : Nat} {cells : List AV} (h1 : loc[id]? = some (.blk b)) (hs : σ[id]? = some (.row cells)) :
    ∃ (m' : Mem) (arr : Array Value) (ty : TypeId), SRel m' loc (σ.set id .dead) w ∧ m.le m' ∧ w.heap[b]? = some (.cells arr ty (0, 0)) ∧ m'.bs b = some arr.size ∧ cells.length ≤ arr.size ∧
      (∀ (j : Nat) x v, cells[j]? = some x → arr[j]? = some v → Rel m' loc x v) ∧ (∀ o, m'.im b o = if o < cells.length then arr[o]? else none) ∧ m'.wk = m.wk := by
  obtain ⟨arr, ty, g1, g2, g3, g4, g5⟩ := hS.obj id _ _ h1 hs
  let m' : Mem := ⟨fun k o => if k = b then (if o < cells.length then arr[o]? else none) else m.im k o, m.bs, m.mp, m.wk, m.base⟩
  have hle : m.le m' := ⟨fun k o v e => by
    show (if k = b then _ else _) = _
    by_cases hk : k = b
    · subst hk; rw [g5] at e; simp at e
    · rw [if_neg hk]; exact e, fun _ _ e => e, fun _ _ e => e, fun _ _ _ e => e, rfl⟩
  have hfz : ∀ k o v, Names loc k ∨ w.heap.size ≤ k → m'.im k o = some v → w.frozen? ⟨k, o, none⟩ = false := by
    intro k o v hk e
    have e : (if k = b then (if o < cells.length then arr[o]? else none) else m.im k o) = some v := e
    by_cases hkb : k = b
    · subst hkb; simp [World.frozen?, g1]
    · rw [if_neg hkb] at e
      rcases hk with hk | hk
      · exact hS.ok.fz k o v (hS.ok.own k hk) e
      · have := hS.im_lt e; omega
  have hS' : SRel m' loc (σ.set id .dead) w := by
    refine ⟨by simp [hS.len], ?_, hS.bs, ?_, (hS.die id).inj, hS.lt, hS.mp, (hS.die id).mpo, hS.ok.to rfl (Nat.le_refl _) (fun _ e => .inl e) rfl (fun k o _ hk => if_neg (fun q => hk ⟨id, .inl (by rw [q]; exact h1)⟩)) (fun _ _ _ => rfl) hfz⟩
    · intro k o v e
      have e : (if k = b then (if o < cells.length then arr[o]? else none) else m.im k o) = some v := e
      by_cases hk : k = b
      · subst hk
        rw [if_pos rfl] at e
        split at e
        · simp [World.cell?, g1, e]
        · simp at e
      · rw [if_neg hk] at e; exact hS.im k o v e
    · intro i l o e1 e2
      rcases get_set e2 with ⟨rfl, rfl⟩ | ⟨hne, e2⟩
      · cases l <;> trivial
      · have ho := hS.obj i l o e1 e2
        have hnb : own l o ≠ some b := fun q => hne (hS.inj i id l _ o _ b e1 h1 e2 hs q rfl).symm
        cases o with
        | dead => cases l <;> trivial
        | iter es seen =>
          cases l with
          | blk k =>
            rcases ho with ⟨q1, q2⟩ | ⟨q, en, c, sa, st, q1, q2, q3, q4⟩
            · exact .inl ⟨q1, q2⟩
            · exact .inr ⟨q, en, c, sa, st, q1, q2, ⟨q3.len, fun i k x e a1 a2 => ⟨(q3.key i k x e a1 a2).1.mono hle (.refl _ _), (q3.key i k x e a1 a2).2.mono hle (.refl _ _)⟩, q3.born, q3.apart⟩, q4⟩
          | nowhere => exact ho.elim
          | tok sz f => exact ho.elim
        | map es =>
          cases l with
          | blk k =>
            obtain ⟨en, c, q1, q2⟩ := ho
            exact ⟨en, c, q1, ⟨q2.len, fun i k x e a1 a2 => ⟨(q2.key i k x e a1 a2).1.mono hle (.refl _ _), (q2.key i k x e a1 a2).2.mono hle (.refl _ _)⟩, q2.born, q2.apart⟩⟩
          | nowhere => exact ho.elim
          | tok sz f => exact ho.elim
        | row cs =>
          cases l with
          | blk k =>
            obtain ⟨arr2, t2, q1, q2, q3, q4, q5⟩ := ho
            refine ⟨arr2, t2, q1, q2, q3, fun j x v a1 a2 => (q4 j x v a1 a2).mono hle (.refl _ _), fun o => ?_⟩
            show (if k = b then _ else _) = _
            rw [if_neg (fun q => hnb (by subst q; rfl))]; exact q5 o
          | nowhere => exact ho
          | tok sz f => exact ho.elim
        | vec sz k cs =>
          cases l with
          | tok sz' f =>
            obtain ⟨q0, q1, q2, q3⟩ := ho
            refine ⟨q0, q1, q2, ?_⟩
            rcases q3 with q3 | ⟨bb, arr2, t2, a1, a2, a3, a4, a5, a6⟩
            · exact .inl q3
            · refine .inr ⟨bb, arr2, t2, a1, a2, a3, a4, fun j x v e1 e2 => (a5 j x v e1 e2).mono hle (.refl _ _), fun o => ?_⟩
              show (if bb = b then _ else _) = _
              rw [if_neg (fun q => hnb (by subst q; simp [own, a1]))]; exact a6 o
          | nowhere => exact ho.elim
          | blk k => exact ho.elim
        | grow sz k =>
          cases l with
          | tok sz' f =>
            obtain ⟨q1, q2, q3⟩ := ho
            refine ⟨q1, q2, ?_⟩
            rcases q3 with q3 | ⟨bb, arr2, t2, a1, a2, a3, a4⟩
            · exact .inl q3
            · refine .inr ⟨bb, arr2, t2, a1, a2, a3, fun o ho => ?_⟩
              show (if bb = b then _ else _) = _
              rw [if_neg (fun q => hnb (by subst q; simp [own, a1]))]; exact a4 o ho
          | nowhere => exact ho.elim
          | blk k => exact ho.elim
  exact ⟨m', arr, ty, hS', hle, g1, g2, g3, fun j x v e1 e2 => (g4 j x v e1 e2).mono hle (.refl _ _), fun o => by show (if b = b then _ else _) = _; rw [if_pos rfl], rfl⟩
/-- A right to append to what never changes. -/
theorem SRel.right {m : Mem} {loc : List Loc} {σ : Store} {w : World} (h : SRel m loc σ w) (n0 sz len : Nat) {b i0 : Nat} {arr : Array Value} {ty : TypeId} (hl : loc[i0]? = some (.blk b)) (h1 : w.heap[b]? = some (.cells arr ty (0, 0))) (h2 : m.bs b = some arr.size)
    (h3 : ∀ o, sz * len ≤ o → m.im b o = none) (hno : ∀ (i : Nat) l o, loc[i]? = some l → σ[i]? = some o → own l o ≠ some b) :
    SRel m (loc ++ [.tok sz fun k => if k = len then some (some b) else none]) (σ ++ [.grow sz len]) w ∧ Ext n0 m loc w m (loc ++ [.tok sz fun k => if k = len then some (some b) else none]) w := by
  have hfl : (fun k => if k = len then some (some b) else none : Nat → Option (Option Nat)) len = some (some b) := by simp
  have hown : ∀ b', own (.tok sz fun k => if k = len then some (some b) else none) (.grow sz len) = some b' → b' = b := by
    intro b' e; simp [own] at e; exact e.symm
  have hnam : ∀ b', Names (loc ++ [.tok sz fun k => if k = len then some (some b) else none]) b' → Names loc b' := by
    intro b' e
    rcases e.app with e | e | ⟨sz', f, k, e, hk⟩
    · exact e
    · simp at e
    · injection e with e1 e2
      subst e2
      simp only at hk
      split at hk
      · simp at hk; subst hk; exact ⟨i0, .inl hl⟩
      · simp at hk
  refine ⟨⟨by simp [h.len], h.im, h.bs, ?_, ?_, fun b' e => h.lt b' (hnam b' e), h.mp, ?_, h.ok.names hnam⟩, ⟨rfl, rfl, rfl, Nat.le_refl _, Nat.le_refl _, .refl m, .app _ _ _, fun b' e => .inl (hnam b' e), fun _ _ _ _ => rfl, fun _ _ _ e => .inl e⟩⟩
  · intro i l o e1 e2
    rcases get_app e1 with e1 | ⟨hi, e1⟩
    · rcases get_app e2 with e2 | ⟨hi2, e2⟩
      · exact (h.obj i l o e1 e2).mono (.refl m) (.app _ _ _) (fun _ _ => rfl) (fun _ _ _ => rfl)
      · have := lt_of_get e1; have := h.len; omega
    · rcases get_app e2 with e2 | ⟨hi2, e2⟩
      · have := lt_of_get e2; have := h.len; omega
      · subst e1; subst e2
        exact ⟨rfl, fun k hk => by show (if k = len then some (some b) else none) = none; rw [if_neg (by omega)], .inr ⟨b, arr, ty, hfl, h1, h2, h3⟩⟩
  · intro i j l1 l2 o1 o2 b' e1 e2 e3 e4 w1 w2
    rcases get_app e1 with f1 | ⟨hi, f1⟩ <;> rcases get_app e2 with f2 | ⟨hj, f2⟩
    · rcases get_app e3 with f3 | ⟨hi3, f3⟩
      · rcases get_app e4 with f4 | ⟨hi4, f4⟩
        · exact h.inj i j l1 l2 o1 o2 b' f1 f2 f3 f4 w1 w2
        · have := lt_of_get f2; have := h.len; omega
      · have := lt_of_get f1; have := h.len; omega
    · rcases get_app e3 with f3 | ⟨hi3, f3⟩
      · rcases get_app e4 with f4 | ⟨hi4, f4⟩
        · have := lt_of_get f4; have := h.len; omega
        · subst f2; subst f4
          have := hown _ w2; subst this
          exact absurd w1 (hno i l1 o1 f1 f3)
      · have := lt_of_get f1; have := h.len; omega
    · rcases get_app e4 with f4 | ⟨hi4, f4⟩
      · rcases get_app e3 with f3 | ⟨hi3, f3⟩
        · have := lt_of_get f3; have := h.len; omega
        · subst f1; subst f3
          have := hown _ w1; subst this
          exact absurd w2 (hno j l2 o2 f2 f4)
      · have := lt_of_get f2; have := h.len; omega
    · omega
  · intro i l o b' e1 e2 w1
    rcases get_app e1 with e1 | ⟨hi, e1⟩
    · rcases get_app e2 with e2 | ⟨hi2, e2⟩
      · exact h.mpo i l o b' e1 e2 w1
      · have := lt_of_get e1; have := h.len; omega
    · rcases get_app e2 with e2 | ⟨hi2, e2⟩
      · have := lt_of_get e2; have := h.len; omega
      · subst e1; subst e2
        have := hown _ w1; subst this
        cases hq : m.mp b' with
        | none => rfl
        | some e => have := h.mp b' e hq; rw [h1] at this; simp at this
/-- A row becomes a slice that never changes, with the right to append to it. -/
theorem Ghost.freezeG {n0 nt : Nat} {s : Slots} {σ : Store} (t : Nat) {id sz len : Nat} {cells : List AV} (es : List (List AV)) (ht : lk s t = .ref id sz 0 len) (hs : σ[id]? = some (.row cells)) (hlen : es.length = len)
    (hes : ∀ e ∈ es, e.length = sz) (hc : cells = es.flatten) : Ghost n0 nt s σ ((t, .slice (.grow σ.length) es) :: s) (σ.set id .dead ++ [.grow sz len]) := by
  intro m loc w tm hl hS hr
  have hrel := hr.rel t
  rw [ht] at hrel
  have hput : ∀ {m' loc'} (hx : SlotRel m' loc' nt s tm), Rel m' loc' (.slice (.grow σ.length) es) (tm.getD t undef) → SlotRel m' loc' nt ((t, .slice (.grow σ.length) es) :: s) tm := by
    intro m' loc' hx hv
    refine ⟨hx.size, fun i => ?_⟩
    simp only [Ahl.lk]
    by_cases e : t = i
    · subst e; simp only [beq_self_eq_true, cond_true]; exact hv
    · have : (t == i) = false := by simpa using e
      rw [this, cond_false]; exact hx.rel i
  have hdl : (σ.set id .dead).length = σ.length := by simp
  generalize tm.getD t undef = v at hrel hput
  cases hrel with
  | ref0 _ _ _ a h1 =>
    have : es = [] := List.length_eq_zero_iff.1 (by omega)
    subst this
    have hd := hS.die id
    obtain ⟨q1, q2⟩ := hd.tok0 n0 sz
    have hr0 := rel_tok0 (m := m) (loc := loc) (w := w) sz a hd
    rw [hdl] at hr0
    exact ⟨m, _, q1, hput ⟨hr.size, fun i => (hr.rel i).mono (.refl m) (.app _ _ _)⟩ hr0, q2⟩
  | ref _ _ _ _ cap b n h1 h2 h3 h4 =>
    subst hlen
    obtain ⟨m', arr, ty, g0, hle, g1, g2, g3, g4, g5, g6⟩ := hS.still h1 hs
    have hcl : cells.length = es.length * sz := by rw [hc, flat_length es hes]
    have hbn : n = arr.size := by have := hle.bs _ _ h3; rw [g2] at this; injection this with this; exact this.symm
    obtain ⟨q1, q2⟩ := g0.right n0 sz es.length h1 g1 g2 (fun o ho => by rw [g5, if_neg (by rw [hcl, Nat.mul_comm]; omega)]) (by
      intro i l o e1 e2 e3
      rcases get_set e2 with ⟨rfl, rfl⟩ | ⟨hne, e2⟩
      · cases l <;> simp [own] at e3
      · exact hne (hS.inj i id l _ o _ b e1 h1 e2 hs e3 rfl).symm)
    have hkeep : Keep loc.length loc (loc ++ [.tok sz fun k => if k = es.length then some (some b) else none]) := .app _ _ _
    have hext : Ext n0 m loc w m' loc w := ⟨rfl, rfl, rfl, Nat.le_refl _, Nat.le_refl _, hle, .refl _ _, fun _ h => .inl h, fun _ _ _ _ => rfl, fun _ _ _ e => .inl (by rw [g6] at e; exact e)⟩
    refine ⟨m', _, q1, hput ⟨hr.size, fun i => (hr.rel i).mono hle hkeep⟩ ?_, hext.trans q2⟩
    have hfi : ∀ i e, es[i]? = some e → ∀ j, j < sz → cells[i * sz + j]? = e[j]? := by
      intro i e he j hj
      have hel : e.length = sz := hes e (List.mem_of_getElem? he)
      rw [hc, List.getElem?_eq_getElem (by omega : j < e.length)]
      exact flat_get es hes i e he j _ (List.getElem?_eq_getElem _)
    have hbd : ∀ i, i < es.length → ∀ j, j < sz → i * sz + j < cells.length := by
      intro i hi j hj
      have q := hfi i _ (List.getElem?_eq_getElem hi) j hj
      have ql := hes _ (List.getElem_mem hi)
      rw [List.getElem?_eq_getElem (by omega : j < (es[i]).length)] at q
      exact lt_of_get q
    refine .slice (.grow σ.length) es _ cap sz b 0 (fun i j => arr[i * sz + j]?.getD undef) (by omega) ⟨sz, fun k => if k = es.length then some (some b) else none, ?_, fun _ => rfl, .inr ⟨b, arr.size, by simp, rfl, g2, by omega, g0.blkb h1⟩⟩ hes (fun _ => rfl) ?_ ?_
    · rw [← hS.len]; simp
    · intro i hi j hj
      have hb := hbd i hi j hj
      rw [Nat.zero_add, g5, if_pos hb, Array.getElem?_eq_getElem (by omega)]; rfl
    · intro i e he j x hx
      have hi := lt_of_get he
      have hj : j < sz := by rw [← hes e (List.mem_of_getElem? he)]; exact lt_of_get hx
      have hb := hbd i hi j hj
      have hcx := hfi i e he j hj
      rw [hx] at hcx
      have ha : arr[i * sz + j]? = some (arr[i * sz + j]'(by omega)) := Array.getElem?_eq_getElem _
      simp only [ha, Option.getD_some]
      exact (g4 _ _ _ hcx ha).mono (.refl _) hkeep
/-- A call with nothing, where the right to append is asked for. -/
theorem ACalls.nilTok {P : Program} {f : FuncId} (a1 a2 : List AV) {σ τ : Store} {o : AObj} (sz : Nat) {v : AV} (h : ACalls P f (a1 ++ .slice (.grow σ.length) [] :: a2) (σ ++ [.grow sz 0]) (isR v (τ ++ [o]))) (hτ : τ.length = σ.length)
    (hi : IdsS τ.length τ) (hv : Ids τ.length v) : ACalls P f (a1 ++ .slice .nil [] :: a2) σ (isR v τ) := by
  intro m loc w vs hs ha
  obtain ⟨q1, q2⟩ := hs.tok0 loc.length sz
  have hargs : ArgsRel m (loc ++ [.tok sz tok0]) (a1 ++ .slice (.grow σ.length) [] :: a2) vs := by
    refine ⟨by rw [ha.1]; simp, fun j x u h1 h2 => ?_⟩
    rcases Nat.lt_trichotomy j a1.length with hj | hj | hj
    · rw [List.getElem?_append_left hj] at h1
      exact (ha.2 j x u (by rw [List.getElem?_append_left hj]; exact h1) h2).mono (.refl m) (.app _ _ _)
    · subst hj
      rw [List.getElem?_append_right (Nat.le_refl _), Nat.sub_self, List.getElem?_cons_zero] at h1
      injection h1 with h1; subst h1
      have := ha.2 a1.length (.slice .nil []) u (by rw [List.getElem?_append_right (Nat.le_refl _), Nat.sub_self]; rfl) h2
      cases this with
      | slice _ _ ad cap sz' b o f hcap htok => obtain ⟨rfl, rfl⟩ := htok; exact rel_tok0 sz none hs
    · have e : ∀ z : AV, (a1 ++ z :: a2)[j]? = a2[j - a1.length - 1]? := fun z => by
        rw [List.getElem?_append_right (by omega), show j - a1.length = (j - a1.length - 1) + 1 by omega, List.getElem?_cons_succ]; simp
      rw [e] at h1
      exact (ha.2 j x u (by rw [e]; exact h1) h2).mono (.refl m) (.app _ _ _)
  have key : ∀ u w', ARet (loc ++ [.tok sz tok0]) m w (isR v (τ ++ [o])) u w' → ARet loc m w (isR v τ) u w' := by
    rintro u w' ⟨r, σ', m', loc', ⟨rfl, rfl⟩, h2, h3, h4⟩
    have hl : loc'.length = τ.length + 1 := by rw [h3.len]; simp
    refine ⟨r, τ, m', loc'.take τ.length, ⟨rfl, rfl⟩, h2.take hv, ?_, ?_⟩
    · have := h3.take τ.length (by rw [List.take_left' rfl]; exact hi)
      rwa [List.take_left' rfl] at this
    · have h5 := q2.trans (h4.less (by simp))
      exact h5.trans (Ext.take m' loc' w' τ.length (by rw [hτ, hs.len]; exact Nat.le_refl _))
  rcases h m _ w vs q1 hargs with ⟨fn, h1, h2, h3, h4⟩ | ⟨u, w', h1, h2⟩
  · exact .inl ⟨fn, h1, h2, h3, h4.mono fun e w' ⟨u, e1, e2⟩ => ⟨u, e1, key _ _ e2⟩⟩
  · exact .inr ⟨u, w', h1, key _ _ h2⟩
end Go.Ahl
namespace Go.Proofs.YtocphglkceidhaaGreat
open Go.Ahl
/-- Where the table of links lies: its cell, its rows. -/
structure LinkS (σ : Store) (V D b n : Nat) (p : Nat → Nat → Bool) : Prop where
  cell : σ[V]? = some (.row [.ref D 1 0 n])
  row : σ[D]? = some (.row ((List.range n).map fun i => .ref (b + i) 1 0 n))
  rows : ∀ i, i < n → σ[b + i]? = some (.row ((genB n (p i)).map ab))
theorem LinkS.mono {σ τ : Store} {V D b n : Nat} {p : Nat → Nat → Bool} (h : LinkS σ V D b n p) (ht : ∀ i, i < σ.length → τ[i]? = σ[i]?) : LinkS τ V D b n p :=
  ⟨by rw [ht _ (lt_of_get h.cell)]; exact h.cell, by rw [ht _ (lt_of_get h.row)]; exact h.row, fun i hi => by rw [ht _ (lt_of_get (h.rows i hi))]; exact h.rows i hi⟩
theorem LinkS.app {σ : Store} {V D b n : Nat} {p : Nat → Nat → Bool} (h : LinkS σ V D b n p) (r : Store) : LinkS (σ ++ r) V D b n p := h.mono fun i hi => List.getElem?_append_left hi
theorem range_ref {n i b : Nat} (h : i < n) : ((List.range n).map fun i => AV.ref (b + i) 1 0 n)[i]? = some (.ref (b + i) 1 0 n) := by rw [List.getElem?_map, List.getElem?_range h]; rfl
def lkB (p : Nat → Nat → Bool) (x y : Int) : Bool := p x.toNat y.toNat
def c_gTest : CCode := .seq (.ops [⟨some 4, .move (.lit (.bool false)), none, []⟩]) (.seq (.ops [⟨some 5, .load none (.tmp 1), none, []⟩, ⟨some 6, .load none (.tmp 2), none, []⟩, ⟨some 7, .iaddr 1 (.tmp 5) (.tmp 6), none, []⟩, ⟨some 8, .load none (.tmp 7), none, []⟩, ⟨some 9, .move (.tmp 0), none, []⟩, ⟨some 10, .iaddr 1 (.tmp 8) (.tmp 9), none, []⟩, ⟨some 11, .load none (.tmp 10), none, []⟩, ⟨some 12, .un .not (.tmp 11), none, []⟩, ⟨some 4, .move (.tmp 12), none, []⟩]) .ret)
set_option maxRecDepth 20000 in
theorem gTest_spec (x y : Int) (V D b n X : Nat) (p : Nat → Nat → Bool) (σ : Store) (hx : 0 ≤ x ∧ x < n) (hy : 0 ≤ y ∧ y < n) (hL : LinkS σ V D b n p) (hX : σ[X]? = some (.row [.int .i64 x])) :
    ACalls Tryz.prog 44 [.int .i64 y, .ptr V 0, .ptr X 0] σ (isR (.bool (!(lkB p x y))) σ) := by
  refine ACalls.intro (rs := [(.tmp 4)]) (by kernel_rfl) { own := [], ghosts := [] } Tryz.func44 (c := Tryz.f44.body.getD .skip) (by kernel_rfl) (by decide) (by rw [show Tryz.f44.ntmps = 13 by kernel_rfl]; exact Nat.le_of_ble_eq_true rfl) (by kernel_rfl) ?_
  intro hσ hids
  rw [show comp Tryz.prog { own := [], ghosts := [] } (Tryz.f44.body.getD .skip) = c_gTest by kernel_rfl, show Tryz.f44.ntmps = 13 by kernel_rfl]
  unfold c_gTest
  have hxn : x.toNat < n := by omega
  have hyn : y.toNat < n := by omega
  have h1 := hL.cell
  have h2 := hL.row
  have h3 := hL.rows _ hxn
  have h4 := range_ref (b := b) hxn
  have h5 := genB_get' (n := n) (p := p x.toNat) hyn
  have hx0 := hx.1
  have hy0 := hy.1
  simp only [go_sem, Int.reduceToNat, Int.reduceLE, Int.reduceLT, Nat.reduceBEq, Nat.reduceLT, Nat.reduceAdd, Nat.reduceLeDiff, h1, hX, h2, h3, h4, h5, hx0, hy0, hxn, hyn]
  first | exact rtk (.bool (!(lkB p x y))) ⟨rfl, rfl⟩ | exact rtk0 (.bool (!(lkB p x y))) ⟨rfl, rfl⟩
theorem not_not_filter {α : Type} (p : α → Bool) (l : List α) : (l.filter fun x => !(!(p x))) = l.filter p := by congr 1; funext x; simp
def c_gTo : CCode := .seq (.ops [⟨some 4, .move (.lit (.slice .nil [])), none, []⟩]) (.seq (.ops [⟨some 5, .move (.tmp 0), none, []⟩, ⟨some 6, .call (.lit (.func 40 [])) [.tmp 5], none, []⟩, ⟨some 7, .mkfunc 44 [.tmp 1, .tmp 2], none, []⟩, ⟨some 8, .call (.lit (.func 43 [])) [.tmp 6, .tmp 7], none, []⟩, ⟨some 4, .move (.tmp 8), none, []⟩]) .ret)
set_option maxRecDepth 20000 in
theorem gToR_spec (l : List Int) (x : Int) (V D b n X : Nat) (p : Nat → Nat → Bool) (tok : Tok) (σ : Store) (hl : l.length ≤ 1073741824) (hx : 0 ≤ x ∧ x < n) (hln : ∀ y ∈ l, 0 ≤ y ∧ y < (n : Int)) (hL : LinkS σ V D b n p) (hX : σ[X]? = some (.row [.int .i64 x])) :
    ACalls Tryz.prog 42 [.slice tok (l.map Ahl.encI), .ptr V 0, .ptr X 0] σ (isR (.ref σ.length 1 0 (l.filter (lkB p x)).length) (σ ++ [.row ((l.filter (lkB p x)).map ai)])) := by
  refine ACalls.intro (rs := [(.tmp 4)]) (by kernel_rfl) { own := [], ghosts := [] } Tryz.func42 (c := Tryz.f42.body.getD .skip) (by kernel_rfl) (by decide) (by rw [show Tryz.f42.ntmps = 9 by kernel_rfl]; exact Nat.le_of_ble_eq_true rfl) (by kernel_rfl) ?_
  intro hσ hids
  rw [show comp Tryz.prog { own := [], ghosts := [] } (Tryz.f42.body.getD .skip) = c_gTo by kernel_rfl, show Tryz.f42.ntmps = 9 by kernel_rfl]
  unfold c_gTo
  simp only [go_sem, Int.reduceToNat, Int.reduceLE, Int.reduceLT, Nat.reduceBEq, Nat.reduceLT, Nat.reduceAdd, Nat.reduceLeDiff]
  refine (cloneR_spec l tok _ hl).to ?_
  simp only [go_sem, Int.reduceToNat, Int.reduceLE, Int.reduceLT, Nat.reduceBEq, Nat.reduceLT, Nat.reduceAdd, Nat.reduceLeDiff]
  refine (delI_spec σ.length l _ _ (fun y => !(lkB p x y)) _ hl (by rw [List.getElem?_append_right (Nat.le_refl _), Nat.sub_self]; rfl) (fun w y hy => ?_)).to ?_
  · have e : (σ ++ [AObj.row (l.map ai)]).set σ.length (.row (w.map ai)) = σ ++ [.row (w.map ai)] := by simp
    rw [e]
    exact gTest_spec x y V D b n X p _ hx (hln y hy) (hL.app _) (by rw [List.getElem?_append_left (lt_of_get hX)]; exact hX)
  · rw [not_not_filter]
    have e : (σ ++ [AObj.row (l.map ai)]).set σ.length (.row ((l.filter (lkB p x)).map ai)) = σ ++ [.row ((l.filter (lkB p x)).map ai)] := by simp
    rw [e]
    have hσ1 : IdsS (σ ++ [AObj.row ((l.filter (lkB p x)).map ai)]).length (σ ++ [AObj.row ((l.filter (lkB p x)).map ai)]) := idsS_push hσ (ids_ai _)
    simp only [go_sem, Int.reduceToNat, Int.reduceLE, Int.reduceLT, Nat.reduceBEq, Nat.reduceLT, Nat.reduceAdd, Nat.reduceLeDiff]
    refine ret_gh (v := .ref σ.length 1 0 (l.filter (lkB p x)).length) (σ' := σ ++ [.row ((l.filter (lkB p x)).map ai)]) ?_ (by simp) hσ1 (.ref _ _ _ _ (by simp)) ⟨rfl, rfl⟩
    exact .keepL0 _ rfl (Nat.le_refl _) ⟨⟨.refl _, .ref _ _ _ _ (by simp)⟩, trivial⟩ hσ1
theorem row_frz (l : List Int) : ∀ (i : Nat) e, (l.map Ahl.encI)[i]? = some e → e.length = 1 ∧ ∀ j, j < 1 → (l.map ai)[0 + (i * 1 + j)]? = e[j]? := by
  intro i e he
  rw [List.getElem?_map] at he
  cases hq : l[i]? with
  | none => rw [hq] at he; simp at he
  | some y =>
    rw [hq] at he; simp at he; subst he
    refine ⟨rfl, fun j hj => ?_⟩
    obtain rfl : j = 0 := by omega
    rw [List.getElem?_map, show 0 + (i * 1 + 0) = i by omega, hq]; rfl
theorem gToS_spec (l : List Int) (x : Int) (V D b n X : Nat) (p : Nat → Nat → Bool) (tok : Tok) (σ : Store) (hl : l.length ≤ 1073741824) (hx : 0 ≤ x ∧ x < n) (hln : ∀ y ∈ l, 0 ≤ y ∧ y < (n : Int)) (hL : LinkS σ V D b n p) (hX : σ[X]? = some (.row [.int .i64 x])) :
    ACalls Tryz.prog 42 [.slice tok (l.map Ahl.encI), .ptr V 0, .ptr X 0] σ (isR (.slice .unk ((l.filter (lkB p x)).map Ahl.encI)) σ) := by
  refine (gToR_spec l x V D b n X p tok σ hl hx hln hL hX).ghost fun hσ => ?_
  refine Ghost.trans (Ghost.freeze 0 (es := (l.filter (lkB p x)).map Ahl.encI) rfl (by rw [List.getElem?_append_right (Nat.le_refl _), Nat.sub_self]; rfl) (by simp) (row_frz _)) ?_
  have e : (σ ++ [AObj.row ((l.filter (lkB p x)).map ai)]).set σ.length .dead = σ ++ [.dead] := by simp
  rw [e]
  exact Ghost.keep _ (Nat.le_refl _) ⟨⟨.refl _, ids_mapE _⟩, trivial⟩ hσ
theorem gToG_spec (l : List Int) (x : Int) (V D b n X : Nat) (p : Nat → Nat → Bool) (tok : Tok) (σ : Store) (hl : l.length ≤ 1073741824) (hx : 0 ≤ x ∧ x < n) (hln : ∀ y ∈ l, 0 ≤ y ∧ y < (n : Int)) (hL : LinkS σ V D b n p) (hX : σ[X]? = some (.row [.int .i64 x])) :
    ACalls Tryz.prog 42 [.slice tok (l.map Ahl.encI), .ptr V 0, .ptr X 0] σ (isR (.slice (.grow σ.length) ((l.filter (lkB p x)).map Ahl.encI)) (σ ++ [.grow 1 (l.filter (lkB p x)).length])) := by
  refine (gToR_spec l x V D b n X p tok σ hl hx hln hL hX).ghost fun hσ => ?_
  refine Ghost.trans (Ghost.freezeG 0 (es := (l.filter (lkB p x)).map Ahl.encI) rfl (by rw [List.getElem?_append_right (Nat.le_refl _), Nat.sub_self]; rfl) (by simp) (by intro e he; obtain ⟨y, _, rfl⟩ := List.mem_map.1 he; rfl) (map_ai _).symm) ?_
  have e : (σ ++ [AObj.row ((l.filter (lkB p x)).map ai)]).set σ.length .dead = σ ++ [.dead] := by simp
  rw [e, List.append_assoc, List.length_append, List.length_singleton]
  exact .moved _ 1 _ (Nat.le_refl _) rfl hσ trivial ⟨mv_mapE _, trivial⟩
end Go.Proofs.YtocphglkceidhaaGreat
/- The abstract layer, part 31: rows that grow in their place, in cells. -/
namespace Go.Ahl
section
variable {m : Mem} {loc : List Loc} {σ : Store} {w : World}
/-- What a cell holds, told in another way. -/
theorem SRel.recell (h : SRel m loc σ w) (id : Nat) {x y : AV} (hs : σ[id]? = some (.row [x])) (hw : ∀ v, Rel m loc x v → Rel m loc y v) : SRel m loc (σ.set id (.row [y])) w where
  len := by simp [h.len]
  im := h.im
  bs := h.bs
  obj := by
    intro i l o h1 h2
    rcases get_set h2 with ⟨rfl, rfl⟩ | ⟨_, h2⟩
    · have := h.obj _ l _ h1 hs
      cases l with
      | nowhere => simp [ObjRel] at this
      | tok sz f => exact this.elim
      | blk b =>
        obtain ⟨arr, t, h1, h2, h3, h4, h5⟩ := this
        refine ⟨arr, t, h1, h2, h3, fun j z v e1 e2 => ?_, h5⟩
        cases j with
        | zero => simp at e1; subst e1; exact hw v (h4 0 x v rfl e2)
        | succ j => simp at e1
    · exact h.obj i l o h1 h2
  inj := by
    intro i j l l' o o' b h1 h2 h3 h4 w1 w2
    have fix : ∀ {i : Nat} {l : Loc} {o : AObj}, (σ.set id (.row [y]))[i]? = some o → own l o = some b → ∃ o2, σ[i]? = some o2 ∧ own l o2 = some b := by
      intro i l o h3 w1
      rcases get_set h3 with ⟨rfl, rfl⟩ | ⟨_, h3⟩
      · exact ⟨_, hs, by rw [own_row l [x] [y]]; exact w1⟩
      · exact ⟨_, h3, w1⟩
    obtain ⟨o2, q1, q2⟩ := fix h3 w1
    obtain ⟨o3, q3, q4⟩ := fix h4 w2
    exact h.inj i j l l' o2 o3 b h1 h2 q1 q3 q2 q4
  lt := h.lt
  mp := h.mp
  mpo := by
    intro i l o b h1 h2 w1
    rcases get_set h2 with ⟨rfl, rfl⟩ | ⟨_, h2⟩
    · exact h.mpo _ l _ b h1 hs (by rw [own_row l [x] [y]]; exact w1)
    · exact h.mpo i l o b h1 h2 w1
  ok := h.ok
/-- One more place for what is there already. -/
theorem SRel.place (h : SRel m loc σ w) (n0 : Nat) (l : Loc) (o : AObj) (hnm : ∀ b, (l = .blk b ∨ ∃ sz g k, l = .tok sz g ∧ g k = some (some b)) → Names loc b)
    (ho : ObjRel m (loc ++ [l]) w l o) (hno : ∀ b, own l o = some b → (∀ (i : Nat) l' o', loc[i]? = some l' → σ[i]? = some o' → own l' o' ≠ some b) ∧ m.mp b = none) :
    SRel m (loc ++ [l]) (σ ++ [o]) w ∧ Ext n0 m loc w m (loc ++ [l]) w := by
  have hnam : ∀ b, Names (loc ++ [l]) b → Names loc b := by
    intro b e
    rcases e.app with e | e | e
    · exact e
    · exact hnm b (.inl e)
    · exact hnm b (.inr e)
  refine ⟨⟨by simp [h.len], h.im, h.bs, ?_, ?_, fun b' e => h.lt b' (hnam b' e), h.mp, ?_, h.ok.names hnam⟩, ⟨rfl, rfl, rfl, Nat.le_refl _, Nat.le_refl _, .refl m, .app _ _ _, fun b' e => .inl (hnam b' e), fun _ _ _ _ => rfl, fun _ _ _ e => .inl e⟩⟩
  · intro i l' o' e1 e2
    rcases get_app e1 with f1 | ⟨hi, f1⟩
    · rcases get_app e2 with f2 | ⟨hi2, f2⟩
      · exact (h.obj i l' o' f1 f2).mono (.refl m) (.app _ _ _) (fun _ _ => rfl) (fun _ _ _ => rfl)
      · have := lt_of_get f1; have := h.len; omega
    · rcases get_app e2 with f2 | ⟨hi2, f2⟩
      · have := lt_of_get f2; have := h.len; omega
      · subst f1; subst f2; exact ho
  · intro i j l1 l2 o1 o2 b e1 e2 e3 e4 w1 w2
    have hl := h.len
    rcases get_app e1 with f1 | ⟨hi, f1⟩ <;> rcases get_app e2 with f2 | ⟨hj, f2⟩ <;> rcases get_app e3 with f3 | ⟨hi3, f3⟩ <;> rcases get_app e4 with f4 | ⟨hi4, f4⟩
    · exact h.inj i j l1 l2 o1 o2 b f1 f2 f3 f4 w1 w2
    · have := lt_of_get f2; omega
    · have := lt_of_get f1; omega
    · have := lt_of_get f1; omega
    · have := lt_of_get f4; omega
    · subst f2; subst f4; exact absurd w1 ((hno b w2).1 i l1 o1 f1 f3)
    · have := lt_of_get f1; omega
    · have := lt_of_get f1; omega
    · have := lt_of_get f3; omega
    · have := lt_of_get f2; omega
    · subst f1; subst f3; exact absurd w2 ((hno b w1).1 j l2 o2 f2 f4)
    · have := lt_of_get f2; omega
    · omega
    · omega
    · omega
    · omega
  · intro i l' o' b e1 e2 w1
    rcases get_app e1 with f1 | ⟨hi, f1⟩
    · rcases get_app e2 with f2 | ⟨hi2, f2⟩
      · exact h.mpo i l' o' b f1 f2 w1
      · have := lt_of_get f1; have := h.len; omega
    · rcases get_app e2 with f2 | ⟨hi2, f2⟩
      · have := lt_of_get f2; have := h.len; omega
      · subst f1; subst f2; exact (hno b w1).2
theorem SRel.vec0 (h : SRel m loc σ w) (n0 sz : Nat) : SRel m (loc ++ [.tok sz Ahl.tok0]) (σ ++ [.vec sz 0 []]) w ∧ Ext n0 m loc w m (loc ++ [.tok sz Ahl.tok0]) w := by
  refine h.ghost n0 _ _ ?_ ?_ ⟨rfl, by simp, fun k hk => by simp only [Ahl.tok0]; rw [if_neg (by omega)], .inl ⟨by simp [Ahl.tok0], rfl⟩⟩
  · rintro b (e | ⟨sz', g, k, e, hk⟩)
    · simp at e
    · injection e with e1 e2; subst e2; unfold Ahl.tok0 at hk; split at hk <;> simp at hk
  · intro b; simp [own, Ahl.tok0]
end
/-- The nil in a cell becomes a row that grows in its place. -/
theorem Ghost.vecCell {n0 nt : Nat} {s : Slots} {σ : Store} (id sz : Nat) (hs : σ[id]? = some (.row [.slice .nil []])) :
    Ghost n0 nt s σ s ((σ ++ [AObj.vec sz 0 []]).set id (AObj.row [AV.vec σ.length sz 0])) := by
  intro m loc w tm hl hS hr
  obtain ⟨g1, g2⟩ := hS.vec0 n0 sz
  have g3 := g1.recell id (y := .vec σ.length sz 0) (by rw [List.getElem?_append_left (lt_of_get hs)]; exact hs) (fun v hv => by
    cases hv with
    | slice _ _ ad cap sz' bb o f hcap htok =>
      obtain ⟨h1, h2⟩ := htok
      subst h1; subst h2
      exact .vec _ _ _ _ tok0 _ (by rw [← hS.len]; simp) (Nat.le_refl _) (.inl ⟨by simp [tok0], rfl⟩))
  exact ⟨m, _, g3, ⟨hr.size, fun i => (hr.rel i).mono (.refl m) (.app _ _ _)⟩, g2⟩
/-- A row that grew in its place, held by a cell, becomes a row of one's own. -/
theorem Ghost.vecRef {n0 nt : Nat} {s : Slots} {σ : Store} (id G : Nat) {sz len : Nat} {cells : List AV} (hs : σ[id]? = some (.row [.vec G sz len])) (hG : σ[G]? = some (.vec sz len cells)) :
    Ghost n0 nt s σ s ((σ.set G .dead ++ [AObj.row cells]).set id (AObj.row [AV.ref σ.length sz 0 len])) := by
  intro m loc w tm hl hS hr
  have hne : G ≠ id := by intro e; subst e; rw [hs] at hG; simp at hG
  have hGl : G < loc.length := by rw [hS.len]; exact lt_of_get hG
  have hloc : loc[G]? = some (loc[G]) := List.getElem?_eq_getElem hGl
  have hobj := hS.obj G _ _ hloc hG
  generalize loc[G] = l at hloc hobj
  cases l with
  | blk b => exact hobj.elim
  | nowhere => exact hobj.elim
  | tok sz' f =>
    obtain ⟨rfl, hcl, hff, hcur⟩ := hobj
    have hd := hS.die G
    have hids : (σ.set G .dead)[id]? = some (.row [.vec G sz' len]) := by rw [List.getElem?_set_ne hne]; exact hs
    have fin : ∀ (l : Loc), SRel m (loc ++ [l]) (σ.set G .dead ++ [AObj.row cells]) w → Ext n0 m loc w m (loc ++ [l]) w → (∀ v, Rel m (loc ++ [l]) (.vec G sz' len) v → Rel m (loc ++ [l]) (.ref σ.length sz' 0 len) v) →
        ∃ m' loc', SRel m' loc' ((σ.set G .dead ++ [AObj.row cells]).set id (AObj.row [AV.ref σ.length sz' 0 len])) w ∧ SlotRel m' loc' nt s tm ∧ Ext n0 m loc w m' loc' w := by
      intro l q1 q2 q3
      exact ⟨m, _, q1.recell id (by rw [List.getElem?_append_left (by simpa using lt_of_get hs)]; exact hids) q3, ⟨hr.size, fun i => (hr.rel i).mono (.refl m) (.app _ _ _)⟩, q2⟩
    rcases hcur with ⟨f0, l0⟩ | ⟨b, arr, t, f1, e1, e2, e3, e4, e5⟩
    · subst l0
      have hc0 : cells = [] := List.eq_nil_of_length_eq_zero (by simpa using hcl)
      subst hc0
      obtain ⟨q1, q2⟩ := hd.row0 n0
      refine fin .nowhere q1 q2 fun v hv => ?_
      cases hv with
      | vec _ _ _ cap f' a h1 h2 h3 =>
        rw [List.getElem?_append_left hGl, hloc] at h1
        injection h1 with h1; injection h1 with _ h1; subst h1
        rcases h3 with ⟨_, rfl⟩ | ⟨b, n, h3, _⟩
        · exact .ref0 _ _ _ a (by rw [List.length_append, ← hS.len]; simp)
        · rw [f0] at h3; simp at h3
    · obtain ⟨q1, q2⟩ := hd.place n0 (.blk b) (.row cells) (by
        rintro b' (e | ⟨_, _, _, e, _⟩)
        · injection e with e; subst e; exact ⟨G, .inr ⟨_, f, _, hloc, f1⟩⟩
        · simp at e) ⟨arr, t, e1, e2, e3, fun j x v a1 a2 => (e4 j x v a1 a2).mono (.refl m) (.app _ _ _), e5⟩ (by
        intro b' hb'
        simp [own] at hb'; subst hb'
        refine ⟨fun i l' o' a1 a2 a3 => ?_, hS.mpo G _ _ b hloc hG (by simp [own, f1])⟩
        rcases get_set a2 with ⟨rfl, rfl⟩ | ⟨hne2, a2⟩
        · cases l' <;> simp [own] at a3
        · exact hne2 (hS.inj G i _ l' _ o' b hloc a1 hG a2 (by simp [own, f1]) a3))
      refine fin (.blk b) q1 q2 fun v hv => ?_
      cases hv with
      | vec _ _ _ cap f' a h1 h2 h3 =>
        rw [List.getElem?_append_left hGl, hloc] at h1
        injection h1 with h1; injection h1 with _ h1; subst h1
        rcases h3 with ⟨h3, _⟩ | ⟨b', n, h3, h4, h5, h6⟩
        · rw [f1] at h3; simp at h3
        · rw [f1] at h3; injection h3 with h3; injection h3 with h3; subst h3
          subst h4
          exact .ref _ _ _ _ cap b n (by rw [← hS.len]; simp) h2 h5 (by omega)
end Go.Ahl
namespace Go.Proofs.YtocphglkceidhaaGreat
open Go.Ahl
section
variable (L : Int → Int → Bool)
theorem bk_len : ∀ (f : Nat) (g may tried : List Int), (bk L f g may tried).length ≤ bkN L f may
  | 0, g, may, tried => by simp [bk]
  | f + 1, g, may, tried => by
    have h : ∀ (may tried : List Int), (bkLoop L (bk L f) g may tried).length ≤ bkLoopN L (bkN L f) may := by
      intro may
      induction may with
      | nil => intro tried; simp [bkLoop]
      | cons x r ih =>
        intro tried
        have h1 := bk_len f (g ++ [x]) (r.filter (L x)) (tried.filter (L x))
        have h2 := ih (tried ++ [x])
        rw [bkLoop, bkLoopN, List.length_append]; omega
    have h1 := h may tried
    have h2 : (bkHead g may tried).length ≤ 1 := by unfold bkHead; split <;> simp
    rw [bk, bkN, List.length_append]; omega
end
/-- What the search's cells lie among. -/
structure XS (B : Store) (V D b n Oc Lc E G : Nat) (p : Nat → Nat → Bool) : Prop where
  link : LinkS B V D b n p
  ext : B[E]? = some (.row [.func 39 [.ptr Lc 0, .ptr Oc 0, .ptr V 0, .ptr E 0]])
  o1 : V < Oc
  o2 : D < Oc
  o3 : b + n ≤ Oc
  o4 : Oc < Lc
  o5 : Lc < E
  o6 : E < G
  o7 : G < B.length
theorem XS.app {B : Store} {V D b n Oc Lc E G : Nat} {p : Nat → Nat → Bool} (h : XS B V D b n Oc Lc E G p) (r : Store) : XS (B ++ r) V D b n Oc Lc E G p :=
  ⟨h.link.app r, by rw [List.getElem?_append_left (lt_of_get h.ext)]; exact h.ext, h.o1, h.o2, h.o3, h.o4, h.o5, h.o6, by rw [List.length_append]; have := h.o7; omega⟩
def vI (l : List Int) : AV := .slice .fresh (l.map Ahl.encI)
def xst (B : Store) (Oc Lc G : Nat) (k : Int) (out : List (List Int)) : Store := ((B.set Oc (.row [.vec G 1 out.length])).set Lc (.row [.int .i64 k])).set G (.vec 1 out.length (out.map vI))
def xt (B : Store) (Oc Lc G m : Nat) (k : Int) (out : List (List Int)) : Store := xst B Oc Lc G k out ++ [.grow 1 m]
theorem xst_app {B : Store} {Oc Lc G : Nat} {k : Int} {out : List (List Int)} (r : Store) (h1 : Oc < B.length) (h2 : Lc < B.length) (h3 : G < B.length) : xst (B ++ r) Oc Lc G k out = xst B Oc Lc G k out ++ r := by
  unfold xst
  rw [List.set_append_left _ _ h1, List.set_append_left _ _ (by simpa using h2), List.set_append_left _ _ (by simpa using h3)]
theorem xst_len (B : Store) (Oc Lc G : Nat) (k : Int) (out : List (List Int)) : (xst B Oc Lc G k out).length = B.length := by simp [xst]
theorem xt_len (B : Store) (Oc Lc G m : Nat) (k : Int) (out : List (List Int)) : (xt B Oc Lc G m k out).length = B.length + 1 := by simp [xt, xst_len]
section
variable {B : Store} {V D b n Oc Lc E G : Nat} {p : Nat → Nat → Bool}
theorem xst_old (h : XS B V D b n Oc Lc E G p) (k : Int) (out : List (List Int)) {i : Nat} (h1 : i ≠ Oc) (h2 : i ≠ Lc) (h3 : i ≠ G) : (xst B Oc Lc G k out)[i]? = B[i]? := by
  unfold xst
  rw [List.getElem?_set_ne (Ne.symm h3), List.getElem?_set_ne (Ne.symm h2), List.getElem?_set_ne (Ne.symm h1)]
theorem xst_link (h : XS B V D b n Oc Lc E G p) (k : Int) (out : List (List Int)) : LinkS (xst B Oc Lc G k out) V D b n p := by
  have := h.o1; have := h.o2; have := h.o3; have := h.o4; have := h.o5; have := h.o6
  refine ⟨?_, ?_, fun i hi => ?_⟩
  · rw [xst_old h _ _ (by omega) (by omega) (by omega)]; exact h.link.cell
  · rw [xst_old h _ _ (by omega) (by omega) (by omega)]; exact h.link.row
  · rw [xst_old h _ _ (by omega) (by omega) (by omega)]; exact h.link.rows i hi
theorem xt_get (h : XS B V D b n Oc Lc E G p) (m : Nat) (k : Int) (out : List (List Int)) {i : Nat} {o : AObj} (r : Store) (hi : (xst B Oc Lc G k out)[i]? = some o) : (xt B Oc Lc G m k out ++ r)[i]? = some o := by
  unfold xt
  rw [List.append_assoc, List.getElem?_append_left (lt_of_get hi)]; exact hi
theorem xst_E (h : XS B V D b n Oc Lc E G p) (k : Int) (out : List (List Int)) : (xst B Oc Lc G k out)[E]? = some (.row [.func 39 [.ptr Lc 0, .ptr Oc 0, .ptr V 0, .ptr E 0]]) := by
  have := h.o4; have := h.o5; have := h.o6
  rw [xst_old h _ _ (by omega) (by omega) (by omega)]; exact h.ext
theorem xst_L (h : XS B V D b n Oc Lc E G p) (k : Int) (out : List (List Int)) : (xst B Oc Lc G k out)[Lc]? = some (.row [.int .i64 k]) := by
  have := h.o4; have := h.o5; have := h.o6; have := h.o7
  unfold xst
  rw [List.getElem?_set_ne (by omega), List.getElem?_set_self (by simp; omega)]
theorem xst_O (h : XS B V D b n Oc Lc E G p) (k : Int) (out : List (List Int)) : (xst B Oc Lc G k out)[Oc]? = some (.row [.vec G 1 out.length]) := by
  have := h.o4; have := h.o5; have := h.o6; have := h.o7
  unfold xst
  rw [List.getElem?_set_ne (by omega), List.getElem?_set_ne (by omega), List.getElem?_set_self (by omega)]
theorem xst_G (h : XS B V D b n Oc Lc E G p) (k : Int) (out : List (List Int)) : (xst B Oc Lc G k out)[G]? = some (.vec 1 out.length (out.map vI)) := by
  have := h.o7
  unfold xst
  rw [List.getElem?_set_self (by simp; omega)]
theorem xst_setL (h : XS B V D b n Oc Lc E G p) (k : Int) (out : List (List Int)) (k' : Int) : (xst B Oc Lc G k out).set Lc (.row [.int .i64 k']) = xst B Oc Lc G k' out := by
  have := h.o5; have := h.o6
  unfold xst
  rw [List.set_comm _ _ (by omega : G ≠ Lc), List.set_set]
theorem xst_setO (h : XS B V D b n Oc Lc E G p) (k : Int) (out : List (List Int)) (g : List Int) : ((xst B Oc Lc G k out).set G (.vec 1 (out.length + 1) (out.map vI ++ [vI g]))).set Oc (.row [.vec G 1 (out.length + 1)]) = xst B Oc Lc G k (out ++ [g]) := by
  have := h.o4; have := h.o5; have := h.o6
  unfold xst
  rw [List.set_set, List.set_comm _ _ (by omega : G ≠ Oc), List.set_comm _ _ (by omega : Lc ≠ Oc), List.set_set, List.length_append, List.length_singleton, List.map_append]; rfl
theorem xt_set (h : XS B V D b n Oc Lc E G p) (m : Nat) (k : Int) (out : List (List Int)) {i : Nat} (o : AObj) (r : Store) (hi : i < B.length) : (xt B Oc Lc G m k out ++ r).set i o = (xst B Oc Lc G k out).set i o ++ (.grow 1 m :: r) := by
  unfold xt
  rw [List.append_assoc, List.set_append_left _ _ (by rw [xst_len]; exact hi)]; rfl
theorem xt_tok (h : XS B V D b n Oc Lc E G p) (m : Nat) (k : Int) (out : List (List Int)) (r : Store) : (xt B Oc Lc G m k out ++ r)[B.length]? = some (.grow 1 m) := by
  unfold xt
  rw [List.append_assoc, List.getElem?_append_right (by rw [xst_len]; exact Nat.le_refl _), xst_len, Nat.sub_self]; rfl
theorem xt_setT (h : XS B V D b n Oc Lc E G p) (m : Nat) (k : Int) (out : List (List Int)) (m' : Nat) (r : Store) : (xt B Oc Lc G m k out ++ r).set B.length (.grow 1 m') = xt B Oc Lc G m' k out ++ r := by
  unfold xt
  rw [List.append_assoc, List.append_assoc, List.set_append_right _ _ (by rw [xst_len]; exact Nat.le_refl _), xst_len, Nat.sub_self]; rfl
end
theorem xt_ids {B : Store} {V D b n Oc Lc E G : Nat} {p : Nat → Nat → Bool} (h : XS B V D b n Oc Lc E G p) {m m' : Nat} {k k' : Int} {o o' : List (List Int)} (hs : IdsS (B.length + 1) (xt B Oc Lc G m k o)) : IdsS (B.length + 1) (xt B Oc Lc G m' k' o') := by
  intro i ob hi
  have o4 := h.o4
  have o5 := h.o5
  have o6 := h.o6
  have o7 := h.o7
  rcases Nat.lt_trichotomy i B.length with hl | hl | hl
  · have e : ∀ m k o, (xt B Oc Lc G m k o)[i]? = (xst B Oc Lc G k o)[i]? := fun m k o => by
      unfold xt; rw [List.getElem?_append_left (by rw [xst_len]; exact hl)]
    rw [e] at hi
    by_cases h1 : i = Oc
    · subst h1; rw [xst_O h] at hi; injection hi with hi; subst hi
      exact idsO_row (by intro x hx; simp at hx; subst hx; exact .vec _ _ _ (by omega))
    · by_cases h2 : i = Lc
      · subst h2; rw [xst_L h] at hi; injection hi with hi; subst hi
        exact idsO_row (by intro x hx; simp at hx; subst hx; exact .int _ _)
      · by_cases h3 : i = G
        · subst h3; rw [xst_G h] at hi; injection hi with hi; subst hi
          intro j x hx
          rw [List.getElem?_map] at hx
          cases hq : o'[j]? with
          | none => rw [hq] at hx; simp at hx
          | some y => rw [hq] at hx; simp at hx; subst hx; exact ids_mapF _
        · rw [xst_old h _ _ h1 h2 h3] at hi
          exact hs i ob (by rw [e, xst_old h _ _ h1 h2 h3]; exact hi)
  · subst hl
    have := xt_tok h m' k' o' []
    rw [List.append_nil] at this
    rw [this] at hi; injection hi with hi; subst hi; trivial
  · have := lt_of_get hi
    rw [xt_len] at this; omega
def d_gExt_0 : List COp := [⟨some 45, .load none (.tmp 6), none, []⟩, ⟨some 46, .move (.tmp 0), none, []⟩, ⟨some 47, .callE (.lit (.func 40 [])) [.tmp 46], none, [1]⟩, ⟨some 48, .load none (.tmp 11), none, []⟩, ⟨some 49, .bsliceC 1 [.tmp 48], none, [3]⟩, ⟨some 50, .bappend 1 8 (.tmp 47) (.tmp 49) false, none, [2, 4, 2]⟩, ⟨some 51, .move (.tmp 12), none, []⟩, ⟨some 52, .move (.tmp 1), none, []⟩, ⟨some 53, .callE (.tmp 51) [.tmp 52], none, [6, 7, 5]⟩, ⟨some 54, .move (.tmp 12), none, []⟩, ⟨some 55, .move (.tmp 2), none, []⟩, ⟨some 56, .callE (.tmp 54) [.tmp 55], none, [9, 10, 8]⟩, ⟨some 57, .callE (.tmp 45) [.tmp 50, .tmp 53, .tmp 56], none, [0, 5, 8, 11, 11]⟩]
theorem dr_gExt_0 (P : Program) (nt n0 : Nat) (Q : Post) (s : Slots) (σ : Store) : wpc P nt n0 (.drawU d_gExt_0 [[2, 5, 8, 11], [], [0, 3], [2], [], [0], [], [], [0], [], [], [0], []]) Q s σ = aOpsU P nt [⟨some 45, .load none (.tmp 6), none, []⟩, ⟨some 46, .move (.tmp 0), none, []⟩, ⟨some 47, .callE (.lit (.func 40 [])) [.tmp 46], none, [1]⟩, ⟨some 48, .load none (.tmp 11), none, []⟩, ⟨some 49, .bsliceC 1 [.tmp 48], none, [3]⟩, ⟨some 50, .bappend 1 8 (.tmp 47) (.tmp 49) false, none, [2, 4, 2]⟩, ⟨some 51, .move (.tmp 12), none, []⟩, ⟨some 52, .move (.tmp 1), none, []⟩, ⟨some 53, .callE (.tmp 51) [.tmp 52], none, [6, 7, 5]⟩, ⟨some 54, .move (.tmp 12), none, []⟩, ⟨some 55, .move (.tmp 2), none, []⟩, ⟨some 56, .callE (.tmp 54) [.tmp 55], none, [9, 10, 8]⟩, ⟨some 57, .callE (.tmp 45) [.tmp 50, .tmp 53, .tmp 56], none, [0, 5, 8, 11, 11]⟩] [[2, 5, 8, 11], [], [0, 3], [2], [], [0], [], [], [0], [], [], [0], []] 0 [] [] (Q .normal) s σ := wpc_drawU _ _ (by decide)
def d_gExt_1 : List COp := [⟨some 58, .move (.tmp 1), none, []⟩, ⟨some 59, .slc 1 (.tmp 58) (some (.lit (.int .i64 1))) none none, none, [0]⟩, ⟨some 60, .move (.tmp 2), none, []⟩, ⟨some 61, .load none (.tmp 11), none, []⟩, ⟨some 62, .bsliceC 1 [.tmp 61], none, [3]⟩, ⟨some 63, .bappend 1 8 (.tmp 60) (.tmp 62) false, none, [2, 4]⟩, ⟨some 1, .move (.tmp 59), none, [1, 5, 0, 1]⟩, ⟨some 2, .move (.tmp 63), none, [5, 6, 0, 1, 2, 3, 4, 5, 6]⟩]
theorem dr_gExt_1 (P : Program) (nt n0 : Nat) (Q : Post) (s : Slots) (σ : Store) : wpc P nt n0 (.draw d_gExt_1) Q s σ = aOpsD P nt [⟨some 58, .move (.tmp 1), none, []⟩, ⟨some 59, .slc 1 (.tmp 58) (some (.lit (.int .i64 1))) none none, none, [0]⟩, ⟨some 60, .move (.tmp 2), none, []⟩, ⟨some 61, .load none (.tmp 11), none, []⟩, ⟨some 62, .bsliceC 1 [.tmp 61], none, [3]⟩, ⟨some 63, .bappend 1 8 (.tmp 60) (.tmp 62) false, none, [2, 4]⟩, ⟨some 1, .move (.tmp 59), none, [1, 5, 0, 1]⟩, ⟨some 2, .move (.tmp 63), none, [5, 6, 0, 1, 2, 3, 4, 5, 6]⟩] (Q .normal) s σ := wpc_draw _ (by decide)
def c_gExt : CCode := .seq (.seq (.ops [⟨some 13, .load none (.tmp 3), none, []⟩, ⟨some 14, .bin .sub .none (.tmp 13) (.lit (.int .i64 1)), none, []⟩, ⟨none, .store 1 (.tmp 3) (.tmp 14), none, []⟩]) (.seq (.ops [⟨some 15, .load none (.tmp 3), none, []⟩, ⟨some 16, .bin .lss .none (.tmp 15) (.lit (.int .i64 0)), none, []⟩]) (.cond (.tmp 16) .ret .skip))) (.seq (.seq (.ops [⟨some 17, .move (.tmp 1), none, []⟩, ⟨some 18, .blen 1 (.tmp 17), none, []⟩, ⟨some 19, .bin .eql .none (.tmp 18) (.lit (.int .i64 0)), none, []⟩, ⟨some 20, .move (.tmp 19), none, []⟩, ⟨some 21, .move (.tmp 2), some (some 20, true), []⟩, ⟨some 22, .blen 1 (.tmp 21), some (some 20, true), []⟩, ⟨some 23, .bin .eql .none (.tmp 22) (.lit (.int .i64 0)), some (some 20, true), []⟩, ⟨some 24, .pick (.tmp 20) (.tmp 23) (.lit (.bool false)), none, []⟩, ⟨some 25, .move (.tmp 24), none, []⟩, ⟨some 26, .move (.tmp 0), some (some 25, true), []⟩, ⟨some 27, .blen 1 (.tmp 26), some (some 25, true), []⟩, ⟨some 28, .bin .gtr .none (.tmp 27) (.lit (.int .i64 1)), some (some 25, true), []⟩, ⟨some 29, .pick (.tmp 25) (.tmp 28) (.lit (.bool false)), none, []⟩]) (.cond (.tmp 29) (.seq (.ops [⟨some 30, .move (.tmp 0), none, []⟩, ⟨some 31, .call (.lit (.func 40 [])) [.tmp 30], none, []⟩, ⟨some 10, .move (.tmp 31), none, []⟩]) (.seq (.ops [⟨some 32, .move (.tmp 10), none, []⟩, ⟨some 33, .call (.lit (.func 41 [])) [.tmp 32], none, []⟩]) (.ghost (.ops [⟨some 34, .load none (.tmp 4), none, []⟩, ⟨some 35, .move (.tmp 10), none, []⟩, ⟨some 36, .bsliceC 1 [.tmp 35], none, []⟩, ⟨some 37, .bappend 1 24 (.tmp 34) (.tmp 36) false, none, []⟩, ⟨none, .store 1 (.tmp 4) (.tmp 37), none, []⟩])))) .skip)) (.block 0 (.loop (.seq (.seq (.ops [⟨some 38, .move (.tmp 1), none, []⟩, ⟨some 39, .blen 1 (.tmp 38), none, []⟩, ⟨some 40, .bin .gtr .none (.tmp 39) (.lit (.int .i64 0)), none, []⟩]) (.cond (.tmp 40) .skip (.exit 0))) (.block 1 (.seq (.ops [⟨some 41, .move (.tmp 1), none, []⟩, ⟨some 42, .iaddr 1 (.tmp 41) (.lit (.int .i64 0)), none, []⟩, ⟨some 43, .load none (.tmp 42), none, []⟩, ⟨some 11, .alloc (.int .i64 0), none, []⟩, ⟨none, .store 1 (.tmp 11) (.tmp 43), none, []⟩]) (.seq (.ops [⟨some 44, .mkfunc 42 [.tmp 5, .tmp 11], none, []⟩, ⟨some 12, .move (.tmp 44), none, []⟩]) (.seq (.drawU d_gExt_0 [[2, 5, 8, 11], [], [0, 3], [2], [], [0], [], [], [0], [], [], [0], []]) (.draw d_gExt_1)))))))))
set_option maxRecDepth 20000 in
set_option maxHeartbeats 4000000 in
theorem gExt_spec (V D b n Oc Lc E G : Nat) (p : Nat → Nat → Bool) (hirr : ∀ x, p x x = false) : ∀ (f : Nat) (B : Store) (g may tried : List Int) (k : Int) (out : List (List Int)) (tok tok' : Tok), XS B V D b n Oc Lc E G p →
    may.length < f → (∀ x ∈ may, 0 ≤ x ∧ x < (n : Int)) → (∀ x ∈ tried, 0 ≤ x ∧ x < (n : Int)) → g.length + may.length ≤ 1000 → tried.length + may.length ≤ 1000 → (bkN (lkB p) f may : Int) ≤ k → (out.length : Int) + k ≤ 1000000 →
    ACalls Tryz.prog 39 [.slice tok (g.map Ahl.encI), .slice tok' (may.map Ahl.encI), .slice (.grow B.length) (tried.map Ahl.encI), .ptr Lc 0, .ptr Oc 0, .ptr V 0, .ptr E 0] (xt B Oc Lc G tried.length k out)
      (isR (.tuple []) (xt B Oc Lc G (tried.length + may.length) (k - bkN (lkB p) f may) (out ++ bk (lkB p) f g may tried))) := by
  intro f
  induction f with
  | zero => intro B g may tried k out tok tok' h hf; omega
  | succ f ih =>
  intro B g may tried k out tok tok' h hf hm ht hg1 ht1 hk ho
  have hN0 := xt_len B Oc Lc G
  refine ACalls.intro (rs := []) (by kernel_rfl) { own := [], ghosts := [5], cold := [(5, 2), (9, 4), (10, 4)], loud := [(9, 2), (9, 8), (9, 11), (9, 12)], free := [(9, [[2, 5, 8, 11], [], [0, 3], [2], [], [0], [], [], [0], [], [], [0], []])] } Tryz.func39 (c := Tryz.f39.body.getD .skip) (by kernel_rfl) (by decide) (by rw [show Tryz.f39.ntmps = 64 by kernel_rfl]; exact Nat.le_of_ble_eq_true rfl) (by kernel_rfl) ?_
  intro hσ hids
  rw [show comp Tryz.prog { own := [], ghosts := [5], cold := [(5, 2), (9, 4), (10, 4)], loud := [(9, 2), (9, 8), (9, 11), (9, 12)], free := [(9, [[2, 5, 8, 11], [], [0, 3], [2], [], [0], [], [], [0], [], [], [0], []])] } (Tryz.f39.body.getD .skip) = c_gExt by kernel_rfl, show Tryz.f39.ntmps = 64 by kernel_rfl]
  unfold c_gExt
  have o1 := h.o1
  have o4 := h.o4
  have o5 := h.o5
  have o6 := h.o6
  have o7 := h.o7
  have gL : ∀ m k o r, (xt B Oc Lc G m k o ++ r)[Lc]? = some (.row [.int .i64 k]) := fun m k o r => xt_get h m k o r (xst_L h k o)
  have gO : ∀ m k o r, (xt B Oc Lc G m k o ++ r)[Oc]? = some (.row [.vec G 1 o.length]) := fun m k o r => xt_get h m k o r (xst_O h k o)
  have gG : ∀ m k o r, (xt B Oc Lc G m k o ++ r)[G]? = some (.vec 1 o.length (o.map vI)) := fun m k o r => xt_get h m k o r (xst_G h k o)
  have gE : ∀ m k o r, (xt B Oc Lc G m k o ++ r)[E]? = some (.row [.func 39 [.ptr Lc 0, .ptr Oc 0, .ptr V 0, .ptr E 0]]) := fun m k o r => xt_get h m k o r (xst_E h k o)
  have gL0 : ∀ m k o, (xt B Oc Lc G m k o)[Lc]? = some (.row [.int .i64 k]) := fun m k o => by have := gL m k o []; rwa [List.append_nil] at this
  have gT : ∀ m k o r, (xt B Oc Lc G m k o ++ r)[B.length]? = some (.grow 1 m) := fun m k o r => xt_tok h m k o r
  have gLk : ∀ m k o r, LinkS (xt B Oc Lc G m k o ++ r) V D b n p := fun m k o r => by
    unfold xt; rw [List.append_assoc]; exact (xst_link h k o).app _
  have sL : ∀ m k o k' r, (xt B Oc Lc G m k o ++ r).set Lc (.row [.int .i64 k']) = xt B Oc Lc G m k' o ++ r := fun m k o k' r => by
    rw [xt_set h m k o _ r (by omega), xst_setL h]; unfold xt; rw [List.append_assoc]; rfl
  have sL0 : ∀ m k o k', (xt B Oc Lc G m k o).set Lc (.row [.int .i64 k']) = xt B Oc Lc G m k' o := fun m k o k' => by have := sL m k o k' []; rwa [List.append_nil, List.append_nil] at this
  have sT : ∀ m k o m' r, (xt B Oc Lc G m k o ++ r).set B.length (.grow 1 m') = xt B Oc Lc G m' k o ++ r := fun m k o m' r => xt_setT h m k o m' r
  have gN : ∀ m k o r j, (xt B Oc Lc G m k o ++ r)[B.length + 1 + j]? = r[j]? := fun m k o r j => by rw [← hN0 m k o]; exact g_get _ _ _
  have gN0 : ∀ m k o r, (xt B Oc Lc G m k o ++ r)[B.length + 1]? = r[0]? := fun m k o r => by rw [← hN0 m k o]; exact g_get0 _ _
  have sN0 : ∀ m k o r x, (xt B Oc Lc G m k o ++ r).set (B.length + 1) x = xt B Oc Lc G m k o ++ r.set 0 x := fun m k o r x => by rw [← hN0 m k o]; exact g_set0 _ _ _
  have sN : ∀ m k o r j x, (xt B Oc Lc G m k o ++ r).set (B.length + 1 + j) x = xt B Oc Lc G m k o ++ r.set j x := fun m k o r j x => by rw [← hN0 m k o]; exact g_set _ _ _ _
  have hk1 : 1 ≤ k := by rw [bkN] at hk; omega
  have hwk : IntKind.i64.wrap (k - 1) = k - 1 := wrap_ok (by omega)
  have hk0 : ¬ (k - 1 < 0) := by omega
  have hNk := hN0 tried.length k out
  obtain ⟨L, hL⟩ : ∃ L, L = lkB p := ⟨_, rfl⟩
  rw [← hL] at ih hk ⊢
  have ht0 := hids (.slice (.grow B.length) (tried.map Ahl.encI)) (by simp)
  rw [hNk] at ht0
  have hg0 := hids (.slice tok (g.map Ahl.encI)) (by simp)
  rw [hNk] at hg0
  have hi1 : ∀ m k o, IdsS (B.length + 1) (xt B Oc Lc G m k o) := fun m k o => by rw [hNk] at hσ; exact xt_ids h hσ
  cases may with
  | nil =>
    have hb1 : bkN L (f + 1) [] = 1 := by simp [bkN, bkLoopN]
    have hb2 : bk L (f + 1) g [] tried = bkHead g [] tried := by simp [bk, bkLoop]
    have hn1 : ¬ (((0 : Nat) : Int) > 0) := by omega
    have hn1' : ¬ ((0 : Int) > 0) := by omega
    have hn2 : (((0 : Nat) : Int) == 0) = true := rfl
    have hn2' : ((0 : Int) == 0) = true := rfl
    rw [hb1, hb2, List.length_nil, Nat.add_zero]
    have hNk2 := hN0 tried.length (k - 1) out
    have hi2 := hi1 tried.length (k - 1) out
    cases htd : ((tried.length : Int) == 0)
    · have hh : bkHead g [] tried = [] := by
        unfold bkHead; rw [if_neg]; rintro ⟨_, q, _⟩; rw [q] at htd; simp at htd
      rw [hh, List.append_nil]
      simp only [go_sem, Int.reduceToNat, Int.reduceLE, Int.reduceLT, Nat.reduceBEq, Nat.reduceLT, Nat.reduceAdd, Nat.reduceLeDiff, dr_gExt_0, dr_gExt_1, gL0, sL0, hwk, hk0, hn2, hn2', htd]
      refine wpc_while (fun (_ : Unit) => [(0, .slice tok (g.map Ahl.encI)), (1, .slice .unk []), (2, .slice (.grow B.length) (tried.map Ahl.encI)), (5, .ptr V 0), (6, .ptr E 0)])
        (fun _ => xt B Oc Lc G tried.length (k - 1) out) (fun _ => True) (fun _ => 0) () trivial
        (by
          (try dsimp only)
          rw [← hNk2] at ht0 hg0 hi2
          (try rw [hNk])
          first | exact ghN0 hi2 | exact ghN hi2) ?_
      intro _ _ K hK hE hR
      simp only [go_sem, Int.reduceToNat, Int.reduceLE, Int.reduceLT, Nat.reduceBEq, Nat.reduceLT, Nat.reduceAdd, Nat.reduceLeDiff, dr_gExt_0, dr_gExt_1, hn1, hn1', hE]
      rw [← hNk2] at hi2
      refine ret_gh0 (σ' := xt B Oc Lc G tried.length (k - 1) out) ?_ (by (try rw [hNk]); rw [hNk2]; exact Nat.le_refl _) hi2 ⟨rfl, rfl⟩
      exact Ghost.keep0 (by (try rw [hNk]); rw [hNk2]; exact Nat.le_refl _) trivial hi2
    · by_cases hg2 : (g.length : Int) > 1
      · have hh : bkHead g [] tried = [Ahl.sortI g] := by
          have ht3 : (tried.length : Int) = 0 := by simpa using htd
          unfold bkHead; rw [if_pos ⟨rfl, by omega, by omega⟩]
        rw [hh]
        simp only [go_sem, Int.reduceToNat, Int.reduceLE, Int.reduceLT, Nat.reduceBEq, Nat.reduceLT, Nat.reduceAdd, Nat.reduceLeDiff, dr_gExt_0, dr_gExt_1, gL0, sL0, hwk, hk0, hn2, hn2', htd, hg2]
        refine (cloneR_spec g tok _ (by omega)).to ?_
        simp only [go_sem, Int.reduceToNat, Int.reduceLE, Int.reduceLT, Nat.reduceBEq, Nat.reduceLT, Nat.reduceAdd, Nat.reduceLeDiff, dr_gExt_0, dr_gExt_1, hN0]
        refine (sortI_spec (B.length + 1) g _ (by rw [gN0]; rfl) (by omega)).mono ?_
        rintro _ _ ⟨rfl, rfl⟩
        simp only [go_sem, Int.reduceToNat, Int.reduceLE, Int.reduceLT, Nat.reduceBEq, Nat.reduceLT, Nat.reduceAdd, Nat.reduceLeDiff, dr_gExt_0, dr_gExt_1, sN0]
        rw [wpc_ghost]
        refine Gh.of (Ghost.freezeF 10 ((Ahl.sortI g).map Ahl.encI) rfl (by rw [gN0]; rfl) (by rw [List.length_map, Ahl.sortI_len]) (row_frz _)) ?_
        have gO2 : ∀ (x : AObj) m k o r, ((xt B Oc Lc G m k o ++ r).set G x)[Oc]? = some (.row [.vec G 1 o.length]) := fun x m k o r => by rw [List.getElem?_set_ne (by omega)]; exact gO m k o r
        have sO : ∀ m k o (y : List Int) r, ((xt B Oc Lc G m k o ++ r).set G (.vec 1 (o.length + 1) (o.map vI ++ [vI y]))).set Oc (.row [.vec G 1 (o.length + 1)]) = xt B Oc Lc G m k (o ++ [y]) ++ r := fun m k o y r => by
          rw [xt_set h m k o _ r (by omega), List.set_append_left _ _ (by rw [List.length_set, xst_len]; omega), xst_setO h]; unfold xt; rw [List.append_assoc]; rfl
        have hbo : bigLen (out.length + 1) 24 := big_ok (by omega) (by omega)
        have hfl1 : ([[AV.slice .fresh ((Ahl.sortI g).map Ahl.encI)]] : List (List AV)).flatten = [vI (Ahl.sortI g)] := rfl
        simp only [go_sem, Int.reduceToNat, Int.reduceLE, Int.reduceLT, Nat.reduceBEq, Nat.reduceLT, Nat.reduceAdd, Nat.reduceLeDiff, dr_gExt_0, dr_gExt_1, sN0, gO, gG, gO2, hbo]
        rw [hfl1, sO]
        have hNk2 := hN0 tried.length (k - 1) (out ++ [Ahl.sortI g])
        have hi2 := hi1 tried.length (k - 1) (out ++ [Ahl.sortI g])
        obtain ⟨out1, ho1⟩ : ∃ out1, out1 = out ++ [Ahl.sortI g] := ⟨_, rfl⟩
        rw [← ho1] at hNk2 hi2 ⊢
        refine wpc_while (fun (_ : Unit) => [(0, .slice tok (g.map Ahl.encI)), (1, .slice .unk []), (2, .slice (.grow B.length) (tried.map Ahl.encI)), (5, .ptr V 0), (6, .ptr E 0)])
          (fun _ => xt B Oc Lc G tried.length (k - 1) out1) (fun _ => True) (fun _ => 0) () trivial
          (by
            (try dsimp only)
            rw [← hNk2] at ht0 hg0 hi2
            (try rw [hNk])
            first | exact ghN0 hi2 | exact ghN hi2) ?_
        intro _ _ K hK hE hR
        simp only [go_sem, Int.reduceToNat, Int.reduceLE, Int.reduceLT, Nat.reduceBEq, Nat.reduceLT, Nat.reduceAdd, Nat.reduceLeDiff, dr_gExt_0, dr_gExt_1, hn1, hn1', hE]
        rw [← hNk2] at hi2
        refine ret_gh0 (σ' := xt B Oc Lc G tried.length (k - 1) out1) ?_ (by (try rw [hNk]); rw [hNk2]; exact Nat.le_refl _) hi2 ⟨rfl, rfl⟩
        exact Ghost.keep0 (by (try rw [hNk]); rw [hNk2]; exact Nat.le_refl _) trivial hi2
      · have hh : bkHead g [] tried = [] := by
          unfold bkHead; rw [if_neg]; rintro ⟨_, _, q⟩; omega
        rw [hh, List.append_nil]
        simp only [go_sem, Int.reduceToNat, Int.reduceLE, Int.reduceLT, Nat.reduceBEq, Nat.reduceLT, Nat.reduceAdd, Nat.reduceLeDiff, dr_gExt_0, dr_gExt_1, gL0, sL0, hwk, hk0, hn2, hn2', htd, hg2]
        refine wpc_while (fun (_ : Unit) => [(0, .slice tok (g.map Ahl.encI)), (1, .slice .unk []), (2, .slice (.grow B.length) (tried.map Ahl.encI)), (5, .ptr V 0), (6, .ptr E 0)])
          (fun _ => xt B Oc Lc G tried.length (k - 1) out) (fun _ => True) (fun _ => 0) () trivial
          (by
            (try dsimp only)
            rw [← hNk2] at ht0 hg0 hi2
            (try rw [hNk])
            first | exact ghN0 hi2 | exact ghN hi2) ?_
        intro _ _ K hK hE hR
        simp only [go_sem, Int.reduceToNat, Int.reduceLE, Int.reduceLT, Nat.reduceBEq, Nat.reduceLT, Nat.reduceAdd, Nat.reduceLeDiff, dr_gExt_0, dr_gExt_1, hn1, hn1', hE]
        rw [← hNk2] at hi2
        refine ret_gh0 (σ' := xt B Oc Lc G tried.length (k - 1) out) ?_ (by (try rw [hNk]); rw [hNk2]; exact Nat.le_refl _) hi2 ⟨rfl, rfl⟩
        exact Ghost.keep0 (by (try rw [hNk]); rw [hNk2]; exact Nat.le_refl _) trivial hi2
  | cons x0 r0 =>
    obtain ⟨may, hmay⟩ : ∃ may, may = x0 :: r0 := ⟨_, rfl⟩
    have h0 : ((may.length : Int) == 0) = false := by rw [hmay]; simp; omega
    have hbk : bk L (f + 1) g may tried = bkLoop L (bk L f) g may tried := by rw [bk, bkHead, if_neg (by rw [hmay]; simp)]; rfl
    rw [← hmay] at hf hm hg1 ht1 hk ⊢
    clear hmay
    simp only [go_sem, Int.reduceToNat, Int.reduceLE, Int.reduceLT, Nat.reduceBEq, Nat.reduceLT, Nat.reduceAdd, Nat.reduceLeDiff, dr_gExt_0, dr_gExt_1, gL0, sL0, hwk, hk0, h0]
    refine wpc_while (fun (q : List Int × List Int × List (List Int) × Int) => [(0, .slice tok (g.map Ahl.encI)), (1, .slice .unk (q.1.map Ahl.encI)), (2, .slice (.grow B.length) (q.2.1.map Ahl.encI)), (5, .ptr V 0), (6, .ptr E 0)])
      (fun q => xt B Oc Lc G q.2.1.length q.2.2.2 q.2.2.1)
      (fun q => (∀ x ∈ q.1, 0 ≤ x ∧ x < (n : Int)) ∧ (∀ x ∈ q.2.1, 0 ≤ x ∧ x < (n : Int)) ∧ q.1.length ≤ may.length ∧ q.2.1.length + q.1.length = tried.length + may.length ∧ (bkLoopN L (bkN L f) q.1 : Int) ≤ q.2.2.2 ∧ (q.2.2.1.length : Int) + q.2.2.2 ≤ 1000000 ∧
        q.2.2.1 ++ bkLoop L (bk L f) g q.1 q.2.1 = out ++ bk L (f + 1) g may tried ∧ q.2.2.2 - (bkLoopN L (bkN L f) q.1 : Int) = k - (bkN L (f + 1) may : Int))
      (fun q => q.1.length) (may, tried, out, k - 1) ⟨hm, ht, Nat.le_refl _, rfl, by rw [bkN] at hk; simp only []; omega, by simp only []; omega, by rw [hbk], by rw [bkN]; simp only []; omega⟩
      (by
        (try dsimp only)
        have hNk2 := hN0 tried.length (k - 1) out
        have hi2 := hi1 tried.length (k - 1) out
        rw [← hNk2] at hi2
        rw [hNk]
        rw [← hNk2] at ht0 hg0
        first | exact ghN0 hi2 | exact ghN hi2) ?_
    rintro ⟨r, td, o, k1⟩ ⟨jr, jt, jl, jn, jk, jo, jb, jd⟩ K hK hE hR
    dsimp only at jr jt jl jn jk jo jb jd ⊢
    cases r with
    | nil => 
      have h1 : ¬ ((0 : Int) > 0) := by omega
      have h1' : ¬ (((0 : Nat) : Int) > 0) := by omega
      simp only [go_sem, Int.reduceToNat, Int.reduceLE, Int.reduceLT, Nat.reduceBEq, Nat.reduceLT, Nat.reduceAdd, Nat.reduceLeDiff, dr_gExt_0, dr_gExt_1, h1, h1', hE]
      have hNk2 := hN0 td.length k1 o
      have hi2 := hi1 td.length k1 o
      have e1 : k1 = k - (bkN L (f + 1) may : Int) := by rw [← jd]; simp [bkLoopN]
      have e2 : o = out ++ bk L (f + 1) g may tried := by rw [← jb]; simp [bkLoop]
      have e3 : td.length = tried.length + may.length := by rw [← jn]; simp
      rw [← hNk2] at hi2
      refine ret_gh0 (σ' := xt B Oc Lc G td.length k1 o) ?_ (by rw [hNk, hNk2]; exact Nat.le_refl _) hi2 ⟨rfl, by rw [e3, e1, e2]⟩
      exact Ghost.keep0 (by rw [hNk, hNk2]; exact Nat.le_refl _) trivial hi2
    | cons x r =>
      obtain ⟨hx0, hxn⟩ := jr x List.mem_cons_self
      have h1 : (((r.length + 1 : Nat) : Int) > 0) := by omega
      simp only [go_sem, Int.reduceToNat, Int.reduceLE, Int.reduceLT, Nat.reduceBEq, Nat.reduceLT, Nat.reduceAdd, Nat.reduceLeDiff, dr_gExt_0, dr_gExt_1, h1, hN0, gE, gN0, sN0, Ahl.encI]
      refine ⟨_, _, cloneG_spec g tok _ (by omega), ?_⟩
      have hbg : bigLen (g.length + 1) 8 := big_ok (by omega) (by omega)
      have hlr : r.length + 1 ≤ 1000 := by rw [List.length_cons] at jl; omega
      have hltd : td.length ≤ 1000 := by omega
      have hrm : ∀ y ∈ r, 0 ≤ y ∧ y < (n : Int) := fun y hy => jr y (List.mem_cons_of_mem _ hy)
      have hfx : (x :: r).filter (lkB p x) = r.filter (L x) := by
        rw [List.filter_cons, show lkB p x x = false from hirr _, hL]; rfl
      have hft : td.filter (lkB p x) = td.filter (L x) := by rw [hL]
      have hX : ∀ r' : Store, (xt B Oc Lc G td.length k1 o ++ (AObj.row [.int .i64 x] :: r'))[B.length + 1]? = some (.row [.int .i64 x]) := fun r' => by rw [gN0]; rfl
      simp only [go_sem, Int.reduceToNat, Int.reduceLE, Int.reduceLT, Nat.reduceBEq, Nat.reduceLT, Nat.reduceAdd, Nat.reduceLeDiff, dr_gExt_0, dr_gExt_1, hN0, gE, gN0, sN0, gN, sN, hbg]
      have c1 := gToS_spec (x :: r) x V D b n (B.length + 1) p .unk (xt B Oc Lc G td.length k1 o ++ [AObj.row [.int .i64 x], AObj.grow 1 (g.length + 1)]) (by rw [List.length_cons]; omega) ⟨hx0, hxn⟩ jr (gLk _ _ _ _) (hX _)
      rw [hfx] at c1
      refine ⟨_, _, c1, ?_⟩
      simp only [go_sem, Int.reduceToNat, Int.reduceLE, Int.reduceLT, Nat.reduceBEq, Nat.reduceLT, Nat.reduceAdd, Nat.reduceLeDiff, dr_gExt_0, dr_gExt_1, hN0, gE, gN0, sN0, gN, sN, hbg]
      have c2 := gToG_spec td x V D b n (B.length + 1) p (.grow B.length) (xt B Oc Lc G td.length k1 o ++ [AObj.row [.int .i64 x], AObj.grow 1 (g.length + 1)]) (by omega) ⟨hx0, hxn⟩ jt (gLk _ _ _ _) (hX _)
      rw [hft] at c2
      refine ⟨_, _, c2, ?_⟩
      obtain ⟨B', hB'⟩ : ∃ B', B' = B ++ [AObj.grow 1 td.length, AObj.row [.int .i64 x], AObj.grow 1 (g.length + 1)] := ⟨_, rfl⟩
      have hB'l : B'.length = B.length + 1 + 2 := by rw [hB']; simp
      have heq : ∀ m2 k o, xt B' Oc Lc G m2 k o = xt B Oc Lc G td.length k o ++ [AObj.row [.int .i64 x], AObj.grow 1 (g.length + 1), AObj.grow 1 m2] := fun m2 k o => by
        rw [hB', xt, xst_app _ (by omega) (by omega) (by omega), xt]; simp
      have hrf : (r.filter (L x)).length ≤ r.length := List.length_filter_le _ _
      have htf : (td.filter (L x)).length ≤ td.length := List.length_filter_le _ _
      have hxs : XS B' V D b n Oc Lc E G p := by rw [hB']; exact h.app _
      rw [bkLoopN] at jk jd
      have jk2 : ((bkN L f (r.filter (L x)) : Int)) ≤ k1 := by omega
      have hlr2 : r.length + 1 ≤ may.length := by rw [List.length_cons] at jl; exact jl
      have jn2 : td.length + (r.length + 1) = tried.length + may.length := by rw [List.length_cons] at jn; exact jn
      have c3 := ih B' (g ++ [x]) (r.filter (L x)) (td.filter (L x)) k1 o (.grow (B.length + 1 + 1)) .unk hxs (by omega) (fun y hy => hrm y (List.mem_filter.1 hy).1) (fun y hy => jt y (List.mem_filter.1 hy).1)
        (by rw [List.length_append, List.length_singleton]; omega) (by omega) jk2 jo
      rw [heq, heq, hB'l] at c3
      rw [List.map_append] at c3
      simp only [go_sem, Int.reduceToNat, Int.reduceLE, Int.reduceLT, Nat.reduceBEq, Nat.reduceLT, Nat.reduceAdd, Nat.reduceLeDiff, dr_gExt_0, dr_gExt_1, hN0, gE, gN0, sN0, gN, sN, hbg]
      refine ⟨_, _, c3, ?_⟩
      have hbt : bigLen (td.length + 1) 8 := big_ok (by omega) (by omega)
      have hal : ∀ e ∈ r, (Ahl.encI e).length = 1 := fun _ _ => rfl
      have hNk2 := hN0 (td.length + 1) (k1 - bkN L f (r.filter (L x))) (o ++ bk L f (g ++ [x]) (r.filter (L x)) (td.filter (L x)))
      have hi2 := hi1 (td.length + 1) (k1 - bkN L f (r.filter (L x))) (o ++ bk L f (g ++ [x]) (r.filter (L x)) (td.filter (L x)))
      have hlen := bk_len L f (g ++ [x]) (r.filter (L x)) (td.filter (L x))
      have he : td.map Ahl.encI ++ [[AV.int .i64 x]] = (td ++ [x]).map Ahl.encI := by rw [List.map_append]; rfl
      simp only [go_sem, Int.reduceToNat, Int.reduceLE, Int.reduceLT, Nat.reduceBEq, Nat.reduceLT, Nat.reduceAdd, Nat.reduceLeDiff, dr_gExt_0, dr_gExt_1, hN0, gE, gN0, sN0, gN, sN, gT, sT, hbt]
      refine ⟨hal, ?_⟩
      rw [← hNk2] at hi2
      refine hK _ _ (r, td ++ [x], o ++ bk L f (g ++ [x]) (r.filter (L x)) (td.filter (L x)), k1 - bkN L f (r.filter (L x))) ⟨hrm, ?_, by simp only []; omega, by simp only [List.length_append, List.length_singleton]; omega, by simp only []; omega, by simp only [List.length_append]; omega, ?_, by simp only []; omega⟩ (by simp only [List.length_cons]; omega) ?_
      · intro y hy
        rcases List.mem_append.1 hy with hy | hy
        · exact jt y hy
        · rw [List.mem_singleton.1 hy]; exact ⟨hx0, hxn⟩
      · simp only []
        rw [List.append_assoc, ← jb, bkLoop]
      · (try dsimp only)
        rw [List.length_append, List.length_singleton, hNk, he]
        rw [← hNk2] at ht0 hg0
        first | exact ghN0 hi2 | exact ghN hi2
end Go.Proofs.YtocphglkceidhaaGreat
namespace Go.Proofs
open Go.Shelf Go.RowKit Go.Lib Go.Sort
def YtocphglkceidhaaGreat.laysLL_ren : Go.Shelf.Ren := ⟨fun | 6 => 45 | 15 => 80 | 14 => 82 | 28 => 119 | 29 => 120 | 20 => 121 | 21 => 122 | 22 => 123 | 23 => 124 | 24 => 125 | 25 => 126 | 26 => 127 | 27 => 128 | 46 => 154 | 47 => 150 | 48 => 151 | 49 => 155 | 50 => 156 | 57 => 168 | n => n, fun | 22 => 31 | 24 => 23 | 25 => 85 | 3 => 3 | 39 => 113 | 0 => 0 | 53 => 144 | 55 => 146 | 4 => 4 | 46 => 136 | 45 => 135 | 50 => 141 | 5 => 5 | 9 => 9 | 66 => 161 | 70 => 165 | 76 => 177 | 77 => 178 | n => n, fun | n => n⟩
theorem YtocphglkceidhaaGreat.laysLL : Go.Proofs.SlLaysF.n6 Tryz.prog YtocphglkceidhaaGreat.laysLL_ren := {
  mixed := by kernel_rfl
  f6 := ⟨Tryz.f45.name, by decide, Tryz.func45.trans (congrArg some (by kernel_rfl))⟩
  f14 := ⟨Tryz.f82.name, by decide, Tryz.func82.trans (congrArg some (by kernel_rfl))⟩
  f15 := Tryz.func80.trans (congrArg some (by kernel_rfl))
  f20 := ⟨Tryz.f121.name, by decide, Tryz.func121.trans (congrArg some (by kernel_rfl))⟩
  f21 := ⟨Tryz.f122.name, by decide, Tryz.func122.trans (congrArg some (by kernel_rfl))⟩
  f22 := ⟨Tryz.f123.name, by decide, Tryz.func123.trans (congrArg some (by kernel_rfl))⟩
  f23 := ⟨Tryz.f124.name, by decide, Tryz.func124.trans (congrArg some (by kernel_rfl))⟩
  f24 := ⟨Tryz.f125.name, by decide, Tryz.func125.trans (congrArg some (by kernel_rfl))⟩
  f25 := ⟨Tryz.f126.name, by decide, Tryz.func126.trans (congrArg some (by kernel_rfl))⟩
  f26 := ⟨Tryz.f127.name, by decide, Tryz.func127.trans (congrArg some (by kernel_rfl))⟩
  f27 := ⟨Tryz.f128.name, by decide, Tryz.func128.trans (congrArg some (by kernel_rfl))⟩
  f28 := Tryz.func119.trans (congrArg some (by kernel_rfl))
  f29 := Tryz.func120.trans (congrArg some (by kernel_rfl))
  f46 := ⟨Tryz.f154.name, by decide, Tryz.func154.trans (congrArg some (by kernel_rfl))⟩
  f47 := Tryz.func150.trans (congrArg some (by kernel_rfl))
  f48 := Tryz.func151.trans (congrArg some (by kernel_rfl))
  f49 := ⟨Tryz.f155.name, by decide, Tryz.func155.trans (congrArg some (by kernel_rfl))⟩
  f50 := ⟨Tryz.f156.name, by decide, Tryz.func156.trans (congrArg some (by kernel_rfl))⟩
  f57 := ⟨Tryz.f168.name, by decide, Tryz.func168.trans (congrArg some (by kernel_rfl))⟩
  t0 := Tryz.underlying0
  a0 := Tryz.isAgg0
  z0 := Tryz.sizeOf0
  v0 := Tryz.zeroValue0
  t3 := Tryz.underlying3
  a3 := Tryz.isAgg3
  z3 := Tryz.sizeOf3
  v3 := Tryz.zeroValue3
  t4 := Tryz.underlying4
  a4 := Tryz.isAgg4
  z4 := Tryz.sizeOf4
  v4 := Tryz.zeroValue4
  t5 := Tryz.underlying5
  a5 := Tryz.isAgg5
  z5 := Tryz.sizeOf5
  v5 := Tryz.zeroValue5
  t9 := Tryz.underlying9
  a9 := Tryz.isAgg9
  z9 := Tryz.sizeOf9
  v9 := Tryz.zeroValue9
  t22 := Tryz.underlying31
  a22 := Tryz.isAgg31
  z22 := Tryz.sizeOf31
  v22 := Tryz.zeroValue31
  a24 := Tryz.isAgg23
  z24 := Tryz.sizeOf23
  t25 := Tryz.underlying85
  a25 := Tryz.isAgg85
  z25 := Tryz.sizeOf85
  v25 := Tryz.zeroValue85
  t39 := Tryz.underlying113
  a39 := Tryz.isAgg113
  z39 := Tryz.sizeOf113
  v39 := Tryz.zeroValue113
  t45 := Tryz.underlying135
  a45 := Tryz.isAgg135
  z45 := Tryz.sizeOf135
  v45 := Tryz.zeroValue135
  t46 := Tryz.underlying136
  a46 := Tryz.isAgg136
  z46 := Tryz.sizeOf136
  v46 := Tryz.zeroValue136
  t50 := Tryz.underlying141
  a50 := Tryz.isAgg141
  z50 := Tryz.sizeOf141
  v50 := Tryz.zeroValue141
  t53 := Tryz.underlying144
  a53 := Tryz.isAgg144
  z53 := Tryz.sizeOf144
  v53 := Tryz.zeroValue144
  t55 := Tryz.underlying146
  a55 := Tryz.isAgg146
  z55 := Tryz.sizeOf146
  v55 := Tryz.zeroValue146
  t66 := Tryz.underlying161
  a66 := Tryz.isAgg161
  z66 := Tryz.sizeOf161
  v66 := Tryz.zeroValue161
  t70 := Tryz.underlying165
  a70 := Tryz.isAgg165
  z70 := Tryz.sizeOf165
  v70 := Tryz.zeroValue165
  t76 := Tryz.underlying177
  a76 := Tryz.isAgg177
  z76 := Tryz.sizeOf177
  v76 := Tryz.zeroValue177
  t77 := Tryz.underlying178
  a77 := Tryz.isAgg178
  z77 := Tryz.sizeOf178
  v77 := Tryz.zeroValue178 }
end Go.Proofs
namespace Go.Proofs.YtocphglkceidhaaGreat
open Go.Ahl
def c_cmpI : CCode := .seq (.ops [⟨some 4, .move (.lit (.int .i64 0)), none, []⟩]) (.seq (.ops [⟨some 7, .move (.tmp 0), none, []⟩, ⟨some 8, .call (.lit (.func 129 [])) [.tmp 7], none, []⟩, ⟨some 5, .move (.tmp 8), none, []⟩]) (.seq (.ops [⟨some 9, .move (.tmp 1), none, []⟩, ⟨some 10, .call (.lit (.func 129 [])) [.tmp 9], none, []⟩, ⟨some 6, .move (.tmp 10), none, []⟩]) (.seq (.seq (.ops [⟨some 11, .move (.tmp 5), none, []⟩]) (.cond (.tmp 11) (.seq (.seq (.ops [⟨some 12, .move (.tmp 6), none, []⟩]) (.cond (.tmp 12) (.seq (.ops [⟨some 4, .move (.lit (.int .i64 0)), none, []⟩]) .ret) .skip)) (.seq (.ops [⟨some 4, .move (.lit (.int .i64 (-1))), none, []⟩]) .ret)) .skip)) (.seq (.seq (.ops [⟨some 13, .move (.tmp 6), none, []⟩]) (.cond (.tmp 13) (.seq (.ops [⟨some 4, .move (.lit (.int .i64 1)), none, []⟩]) .ret) .skip)) (.seq (.seq (.ops [⟨some 14, .move (.tmp 0), none, []⟩, ⟨some 15, .move (.tmp 1), none, []⟩, ⟨some 16, .bin .lss .none (.tmp 14) (.tmp 15), none, []⟩]) (.cond (.tmp 16) (.seq (.ops [⟨some 4, .move (.lit (.int .i64 (-1))), none, []⟩]) .ret) .skip)) (.seq (.seq (.ops [⟨some 17, .move (.tmp 0), none, []⟩, ⟨some 18, .move (.tmp 1), none, []⟩, ⟨some 19, .bin .gtr .none (.tmp 17) (.tmp 18), none, []⟩]) (.cond (.tmp 19) (.seq (.ops [⟨some 4, .move (.lit (.int .i64 1)), none, []⟩]) .ret) .skip)) (.seq (.ops [⟨some 4, .move (.lit (.int .i64 0)), none, []⟩]) .ret)))))))
theorem cmpI_spec (x y : Int) (σ : Store) : ACalls Tryz.prog 83 [.int .i64 x, .int .i64 y] σ (isR (.int .i64 (if x < y then -1 else if y < x then 1 else 0)) σ) := by
  refine ACalls.intro (rs := [(.tmp 4)]) (by kernel_rfl) { own := [], ghosts := [] } Tryz.func83 (c := Tryz.f83.body.getD .skip) (by kernel_rfl) (by decide) (by rw [show Tryz.f83.ntmps = 20 by kernel_rfl]; exact Nat.le_of_ble_eq_true rfl) (by kernel_rfl) ?_
  intro hσ hids
  rw [show comp Tryz.prog { own := [], ghosts := [] } (Tryz.f83.body.getD .skip) = c_cmpI by kernel_rfl, show Tryz.f83.ntmps = 20 by kernel_rfl]
  unfold c_cmpI
  simp only [go_sem, Int.reduceToNat, Int.reduceLE, Int.reduceLT, Nat.reduceBEq, Nat.reduceLT, Nat.reduceAdd, Nat.reduceLeDiff]
  refine (cNaN_spec x σ).is ?_
  simp only [go_sem, Int.reduceToNat, Int.reduceLE, Int.reduceLT, Nat.reduceBEq, Nat.reduceLT, Nat.reduceAdd, Nat.reduceLeDiff]
  refine (cNaN_spec y σ).is ?_
  simp only [go_sem, Int.reduceToNat, Int.reduceLE, Int.reduceLT, Nat.reduceBEq, Nat.reduceLT, Nat.reduceAdd, Nat.reduceLeDiff]
  by_cases h1 : x < y
  · simp only [go_sem, Int.reduceToNat, Int.reduceLE, Int.reduceLT, Nat.reduceBEq, Nat.reduceLT, Nat.reduceAdd, Nat.reduceLeDiff, h1]
    first | exact rtk (.int .i64 (-1)) ⟨rfl, rfl⟩ | exact rtk0 (.int .i64 (-1)) ⟨rfl, rfl⟩
  · by_cases h2 : x > y
    · simp only [go_sem, Int.reduceToNat, Int.reduceLE, Int.reduceLT, Nat.reduceBEq, Nat.reduceLT, Nat.reduceAdd, Nat.reduceLeDiff, h1, h2]
      first | exact rtk (.int .i64 1) ⟨rfl, rfl⟩ | exact rtk0 (.int .i64 1) ⟨rfl, rfl⟩
    · simp only [go_sem, Int.reduceToNat, Int.reduceLE, Int.reduceLT, Nat.reduceBEq, Nat.reduceLT, Nat.reduceAdd, Nat.reduceLeDiff, h1, h2]
      first | exact rtk (.int .i64 0) ⟨rfl, rfl⟩ | exact rtk0 (.int .i64 0) ⟨rfl, rfl⟩
def c_slCmp : CCode := .seq (.ops [⟨some 4, .move (.lit (.int .i64 0)), none, []⟩]) (.seq (.seq (.ops [⟨some 9, .move (.tmp 0), none, []⟩, ⟨some 10, .blen 1 (.tmp 9), none, []⟩, ⟨some 11, .move (.lit (.int .i64 0)), none, []⟩]) (.block 0 (.loop (.seq (.ops [⟨some 12, .bin .lss .none (.tmp 11) (.tmp 10), none, []⟩]) (.seq (.cond (.tmp 12) .skip (.exit 0)) (.seq (.block 1 (.seq (.ops [⟨some 13, .move (.tmp 11), none, []⟩, ⟨some 14, .iaddr 1 (.tmp 9) (.tmp 11), none, []⟩, ⟨some 15, .load none (.tmp 14), none, []⟩, ⟨some 5, .move (.tmp 13), none, []⟩, ⟨some 6, .move (.tmp 15), none, []⟩]) (.seq (.seq (.ops [⟨some 16, .move (.tmp 5), none, []⟩, ⟨some 17, .move (.tmp 1), none, []⟩, ⟨some 18, .blen 1 (.tmp 17), none, []⟩, ⟨some 19, .bin .geq .none (.tmp 16) (.tmp 18), none, []⟩]) (.cond (.tmp 19) (.seq (.ops [⟨some 4, .move (.lit (.int .i64 1)), none, []⟩]) .ret) .skip)) (.seq (.ops [⟨some 20, .move (.tmp 1), none, []⟩, ⟨some 21, .move (.tmp 5), none, []⟩, ⟨some 22, .iaddr 1 (.tmp 20) (.tmp 21), none, []⟩, ⟨some 23, .load none (.tmp 22), none, []⟩, ⟨some 7, .move (.tmp 23), none, []⟩]) (.seq (.ops [⟨some 24, .move (.tmp 6), none, []⟩, ⟨some 25, .move (.tmp 7), none, []⟩, ⟨some 26, .call (.lit (.func 83 [])) [.tmp 24, .tmp 25], none, []⟩, ⟨some 8, .move (.tmp 26), none, []⟩]) (.seq (.ops [⟨some 27, .move (.tmp 8), none, []⟩, ⟨some 28, .bin .neq .none (.tmp 27) (.lit (.int .i64 0)), none, []⟩]) (.cond (.tmp 28) (.seq (.ops [⟨some 29, .move (.tmp 8), none, []⟩, ⟨some 4, .move (.tmp 29), none, []⟩]) .ret) .skip))))))) (.ops [⟨some 30, .bin .add .none (.tmp 11) (.lit (.int .i64 1)), none, []⟩, ⟨some 11, .move (.tmp 30), none, []⟩]))))))) (.seq (.seq (.ops [⟨some 31, .move (.tmp 0), none, []⟩, ⟨some 32, .blen 1 (.tmp 31), none, []⟩, ⟨some 33, .move (.tmp 1), none, []⟩, ⟨some 34, .blen 1 (.tmp 33), none, []⟩, ⟨some 35, .bin .lss .none (.tmp 32) (.tmp 34), none, []⟩]) (.cond (.tmp 35) (.seq (.ops [⟨some 4, .move (.lit (.int .i64 (-1))), none, []⟩]) .ret) .skip)) (.seq (.ops [⟨some 4, .move (.lit (.int .i64 0)), none, []⟩]) .ret)))
set_option maxRecDepth 20000 in
theorem slCmp_spec (l m : List Int) (tok tok' : Tok) (σ : Store) (hl : l.length ≤ 140737488355328) (hm : m.length ≤ 140737488355328) :
    ACalls Tryz.prog 47 [.slice tok (l.map Ahl.encI), .slice tok' (m.map Ahl.encI)] σ (isR (.int .i64 (cmpInts l m)) σ) := by
  refine ACalls.intro (rs := [(.tmp 4)]) (by kernel_rfl) { own := [], ghosts := [] } Tryz.func47 (c := Tryz.f47.body.getD .skip) (by kernel_rfl) (by decide) (by rw [show Tryz.f47.ntmps = 36 by kernel_rfl]; exact Nat.le_of_ble_eq_true rfl) (by kernel_rfl) ?_
  intro hσ hids
  rw [show comp Tryz.prog { own := [], ghosts := [] } (Tryz.f47.body.getD .skip) = c_slCmp by kernel_rfl, show Tryz.f47.ntmps = 36 by kernel_rfl]
  unfold c_slCmp
  have hil : Ids σ.length (.slice tok (l.map Ahl.encI)) := hids _ (by simp)
  have him : Ids σ.length (.slice tok' (m.map Ahl.encI)) := hids _ (by simp)
  simp only [go_sem, Int.reduceToNat, Int.reduceLE, Int.reduceLT, Nat.reduceBEq, Nat.reduceLT, Nat.reduceAdd, Nat.reduceLeDiff]
  refine wpc_while (fun (i : Nat) => [(0, .slice tok (l.map Ahl.encI)), (1, .slice tok' (m.map Ahl.encI)), (9, .slice tok (l.map Ahl.encI)), (10, .int .i64 l.length), (11, .int .i64 i)]) (fun _ => σ) (fun i => i ≤ l.length ∧ i ≤ m.length ∧ cmpInts l m = cmpInts (l.drop i) (m.drop i)) (fun i => l.length - i) 0 ⟨Nat.zero_le _, Nat.zero_le _, rfl⟩ (by (try dsimp only); first | exact ghk | exact ghk0) ?_
  rintro i ⟨hi, hi2, hv⟩ K hK hE hR
  by_cases h : i < l.length
  · obtain ⟨x, hx⟩ := get_ex h; have hlt : ((i : Int) < (l.length : Int)) := (by omega); have hw : IntKind.i64.wrap ((i : Int) + 1) = ((i + 1 : Nat) : Int) := (by rw [wrap_ok (by omega)]; omega)
    by_cases h2 : i < m.length
    · obtain ⟨y, hy⟩ := get_ex h2
      have hge : ¬ ((i : Int) ≥ (m.length : Int)) := by omega
      rw [drop_cons hx, drop_cons hy, cmpInts] at hv
      simp only [go_sem, Int.reduceToNat, Int.reduceLE, Int.reduceLT, Nat.reduceBEq, Nat.reduceLT, Nat.reduceAdd, Nat.reduceLeDiff, hlt, hge, hx, hy, Ahl.encI]
      refine (cmpI_spec x y σ).is ?_
      by_cases h3 : x < y
      · rw [if_pos h3] at hv ⊢
        have hne : ((-1 : Int) != 0) = true := rfl
        simp only [go_sem, Int.reduceToNat, Int.reduceLE, Int.reduceLT, Nat.reduceBEq, Nat.reduceLT, Nat.reduceAdd, Nat.reduceLeDiff, hne, hR]
        first | exact rtk (.int .i64 (-1)) ⟨by rw [hv], rfl⟩ | exact rtk0 (.int .i64 (-1)) ⟨by rw [hv], rfl⟩
      · by_cases h4 : y < x
        · rw [if_neg h3, if_pos h4] at hv ⊢
          have hne : ((1 : Int) != 0) = true := rfl
          simp only [go_sem, Int.reduceToNat, Int.reduceLE, Int.reduceLT, Nat.reduceBEq, Nat.reduceLT, Nat.reduceAdd, Nat.reduceLeDiff, hne, hR]
          first | exact rtk (.int .i64 1) ⟨by rw [hv], rfl⟩ | exact rtk0 (.int .i64 1) ⟨by rw [hv], rfl⟩
        · rw [if_neg h3, if_neg h4] at hv ⊢
          have hne : ((0 : Int) != 0) = false := rfl
          simp only [go_sem, Int.reduceToNat, Int.reduceLE, Int.reduceLT, Nat.reduceBEq, Nat.reduceLT, Nat.reduceAdd, Nat.reduceLeDiff, hne]
          refine hK _ _ (i + 1) (⟨by omega, by omega, hv⟩) (by first | omega | (simp only []; omega) | (simp; omega)) ?_; (try dsimp only); (try simp only [ hw]); first | exact ghk | exact ghk0
    · have hge : ((i : Int) ≥ (m.length : Int)) := by omega
      rw [drop_cons hx, drop_len h2] at hv
      simp only [go_sem, Int.reduceToNat, Int.reduceLE, Int.reduceLT, Nat.reduceBEq, Nat.reduceLT, Nat.reduceAdd, Nat.reduceLeDiff, hlt, hge, hx, hR, Ahl.encI]
      first | exact rtk (.int .i64 1) ⟨by rw [hv]; rfl, rfl⟩ | exact rtk0 (.int .i64 1) ⟨by rw [hv]; rfl, rfl⟩
  · have hlt : ¬ ((i : Int) < (l.length : Int)) := by omega
    rw [drop_len h] at hv
    by_cases h2 : (l.length : Int) < (m.length : Int)
    · obtain ⟨y, hy⟩ := get_ex (show i < m.length by omega)
      rw [drop_cons hy] at hv
      simp only [go_sem, Int.reduceToNat, Int.reduceLE, Int.reduceLT, Nat.reduceBEq, Nat.reduceLT, Nat.reduceAdd, Nat.reduceLeDiff, hlt, hE, h2]
      first | exact rtk (.int .i64 (-1)) ⟨by rw [hv]; rfl, rfl⟩ | exact rtk0 (.int .i64 (-1)) ⟨by rw [hv]; rfl, rfl⟩
    · rw [drop_len (show ¬ i < m.length by omega)] at hv
      simp only [go_sem, Int.reduceToNat, Int.reduceLE, Int.reduceLT, Nat.reduceBEq, Nat.reduceLT, Nat.reduceAdd, Nat.reduceLeDiff, hlt, hE, h2]
      first | exact rtk (.int .i64 0) ⟨by rw [hv]; rfl, rfl⟩ | exact rtk0 (.int .i64 0) ⟨by rw [hv]; rfl, rfl⟩
def c_gOrd : CCode := .seq (.ops [⟨some 4, .move (.lit (.int .i64 0)), none, []⟩]) (.seq (.ops [⟨some 5, .move (.tmp 0), none, []⟩, ⟨some 6, .move (.tmp 1), none, []⟩, ⟨some 7, .call (.lit (.func 47 [])) [.tmp 5, .tmp 6], none, []⟩, ⟨some 4, .move (.tmp 7), none, []⟩]) .ret)
theorem gOrd_spec (l m : List Int) (tok tok' : Tok) (σ : Store) (hl : l.length ≤ 140737488355328) (hm : m.length ≤ 140737488355328) :
    ACalls Tryz.prog 46 [.slice tok (l.map Ahl.encI), .slice tok' (m.map Ahl.encI)] σ (isR (.int .i64 (cmpInts l m)) σ) := by
  refine ACalls.intro (rs := [(.tmp 4)]) (by kernel_rfl) { own := [], ghosts := [] } Tryz.func46 (c := Tryz.f46.body.getD .skip) (by kernel_rfl) (by decide) (by rw [show Tryz.f46.ntmps = 8 by kernel_rfl]; exact Nat.le_of_ble_eq_true rfl) (by kernel_rfl) ?_
  intro hσ hids
  rw [show comp Tryz.prog { own := [], ghosts := [] } (Tryz.f46.body.getD .skip) = c_gOrd by kernel_rfl, show Tryz.f46.ntmps = 8 by kernel_rfl]
  unfold c_gOrd
  have hil : Ids σ.length (.slice tok (l.map Ahl.encI)) := hids _ (by simp)
  have him : Ids σ.length (.slice tok' (m.map Ahl.encI)) := hids _ (by simp)
  simp only [go_sem, Int.reduceToNat, Int.reduceLE, Int.reduceLT, Nat.reduceBEq, Nat.reduceLT, Nat.reduceAdd, Nat.reduceLeDiff]
  refine (slCmp_spec l m tok tok' σ hl hm).is ?_
  simp only [go_sem, Int.reduceToNat, Int.reduceLE, Int.reduceLT, Nat.reduceBEq, Nat.reduceLT, Nat.reduceAdd, Nat.reduceLeDiff]
  first | exact rtk (.int .i64 (cmpInts l m)) ⟨rfl, rfl⟩ | exact rtk0 (.int .i64 (cmpInts l m)) ⟨rfl, rfl⟩
theorem cmpInts_total {a b : List Int} (h : ¬ cmpInts a b < 0) : cmpInts b a < 0 ∨ a = b := by
  rcases Int.lt_trichotomy (cmpInts a b) 0 with q | q | q
  · exact absurd q h
  · exact .inr (cmpInts_anti q)
  · exact .inl (cmpInts_swap.2 q)
theorem sortLL_spec (id : Nat) (l : List (List Int)) (hl : ∀ x ∈ l, x.length ≤ 140737488355328) (hnd : l.Nodup) (σ : Store) (hσ : σ[id]? = some (.row (l.map vI))) (hlen : l.length ≤ 1073741824) :
    ACalls Tryz.prog 45 [.ref id 1 0 l.length, .func 46 []] σ fun r σ' => r = .tuple [] ∧ ∃ l' : List (List Int), l'.Perm l ∧ l'.Pairwise ltL ∧ σ' = σ.set id (.row (l'.map vI)) := by
  have h := sort1 laysLL (fn := Tryz.f45) (gn := Tryz.f46) Tryz.func45 (by kernel_rfl) (by decide) vI (fun x => x.length ≤ 140737488355328) cmpInts (fun _ => rfl) (fun l => ids_mapf ids_encI l) [] (.slice none 0 0) (by simp)
    (fun m => .slice .fresh [] none 0 0 0 0 (fun _ _ => undef) (Nat.le_refl _) (fun h => absurd h (by simp)) (by simp) (fun h => absurd rfl h) (fun i hi => absurd hi (by simp)) (by simp))
    (fun x _ => by rw [cmpInts_refl]; omega) (fun x y z _ _ _ => cmpInts_trans)
    (fun x y z _ _ _ h k => by
      rcases cmpInts_total h with q | rfl
      · rcases cmpInts_total k with q' | rfl
        · have := cmpInts_trans q' q
          intro hh; have := cmpInts_swap.1 hh; omega
        · exact h
      · exact k)
    46 Tryz.func46 (by kernel_rfl) (by kernel_rfl) (fun x y hx hy => gOrd_spec x y .fresh .fresh [] hx hy) id l hl σ hσ (by omega)
  refine h.mono ?_
  rintro r σ' ⟨rfl, l', hp, hs, rfl⟩
  refine ⟨rfl, l', hp, ?_, rfl⟩
  have hnd' : l'.Nodup := hp.nodup_iff.2 hnd
  have := List.pairwise_and_iff.2 ⟨hs, hnd'⟩
  refine this.imp ?_
  rintro a b ⟨h1, h2⟩
  rcases cmpInts_total h1 with q | q
  · exact q
  · exact absurd q.symm h2
end Go.Proofs.YtocphglkceidhaaGreat
namespace Go.Proofs.YtocphglkceidhaaGreat
open Go.Ahl
def rowsP (n : Nat) (p : Nat → Nat → Bool) : Store := (List.range n).map fun i => AObj.row ((genB n (p i)).map ab)
def updP (p : Nat → Nat → Bool) (i j : Nat) (v : Bool) : Nat → Nat → Bool := fun a c => if a = i ∧ c = j then v else p a c
theorem rowsP_len (n : Nat) (p : Nat → Nat → Bool) : (rowsP n p).length = n := by simp [rowsP]
theorem rowsP_get {n i : Nat} (p : Nat → Nat → Bool) (h : i < n) : (rowsP n p)[i]? = some (.row ((genB n (p i)).map ab)) := by unfold rowsP; rw [List.getElem?_map, List.getElem?_range h]; rfl
theorem rowsP_cong {n : Nat} {p q : Nat → Nat → Bool} (h : ∀ i j, i < n → j < n → p i j = q i j) : rowsP n p = rowsP n q := by
  unfold rowsP
  refine List.map_congr_left fun i hi => ?_
  rw [genB_cong fun j hj => h i j (List.mem_range.1 hi) hj]
theorem rowsP_set {n : Nat} (p : Nat → Nat → Bool) (i j : Nat) (v : Bool) (h : i < n) : (rowsP n p).set i (.row (((genB n (p i)).map ab).set j (.bool v))) = rowsP n (updP p i j v) := by
  apply List.ext_getElem?
  intro k
  by_cases hk : k < n
  · rw [rowsP_get _ hk]
    by_cases hki : i = k
    · subst hki
      rw [List.getElem?_set_self (by rw [rowsP_len]; exact h), bset, genB_set]
      congr 3
      exact genB_cong fun c _ => by unfold updP; simp
    · rw [List.getElem?_set_ne hki, rowsP_get _ hk]
      congr 3
      exact genB_cong fun c _ => by unfold updP; rw [if_neg (by rintro ⟨e, _⟩; exact hki e.symm)]
  · rw [List.getElem?_eq_none (by simp [rowsP_len]; omega), List.getElem?_eq_none (by rw [rowsP_len]; omega)]
theorem ids_rowsP {n k : Nat} {p : Nat → Nat → Bool} : ∀ o ∈ rowsP n p, IdsO k o := by
  intro o ho
  obtain ⟨i, _, rfl⟩ := List.mem_map.1 ho
  exact ids_ab _
def d_gLink_0 : List COp := [⟨some 5, .load none (.tmp 2), none, []⟩, ⟨some 6, .move (.tmp 0), none, []⟩, ⟨some 7, .iaddr 1 (.tmp 5) (.tmp 6), none, [0, 1]⟩, ⟨some 8, .load none (.tmp 7), none, [2]⟩, ⟨some 9, .move (.tmp 1), none, []⟩, ⟨some 10, .load none (.tmp 2), none, []⟩, ⟨some 11, .move (.tmp 1), none, []⟩, ⟨some 12, .iaddr 1 (.tmp 10) (.tmp 11), none, [5, 6]⟩, ⟨some 13, .load none (.tmp 12), none, [7]⟩, ⟨some 14, .move (.tmp 0), none, []⟩, ⟨some 15, .move (.tmp 0), none, []⟩, ⟨some 16, .move (.tmp 1), none, []⟩, ⟨some 17, .bin .neq .none (.tmp 15) (.tmp 16), none, [10, 11]⟩, ⟨some 18, .move (.tmp 0), none, []⟩, ⟨some 19, .move (.tmp 1), none, []⟩, ⟨some 20, .bin .neq .none (.tmp 18) (.tmp 19), none, [13, 14]⟩, ⟨some 21, .iaddr 1 (.tmp 8) (.tmp 9), none, [3, 4, 0, 1, 2, 3, 4, 8, 10, 11, 12]⟩, ⟨none, .store 1 (.tmp 21) (.tmp 17), none, [16, 12, 0, 1, 2, 3, 4, 8, 10, 11, 12]⟩, ⟨some 22, .iaddr 1 (.tmp 13) (.tmp 14), none, [8, 9, 0, 1, 2, 3, 4, 5, 6, 7, 8, 9, 10, 11, 12, 13, 14, 15, 16, 17]⟩, ⟨none, .store 1 (.tmp 22) (.tmp 20), none, [18, 15, 17, 0, 1, 2, 3, 4, 5, 6, 7, 8, 9, 10, 11, 12, 13, 14, 15, 16, 17]⟩]
theorem dr_gLink_0 (P : Program) (nt n0 : Nat) (Q : Post) (s : Slots) (σ : Store) : wpc P nt n0 (.draw d_gLink_0) Q s σ = aOpsD P nt [⟨some 5, .load none (.tmp 2), none, []⟩, ⟨some 6, .move (.tmp 0), none, []⟩, ⟨some 7, .iaddr 1 (.tmp 5) (.tmp 6), none, [0, 1]⟩, ⟨some 8, .load none (.tmp 7), none, [2]⟩, ⟨some 9, .move (.tmp 1), none, []⟩, ⟨some 10, .load none (.tmp 2), none, []⟩, ⟨some 11, .move (.tmp 1), none, []⟩, ⟨some 12, .iaddr 1 (.tmp 10) (.tmp 11), none, [5, 6]⟩, ⟨some 13, .load none (.tmp 12), none, [7]⟩, ⟨some 14, .move (.tmp 0), none, []⟩, ⟨some 15, .move (.tmp 0), none, []⟩, ⟨some 16, .move (.tmp 1), none, []⟩, ⟨some 17, .bin .neq .none (.tmp 15) (.tmp 16), none, [10, 11]⟩, ⟨some 18, .move (.tmp 0), none, []⟩, ⟨some 19, .move (.tmp 1), none, []⟩, ⟨some 20, .bin .neq .none (.tmp 18) (.tmp 19), none, [13, 14]⟩, ⟨some 21, .iaddr 1 (.tmp 8) (.tmp 9), none, [3, 4, 0, 1, 2, 3, 4, 8, 10, 11, 12]⟩, ⟨none, .store 1 (.tmp 21) (.tmp 17), none, [16, 12, 0, 1, 2, 3, 4, 8, 10, 11, 12]⟩, ⟨some 22, .iaddr 1 (.tmp 13) (.tmp 14), none, [8, 9, 0, 1, 2, 3, 4, 5, 6, 7, 8, 9, 10, 11, 12, 13, 14, 15, 16, 17]⟩, ⟨none, .store 1 (.tmp 22) (.tmp 20), none, [18, 15, 17, 0, 1, 2, 3, 4, 5, 6, 7, 8, 9, 10, 11, 12, 13, 14, 15, 16, 17]⟩] (Q .normal) s σ := wpc_draw _ (by decide)
def c_gLink : CCode := .draw d_gLink_0
set_option maxRecDepth 20000 in
set_option maxHeartbeats 1000000 in
theorem gLink_spec (pre : Store) (V D n : Nat) (p : Nat → Nat → Bool) (x y : Int) (hV : pre[V]? = some (.row [.ref D 1 0 n])) (hD : pre[D]? = some (.row ((List.range n).map fun i => .ref (pre.length + i) 1 0 n))) (hx : 0 ≤ x ∧ x < n) (hy : 0 ≤ y ∧ y < n) :
    ACalls Tryz.prog 38 [.int .i64 x, .int .i64 y, .ptr V 0] (pre ++ rowsP n p) (isR (.tuple []) (pre ++ rowsP n (updP (updP p x.toNat y.toNat (x != y)) y.toNat x.toNat (x != y)))) := by
  refine ACalls.intro (rs := []) (by kernel_rfl) { own := [], ghosts := [] } Tryz.func38 (c := Tryz.f38.body.getD .skip) (by kernel_rfl) (by decide) (by rw [show Tryz.f38.ntmps = 23 by kernel_rfl]; exact Nat.le_of_ble_eq_true rfl) (by kernel_rfl) ?_
  intro hσ hids
  rw [show comp Tryz.prog { own := [], ghosts := [] } (Tryz.f38.body.getD .skip) = c_gLink by kernel_rfl, show Tryz.f38.ntmps = 23 by kernel_rfl]
  unfold c_gLink
  obtain ⟨T, hT⟩ : ∃ T : (Nat → Nat → Bool) → Store, ∀ q, T q = pre ++ rowsP n q := ⟨_, fun _ => rfl⟩
  have gV : ∀ q, (T q)[V]? = some (.row [.ref D 1 0 n]) := fun q => by rw [hT, List.getElem?_append_left (lt_of_get hV)]; exact hV
  have gD : ∀ q, (T q)[D]? = some (.row ((List.range n).map fun i => .ref (pre.length + i) 1 0 n)) := fun q => by rw [hT, List.getElem?_append_left (lt_of_get hD)]; exact hD
  have gR : ∀ q i, i < n → (T q)[pre.length + i]? = some (.row ((genB n (q i)).map ab)) := fun q i hi => by rw [hT, List.getElem?_append_right (by omega), Nat.add_sub_cancel_left, rowsP_get _ hi]
  have sR : ∀ q i j v, i < n → (T q).set (pre.length + i) (.row (((genB n (q i)).map ab).set j (.bool v))) = T (updP q i j v) := fun q i j v hi => by
    rw [hT, hT, List.set_append_right _ _ (by omega), Nat.add_sub_cancel_left, rowsP_set q i j v hi]
  have hTl : ∀ q, (T q).length = pre.length + n := fun q => by rw [hT, List.length_append, rowsP_len]
  have hTi : ∀ q, IdsS (T q).length (T q) := fun q => by
    intro i o ho
    rw [hTl]
    rw [hT] at ho
    by_cases hi : i < pre.length
    · rw [List.getElem?_append_left hi] at ho
      have := hσ i o (by rw [List.getElem?_append_left hi]; exact ho)
      rw [List.length_append, rowsP_len] at this; exact this
    · rw [List.getElem?_append_right (by omega)] at ho
      exact ids_rowsP o (List.mem_of_getElem? ho)
  have hx0 := hx.1
  have hy0 := hy.1
  have hxn : x.toNat < n := by omega
  have hyn : y.toNat < n := by omega
  have rx := range_ref (b := pre.length) hxn
  have ry := range_ref (b := pre.length) hyn
  have gx := fun q => gR q x.toNat hxn
  have gy := fun q => gR q y.toNat hyn
  have sx := fun q j v => sR q x.toNat j v hxn
  have sy := fun q j v => sR q y.toNat j v hyn
  have hly : ∀ q, y.toNat + 1 ≤ (genB n q).length := fun q => by rw [genB_len]; omega
  have hlx : ∀ q, x.toNat + 1 ≤ (genB n q).length := fun q => by rw [genB_len]; omega
  rw [← hT, ← hT]
  simp only [go_sem, Int.reduceToNat, Int.reduceLE, Int.reduceLT, Nat.reduceBEq, Nat.reduceLT, Nat.reduceAdd, Nat.reduceLeDiff, dr_gLink_0, gV, gD, hx0, hy0, hxn, hyn, rx, ry, gx, gy, hlx, hly, sx, sy]
  refine ret_gh0 (σ' := T _) ?_ (by rw [hTl, hTl]; exact Nat.le_refl _) (hTi _) ⟨rfl, rfl⟩
  exact Ghost.keep0 (by rw [hTl, hTl]; exact Nat.le_refl _) trivial (hTi _)
end Go.Proofs.YtocphglkceidhaaGreat
namespace Go.Proofs.YtocphglkceidhaaGreat
open Go.Ahl
/-! ### What the clauses link -/
def linkP (l : List (List FLit)) (x y : Nat) : Bool := (x != y) && apartB l x y
theorem apartC_swap (x y : Int) (c : List FLit) : apartC x y c = apartC y x c := by
  match c with
  | [] => rfl
  | [a] => simp only [apartC]; rw [Bool.or_comm (a.fact == x)]
  | [a, b] =>
    simp only [apartC]
    rcases Int.lt_trichotomy x y with h | h | h
    · rw [if_neg (by omega), if_pos h, if_pos h, if_neg (by omega)]
    · subst h; rfl
    · rw [if_pos h, if_neg (by omega), if_neg (by omega), if_pos h]
  | _ :: _ :: _ :: _ => rfl
theorem apartB_swap (l : List (List FLit)) (x y : Int) : apartB l x y = apartB l y x := by
  unfold apartB; congr 1; funext c; exact apartC_swap x y c
theorem linkP_swap (l : List (List FLit)) (x y : Nat) : linkP l x y = linkP l y x := by
  unfold linkP; rw [apartB_swap, bne_comm]
theorem linkP_self (l : List (List FLit)) (x : Nat) : linkP l x x = false := by unfold linkP; simp
theorem linkP_nil (x y : Nat) : linkP [] x y = false := by unfold linkP apartB; simp
theorem linkP_snoc (l : List (List FLit)) (c : List FLit) (x y : Nat) : linkP (l ++ [c]) x y = (linkP l x y || ((x != y) && apartC x y c)) := by
  unfold linkP apartB
  rw [List.any_append]
  cases (x != y) <;> simp
/-- The links behind those of a fact with the facts below z. -/
def oneP (l : List (List FLit)) (A z : Nat) (x y : Nat) : Bool := linkP l x y || ((x != y) && (decide (x = A) && decide (y < z) || decide (y = A) && decide (x < z)))
theorem oneP_zero (l : List (List FLit)) (A : Nat) : oneP l A 0 = linkP l := by funext x y; simp [oneP]
theorem linkP_ne {l : List (List FLit)} {x y : Nat} (h : linkP l x y = true) : x ≠ y := by
  rintro rfl; rw [linkP_self] at h; simp at h
theorem oneP_succ (l : List (List FLit)) (A z : Nat) : updP (updP (oneP l A z) A z ((A : Int) != (z : Int))) z A ((A : Int) != (z : Int)) = oneP l A (z + 1) := by
  have hb : ((A : Int) != (z : Int)) = (A != z) := by rw [Bool.eq_iff_iff]; simp; omega
  rw [hb]
  funext x y
  unfold updP
  by_cases h1 : x = z ∧ y = A
  · obtain ⟨rfl, rfl⟩ := h1
    rw [if_pos ⟨rfl, rfl⟩]
    unfold oneP
    cases hl : linkP l x y
    · by_cases hxy : x = y
      · subst hxy; simp
      · have e1 : (x != y) = true := by simpa using hxy
        have e2 : (y != x) = true := by simpa using Ne.symm hxy
        rw [e1, e2]; simp
    · have := linkP_ne hl
      have e2 : (y != x) = true := by simpa using Ne.symm this
      rw [e2]; simp
  · rw [if_neg h1]
    by_cases h2 : x = A ∧ y = z
    · obtain ⟨rfl, rfl⟩ := h2
      rw [if_pos ⟨rfl, rfl⟩]
      unfold oneP
      cases hl : linkP l x y
      · by_cases hxy : x = y
        · subst hxy; simp
        · have e1 : (x != y) = true := by simpa using hxy
          rw [e1]; simp
      · have := linkP_ne hl
        have e2 : (x != y) = true := by simpa using this
        rw [e2]; simp
    · rw [if_neg h2]
      unfold oneP
      congr 2
      have e1 : (decide (x = A) && decide (y < z)) = (decide (x = A) && decide (y < z + 1)) := by
        by_cases hx : x = A
        · have : y ≠ z := fun e => h2 ⟨hx, e⟩
          rw [show (decide (y < z)) = decide (y < z + 1) by rw [decide_eq_decide]; omega]
        · simp [hx]
      have e2 : (decide (y = A) && decide (x < z)) = (decide (y = A) && decide (x < z + 1)) := by
        by_cases hy : y = A
        · have : x ≠ z := fun e => h1 ⟨e, hy⟩
          rw [show (decide (x < z)) = decide (x < z + 1) by rw [decide_eq_decide]; omega]
        · simp [hy]
      rw [e1, e2]
theorem oneP_end (l : List (List FLit)) (a : FLit) {n A : Nat} (ha : a.fact = (A : Int)) (hn : a.neg = true) {x y : Nat} (hx : x < n) (hy : y < n) : oneP l A n x y = linkP (l ++ [[a]]) x y := by
  rw [linkP_snoc]
  unfold oneP
  congr 2
  simp only [apartC, hn, Bool.true_and, ha]
  have e1 : ((A : Int) == (x : Int)) = decide (x = A) := by rw [Bool.eq_iff_iff]; simp; omega
  have e2 : ((A : Int) == (y : Int)) = decide (y = A) := by rw [Bool.eq_iff_iff]; simp; omega
  rw [e1, e2]; simp [hx, hy]
theorem twoP_end (l : List (List FLit)) (a b : FLit) {A B : Nat} (ha : a.fact = (A : Int)) (hb : b.fact = (B : Int)) (hab : A < B) (hna : a.neg = true) (hnb : b.neg = true) :
    updP (updP (linkP l) A B ((A : Int) != (B : Int))) B A ((A : Int) != (B : Int)) = linkP (l ++ [[a, b]]) := by
  have hv : ((A : Int) != (B : Int)) = true := by simp; omega
  rw [hv]
  funext x y
  rw [linkP_snoc]
  have hap : apartC x y [a, b] = (decide (x = A ∧ y = B) || decide (x = B ∧ y = A)) := by
    simp only [apartC]
    obtain ⟨fa, na⟩ := a
    obtain ⟨fb, nb⟩ := b
    simp only at ha hb hna hnb
    subst ha hb hna hnb
    simp only [FLit.mk.injEq, and_true]
    rw [← Bool.decide_and, ← Bool.decide_or, decide_eq_decide]
    rcases Nat.lt_trichotomy x y with h | h | h
    · rw [if_neg (by omega), if_pos (by omega)]; omega
    · subst h
      simp only [Int.lt_irrefl, if_false, gt_iff_lt]; omega
    · rw [if_pos (by omega), if_neg (by omega)]; omega
  rw [hap]
  unfold updP
  by_cases h1 : x = B ∧ y = A
  · obtain ⟨rfl, rfl⟩ := h1
    rw [if_pos ⟨rfl, rfl⟩]
    have : (x != y) = true := by simp; omega
    rw [this]; simp
  · rw [if_neg h1]
    by_cases h2 : x = A ∧ y = B
    · obtain ⟨rfl, rfl⟩ := h2
      rw [if_pos ⟨rfl, rfl⟩]
      have : (x != y) = true := by simp; omega
      rw [this]; simp
    · rw [if_neg h2, decide_eq_false h1, decide_eq_false h2]; simp
theorem noP_end (l : List (List FLit)) (c : List FLit) (h : ∀ x y, apartC x y c = false) : linkP l = linkP (l ++ [c]) := by
  funext x y; rw [linkP_snoc, h]; simp
/-! ### The program's groups are the reference's -/
def allI (n : Nat) : List Int := (List.range n).map fun (i : Nat) => (i : Int)
theorem allI_mem {n : Nat} {v : Int} : v ∈ allI n ↔ 0 ≤ v ∧ v < n := by
  unfold allI
  rw [List.mem_map]
  constructor
  · rintro ⟨i, hi, rfl⟩; have := List.mem_range.1 hi; omega
  · rintro ⟨h1, h2⟩; exact ⟨v.toNat, List.mem_range.2 (by omega), by omega⟩
theorem allI_nodup (n : Nat) : (allI n).Nodup := by
  unfold allI
  refine List.pairwise_map.2 ?_
  exact List.nodup_range.imp fun {a b} h e => h (by have : (a : Int) = (b : Int) := e; omega)
theorem bk_start (n : Nat) (L : Int → Int → Bool) : BK L n [] (allI n) [] :=
  ⟨by simp, by simp, by simp, fun v => by simp [allI_mem], allI_nodup n, by simp⟩
theorem groupB_iff {l : List (List FLit)} {s : List Int} (hs : s.Nodup) : groupB l s = true ↔ ∀ a ∈ s, ∀ b ∈ s, a ≠ b → apartB l a b = true := by
  unfold groupB
  rw [List.all_eq_true]
  constructor
  · intro h a ha b hb hab
    have key : ∀ i j : Nat, i < j → ∀ x y, s[i]? = some x → s[j]? = some y → apartB l y x = true := by
      intro i j hij x y hx hy
      have := List.all_eq_true.1 (h j (List.mem_range.2 (lt_of_get hy))) x (List.mem_of_getElem? (i := i) (by rw [List.getElem?_take, if_pos hij]; exact hx))
      rw [List.getD_eq_getElem?_getD, hy] at this; exact this
    obtain ⟨i, hi⟩ := List.mem_iff_getElem?.1 ha
    obtain ⟨j, hj⟩ := List.mem_iff_getElem?.1 hb
    rcases Nat.lt_trichotomy i j with h' | h' | h'
    · rw [apartB_swap]; exact key i j h' a b hi hj
    · subst h'; rw [hi] at hj; injection hj with hj; exact absurd hj hab
    · exact key j i h' b a hj hi
  · intro h i hi
    have hi := List.mem_range.1 hi
    rw [List.all_eq_true]
    intro y hy
    obtain ⟨j, hj⟩ := List.mem_iff_getElem?.1 hy
    obtain ⟨hj1, hj2⟩ := get_take hj
    have hx : s[i]? = some s[i] := List.getElem?_eq_getElem hi
    rw [List.getD_eq_getElem?_getD, hx]
    refine h _ (List.getElem_mem hi) _ (List.mem_of_getElem? hj2) ?_
    intro e
    have h1 := List.getElem?_eq_some_iff.1 hj2
    obtain ⟨q1, q2⟩ := h1
    have : s[j] = s[i] := q2.trans e.symm
    exact absurd this (List.pairwise_iff_getElem.1 hs j i q1 hi hj1)
theorem lk_of {l : List (List FLit)} {a b : Int} (ha : 0 ≤ a) (hb : 0 ≤ b) : lkB (linkP l) a b = ((a != b) && apartB l a b) := by
  unfold lkB linkP
  have e1 : ((a.toNat : Nat) : Int) = a := by omega
  have e2 : ((b.toNat : Nat) : Int) = b := by omega
  rw [e1, e2]
  congr 1
  rw [Bool.eq_iff_iff]; simp; omega
theorem isGroup_iff {n : Nat} {l : List (List FLit)} {s : List Int} (h1 : s.Pairwise (· < ·)) (h2 : ∀ v ∈ s, 0 ≤ v ∧ v < (n : Int)) :
    isGroupB n l s = true ↔ Aim (lkB (linkP l)) n [] (allI n) s := by
  have hnd : s.Nodup := h1.imp fun h => by omega
  unfold isGroupB Aim
  rw [Bool.and_eq_true, Bool.and_eq_true, groupB_iff hnd]
  have hm : mostB n l s = true ↔ ∀ v, 0 ≤ v → v < (n : Int) → v ∉ s → groupB l (s ++ [v]) = false := by
    unfold mostB
    rw [Bool.not_eq_true', List.any_eq_false]
    constructor
    · intro h v hv0 hvn hvs
      have := h v.toNat (List.mem_range.2 (by omega))
      have e1 : ((v.toNat : Nat) : Int) = v := by omega
      unfold growB at this
      rw [e1, show s.contains v = false by simpa using hvs] at this
      simpa using this
    · intro h x hx
      have hx := List.mem_range.1 hx
      unfold growB
      cases hc : s.contains (x : Int)
      · rw [h x (by omega) (by omega) (by simpa using hc)]; simp
      · simp
  rw [hm]
  constructor
  · rintro ⟨⟨g0, g1⟩, g2⟩
    have g0 : 2 ≤ s.length := by simp at g0; omega
    refine ⟨⟨h1, h2, fun a ha b hb hab => ?_, fun v hv0 hvn hvs => ?_⟩, by simp, fun v hv => .inr (allI_mem.2 (h2 v hv)), g0⟩
    · rw [lk_of (h2 a ha).1 (h2 b hb).1, g1 a ha b hb hab]; simpa using hab
    · have hnd2 : (s ++ [v]).Nodup := by
        rw [List.nodup_append]
        exact ⟨hnd, by simp, fun a ha b hb e => by simp at hb; subst hb; subst e; exact hvs ha⟩
      have hf := g2 v hv0 hvn hvs
      have : ¬ ∀ a ∈ s, apartB l v a = true := by
        intro hall
        have : groupB l (s ++ [v]) = true := (groupB_iff hnd2).2 fun a ha b hb hab => by
          rcases List.mem_append.1 ha with ha' | ha' <;> rcases List.mem_append.1 hb with hb' | hb'
          · exact g1 a ha' b hb' hab
          · simp only [List.mem_singleton] at hb'; subst hb'; rw [apartB_swap]; exact hall a ha'
          · simp only [List.mem_singleton] at ha'; subst ha'; exact hall b hb'
          · simp only [List.mem_singleton] at ha' hb'; subst ha'; subst hb'; exact absurd rfl hab
        rw [hf] at this; simp at this
      have : ∃ a ∈ s, apartB l v a ≠ true := by
        rcases Classical.em (∃ a ∈ s, apartB l v a ≠ true) with q | q
        · exact q
        · exact absurd (fun a ha => by
            rcases Classical.em (apartB l v a = true) with r | r
            · exact r
            · exact absurd ⟨a, ha, r⟩ q) this
      obtain ⟨a, ha, hq⟩ := this
      refine ⟨a, ha, ?_⟩
      rw [lk_of hv0 (h2 a ha).1]
      have : apartB l v a = false := by simpa using hq
      rw [this]; simp
  · rintro ⟨⟨_, _, g1, g2⟩, _, _, g0⟩
    refine ⟨⟨by simp; omega, fun a ha b hb hab => ?_⟩, fun v hv0 hvn hvs => ?_⟩
    · have := g1 a ha b hb hab
      rw [lk_of (h2 a ha).1 (h2 b hb).1, Bool.and_eq_true] at this; exact this.2
    · obtain ⟨a, ha, hq⟩ := g2 v hv0 hvn hvs
      rw [lk_of hv0 (h2 a ha).1] at hq
      have hne : (v != a) = true := by
        have : v ≠ a := by rintro rfl; exact hvs ha
        simpa using this
      rw [hne, Bool.true_and] at hq
      have hnd2 : (s ++ [v]).Nodup := by
        rw [List.nodup_append]
        exact ⟨hnd, by simp, fun a ha b hb e => by simp at hb; subst hb; subst e; exact hvs ha⟩
      cases hg : groupB l (s ++ [v])
      · rfl
      · have := (groupB_iff hnd2).1 hg v (by simp) a (by simp [ha]) (by simpa using hne)
        rw [hq] at this; simp at this
theorem groups_same (n : Nat) (l : List (List FLit)) {l' : List (List Int)} (hp : l'.Perm (bk (lkB (linkP l)) (n + 1) [] (allI n) [])) (hs : l'.Pairwise ltL) : l' = groupsL n l := by
  have hal : (allI n).length = n := by simp [allI]
  have hsym : ∀ a b, lkB (linkP l) a b = lkB (linkP l) b a := fun a b => linkP_swap l _ _
  have hirr : ∀ a, lkB (linkP l) a a = false := fun a => linkP_self l _
  have hnd : ((statesL n).filter (isGroupB n l)).Nodup := (statesL_nodup n).filter _
  obtain ⟨q1, q2⟩ := insAll _ [] (by simp) hnd (by simp)
  refine ltL_unique hs q1 fun s => ?_
  rw [hp.mem_iff, bk_mem hsym hirr n (n + 1) [] (allI n) [] (by omega) (bk_start n _)]
  show _ ↔ s ∈ ((statesL n).filter (isGroupB n l)).foldl insL []
  rw [q2, List.mem_filter]
  simp only [List.not_mem_nil, or_false]
  constructor
  · intro h
    exact ⟨statesL_all n s h.1.srt h.1.rng, (isGroup_iff h.1.srt h.1.rng).2 h⟩
  · rintro ⟨h1, h2⟩
    have hr := rising_pw (statesL_mem n s h1).2
    exact (isGroup_iff hr.1 fun v hv => by have := hr.2 v hv; omega).1 h2
end Go.Proofs.YtocphglkceidhaaGreat
namespace Go.Proofs.YtocphglkceidhaaGreat
open Go.Ahl
def groR (t : FTask) (l : List (List FLit)) : AV := if clE t l = 0 then .tuple [.slice .unk ((groupsL t.facts.length l).map encL), .int .i64 0] else .tuple [.slice .nil [], .int .i64 (clE t l)]
def groRf (t : FTask) (l : List (List FLit)) : AV := if clE t l = 0 then .tuple [.slice .fresh ((groupsL t.facts.length l).map encLf), .int .i64 0] else .tuple [.slice .nil [], .int .i64 (clE t l)]
theorem groRf_wk (t : FTask) (l : List (List FLit)) : Wk (groRf t l) (groR t l) := by
  unfold groRf groR
  split
  · exact Wk.tuple (.cons (Wk.lfu _ _) (WkL.refl _))
  · exact .refl _
def outerC (b n i : Nat) : List AV := (List.range n).map fun j => if j < i then AV.ref (b + j) 1 0 n else .slice .nil []
theorem outerC_len (b n i : Nat) : (outerC b n i).length = n := by simp [outerC]
theorem outerC_zero (b n : Nat) : (List.replicate n [AV.slice .nil []]).flatten = outerC b n 0 := by
  unfold outerC
  apply List.ext_getElem (by simp)
  intro j h1 h2
  simp at h1 h2
  simp
theorem outerC_set {b n i : Nat} (hi : i < n) : (outerC b n i).set i (.ref (b + i) 1 0 n) = outerC b n (i + 1) := by
  unfold outerC
  apply List.ext_getElem (by simp)
  intro j h1 h2
  simp at h1 h2
  rw [List.getElem_set]
  by_cases h : i = j
  · subst h; simp
  · rw [if_neg h]
    simp only [List.getElem_map, List.getElem_range]
    by_cases hj : j < i
    · rw [if_pos hj, if_pos (by omega)]
    · rw [if_neg hj, if_neg (by omega)]
theorem outerC_end (b n : Nat) : outerC b n n = (List.range n).map fun j => AV.ref (b + j) 1 0 n := by
  unfold outerC
  exact List.map_congr_left fun j hj => by rw [if_pos (List.mem_range.1 hj)]
theorem outerC_ids {b n i k : Nat} (h : b + i ≤ k) : IdsL k (outerC b n i) := by
  intro x hx
  obtain ⟨j, _, rfl⟩ := List.mem_map.1 hx
  by_cases hj : j < i
  · simp only [if_pos hj]; exact .ref _ _ _ _ (by omega)
  · simp only [if_neg hj]; exact ids_nil _ (by simp)
/-- The table under way: i rows are made. -/
def tab0 (σ : Store) (t : FTask) (n i : Nat) : Store := σ ++ (([AObj.row (encTask t), .row (outerC (σ.length + 3) n i), .row [.ref (σ.length + 1) 1 0 n]] : Store) ++ List.replicate i (.row ((genB n fun _ => false).map ab)))
theorem tab0_len (σ : Store) (t : FTask) (n i : Nat) : (tab0 σ t n i).length = σ.length + 3 + i := by simp [tab0]; omega
theorem tab0_get (σ : Store) (t : FTask) (n i : Nat) (r : Store) (j : Nat) : (tab0 σ t n i ++ r)[σ.length + j]? = (([AObj.row (encTask t), .row (outerC (σ.length + 3) n i), .row [.ref (σ.length + 1) 1 0 n]] : Store) ++ List.replicate i (.row ((genB n fun _ => false).map ab)) ++ r)[j]? := by
  unfold tab0; rw [List.append_assoc, g_get]
theorem tab0_set {σ : Store} {t : FTask} {n i : Nat} (hi : i < n) : (tab0 σ t n i ++ [AObj.row ((genB n fun _ => false).map ab)]).set (σ.length + 1) (.row ((outerC (σ.length + 3) n i).set i (.ref (σ.length + 3 + i) 1 0 n))) = tab0 σ t n (i + 1) := by
  unfold tab0
  rw [outerC_set hi, List.append_assoc, g_set, List.append_assoc, ← List.replicate_succ']; rfl
theorem tab0_ids {σ : Store} {t : FTask} {n i : Nat} (h : IdsS σ.length σ) : IdsS (tab0 σ t n i).length (tab0 σ t n i) := by
  unfold tab0
  refine idsS_app _ h fun o ho => ?_
  rcases List.mem_append.1 ho with ho | ho
  · simp only [List.mem_cons, List.not_mem_nil, or_false] at ho
    rcases ho with rfl | rfl | rfl
    · exact idsO_row (ids_encTask t)
    · exact idsO_row (outerC_ids (by simp; omega))
    · exact idsO_row (by intro x hx; simp at hx; subst hx; exact .ref _ _ _ _ (by simp))
  · rw [List.eq_of_mem_replicate ho]; exact ids_ab _
theorem xst_ids {B : Store} {V D b n Oc Lc E G : Nat} {p : Nat → Nat → Bool} (h : XS B V D b n Oc Lc E G p) {k : Int} {o : List (List Int)} (hs : IdsS B.length B) : IdsS B.length (xst B Oc Lc G k o) := by
  intro i ob hi
  have o4 := h.o4
  have o5 := h.o5
  have o6 := h.o6
  have o7 := h.o7
  by_cases h1 : i = Oc
  · subst h1; rw [xst_O h] at hi; injection hi with hi; subst hi
    exact idsO_row (by intro x hx; simp at hx; subst hx; exact .vec _ _ _ (by omega))
  · by_cases h2 : i = Lc
    · subst h2; rw [xst_L h] at hi; injection hi with hi; subst hi
      exact idsO_row (by intro x hx; simp at hx; subst hx; exact .int _ _)
    · by_cases h3 : i = G
      · subst h3; rw [xst_G h] at hi; injection hi with hi; subst hi
        intro j x hx
        rw [List.getElem?_map] at hx
        cases hq : o[j]? with
        | none => rw [hq] at hx; simp at hx
        | some y => rw [hq] at hx; simp at hx; subst hx; exact ids_mapF _
      · rw [xst_old h _ _ h1 h2 h3] at hi
        exact hs i ob hi
theorem xst_id {B : Store} {Oc Lc G : Nat} {k : Int} (h1 : B[Oc]? = some (.row [.vec G 1 0])) (h2 : B[Lc]? = some (.row [.int .i64 k])) (h3 : B[G]? = some (.vec 1 0 [])) : xst B Oc Lc G k [] = B := by
  unfold xst
  rw [List.length_nil, List.map_nil, set_same h1, set_same h2, set_same h3]
theorem row_frzL (l : List (List Int)) : ∀ (i : Nat) e, (l.map encLf)[i]? = some e → e.length = 1 ∧ ∀ j, j < 1 → (l.map vI)[0 + (i * 1 + j)]? = e[j]? := by
  intro i e he
  rw [List.getElem?_map] at he
  cases hq : l[i]? with
  | none => rw [hq] at he; simp at he
  | some y =>
    rw [hq] at he; simp at he; subst he
    refine ⟨rfl, fun j hj => ?_⟩
    obtain rfl : j = 0 := by omega
    rw [List.getElem?_map, show 0 + (i * 1 + 0) = i by omega, hq]; rfl
theorem allI_succ (k : Nat) : (allI (k + 1)).map Ahl.encI = (allI k).map Ahl.encI ++ [[.int .i64 (k : Int)]] := by
  unfold allI; rw [List.range_succ, List.map_append, List.map_append]; rfl
def d_iGroups_0 : List COp := [⟨some 35, .load none (.tmp 8), none, []⟩, ⟨some 36, .move (.tmp 9), none, []⟩, ⟨some 37, .move (.tmp 7), none, []⟩, ⟨some 38, .mkslice 1 1 [.bool false] (.tmp 37) (.tmp 37) true, none, [2, 2]⟩, ⟨some 39, .iaddr 1 (.tmp 35) (.tmp 36), none, [0, 1, 0, 1, 2, 3]⟩, ⟨none, .store 1 (.tmp 39) (.tmp 38), none, [4, 3, 0, 1, 2, 3]⟩]
theorem dr_iGroups_0 (P : Program) (nt n0 : Nat) (Q : Post) (s : Slots) (σ : Store) : wpc P nt n0 (.drawU d_iGroups_0 [[3], [], [], [0], [], []]) Q s σ = aOpsU P nt [⟨some 35, .load none (.tmp 8), none, []⟩, ⟨some 36, .move (.tmp 9), none, []⟩, ⟨some 37, .move (.tmp 7), none, []⟩, ⟨some 38, .mkslice 1 1 [.bool false] (.tmp 37) (.tmp 37) true, none, [2, 2]⟩, ⟨some 39, .iaddr 1 (.tmp 35) (.tmp 36), none, [0, 1, 0, 1, 2, 3]⟩, ⟨none, .store 1 (.tmp 39) (.tmp 38), none, [4, 3, 0, 1, 2, 3]⟩] [[3], [], [], [0], [], []] 0 [] [] (Q .normal) s σ := wpc_drawU _ _ (by decide)
def d_iGroups_1 : List COp := [⟨some 86, .move (.tmp 10), none, []⟩, ⟨some 87, .move (.tmp 12), none, []⟩, ⟨some 88, .iaddr 2 (.tmp 87) (.lit (.int .i64 0)), none, [1]⟩, ⟨some 89, .faddr 0 (.tmp 88), none, [2]⟩, ⟨some 90, .load none (.tmp 89), none, [3]⟩, ⟨some 91, .move (.tmp 12), none, []⟩, ⟨some 92, .iaddr 2 (.tmp 91) (.lit (.int .i64 1)), none, [5]⟩, ⟨some 93, .faddr 0 (.tmp 92), none, [6]⟩, ⟨some 94, .load none (.tmp 93), none, [7]⟩, ⟨some 95, .callE (.tmp 86) [.tmp 90, .tmp 94], none, [0, 4, 8]⟩]
theorem dr_iGroups_1 (P : Program) (nt n0 : Nat) (Q : Post) (s : Slots) (σ : Store) : wpc P nt n0 (.draw d_iGroups_1) Q s σ = aOpsD P nt [⟨some 86, .move (.tmp 10), none, []⟩, ⟨some 87, .move (.tmp 12), none, []⟩, ⟨some 88, .iaddr 2 (.tmp 87) (.lit (.int .i64 0)), none, [1]⟩, ⟨some 89, .faddr 0 (.tmp 88), none, [2]⟩, ⟨some 90, .load none (.tmp 89), none, [3]⟩, ⟨some 91, .move (.tmp 12), none, []⟩, ⟨some 92, .iaddr 2 (.tmp 91) (.lit (.int .i64 1)), none, [5]⟩, ⟨some 93, .faddr 0 (.tmp 92), none, [6]⟩, ⟨some 94, .load none (.tmp 93), none, [7]⟩, ⟨some 95, .callE (.tmp 86) [.tmp 90, .tmp 94], none, [0, 4, 8]⟩] (Q .normal) s σ := wpc_draw _ (by decide)
def c_iGroups : CCode := .seq (.ops [⟨some 2, .box (.tmp 0), none, []⟩, ⟨some 4, .move (.lit (.slice .nil [])), none, []⟩, ⟨some 5, .move (.lit (.int .i64 0)), none, []⟩]) (.seq (.seq (.ops [⟨some 19, .load (some 4) (.tmp 2), none, []⟩, ⟨some 20, .move (.tmp 1), none, []⟩, ⟨some 21, .call (.lit (.func 37 [])) [.tmp 19, .tmp 20], none, []⟩, ⟨some 6, .move (.tmp 21), none, []⟩]) (.seq (.ops [⟨some 22, .move (.tmp 6), none, []⟩, ⟨some 23, .bin .neq .none (.tmp 22) (.lit (.int .i64 0)), none, []⟩]) (.cond (.tmp 23) (.seq (.ops [⟨some 24, .move (.tmp 6), none, []⟩, ⟨some 4, .move (.lit (.slice .nil [])), none, []⟩, ⟨some 5, .move (.tmp 24), none, []⟩]) .ret) .skip))) (.seq (.ops [⟨some 25, .faddr 0 (.tmp 2), none, []⟩, ⟨some 26, .load none (.tmp 25), none, []⟩, ⟨some 27, .blen 1 (.tmp 26), none, []⟩, ⟨some 7, .move (.tmp 27), none, []⟩]) (.seq (.ops [⟨some 28, .move (.tmp 7), none, []⟩, ⟨some 29, .mkslice 1 24 [.slice .nil []] (.tmp 28) (.tmp 28) true, none, []⟩, ⟨some 8, .alloc (.slice .nil []), none, []⟩, ⟨none, .store 1 (.tmp 8) (.tmp 29), none, []⟩]) (.seq (.seq (.ops [⟨some 30, .load none (.tmp 8), none, []⟩, ⟨some 31, .blen 1 (.tmp 30), none, []⟩, ⟨some 32, .move (.lit (.int .i64 0)), none, []⟩]) (.block 0 (.loop (.seq (.ops [⟨some 33, .bin .lss .none (.tmp 32) (.tmp 31), none, []⟩]) (.seq (.cond (.tmp 33) .skip (.exit 0)) (.seq (.block 1 (.seq (.ops [⟨some 34, .move (.tmp 32), none, []⟩, ⟨some 9, .move (.tmp 34), none, []⟩]) (.drawU d_iGroups_0 [[3], [], [], [0], [], []]))) (.ops [⟨some 40, .bin .add .none (.tmp 32) (.lit (.int .i64 1)), none, []⟩, ⟨some 32, .move (.tmp 40), none, []⟩]))))))) (.seq (.ops [⟨some 41, .mkfunc 38 [.tmp 8], none, []⟩, ⟨some 10, .move (.tmp 41), none, []⟩]) (.seq (.seq (.ops [⟨some 42, .move (.tmp 1), none, []⟩, ⟨some 43, .blen 1 (.tmp 42), none, []⟩, ⟨some 44, .move (.lit (.int .i64 0)), none, []⟩]) (.block 2 (.loop (.seq (.ops [⟨some 45, .bin .lss .none (.tmp 44) (.tmp 43), none, []⟩]) (.seq (.cond (.tmp 45) .skip (.exit 2)) (.seq (.block 3 (.seq (.ops [⟨some 46, .iaddr 1 (.tmp 42) (.tmp 44), none, []⟩, ⟨some 47, .load none (.tmp 46), none, []⟩, ⟨some 12, .move (.tmp 47), none, []⟩]) (.block 4 (.seq (.ops [⟨some 49, .move (.tmp 12), none, []⟩, ⟨some 50, .blen 1 (.tmp 49), none, []⟩, ⟨some 51, .bin .eql .none (.tmp 50) (.lit (.int .i64 1)), none, []⟩, ⟨some 52, .move (.tmp 51), none, []⟩, ⟨some 53, .move (.tmp 12), some (some 52, true), []⟩, ⟨some 54, .iaddr 2 (.tmp 53) (.lit (.int .i64 0)), some (some 52, true), []⟩, ⟨some 55, .faddr 1 (.tmp 54), some (some 52, true), []⟩, ⟨some 56, .load none (.tmp 55), some (some 52, true), []⟩, ⟨some 57, .pick (.tmp 52) (.tmp 56) (.lit (.bool false)), none, []⟩, ⟨some 48, .move (.tmp 57), none, []⟩]) (.cond (.tmp 48) (.seq (.ops [⟨some 58, .move (.tmp 7), none, []⟩, ⟨some 59, .move (.lit (.int .i64 0)), none, []⟩]) (.block 5 (.loop (.seq (.ops [⟨some 60, .bin .lss .none (.tmp 59) (.tmp 58), none, []⟩]) (.seq (.cond (.tmp 60) .skip (.exit 5)) (.seq (.block 6 (.seq (.ops [⟨some 61, .move (.tmp 59), none, []⟩, ⟨some 13, .move (.tmp 61), none, []⟩]) (.ops [⟨some 62, .move (.tmp 10), none, []⟩, ⟨some 63, .move (.tmp 12), none, []⟩, ⟨some 64, .iaddr 2 (.tmp 63) (.lit (.int .i64 0)), none, []⟩, ⟨some 65, .faddr 0 (.tmp 64), none, []⟩, ⟨some 66, .load none (.tmp 65), none, []⟩, ⟨some 67, .move (.tmp 13), none, []⟩, ⟨some 68, .call (.tmp 62) [.tmp 66, .tmp 67], none, []⟩]))) (.ops [⟨some 69, .bin .add .none (.tmp 59) (.lit (.int .i64 1)), none, []⟩, ⟨some 59, .move (.tmp 69), none, []⟩]))))))) (.seq (.ops [⟨some 71, .move (.tmp 12), none, []⟩, ⟨some 72, .blen 1 (.tmp 71), none, []⟩, ⟨some 73, .bin .eql .none (.tmp 72) (.lit (.int .i64 2)), none, []⟩, ⟨some 74, .move (.tmp 73), none, []⟩, ⟨some 75, .move (.tmp 12), some (some 74, true), []⟩, ⟨some 76, .iaddr 2 (.tmp 75) (.lit (.int .i64 0)), some (some 74, true), []⟩, ⟨some 77, .faddr 1 (.tmp 76), some (some 74, true), []⟩, ⟨some 78, .load none (.tmp 77), some (some 74, true), []⟩, ⟨some 79, .pick (.tmp 74) (.tmp 78) (.lit (.bool false)), none, []⟩, ⟨some 80, .move (.tmp 79), none, []⟩, ⟨some 81, .move (.tmp 12), some (some 80, true), []⟩, ⟨some 82, .iaddr 2 (.tmp 81) (.lit (.int .i64 1)), some (some 80, true), []⟩, ⟨some 83, .faddr 1 (.tmp 82), some (some 80, true), []⟩, ⟨some 84, .load none (.tmp 83), some (some 80, true), []⟩, ⟨some 85, .pick (.tmp 80) (.tmp 84) (.lit (.bool false)), none, []⟩, ⟨some 70, .move (.tmp 85), none, []⟩]) (.cond (.tmp 70) (.draw d_iGroups_1) .skip))))))) (.ops [⟨some 96, .bin .add .none (.tmp 44) (.lit (.int .i64 1)), none, []⟩, ⟨some 44, .move (.tmp 96), none, []⟩]))))))) (.seq (.ops [⟨some 14, .alloc (.slice .nil []), none, []⟩]) (.seq (.ops [⟨some 15, .alloc (.int .i64 0), none, []⟩, ⟨none, .store 1 (.tmp 15) (.lit (.int .i64 262144)), none, []⟩]) (.seq (.ops [⟨some 16, .alloc (.conc Value.nilFunc), none, []⟩]) (.seq (.ops [⟨some 97, .mkfunc 39 [.tmp 15, .tmp 14, .tmp 8, .tmp 16], none, []⟩, ⟨none, .store 1 (.tmp 16) (.tmp 97), none, []⟩]) (.seq (.ghost (.ops [⟨some 17, .move (.lit (.slice .nil [])), none, []⟩])) (.seq (.seq (.ops [⟨some 98, .move (.tmp 7), none, []⟩, ⟨some 99, .move (.lit (.int .i64 0)), none, []⟩]) (.block 7 (.loop (.seq (.ops [⟨some 100, .bin .lss .none (.tmp 99) (.tmp 98), none, []⟩]) (.seq (.cond (.tmp 100) .skip (.exit 7)) (.seq (.block 8 (.seq (.ops [⟨some 101, .move (.tmp 99), none, []⟩, ⟨some 18, .move (.tmp 101), none, []⟩]) (.ops [⟨some 102, .move (.tmp 17), none, []⟩, ⟨some 103, .move (.tmp 18), none, []⟩, ⟨some 104, .bsliceC 1 [.tmp 103], none, []⟩, ⟨some 105, .bappend 1 8 (.tmp 102) (.tmp 104) false, none, []⟩, ⟨some 17, .move (.tmp 105), none, []⟩]))) (.ops [⟨some 106, .bin .add .none (.tmp 99) (.lit (.int .i64 1)), none, []⟩, ⟨some 99, .move (.tmp 106), none, []⟩]))))))) (.seq (.ops [⟨some 107, .load none (.tmp 16), none, []⟩, ⟨some 108, .move (.tmp 17), none, []⟩, ⟨some 109, .call (.tmp 107) [.lit (.slice .nil []), .tmp 108, .lit (.slice .nil [])], none, []⟩]) (.seq (.seq (.ops [⟨some 110, .load none (.tmp 15), none, []⟩, ⟨some 111, .bin .lss .none (.tmp 110) (.lit (.int .i64 0)), none, []⟩]) (.cond (.tmp 111) (.seq (.ops [⟨some 4, .move (.lit (.slice .nil [])), none, []⟩, ⟨some 5, .move (.lit (.int .i64 3)), none, []⟩]) .ret) .skip)) (.seq (.ghost (.ops [⟨some 112, .load none (.tmp 14), none, []⟩, ⟨some 113, .call (.lit (.func 45 [])) [.tmp 112, .lit (.func 46 [])], none, []⟩])) (.seq (.ops [⟨some 114, .load none (.tmp 14), none, []⟩, ⟨some 4, .move (.tmp 114), none, []⟩, ⟨some 5, .move (.lit (.int .i64 0)), none, []⟩]) .ret))))))))))))))))
set_option maxRecDepth 20000 in
set_option maxHeartbeats 4000000 in
theorem iGroups_specF (t : FTask) (l : List (List FLit)) (tok : Tok) (σ : Store) (ht : TB t) (hl : FB l) (h8 : validB t = true → t.facts.length ≤ 8) :
    ACalls Tryz.prog 10 [.agg (encTask t), .slice tok (l.map encC)] σ (isR (groRf t l) σ) := by
  refine ACalls.intro (rs := [(.tmp 4), (.tmp 5)]) (by kernel_rfl) { own := [(5, 1), (9, 3)], ghosts := [28, 37], cold := [(32, 2)], loud := [(22, 9)], free := [(9, [[3], [], [], [0], [], []])] } Tryz.func10 (c := Tryz.f10.body.getD .skip) (by kernel_rfl) (by decide) (by rw [show Tryz.f10.ntmps = 115 by kernel_rfl]; exact Nat.le_of_ble_eq_true rfl) (by kernel_rfl) ?_
  intro hσ hids
  rw [show comp Tryz.prog { own := [(5, 1), (9, 3)], ghosts := [28, 37], cold := [(32, 2)], loud := [(22, 9)], free := [(9, [[3], [], [], [0], [], []])] } (Tryz.f10.body.getD .skip) = c_iGroups by kernel_rfl, show Tryz.f10.ntmps = 115 by kernel_rfl]
  unfold c_iGroups
  have hil : Ids σ.length (.slice tok (l.map encC)) := hids _ (by simp)
  have htk4 : (encTask t).take 4 = encTask t := rfl
  have hle4 : 4 ≤ (encTask t).length := Nat.le_refl 4
  simp only [go_sem, Int.reduceToNat, Int.reduceLE, Int.reduceLT, Nat.reduceBEq, Nat.reduceLT, Nat.reduceAdd, Nat.reduceLeDiff, dr_iGroups_0, dr_iGroups_1, htk4, hle4]
  refine (clauses_spec t l tok _ ht hl).is ?_
  by_cases h1 : clE t l = 0
  rotate_left
  · have h1' : (clE t l != 0) = true := by simpa using h1
    simp only [go_sem, Int.reduceToNat, Int.reduceLE, Int.reduceLT, Nat.reduceBEq, Nat.reduceLT, Nat.reduceAdd, Nat.reduceLeDiff, dr_iGroups_0, dr_iGroups_1, h1']
    first | exact rtl (.slice .nil []) (.int .i64 (clE t l)) ⟨by rw [groRf, if_neg h1], rfl⟩ | exact rtl0 (.slice .nil []) (.int .i64 (clE t l)) ⟨by rw [groRf, if_neg h1], rfl⟩
  rw [h1]
  obtain ⟨hv, hll, hvf⟩ := clE_zero h1
  have hn8 := h8 hv
  obtain ⟨n, hn⟩ : ∃ n, n = t.facts.length := ⟨_, rfl⟩
  have h0 : ((0 : Int) != 0) = false := rfl
  have hen0 : (encTask t)[0]? = some (.slice .unk (t.facts.map encT)) := rfl
  have hr0 : ∀ b, (List.replicate n [AV.slice .nil []]).flatten = outerC b n 0 := fun b => outerC_zero b n
  have hnn : (t.facts.length : Int) = (n : Int) := by rw [hn]
  simp only [go_sem, Int.reduceToNat, Int.reduceLE, Int.reduceLT, Nat.reduceBEq, Nat.reduceLT, Nat.reduceAdd, Nat.reduceLeDiff, dr_iGroups_0, dr_iGroups_1, hen0, h0, aMkslice, hnn]
  refine ⟨Int.le_refl _, by omega, by omega, ?_⟩
  rw [hr0 (σ.length + 3), show σ ++ [AObj.row (encTask t), AObj.row (outerC (σ.length + 3) n 0), AObj.row [AV.ref (σ.length + 1) 1 0 n]] = tab0 σ t n 0 by simp [tab0]]
  have hi0 := fun i => tab0_ids (t := t) (n := n) (i := i) hσ
  have hl0 := tab0_len σ t n
  have ilk : ∀ k, σ.length ≤ k → Ids k (.slice tok (l.map encC)) := fun k hk => ids_up hk hil
  have gc0 : ∀ i r, (tab0 σ t n i ++ r)[σ.length + 2]? = some (.row [.ref (σ.length + 1) 1 0 n]) := fun i r => by rw [tab0_get]; rfl
  have gc00 : ∀ i, (tab0 σ t n i)[σ.length + 2]? = some (.row [.ref (σ.length + 1) 1 0 n]) := fun i => by have := gc0 i []; rwa [List.append_nil] at this
  have go0 : ∀ i r, (tab0 σ t n i ++ r)[σ.length + 1]? = some (.row (outerC (σ.length + 3) n i)) := fun i r => by rw [tab0_get]; rfl
  refine wpc_while (fun (i : Nat) => [(1, .slice tok (l.map encC)), (7, .int .i64 n), (8, .ptr (σ.length + 2) 0), (31, .int .i64 n), (32, .int .i64 i)]) (fun i => tab0 σ t n i) (fun i => i ≤ n) (fun i => n - i) 0 (Nat.zero_le _)
    (by
      have := hl0 0
      have hilk := ilk (tab0 σ t n 0).length (by omega)
      (try dsimp only)
      first | exact ghN0 (hi0 0) | exact ghN (hi0 0)) ?_
  intro i hi K hK hE hR
  by_cases h : i < n
  · have hlt : ((i : Int) < (n : Int)) := by omega
    have hw : IntKind.i64.wrap ((i : Int) + 1) = ((i + 1 : Nat) : Int) := by rw [wrap_ok (by omega)]; omega
    have hi1 : i + 1 ≤ (outerC (σ.length + 3) n i).length := by rw [outerC_len]; omega
    have hi2 : 0 ≤ (i : Int) := by omega
    simp only [go_sem, Int.reduceToNat, Int.reduceLE, Int.reduceLT, Nat.reduceBEq, Nat.reduceLT, Nat.reduceAdd, Nat.reduceLeDiff, dr_iGroups_0, dr_iGroups_1, hlt, gc0, gc00, go0, aMkslice, hl0, rep_ab, h, hi1]
    refine ⟨Int.le_refl _, by omega, by omega, ?_⟩
    rw [tab0_set h, hw]
    refine hK _ _ (i + 1) (by omega) (by omega) ?_
    have := hl0 (i + 1)
    have hilk := ilk (tab0 σ t n (i + 1)).length (by omega)
    (try dsimp only)
    first | exact ghN0 (hi0 (i + 1)) | exact ghN (hi0 (i + 1))
  obtain rfl : n = i := by omega
  have hlt : ¬ ((n : Int) < (n : Int)) := by omega
  simp only [go_sem, Int.reduceToNat, Int.reduceLE, Int.reduceLT, Nat.reduceBEq, Nat.reduceLT, Nat.reduceAdd, Nat.reduceLeDiff, dr_iGroups_0, dr_iGroups_1, hlt, hE]
  clear hK hE hR
  obtain ⟨pre, hpre⟩ : ∃ pre, pre = σ ++ [AObj.row (encTask t), .row (outerC (σ.length + 3) n n), .row [.ref (σ.length + 1) 1 0 n]] := ⟨_, rfl⟩
  obtain ⟨T, hT⟩ : ∃ T : (Nat → Nat → Bool) → Store, ∀ q, T q = pre ++ rowsP n q := ⟨_, fun _ => rfl⟩
  have hpl : pre.length = σ.length + 3 := by rw [hpre]; simp
  have hT0 : tab0 σ t n n = T (linkP []) := by
    rw [hT, rowsP_cong (q := fun _ _ => false) (fun i j _ _ => linkP_nil i j), hpre, tab0, List.append_assoc]
    congr 2
    unfold rowsP; rw [List.map_const', List.length_range]
  have hTl : ∀ q, (T q).length = σ.length + 3 + n := fun q => by rw [hT, List.length_append, rowsP_len, hpl]
  have hTi : ∀ q, IdsS (T q).length (T q) := fun q => by
    rw [hT, hpre, List.append_assoc]
    refine idsS_app _ hσ fun o ho => ?_
    rcases List.mem_append.1 ho with ho | ho
    · simp only [List.mem_cons, List.not_mem_nil, or_false] at ho
      rcases ho with rfl | rfl | rfl
      · exact idsO_row (ids_encTask t)
      · exact idsO_row (outerC_ids (by simp [rowsP_len]; omega))
      · exact idsO_row (by intro x hx; simp at hx; subst hx; exact .ref _ _ _ _ (by simp))
    · exact ids_rowsP o ho
  have hfk : ∀ k, σ.length + 3 ≤ k → Ids k (.func 38 [.ptr (σ.length + 2) 0]) := fun k hk => .func _ _ (fun j x hx => by
    cases j with
    | zero => simp at hx; subst hx; exact .ptr _ _ (by omega)
    | succ j => simp at hx)
  have hpV : pre[σ.length + 2]? = some (.row [.ref (σ.length + 1) 1 0 n]) := by rw [hpre, g_get]; rfl
  have hpD : pre[σ.length + 1]? = some (.row ((List.range n).map fun i => .ref (pre.length + i) 1 0 n)) := by rw [hpl, ← outerC_end, hpre, g_get]; rfl
  have hTc : ∀ p q, (∀ i j, i < n → j < n → p i j = q i j) → T p = T q := fun p q h => by rw [hT, hT, rowsP_cong h]
  have lnk : ∀ p (x y : Int), 0 ≤ x ∧ x < n → 0 ≤ y ∧ y < n → ACalls Tryz.prog 38 [.int .i64 x, .int .i64 y, .ptr (σ.length + 2) 0] (T p) (isR (.tuple []) (T (updP (updP p x.toNat y.toNat (x != y)) y.toNat x.toNat (x != y)))) := fun p x y hx hy => by
    rw [hT, hT]; exact gLink_spec pre _ _ n p x y hpV hpD hx hy
  rw [hT0]
  have hll1 := hl.1
  refine wpc_while (fun (i : Nat) => [(7, .int .i64 n), (8, .ptr (σ.length + 2) 0), (10, .func 38 [.ptr (σ.length + 2) 0]), (42, .slice tok (l.map encC)), (43, .int .i64 l.length), (44, .int .i64 i)]) (fun i => T (linkP (l.take i))) (fun i => i ≤ l.length) (fun i => l.length - i) 0 (Nat.zero_le _)
    (by
      have := hTl (linkP [])
      have hilk := ilk (T (linkP [])).length (by omega)
      have hifk := hfk (T (linkP [])).length (by omega)
      (try dsimp only)
      rw [List.take_zero]
      first | exact ghN0 (hTi _) | exact ghN (hTi _)) ?_
  intro i hi K hK hE hR
  by_cases h : i < l.length
  · obtain ⟨c, hx⟩ := get_ex h; have hlt : ((i : Int) < (l.length : Int)) := (by omega); have hw : IntKind.i64.wrap ((i : Int) + 1) = ((i + 1 : Nat) : Int) := (by rw [wrap_ok (by omega)]; omega)
    have hcv := hvf c (List.mem_of_getElem? hx)
    have hx' : (l.map encC)[i]? = some [AV.slice .unk (c.map encLit)] := by rw [List.getElem?_map, hx]; rfl
    have htk : l.take (i + 1) = l.take i ++ [c] := take_succ' hx
    match c, hcv with
    | [], _ =>
      have h1 : ((0 : Int) == 2) = false := rfl
      have h2 : ((0 : Int) == 1) = false := rfl
      have hc := noP_end (l.take i) [] (fun _ _ => rfl)
      simp only [go_sem, Int.reduceToNat, Int.reduceLE, Int.reduceLT, Nat.reduceBEq, Nat.reduceLT, Nat.reduceAdd, Nat.reduceLeDiff, dr_iGroups_0, dr_iGroups_1, hlt, hx', h1, h2]
      rw [hc, ← htk]
      refine hK _ _ (i + 1) (by omega) (by omega) ?_
      have := hTl (linkP (l.take (i + 1)))
      have hilk := ilk (T (linkP (l.take (i + 1)))).length (by omega)
      have hifk := hfk (T (linkP (l.take (i + 1)))).length (by omega)
      (try dsimp only)
      rw [hw]
      first | exact ghN0 (hTi _) | exact ghN (hTi _)
    | [a], hcv =>
      have h1 : (((1 : Nat) : Int) == 2) = false := rfl
      have h2 : (((1 : Nat) : Int) == 1) = true := rfl
      have h1' : ((1 : Int) == 2) = false := rfl
      have h2' : ((1 : Int) == 1) = true := rfl
      simp only [cV, condB, Bool.and_eq_true, decide_eq_true_eq] at hcv
      cases ha : a.neg
      · have hc := noP_end (l.take i) [a] (fun _ _ => by simp [apartC, ha])
        simp only [go_sem, Int.reduceToNat, Int.reduceLE, Int.reduceLT, Nat.reduceBEq, Nat.reduceLT, Nat.reduceAdd, Nat.reduceLeDiff, dr_iGroups_0, dr_iGroups_1, hlt, hx', h1, h2, h1', h2', encLit, ha]
        rw [hc, ← htk]
        refine hK _ _ (i + 1) (by omega) (by omega) ?_
        have := hTl (linkP (l.take (i + 1)))
        have hilk := ilk (T (linkP (l.take (i + 1)))).length (by omega)
        have hifk := hfk (T (linkP (l.take (i + 1)))).length (by omega)
        (try dsimp only)
        rw [hw]
        first | exact ghN0 (hTi _) | exact ghN (hTi _)
      · obtain ⟨A, hA⟩ : ∃ A : Nat, a.fact = (A : Int) := ⟨a.fact.toNat, by omega⟩
        have hc : T (oneP (l.take i) A n) = T (linkP (l.take i ++ [[a]])) := hTc _ _ fun x y hx hy => oneP_end _ a hA ha hx hy
        rw [htk.symm] at hc
        have h12 : ∀ k, Ids k (.slice .unk [[AV.int .i64 (A : Int), AV.bool true]]) := fun k => ids_map (f := encLit) ids_encLit [⟨A, true⟩]
        simp only [go_sem, Int.reduceToNat, Int.reduceLE, Int.reduceLT, Nat.reduceBEq, Nat.reduceLT, Nat.reduceAdd, Nat.reduceLeDiff, dr_iGroups_0, dr_iGroups_1, hlt, hx', h1, h2, h1', h2', encLit, ha, hA]
        refine wpc_while (fun (z : Nat) => [(7, .int .i64 n), (8, .ptr (σ.length + 2) 0), (10, .func 38 [.ptr (σ.length + 2) 0]), (12, .slice .unk [[.int .i64 (A : Int), .bool true]]), (42, .slice tok (l.map encC)), (43, .int .i64 l.length), (44, .int .i64 i), (58, .int .i64 n), (59, .int .i64 z)])
          (fun z => T (oneP (l.take i) A z)) (fun z => z ≤ n) (fun z => n - z) 0 (Nat.zero_le _)
          (by
            have := hTl (linkP (l.take i))
            have hilk := ilk (T (linkP (l.take i))).length (by omega)
            have hifk := hfk (T (linkP (l.take i))).length (by omega)
            have h12k := h12 (T (linkP (l.take i))).length
            (try dsimp only)
            rw [oneP_zero]
            first | exact ghN0 (hTi _) | exact ghN (hTi _)) ?_
        intro z hz K2 hK2 hE2 hR2
        by_cases hzn : z < n
        · have hlt2 : ((z : Int) < (n : Int)) := by omega
          have hw2 : IntKind.i64.wrap ((z : Int) + 1) = ((z + 1 : Nat) : Int) := by rw [wrap_ok (by omega)]; omega
          simp only [go_sem, Int.reduceToNat, Int.reduceLE, Int.reduceLT, Nat.reduceBEq, Nat.reduceLT, Nat.reduceAdd, Nat.reduceLeDiff, dr_iGroups_0, dr_iGroups_1, hlt2]
          refine (lnk _ (A : Int) (z : Int) (by omega) (by omega)).to ?_
          rw [Int.toNat_natCast, Int.toNat_natCast, oneP_succ]
          simp only [go_sem, Int.reduceToNat, Int.reduceLE, Int.reduceLT, Nat.reduceBEq, Nat.reduceLT, Nat.reduceAdd, Nat.reduceLeDiff, dr_iGroups_0, dr_iGroups_1]
          refine hK2 _ _ (z + 1) (by omega) (by omega) ?_
          have := hTl (oneP (l.take i) A (z + 1))
          have hilk := ilk (T (oneP (l.take i) A (z + 1))).length (by omega)
          have hifk := hfk (T (oneP (l.take i) A (z + 1))).length (by omega)
          have h12k := h12 (T (oneP (l.take i) A (z + 1))).length
          (try dsimp only)
          rw [hw2]
          first | exact ghN0 (hTi _) | exact ghN (hTi _)
        · obtain rfl : n = z := by omega
          have hlt2 : ¬ ((n : Int) < (n : Int)) := by omega
          rw [hc]
          simp only [go_sem, Int.reduceToNat, Int.reduceLE, Int.reduceLT, Nat.reduceBEq, Nat.reduceLT, Nat.reduceAdd, Nat.reduceLeDiff, dr_iGroups_0, dr_iGroups_1, hlt2, hE2]
          refine hK _ _ (i + 1) (by omega) (by omega) ?_
          have := hTl (linkP (l.take (i + 1)))
          have hilk := ilk (T (linkP (l.take (i + 1)))).length (by omega)
          have hifk := hfk (T (linkP (l.take (i + 1)))).length (by omega)
          (try dsimp only)
          rw [hw]
          first | exact ghN0 (hTi _) | exact ghN (hTi _)
    | [a, b], hcv =>
      have h1 : (((2 : Nat) : Int) == 2) = true := rfl
      have h2 : (((2 : Nat) : Int) == 1) = false := rfl
      have h1' : ((2 : Int) == 2) = true := rfl
      have h2' : ((2 : Int) == 1) = false := rfl
      simp only [cV, condB, Bool.and_eq_true, decide_eq_true_eq] at hcv
      cases ha : a.neg
      · have hc := noP_end (l.take i) [a, b] (fun x y => by
          have : a ≠ (⟨if y < x then y else x, true⟩ : FLit) := by intro e; rw [e] at ha; simp at ha
          simp [apartC, this])
        simp only [go_sem, Int.reduceToNat, Int.reduceLE, Int.reduceLT, Nat.reduceBEq, Nat.reduceLT, Nat.reduceAdd, Nat.reduceLeDiff, dr_iGroups_0, dr_iGroups_1, hlt, hx', h1, h2, h1', h2', encLit, ha]
        rw [hc, ← htk]
        refine hK _ _ (i + 1) (by omega) (by omega) ?_
        have := hTl (linkP (l.take (i + 1)))
        have hilk := ilk (T (linkP (l.take (i + 1)))).length (by omega)
        have hifk := hfk (T (linkP (l.take (i + 1)))).length (by omega)
        (try dsimp only)
        rw [hw]
        first | exact ghN0 (hTi _) | exact ghN (hTi _)
      · cases hb : b.neg
        · have hc := noP_end (l.take i) [a, b] (fun x y => by
            have : b ≠ (⟨if y > x then y else x, true⟩ : FLit) := by intro e; rw [e] at hb; simp at hb
            simp [apartC, this])
          simp only [go_sem, Int.reduceToNat, Int.reduceLE, Int.reduceLT, Nat.reduceBEq, Nat.reduceLT, Nat.reduceAdd, Nat.reduceLeDiff, dr_iGroups_0, dr_iGroups_1, hlt, hx', h1, h2, h1', h2', encLit, ha, hb]
          rw [hc, ← htk]
          refine hK _ _ (i + 1) (by omega) (by omega) ?_
          have := hTl (linkP (l.take (i + 1)))
          have hilk := ilk (T (linkP (l.take (i + 1)))).length (by omega)
          have hifk := hfk (T (linkP (l.take (i + 1)))).length (by omega)
          (try dsimp only)
          rw [hw]
          first | exact ghN0 (hTi _) | exact ghN (hTi _)
        · obtain ⟨A, hA⟩ : ∃ A : Nat, a.fact = (A : Int) := ⟨a.fact.toNat, by omega⟩
          obtain ⟨B, hB⟩ : ∃ B : Nat, b.fact = (B : Int) := ⟨b.fact.toNat, by omega⟩
          have hc := twoP_end (l.take i) a b hA hB (by omega) ha hb
          simp only [go_sem, Int.reduceToNat, Int.reduceLE, Int.reduceLT, Nat.reduceBEq, Nat.reduceLT, Nat.reduceAdd, Nat.reduceLeDiff, dr_iGroups_0, dr_iGroups_1, hlt, hx', h1, h2, h1', h2', encLit, ha, hb, hA, hB]
          refine ⟨_, _, lnk _ (A : Int) (B : Int) (by omega) (by omega), ?_⟩
          rw [Int.toNat_natCast, Int.toNat_natCast]
          rw [hc, ← htk]
          refine hK _ _ (i + 1) (by omega) (by omega) ?_
          have := hTl (linkP (l.take (i + 1)))
          have hilk := ilk (T (linkP (l.take (i + 1)))).length (by omega)
          have hifk := hfk (T (linkP (l.take (i + 1)))).length (by omega)
          (try dsimp only)
          rw [hw]
          first | exact ghN0 (hTi _) | exact ghN (hTi _)
    | a :: b :: d :: r, _ =>
      have h1 : (((r.length + 1 + 1 + 1 : Nat) : Int) == 2) = false := by simp; omega
      have h2 : (((r.length + 1 + 1 + 1 : Nat) : Int) == 1) = false := by simp; omega
      have hc := noP_end (l.take i) (a :: b :: d :: r) (fun _ _ => rfl)
      simp only [go_sem, Int.reduceToNat, Int.reduceLE, Int.reduceLT, Nat.reduceBEq, Nat.reduceLT, Nat.reduceAdd, Nat.reduceLeDiff, dr_iGroups_0, dr_iGroups_1, hlt, hx', h1, h2]
      rw [hc, ← htk]
      refine hK _ _ (i + 1) (by omega) (by omega) ?_
      have := hTl (linkP (l.take (i + 1)))
      have hilk := ilk (T (linkP (l.take (i + 1)))).length (by omega)
      have hifk := hfk (T (linkP (l.take (i + 1)))).length (by omega)
      (try dsimp only)
      rw [hw]
      first | exact ghN0 (hTi _) | exact ghN (hTi _)
  · have hlt : ¬ ((i : Int) < (l.length : Int)) := by omega
    rw [List.take_of_length_le (by omega : l.length ≤ i)]
    have hnf : Value.nilFunc.oneCell' = true := rfl
    simp only [go_sem, Int.reduceToNat, Int.reduceLE, Int.reduceLT, Nat.reduceBEq, Nat.reduceLT, Nat.reduceAdd, Nat.reduceLeDiff, dr_iGroups_0, dr_iGroups_1, hlt, hE, hnf]
    clear hK hE hR
    obtain ⟨N, hN⟩ : ∃ N, N = σ.length + 3 + n := ⟨_, rfl⟩
    have hTN : (T (linkP l)).length = N := by rw [hTl, hN]
    rw [hTN]
    have gT : ∀ r j, (T (linkP l) ++ r)[N + j]? = r[j]? := fun r j => by rw [← hTN]; exact g_get _ _ _
    have gT0 : ∀ r, (T (linkP l) ++ r)[N]? = r[0]? := fun r => by rw [← hTN]; exact g_get0 _ _
    obtain ⟨B0, hB0⟩ : ∃ B0, B0 = T (linkP l) ++ [AObj.row [.vec (N + 3) 1 0], .row [.int .i64 262144], .row [.func 39 [.ptr (N + 1) 0, .ptr N 0, .ptr (σ.length + 2) 0, .ptr (N + 2) 0]], .vec 1 0 []] := ⟨_, rfl⟩
    have hB0l : B0.length = N + 4 := by rw [hB0, List.length_append, hTN]; rfl
    rw [wpc_ghost]
    refine Gh.of (Ghost.vecCell N 1 (by rw [gT0]; rfl)) ?_
    have hst1 : ∀ (f : AObj), ((T (linkP l) ++ [AObj.row [AV.slice .nil []], .row [.int .i64 262144], f]) ++ [AObj.vec 1 0 []]).set N (.row [.vec (T (linkP l) ++ [AObj.row [AV.slice .nil []], .row [.int .i64 262144], f]).length 1 0]) = T (linkP l) ++ [AObj.row [.vec (N + 3) 1 0], .row [.int .i64 262144], f, .vec 1 0 []] := fun f => by
      rw [List.append_assoc, ← hTN, g_set0, List.length_append]; rfl
    rw [hst1, ← hB0]
    have hif : ∀ k, N + 4 ≤ k → Ids k (.func 39 [.ptr (N + 1) 0, .ptr N 0, .ptr (σ.length + 2) 0, .ptr (N + 2) 0]) := fun k hk => .func _ _ (fun j x hx => by
      match j, hx with
      | 0, hx => simp at hx; subst hx; exact .ptr _ _ (by omega)
      | 1, hx => simp at hx; subst hx; exact .ptr _ _ (by omega)
      | 2, hx => simp at hx; subst hx; exact .ptr _ _ (by omega)
      | 3, hx => simp at hx; subst hx; exact .ptr _ _ (by omega)
      | j + 4, hx => simp at hx)
    have hB0i : ∀ r : Store, (∀ o ∈ r, IdsO (N + 4 + r.length) o) → IdsS (B0 ++ r).length (B0 ++ r) := fun r hr => by
      rw [hB0, List.append_assoc]
      refine idsS_app _ (hTi _) fun o ho => ?_
      have hlen : (T (linkP l)).length + ([AObj.row [.vec (N + 3) 1 0], .row [.int .i64 262144], .row [.func 39 [.ptr (N + 1) 0, .ptr N 0, .ptr (σ.length + 2) 0, .ptr (N + 2) 0]], .vec 1 0 []] ++ r).length = N + 4 + r.length := by
        rw [List.length_append, hTN]; simp only [List.length_cons, List.length_nil]; omega
      rw [hlen]
      rcases List.mem_append.1 ho with ho | ho
      · simp only [List.mem_cons, List.not_mem_nil, or_false] at ho
        rcases ho with rfl | rfl | rfl | rfl
        · exact idsO_row (by intro x hx; simp at hx; subst hx; exact .vec _ _ _ (by omega))
        · exact idsO_row (by intro x hx; simp at hx; subst hx; exact .int _ _)
        · exact idsO_row (by intro x hx; simp at hx; subst hx; exact hif _ (by omega))
        · intro j x hx; simp at hx
      · exact hr o ho
    have hBi0 : IdsS B0.length B0 := by have := hB0i [] (by simp); rwa [List.append_nil] at this
    have hBi1 : ∀ k : Nat, IdsS (B0 ++ [AObj.grow 1 k]).length (B0 ++ [AObj.grow 1 k]) := fun k => hB0i _ (by simp [IdsO])
    simp only [go_sem, Int.reduceToNat, Int.reduceLE, Int.reduceLT, Nat.reduceBEq, Nat.reduceLT, Nat.reduceAdd, Nat.reduceLeDiff, dr_iGroups_0, dr_iGroups_1]
    refine wpc_while (fun (k : Nat) => [(14, .ptr N 0), (15, .ptr (N + 1) 0), (16, .ptr (N + 2) 0), (17, .slice (.grow (N + 4)) ((allI k).map Ahl.encI)), (98, .int .i64 n), (99, .int .i64 k)])
      (fun k => B0 ++ [AObj.grow 1 k]) (fun k => k ≤ n) (fun k => n - k) 0 (Nat.zero_le _)
      (by
        (try dsimp only)
        refine Ghost.trans (s' := [(17, .slice .nil []), (14, .ptr N 0), (15, .ptr (N + 1) 0), (16, .ptr (N + 2) 0), (98, .int .i64 n), (99, .int .i64 0)]) (σ' := B0) ?_ ?_
        · first | exact ghN0 hBi0 | exact ghN hBi0
        · refine (Ghost.tok 17 1 (.inl rfl)).trans ?_
          rw [hB0l]
          have hl4 : (B0 ++ [AObj.grow 1 0]).length = N + 5 := by rw [List.length_append, hB0l]; rfl
          have hq := hBi1 0
          first | exact ghN0 hq | exact ghN hq) ?_
    intro k hk K hK hE hR
    by_cases hkn : k < n
    · have hltk : ((k : Int) < (n : Int)) := by omega
      have hwk : IntKind.i64.wrap ((k : Int) + 1) = ((k + 1 : Nat) : Int) := by rw [wrap_ok (by omega)]; omega
      have hbk : bigLen (k + 1) 8 := big_ok (by omega) (by omega)
      have hak : (allI k).length = k := by simp [allI]
      have gB : ∀ r, (B0 ++ r)[N + 4]? = r[0]? := fun r => by rw [← hB0l]; exact g_get0 _ _
      have sB : ∀ r x, (B0 ++ r).set (N + 4) x = B0 ++ r.set 0 x := fun r x => by rw [← hB0l]; exact g_set0 _ _ _
      simp only [go_sem, Int.reduceToNat, Int.reduceLE, Int.reduceLT, Nat.reduceBEq, Nat.reduceLT, Nat.reduceAdd, Nat.reduceLeDiff, dr_iGroups_0, dr_iGroups_1, hltk, hwk, hbk, hak, gB, sB]
      rw [← allI_succ]
      refine hK _ _ (k + 1) (by omega) (by omega) ?_
      have hl4 : (B0 ++ [AObj.grow 1 (k + 1)]).length = N + 5 := by rw [List.length_append, hB0l]; rfl
      have hq := hBi1 (k + 1)
      (try dsimp only)
      first | exact ghN0 hq | exact ghN hq
    obtain rfl : n = k := by omega
    have hltk : ¬ ((n : Int) < (n : Int)) := by omega
    obtain ⟨B, hB⟩ : ∃ B, B = B0 ++ [AObj.grow 1 n] := ⟨_, rfl⟩
    have hBl : B.length = N + 5 := by rw [hB, List.length_append, hB0l]; rfl
    have hBi : IdsS B.length B := by rw [hB]; exact hBi1 n
    have gBj : ∀ j, B[N + j]? = ([AObj.row [.vec (N + 3) 1 0], .row [.int .i64 262144], .row [.func 39 [.ptr (N + 1) 0, .ptr N 0, .ptr (σ.length + 2) 0, .ptr (N + 2) 0]], .vec 1 0 [], .grow 1 n] : Store)[j]? := fun j => by
      rw [hB, hB0, List.append_assoc, gT]; rfl
    have gBN : B[N]? = some (.row [.vec (N + 3) 1 0]) := gBj 0
    have gBL : B[N + 1]? = some (.row [.int .i64 262144]) := gBj 1
    have gBE : B[N + 2]? = some (.row [.func 39 [.ptr (N + 1) 0, .ptr N 0, .ptr (σ.length + 2) 0, .ptr (N + 2) 0]]) := gBj 2
    have gBG : B[N + 3]? = some (.vec 1 0 []) := gBj 3
    rw [← hB]
    have hXS : XS B (σ.length + 2) (σ.length + 1) (σ.length + 3) n N (N + 1) (N + 2) (N + 3) (linkP l) := by
      refine ⟨⟨?_, ?_, fun i hi => ?_⟩, gBE, by omega, by omega, by omega, by omega, by omega, by omega, by omega⟩
      · rw [hB, hB0, List.append_assoc, hT, List.append_assoc, List.getElem?_append_left (by omega)]; exact hpV
      · rw [hB, hB0, List.append_assoc, hT, List.append_assoc, List.getElem?_append_left (by omega), hpD, hpl]
      · rw [hB, hB0, List.append_assoc, hT, List.append_assoc, List.getElem?_append_right (by omega), List.getElem?_append_left (by rw [rowsP_len]; omega), hpl, Nat.add_sub_cancel_left, rowsP_get _ hi]
    have hxid := xst_id gBN gBL gBG
    have hal : (allI n).length = n := by simp [allI]
    obtain ⟨out, hout⟩ : ∃ out, out = bk (lkB (linkP l)) (n + 1) [] (allI n) [] := ⟨_, rfl⟩
    obtain ⟨k', hk'⟩ : ∃ k' : Int, k' = 262144 - (bkN (lkB (linkP l)) (n + 1) (allI n) : Int) := ⟨_, rfl⟩
    have hbn : bkN (lkB (linkP l)) (n + 1) (allI n) ≤ 256 := by
      refine Nat.le_trans (bkN_le _ _ _) ?_
      rw [hal]; exact Nat.pow_le_pow_right (by omega : 0 < 2) (show n ≤ 8 by omega)
    have hc := gExt_spec (σ.length + 2) (σ.length + 1) (σ.length + 3) n N (N + 1) (N + 2) (N + 3) (linkP l) (linkP_self l) (n + 1) B [] (allI n) [] 262144 [] .nil (.grow (N + 4)) hXS (by omega) (fun x hx => allI_mem.1 hx) (by simp) (by simp; omega) (by simp; omega) (by omega) (by simp)
    rw [List.length_nil, List.nil_append, ← hout, ← hk', xt, hxid, xt] at hc
    have hxi := xst_ids hXS (k := k') (o := out) hBi
    rw [← xst_len B N (N + 1) (N + 3) k' out] at hxi
    have hc2 := ACalls.nilTok [.slice .nil [], .slice (.grow (N + 4)) ((allI n).map Ahl.encI)] [.ptr (N + 1) 0, .ptr N 0, .ptr (σ.length + 2) 0, .ptr (N + 2) 0] 1 hc (xst_len _ _ _ _ _ _) hxi (.tuple [] (by simp))
    simp only [go_sem, Int.reduceToNat, Int.reduceLE, Int.reduceLT, Nat.reduceBEq, Nat.reduceLT, Nat.reduceAdd, Nat.reduceLeDiff, dr_iGroups_0, dr_iGroups_1, hltk, hE, gBE]
    refine hc2.to ?_
    have gL := xst_L hXS k' out
    have gO := xst_O hXS k' out
    have gG := xst_G hXS k' out
    have hk0 : ¬ (k' < 0) := by omega
    simp only [go_sem, Int.reduceToNat, Int.reduceLE, Int.reduceLT, Nat.reduceBEq, Nat.reduceLT, Nat.reduceAdd, Nat.reduceLeDiff, dr_iGroups_0, dr_iGroups_1, gL, hk0]
    rw [wpc_ghost]
    refine Gh.of (Ghost.vecRef N (N + 3) gO gG) ?_
    rw [xst_len]
    obtain ⟨Z, hZ⟩ : ∃ Z, Z = ((xst B N (N + 1) (N + 3) k' out).set (N + 3) .dead ++ [AObj.row (out.map vI)]).set N (.row [.ref B.length 1 0 out.length]) := ⟨_, rfl⟩
    rw [← hZ]
    have hZl : Z.length = N + 6 := by rw [hZ, List.length_set, List.length_append, List.length_set, xst_len, hBl]; rfl
    have hZN : Z[N]? = some (.row [.ref B.length 1 0 out.length]) := by rw [hZ, List.getElem?_set_self (by rw [List.length_append, List.length_set, xst_len, hBl]; omega)]
    have hZB : Z[B.length]? = some (.row (out.map vI)) := by
      rw [hZ, List.getElem?_set_ne (by omega), List.getElem?_append_right (by rw [List.length_set, xst_len]; exact Nat.le_refl _), List.length_set, xst_len, Nat.sub_self]; rfl
    have hσB : B.take σ.length = σ := by rw [hB, hB0, hT, hpre]; simp
    have hZt : Z.take σ.length = σ := by
      rw [hZ, List.take_set_of_le (by omega), List.take_append_of_le_length (by rw [List.length_set, xst_len, hBl]; omega), List.take_set_of_le (by omega)]
      unfold xst
      rw [List.take_set_of_le (by omega), List.take_set_of_le (by omega), List.take_set_of_le (by omega)]
      exact hσB
    have hol : out.length ≤ 256 := by rw [hout]; exact Nat.le_trans (bk_len _ _ _ _ _) hbn
    have hsym : ∀ a b, lkB (linkP l) a b = lkB (linkP l) b a := fun a b => linkP_swap l _ _
    have hirr : ∀ a, lkB (linkP l) a a = false := fun a => linkP_self l _
    have honl : ∀ x ∈ out, x.length ≤ 140737488355328 := fun x hx => by
      rw [hout] at hx
      have hA := (bk_mem hsym hirr n (n + 1) [] (allI n) [] (by omega) (bk_start n _) x).1 hx
      have hm := statesL_mem n x (statesL_all n x hA.1.srt hA.1.rng)
      omega
    have hnd : out.Nodup := by rw [hout]; exact bk_nodup hsym hirr n (n + 1) [] (allI n) [] (by omega) (bk_start n _)
    simp only [go_sem, Int.reduceToNat, Int.reduceLE, Int.reduceLT, Nat.reduceBEq, Nat.reduceLT, Nat.reduceAdd, Nat.reduceLeDiff, dr_iGroups_0, dr_iGroups_1, hZN]
    refine (sortLL_spec B.length out honl hnd Z hZB (by omega)).mono ?_
    rintro _ _ ⟨rfl, l', hp, hs, rfl⟩
    have hgr := groups_same n l (hout ▸ hp) hs
    have hZN2 : (Z.set B.length (.row (l'.map vI)))[N]? = some (.row [.ref B.length 1 0 out.length]) := by rw [List.getElem?_set_ne (by omega)]; exact hZN
    simp only [go_sem, Int.reduceToNat, Int.reduceLE, Int.reduceLT, Nat.reduceBEq, Nat.reduceLT, Nat.reduceAdd, Nat.reduceLeDiff, dr_iGroups_0, dr_iGroups_1, hZN2]
    refine ret_gh2 (v := .slice .fresh (l'.map encLf)) (x := .int .i64 0) (σ' := σ) ?_ rfl (Nat.le_refl _) hσ (ids_mapf ids_encLf _) (.int _ _) ⟨by rw [groRf, if_pos h1, hgr, hn], rfl⟩
    refine Ghost.trans (Ghost.freezeF 4 (l'.map encLf) rfl (by rw [List.getElem?_set_self (by omega)]) (by rw [List.length_map, hp.length_eq]) (row_frzL _)) ?_
    have hfin : ((Z.set B.length (.row (l'.map vI))).set B.length .dead).take σ.length = σ := by rw [List.set_set, List.take_set_of_le (by omega)]; exact hZt
    have hct : ∀ s, Wk (lk s 4) (.slice .fresh (l'.map encLf)) → Wk (lk s 5) (.int .i64 0) → Ghost σ.length 115 s ((Z.set B.length (.row (l'.map vI))).set B.length .dead) [(4, .slice .fresh (l'.map encLf)), (5, .int .i64 0)] σ := fun s w1 w2 => by
      have := Ghost.cut (n0 := σ.length) (nt := 115) (σ := (Z.set B.length (.row (l'.map vI))).set B.length .dead) (s := s) [(4, .slice .fresh (l'.map encLf)), (5, .int .i64 0)] σ.length (Nat.le_refl _) ⟨⟨w1, ids_mapf ids_encLf _⟩, ⟨w2, .int _ _⟩, trivial⟩ (by rw [hfin]; exact hσ)
      rw [hfin] at this; exact this
    exact hct _ (.refl _) (.refl _)
theorem iGroups_spec (t : FTask) (l : List (List FLit)) (tok : Tok) (σ : Store) (ht : TB t) (hl : FB l) (h8 : validB t = true → t.facts.length ≤ 8) :
    ACalls Tryz.prog 10 [.agg (encTask t), .slice tok (l.map encC)] σ (isR (groR t l) σ) := (iGroups_specF t l tok σ ht hl h8).wkR (groRf_wk t l)
end Go.Proofs.YtocphglkceidhaaGreat
namespace Go.Proofs.YtocphglkceidhaaGreat
open Go.Ahl
def t0 : FTask := ⟨[bys [104, 101, 114, 101], bys [116, 104, 101, 114, 101]], [0], [⟨1, false⟩], [⟨bys [103, 111], 2, [⟨0, false⟩], [⟨[], ⟨0, true⟩⟩, ⟨[], ⟨1, false⟩⟩]⟩]⟩
theorem t0_TB : TB t0 := ⟨by decide, by decide, by decide, by decide, by decide, by decide, by decide, by decide, by decide⟩
theorem FB_small {f : List (List FLit)} (h : f.length ≤ 1000 ∧ ∀ l ∈ f, l.length ≤ 1000) : FB f := ⟨by have := h.1; omega, fun l hl => by have := h.2 l hl; omega⟩
end Go.Proofs.YtocphglkceidhaaGreat
namespace Go.Proofs.YtocphglkceidhaaGreat
open Go.Ahl
def p0 : List (List FLit) := [[⟨0, false⟩, ⟨1, false⟩], [⟨0, true⟩, ⟨1, true⟩]]
theorem t0_pairs : pairsR t0 = .tuple [.slice .unk (p0.map encC), .int .i64 0] := by kernel_rfl
theorem t0_groups : groR t0 p0 = .tuple [.slice .unk ([[0, 1]].map encL), .int .i64 0] := by kernel_rfl
theorem t0_ind : indR t0 p0 = .tuple [.bool true, .int .i64 0] := by kernel_rfl
theorem t0_noind : indR t0 [[⟨0, false⟩]] = .tuple [.bool false, .int .i64 0] := by kernel_rfl
def c_awake8 : CCode := .seq (.ops [⟨some 0, .move (.lit (.bool false)), none, []⟩]) (.seq (.ops [⟨some 10, .bslice 1 [.lit (.str (bys [104, 101, 114, 101])), .lit (.str (bys [116, 104, 101, 114, 101]))] false, none, []⟩, ⟨some 11, .bslice 1 [.lit (.int .i64 0)] false, none, []⟩, ⟨some 12, .build [.int .i64 0, .bool false] [(0, 1, .lit (.int .i64 1))], none, []⟩, ⟨some 13, .bslice 2 [.tmp 12] false, none, []⟩, ⟨some 14, .build [.int .i64 0, .bool false] [(0, 1, .lit (.int .i64 0))], none, []⟩, ⟨some 15, .bslice 2 [.tmp 14] false, none, []⟩, ⟨some 16, .build [.int .i64 0, .bool false] [(0, 1, .lit (.int .i64 0)), (1, 1, .lit (.bool true))], none, []⟩, ⟨some 17, .build [.slice .nil [], .int .i64 0, .bool false] [(1, 2, .tmp 16)], none, []⟩, ⟨some 18, .build [.int .i64 0, .bool false] [(0, 1, .lit (.int .i64 1))], none, []⟩, ⟨some 19, .build [.slice .nil [], .int .i64 0, .bool false] [(1, 2, .tmp 18)], none, []⟩, ⟨some 20, .bslice 3 [.tmp 17, .tmp 19] false, none, []⟩, ⟨some 21, .build [.str (bys []), .int .i64 0, .slice .nil [], .slice .nil []] [(0, 1, .lit (.str (bys [103, 111]))), (1, 1, .lit (.int .i64 2)), (2, 1, .tmp 15), (3, 1, .tmp 20)], none, []⟩, ⟨some 22, .bslice 4 [.tmp 21] false, none, []⟩, ⟨some 23, .build [.slice .nil [], .slice .nil [], .slice .nil [], .slice .nil []] [(0, 1, .tmp 10), (1, 1, .tmp 11), (2, 1, .tmp 13), (3, 1, .tmp 22)], none, []⟩, ⟨some 1, .alloc (.agg [.slice .nil [], .slice .nil [], .slice .nil [], .slice .nil []]), none, []⟩, ⟨none, .store 4 (.tmp 1) (.tmp 23), none, []⟩]) (.seq (.ops [⟨some 25, .load (some 4) (.tmp 1), none, []⟩, ⟨some 26, .call (.lit (.func 15 [])) [.tmp 25], none, []⟩, ⟨some 24, .move (.tmp 26), none, []⟩, ⟨some 27, .extract (.tmp 24) 0, none, []⟩, ⟨some 28, .extract (.tmp 24) 1, none, []⟩, ⟨some 2, .move (.tmp 27), none, []⟩, ⟨some 3, .move (.tmp 28), none, []⟩]) (.seq (.ops [⟨some 30, .load (some 4) (.tmp 1), none, []⟩, ⟨some 31, .move (.tmp 2), none, []⟩, ⟨some 32, .call (.lit (.func 10 [])) [.tmp 30, .tmp 31], none, []⟩, ⟨some 29, .move (.tmp 32), none, []⟩, ⟨some 33, .extract (.tmp 29) 0, none, []⟩, ⟨some 34, .extract (.tmp 29) 1, none, []⟩, ⟨some 4, .move (.tmp 33), none, []⟩, ⟨some 5, .move (.tmp 34), none, []⟩]) (.seq (.ops [⟨some 36, .load (some 4) (.tmp 1), none, []⟩, ⟨some 37, .move (.tmp 2), none, []⟩, ⟨some 38, .call (.lit (.func 22 [])) [.tmp 36, .tmp 37], none, []⟩, ⟨some 35, .move (.tmp 38), none, []⟩, ⟨some 39, .extract (.tmp 35) 0, none, []⟩, ⟨some 40, .extract (.tmp 35) 1, none, []⟩, ⟨some 6, .move (.tmp 39), none, []⟩, ⟨some 7, .move (.tmp 40), none, []⟩]) (.seq (.ops [⟨some 42, .load (some 4) (.tmp 1), none, []⟩, ⟨some 43, .build [.int .i64 0, .bool false] [(0, 1, .lit (.int .i64 0))], none, []⟩, ⟨some 44, .bslice 2 [.tmp 43] false, none, []⟩, ⟨some 45, .bslice 1 [.tmp 44] false, none, []⟩, ⟨some 46, .call (.lit (.func 22 [])) [.tmp 42, .tmp 45], none, []⟩, ⟨some 41, .move (.tmp 46), none, []⟩, ⟨some 47, .extract (.tmp 41) 0, none, []⟩, ⟨some 48, .extract (.tmp 41) 1, none, []⟩, ⟨some 8, .move (.tmp 47), none, []⟩, ⟨some 9, .move (.tmp 48), none, []⟩]) (.seq (.ops [⟨some 49, .move (.tmp 3), none, []⟩, ⟨some 50, .bin .eql .none (.tmp 49) (.lit (.int .i64 0)), none, []⟩, ⟨some 51, .move (.tmp 50), none, []⟩, ⟨some 52, .move (.tmp 2), some (some 51, true), []⟩, ⟨some 53, .blen 1 (.tmp 52), some (some 51, true), []⟩, ⟨some 54, .bin .eql .none (.tmp 53) (.lit (.int .i64 2)), some (some 51, true), []⟩, ⟨some 55, .pick (.tmp 51) (.tmp 54) (.lit (.bool false)), none, []⟩, ⟨some 56, .move (.tmp 55), none, []⟩, ⟨some 57, .move (.tmp 5), some (some 56, true), []⟩, ⟨some 58, .bin .eql .none (.tmp 57) (.lit (.int .i64 0)), some (some 56, true), []⟩, ⟨some 59, .pick (.tmp 56) (.tmp 58) (.lit (.bool false)), none, []⟩, ⟨some 60, .move (.tmp 59), none, []⟩, ⟨some 61, .move (.tmp 4), some (some 60, true), []⟩, ⟨some 62, .blen 1 (.tmp 61), some (some 60, true), []⟩, ⟨some 63, .bin .eql .none (.tmp 62) (.lit (.int .i64 1)), some (some 60, true), []⟩, ⟨some 64, .pick (.tmp 60) (.tmp 63) (.lit (.bool false)), none, []⟩, ⟨some 65, .move (.tmp 64), none, []⟩, ⟨some 66, .move (.tmp 4), some (some 65, true), []⟩, ⟨some 67, .iaddr 1 (.tmp 66) (.lit (.int .i64 0)), some (some 65, true), []⟩, ⟨some 68, .load none (.tmp 67), some (some 65, true), []⟩, ⟨some 69, .bslice 1 [.lit (.int .i64 0), .lit (.int .i64 1)] false, some (some 65, true), []⟩, ⟨some 70, .call (.lit (.func 36 [])) [.tmp 68, .tmp 69], some (some 65, true), []⟩, ⟨some 71, .pick (.tmp 65) (.tmp 70) (.lit (.bool false)), none, []⟩, ⟨some 72, .move (.tmp 71), none, []⟩, ⟨some 73, .move (.tmp 6), some (some 72, true), []⟩, ⟨some 74, .pick (.tmp 72) (.tmp 73) (.lit (.bool false)), none, []⟩, ⟨some 75, .move (.tmp 74), none, []⟩, ⟨some 76, .move (.tmp 7), some (some 75, true), []⟩, ⟨some 77, .bin .eql .none (.tmp 76) (.lit (.int .i64 0)), some (some 75, true), []⟩, ⟨some 78, .pick (.tmp 75) (.tmp 77) (.lit (.bool false)), none, []⟩, ⟨some 79, .move (.tmp 78), none, []⟩, ⟨some 80, .move (.tmp 8), some (some 79, true), []⟩, ⟨some 81, .un .not (.tmp 80), some (some 79, true), []⟩, ⟨some 82, .pick (.tmp 79) (.tmp 81) (.lit (.bool false)), none, []⟩, ⟨some 83, .move (.tmp 82), none, []⟩, ⟨some 84, .move (.tmp 9), some (some 83, true), []⟩, ⟨some 85, .bin .eql .none (.tmp 84) (.lit (.int .i64 0)), some (some 83, true), []⟩, ⟨some 86, .pick (.tmp 83) (.tmp 85) (.lit (.bool false)), none, []⟩, ⟨some 0, .move (.tmp 86), none, []⟩]) .ret))))))
set_option maxRecDepth 20000 in
set_option maxHeartbeats 1000000 in
theorem awake8_spec (σ : Store) : ACalls Tryz.prog 9 [] σ (isR (.bool true) σ) := by
  refine ACalls.intro (rs := [(.tmp 0)]) (by kernel_rfl) { own := [], ghosts := [] } Tryz.func9 (c := Tryz.f9.body.getD .skip) (by kernel_rfl) (by decide) (by rw [show Tryz.f9.ntmps = 87 by kernel_rfl]; exact Nat.le_of_ble_eq_true rfl) (by kernel_rfl) ?_
  intro hσ hids
  rw [show comp Tryz.prog { own := [], ghosts := [] } (Tryz.f9.body.getD .skip) = c_awake8 by kernel_rfl, show Tryz.f9.ntmps = 87 by kernel_rfl]
  unfold c_awake8
  simp only [go_sem, Int.reduceToNat, Int.reduceLE, Int.reduceLT, Nat.reduceBEq, Nat.reduceLT, Nat.reduceAdd, Nat.reduceLeDiff]
  have e1 := fun σ => Pairs_spec t0 σ t0_TB (fun _ => by decide)
  rw [t0_pairs] at e1
  refine ACalls.is (ACalls.wk (e1 _) ?_) ?_
  · repeat (first | exact Wk.refl _ | exact WkL.nil | exact WkLL.nil | exact WkL.refl _ | refine Wk.agg ?_ | refine Wk.sl _ ?_ | refine WkL.cons ?_ ?_ | refine WkLL.cons ?_ ?_)
  have e2 := fun σ => iGroups_spec t0 p0 .unk σ t0_TB (FB_small (by decide)) (fun _ => by decide)
  rw [t0_groups] at e2
  simp only [go_sem, Int.reduceToNat, Int.reduceLE, Int.reduceLT, Nat.reduceBEq, Nat.reduceLT, Nat.reduceAdd, Nat.reduceLeDiff]
  refine ACalls.is (ACalls.wk (e2 _) ?_) ?_
  · repeat (first | exact Wk.refl _ | exact WkL.nil | exact WkLL.nil | exact WkL.refl _ | refine Wk.agg ?_ | refine Wk.sl _ ?_ | refine WkL.cons ?_ ?_ | refine WkLL.cons ?_ ?_)
  have e3 := fun σ => Inductive_spec t0 p0 .unk σ t0_TB (FB_small (by decide)) (fun _ => by decide)
  rw [t0_ind] at e3
  simp only [go_sem, Int.reduceToNat, Int.reduceLE, Int.reduceLT, Nat.reduceBEq, Nat.reduceLT, Nat.reduceAdd, Nat.reduceLeDiff]
  refine ACalls.is (ACalls.wk (e3 _) ?_) ?_
  · repeat (first | exact Wk.refl _ | exact WkL.nil | exact WkLL.nil | exact WkL.refl _ | refine Wk.agg ?_ | refine Wk.sl _ ?_ | refine WkL.cons ?_ ?_ | refine WkLL.cons ?_ ?_)
  have e4 := fun σ => Inductive_spec t0 [[⟨0, false⟩]] .unk σ t0_TB (FB_small (by decide)) (fun _ => by decide)
  rw [t0_noind] at e4
  simp only [go_sem, Int.reduceToNat, Int.reduceLE, Int.reduceLT, Nat.reduceBEq, Nat.reduceLT, Nat.reduceAdd, Nat.reduceLeDiff]
  refine ACalls.is (ACalls.wk (e4 _) ?_) ?_
  · repeat (first | exact Wk.refl _ | exact WkL.nil | exact WkLL.nil | exact WkL.refl _ | refine Wk.agg ?_ | refine Wk.sl _ ?_ | refine WkL.cons ?_ ?_ | refine WkLL.cons ?_ ?_)
  have h1 : ((p0.length : Int) == 2) = true := rfl
  have h2 : (((1 : Nat) : Int) == 1) = true := rfl
  have h3 : ((1 : Int) == 1) = true := rfl
  simp only [go_sem, Int.reduceToNat, Int.reduceLE, Int.reduceLT, Nat.reduceBEq, Nat.reduceLT, Nat.reduceAdd, Nat.reduceLeDiff, h1, h2, h3, encL]
  refine ACalls.is (ACalls.wk (sameInts_spec [0, 1] [0, 1] .unk .unk _ (by decide) (by decide)) ?_) ?_
  · repeat (first | exact Wk.refl _ | exact WkL.nil | exact WkLL.nil | exact WkL.refl _ | refine Wk.agg ?_ | refine Wk.sl _ ?_ | refine WkL.cons ?_ ?_ | refine WkLL.cons ?_ ?_)
  rw [show decide (([0, 1] : List Int) = [0, 1]) = true by decide]
  simp only [go_sem, Int.reduceToNat, Int.reduceLE, Int.reduceLT, Nat.reduceBEq, Nat.reduceLT, Nat.reduceAdd, Nat.reduceLeDiff]
  first | exact rtk (.bool true) ⟨rfl, rfl⟩ | exact rtk0 (.bool true) ⟨rfl, rfl⟩
end Go.Proofs.YtocphglkceidhaaGreat
/- The abstract layer, part 32: new memory that is told as what may be written to at any time. -/
namespace Go.Ahl
def kindV : Value → Option Kind
  | .int k _ => some (.int k)
  | .string _ => some .str
  | .bool _ => some .bool
  | _ => none
theorem kindV_is {v : Value} {K : Kind} (h : kindV v = some K) : K.is v := by
  cases v <;> simp [kindV] at h <;> subst h <;> exact ⟨_, rfl⟩
/-- A cell's value, told as one that anyone may have written to. -/
inductive Wkn : AV → AV → Prop where
  | int (k : IntKind) (n : Int) : Wkn (.int k n) (.cell (.int k))
  | str (s : ByteArray) : Wkn (.str s) (.cell .str)
  | bool (b : Bool) : Wkn (.bool b) (.cell .bool)
  | nil : Wkn (.slice .nil []) (.wslice [])
  | slice (es es' : List (List AV)) (hl : es.length = es'.length) (hle : ∀ (i : Nat) e e', es[i]? = some e → es'[i]? = some e' → e.length = e'.length)
      (h : ∀ (i : Nat) e e', es[i]? = some e → es'[i]? = some e' → ∀ (j : Nat) x y, e[j]? = some x → e'[j]? = some y → Wkn x y) : Wkn (.slice .fresh es) (.wslice es')
/-- What was known in m1 of blocks from n on, told as what may be written to; of the others what m knows. -/
def Mem.weaken (m m1 : Mem) (n : Nat) : Mem where
  im b o := if b < n then m.im b o else (m1.im b o).bind fun v => if (kindV v).isSome then none else some v
  bs := m.bs
  mp := m.mp
  base := m.base
  wk b o := if b < n then m.wk b o else (m1.im b o).bind kindV
theorem get_both {α β : Type} {l : List α} {l' : List β} {i : Nat} {y : β} (h : l.length = l'.length) (e : l'[i]? = some y) : ∃ x, l[i]? = some x :=
  ⟨l[i]'(by rw [h]; exact lt_of_get e), List.getElem?_eq_getElem _⟩
theorem Wkn.rel {m m1 : Mem} {loc loc1 : List Loc} {n : Nat} (hb : m1.base = n) (hl0 : 0 < loc.length) {a b : AV} (h : Wkn a b) : ∀ {v : Value}, Rel m1 loc1 a v →
    Rel (m.weaken m1 n) loc b v ∧ (∀ K, b = .cell K → kindV v = some K) ∧ (b.isCell = false → kindV v = none) := by
  induction h with
  | int k i => intro v hr; cases hr; exact ⟨.cell _ _ ⟨_, rfl⟩, by rintro K e; injection e with e; subst e; rfl, by simp [AV.isCell]⟩
  | str s => intro v hr; cases hr; exact ⟨.cell _ _ ⟨_, rfl⟩, by rintro K e; injection e with e; subst e; rfl, by simp [AV.isCell]⟩
  | bool b => intro v hr; cases hr; exact ⟨.cell _ _ ⟨_, rfl⟩, by rintro K e; injection e with e; subst e; rfl, by simp [AV.isCell]⟩
  | nil =>
    intro v hr
    cases hr with
    | slice _ _ a cap sz b o f hcap htok hsz ha hc hr =>
      exact ⟨.wslice [] a cap 0 0 0 (fun _ _ => undef) hl0 hcap (by simp) (fun h => absurd rfl h) (by simp) (by simp) (by simp), by simp, fun _ => rfl⟩
  | slice es es' hl hle h ih =>
    intro v hr
    cases hr with
    | slice _ _ a cap sz b o f hcap htok hsz ha hc hr =>
      refine ⟨?_, by simp, fun _ => rfl⟩
      rw [hl]
      have hne : es' ≠ [] → es ≠ [] := fun q q' => by subst q'; exact q (List.length_eq_zero_iff.1 hl.symm)
      have hn : ∀ (i : Nat) e', es'[i]? = some e' → ¬ b < n := fun i e' he => by
        have hi := lt_of_get he
        have hq : es ≠ [] := by intro q; subst q; simp at hl; omega
        have := htok (by omega) b o (ha hq)
        omega
      have hcell : ∀ (i : Nat) e', es'[i]? = some e' → ∀ (j : Nat) y, e'[j]? = some y → ∃ x e, es[i]? = some e ∧ e[j]? = some x ∧ m1.im b (o + (i * sz + j)) = some (f i j) := fun i e' he j y hy => by
        obtain ⟨e, he1⟩ := get_both hl he
        obtain ⟨x, hx⟩ := get_both (hle i e e' he1 he) hy
        exact ⟨x, e, he1, hx, hc i (lt_of_get he1) j (by rw [← hsz e (List.mem_of_getElem? he1)]; exact lt_of_get hx)⟩
      refine .wslice es' a cap sz b o f hl0 (by omega) (fun e' he' => ?_) (fun q => ha (hne q)) (fun i e' he j K hK => ?_) (fun i e' he j y hy hyc => ?_) (fun i e' he j y hy hyc => ?_)
      · obtain ⟨i, hi, rfl⟩ := List.mem_iff_getElem.1 he'
        obtain ⟨e, he1⟩ := get_both hl (List.getElem?_eq_getElem hi)
        rw [← hle i e _ he1 (List.getElem?_eq_getElem hi)]; exact hsz e (List.mem_of_getElem? he1)
      · obtain ⟨x, e, h1, h2, h3⟩ := hcell i e' he j _ hK
        obtain ⟨_, q, _⟩ := ih i e e' h1 he j x _ h2 hK (hr i e h1 j x h2)
        simp only [Mem.weaken]; rw [if_neg (hn i e' he), h3]; exact q K rfl
      · obtain ⟨x, e, h1, h2, h3⟩ := hcell i e' he j _ hy
        obtain ⟨_, _, q⟩ := ih i e e' h1 he j x _ h2 hy (hr i e h1 j x h2)
        simp only [Mem.weaken]; rw [if_neg (hn i e' he), h3]; simp [q hyc]
      · obtain ⟨x, e, h1, h2, h3⟩ := hcell i e' he j _ hy
        exact (ih i e e' h1 he j x _ h2 hy (hr i e h1 j x h2)).1
/-- A value in which nothing is said of new memory. -/
def Unf (a : AV) : Prop := ∀ m v n, Rel m [] a v → Rel { m with base := n } [] a v
def UnfL (l : List AV) : Prop := ∀ x ∈ l, Unf x
theorem Unf.int (k : IntKind) (n : Int) : Unf (.int k n) := fun m v n h => by cases h; exact .int _ _
theorem Unf.str (s : ByteArray) : Unf (.str s) := fun m v n h => by cases h; exact .str _
theorem Unf.bool (b : Bool) : Unf (.bool b) := fun m v n h => by cases h; exact .bool _
theorem Unf.slice {t : Tok} (ht : t = .unk ∨ t = .nil ∨ t = .zero) {es : List (List AV)} (h : ∀ e ∈ es, UnfL e) : Unf (.slice t es) := fun m v n hr => by
  cases hr with
  | slice _ _ a cap sz b o f hcap htok hsz ha hc hr =>
    refine .slice t es a cap sz b o f hcap ?_ hsz ha hc (fun i e he j x hx => h e (List.mem_of_getElem? he) x (List.mem_of_getElem? hx) m _ n (hr i e he j x hx))
    rcases ht with rfl | rfl | rfl <;> exact htok
theorem Unf.map {α : Type} {enc : α → List AV} (h : ∀ x, UnfL (enc x)) (l : List α) : Unf (.slice .unk (l.map enc)) :=
  .slice (.inl rfl) fun e he => by obtain ⟨x, _, rfl⟩ := List.mem_map.1 he; exact h x
theorem Unf.nil : Unf (.slice .nil []) := .slice (.inr (.inl rfl)) (by simp)
theorem Unf.agg {l : List AV} (h : UnfL l) : Unf (.agg l) := fun m v n hr => by
  cases hr with
  | agg _ vs hlen hr => exact .agg _ vs hlen fun j x v e1 e2 => h x (List.mem_of_getElem? e1) m v n (hr j x v e1 e2)
theorem UnfL.nil : UnfL [] := fun x h => by simp at h
theorem UnfL.cons {x : AV} {l : List AV} (h : Unf x) (k : UnfL l) : UnfL (x :: l) := fun y hy => by
  rcases List.mem_cons.1 hy with rfl | hy
  · exact h
  · exact k y hy
theorem UnfL.app {l k : List AV} (h : UnfL l) (h' : UnfL k) : UnfL (l ++ k) := fun y hy => by
  rcases List.mem_append.1 hy with hy | hy
  · exact h y hy
  · exact h' y hy
def AV.flat : AV → Bool
  | .int .. | .bool _ | .str _ => true
  | _ => false
def Wkn1 (x y : AV) : Prop := Wkn x y ∨ (x = y ∧ x.flat = true)
def WknT (a b : AV) : Prop := Wkn1 a b ∨ ∃ xs ys, a = .tuple xs ∧ b = .tuple ys ∧ xs.length = ys.length ∧ ∀ (j : Nat) x y, xs[j]? = some x → ys[j]? = some y → Wkn1 x y
theorem Wkn1.rel {m m1 : Mem} {loc loc1 : List Loc} {n : Nat} (hb : m1.base = n) (hl0 : 0 < loc.length) {a b : AV} (h : Wkn1 a b) {v : Value} (hr : Rel m1 loc1 a v) : Rel (m.weaken m1 n) loc b v := by
  rcases h with h | ⟨rfl, h⟩
  · exact (h.rel hb hl0 hr).1
  · cases hr <;> simp [AV.flat] at h <;> constructor
theorem WknT.rel {m m1 : Mem} {loc loc1 : List Loc} {n : Nat} (hb : m1.base = n) (hl0 : 0 < loc.length) {a b : AV} (h : WknT a b) {v : Value} (hr : Rel m1 loc1 a v) : Rel (m.weaken m1 n) loc b v := by
  rcases h with h | ⟨xs, ys, rfl, rfl, hl, h⟩
  · exact h.rel hb hl0 hr
  · cases hr with
    | tuple _ vs hlen hr =>
      refine .tuple ys vs (by omega) fun j y v e1 e2 => ?_
      obtain ⟨x, hx⟩ := get_both hl e1
      exact (h j x y hx e1).rel hb hl0 (hr j x v hx e2)
/-- A call, whose result is new memory: this may be written to from now on. -/
theorem ACalls.weak {P : Program} {f : FuncId} {args : List AV} {R : Cont} {Q : AV → Prop} (h : ACalls P f args [] R) (hab : ∀ r σ', R r σ' → ∃ b, WknT r b ∧ Q b) (hi : ∀ x ∈ args, Ids 0 x) (hu : UnfL args) (σ : Store) :
    ACalls P f args σ (fun r σ' => Q r ∧ σ' = σ ++ [.dead]) := by
  intro m loc w vs hs ha
  let m0 : Mem := { m.strip with base := w.heap.size }
  have hS0 : SRel m0 [] [] w := by
    have h1 := (srel_base hs).strip fun _ _ q => q.strip
    exact ⟨h1.len, h1.im, h1.bs, by intro i l o e; simp at e, by intro i j l l' o o' b e; simp at e, h1.lt, h1.mp, by intro i l o b e; simp at e,
      ⟨Nat.le_refl _, by rintro b ⟨i, e | ⟨_, _, _, e, _⟩⟩ <;> simp at e, fun b o K e => by simp [m0, Mem.strip] at e, fun b o v q e => by
        have := hs.im_lt (b := b) (o := o) (v := v) e
        have q : w.heap.size ≤ b := q
        omega⟩⟩
  have hA : ArgsRel m0 [] args vs := by
    refine ⟨ha.1, fun j x v e1 e2 => ?_⟩
    have h1 := (ha.2 j x v e1 e2).take (n := 0) (hi x (List.mem_of_getElem? e1))
    rw [List.take_zero] at h1
    exact hu x (List.mem_of_getElem? e1) _ _ _ h1.strip
  have key : ∀ v w', ARet [] m0 w R v w' → ARet loc m w (fun r σ' => Q r ∧ σ' = σ ++ [.dead]) v w' := by
    rintro v w' ⟨r, σ', m1, loc1, hR, hrel, hsr, hext⟩
    obtain ⟨b, hb1, hb2⟩ := hab r σ' hR
    have hbase : m1.base = w.heap.size := hext.mem.base
    have hfr : ∀ k, k < w.heap.size → w'.heap[k]? = w.heap[k]? := fun k hk => hext.frame k hk (by rintro ⟨i, e | ⟨_, _, _, e, _⟩⟩ <;> simp at e) (fun _ => rfl)
    let m2 := m.weaken m1 w.heap.size
    have him : ∀ k o, k < w.heap.size → m2.im k o = m.im k o := fun k o hk => if_pos hk
    have hwk : ∀ k o, k < w.heap.size → m2.wk k o = m.wk k o := fun k o hk => if_pos hk
    have hwlt : ∀ k o K, m.wk k o = some K → k < w.heap.size := fun k o K e => by
      obtain ⟨_, _, arr, t, fz, v, h3, _⟩ := hs.ok.wk k o K e
      exact lt_of_heap h3
    have hle : m.le m2 := ⟨fun k o v e => by rw [him k o (hs.im_lt e)]; exact e, fun _ _ e => e, fun _ _ e => e, fun k o K e => by rw [hwk k o (hwlt k o K e)]; exact e, rfl⟩
    have hnew : ∀ k o v, ¬ k < w.heap.size → m2.im k o = some v → m1.im k o = some v := fun k o v hk e => by
      simp only [m2, Mem.weaken] at e
      rw [if_neg hk] at e
      cases e1 : m1.im k o with
      | none => rw [e1] at e; simp at e
      | some u =>
        rw [e1] at e; simp only [Option.bind_some] at e
        split at e
        · simp at e
        · exact e
    have hS2 : SRel m2 loc σ w' := by
      refine ⟨hs.len, ?_, ?_, ?_, hs.inj, fun b e => Nat.lt_of_lt_of_le (hs.lt b e) hext.size, ?_, hs.mpo, ?_⟩
      · intro k o v e
        by_cases hk : k < w.heap.size
        · rw [him k o hk] at e
          have := hs.im k o v e
          simpa [World.cell?, hfr k hk] using this
        · exact hsr.im k o v (hnew k o v hk e)
      · intro k n e
        rw [hfr k (hs.bs_lt (b := k) (n := n) e)]; exact hs.bs k n e
      · intro i l o e1 e2
        exact (hs.obj i l o e1 e2).mono hle (.refl _ _) (fun k e => hfr k (hs.lt k (own_names e1 e))) (fun k off e => him k off (hs.lt k (own_names e1 e)))
      · intro k e q
        rw [hfr k (hs.mp_lt (b := k) (e := e) q)]; exact hs.mp k e q
      · refine ⟨Nat.le_trans hs.ok.low hext.size, hs.ok.own, fun k o K e => ?_, fun k o v q e => ?_⟩
        · by_cases hk : k < w.heap.size
          · rw [hwk k o hk] at e
            obtain ⟨h1, h2, arr, t, fz, v, h3, h4, h5, h6⟩ := hs.ok.wk k o K e
            exact ⟨h1, by rw [him k o hk]; exact h2, arr, t, fz, v, by rw [hfr k hk]; exact h3, h4, h5, by rw [frozen_same (hfr k hk)]; exact h6⟩
          · simp only [m2, Mem.weaken] at e
            rw [if_neg hk] at e
            cases e1 : m1.im k o with
            | none => rw [e1] at e; simp at e
            | some u =>
              rw [e1] at e; simp only [Option.bind_some] at e
              have hc := hsr.im k o u e1
              refine ⟨fun q => hk (hs.lt k q), ?_, ?_⟩
              · simp only [m2, Mem.weaken]; rw [if_neg hk, e1]; simp [e]
              · have hz := hsr.ok.fz k o u (by rw [hbase]; omega) e1
                unfold World.cell? at hc
                split at hc
                · rename_i arr t fz hh
                  simp at hc
                  exact ⟨arr, t, fz, u, hh, hc, kindV_is e, hz⟩
                · simp at hc
        · by_cases hk : k < w.heap.size
          · rw [him k o hk] at e
            rw [frozen_same (hfr k hk)]; exact hs.ok.fz k o v q e
          · exact hsr.ok.fz k o v (by rw [hbase]; omega) (hnew k o v hk e)
    have hE2 : Ext loc.length m loc w m2 loc w' := ⟨hext.os, hext.tape, hext.output, hext.drawn, hext.size, hle, .refl _ _, fun _ e => .inl e, fun k hk _ _ => hfr k hk, fun k o K e => by
      by_cases hk : k < w.heap.size
      · rw [hwk k o hk] at e; exact .inl e
      · exact .inr (by omega)⟩
    obtain ⟨g1, g2⟩ := hS2.ghost loc.length .nowhere .dead (by rintro b (e | ⟨_, _, _, e, _⟩) <;> simp at e) (by intro b; simp [own]) trivial
    exact ⟨b, _, m2, _, ⟨hb2, rfl⟩, hb1.rel hbase (by simp) hrel, g1, hE2.trans g2⟩
  rcases h m0 [] w vs hS0 hA with ⟨fn, h1, h2, h3, h4⟩ | ⟨v, w', h1, h2⟩
  · exact .inl ⟨fn, h1, h2, h3, h4.mono fun e w' ⟨v, e1, e2⟩ => ⟨v, e1, key _ _ e2⟩⟩
  · exact .inr ⟨v, w', h1, key _ _ h2⟩
theorem Wkn.map {α : Type} {enc enc' : α → List AV} (hl : ∀ x, (enc x).length = (enc' x).length) (h : ∀ x (j : Nat) a b, (enc x)[j]? = some a → (enc' x)[j]? = some b → Wkn a b) (l : List α) :
    Wkn (.slice .fresh (l.map enc)) (.wslice (l.map enc')) := by
  have hx : ∀ (i : Nat) e e', (l.map enc)[i]? = some e → (l.map enc')[i]? = some e' → ∃ x, e = enc x ∧ e' = enc' x := by
    intro i e e' h1 h2
    rw [List.getElem?_map] at h1 h2
    cases q : l[i]? with
    | none => rw [q] at h1; simp at h1
    | some x => rw [q] at h1 h2; simp at h1 h2; exact ⟨x, h1.symm, h2.symm⟩
  refine .slice _ _ (by simp) (fun i e e' h1 h2 => ?_) (fun i e e' h1 h2 j x y h3 h4 => ?_)
  · obtain ⟨x, rfl, rfl⟩ := hx i e e' h1 h2; exact hl x
  · obtain ⟨z, rfl, rfl⟩ := hx i e e' h1 h2; exact h z j x y h3 h4
/-- Literals, numbers, clauses, lists as what may be written to. -/
def wLit (_ : FLit) : List AV := [.cell (.int .i64), .cell .bool]
def wI (_ : Int) : List AV := [.cell (.int .i64)]
def wC (l : List FLit) : List AV := [.wslice (l.map wLit)]
def wL (l : List Int) : List AV := [.wslice (l.map wI)]
theorem wkn_lits (l : List FLit) : Wkn (.slice .fresh (l.map encLit)) (.wslice (l.map wLit)) :=
  Wkn.map (enc := encLit) (enc' := wLit) (fun _ => rfl) (fun x j a b h1 h2 => by
    match j with
    | 0 => simp [encLit, wLit] at h1 h2; subst h1; subst h2; exact .int _ _
    | 1 => simp [encLit, wLit] at h1 h2; subst h1; subst h2; exact .bool _
    | j + 2 => simp [encLit] at h1) l
theorem wkn_ints (l : List Int) : Wkn (.slice .fresh (l.map encI)) (.wslice (l.map wI)) :=
  Wkn.map (enc := encI) (enc' := wI) (fun _ => rfl) (fun x j a b h1 h2 => by
    match j with
    | 0 => simp [encI, wI] at h1 h2; subst h1; subst h2; exact .int _ _
    | j + 1 => simp [encI] at h1) l
theorem wkn_clauses (f : List (List FLit)) : Wkn (.slice .fresh (f.map encCf)) (.wslice (f.map wC)) :=
  Wkn.map (enc := encCf) (enc' := wC) (fun _ => rfl) (fun x j a b h1 h2 => by
    match j with
    | 0 => simp [encCf, wC] at h1 h2; subst h1; subst h2; exact wkn_lits x
    | j + 1 => simp [encCf] at h1) f
theorem wkn_lists (f : List (List Int)) : Wkn (.slice .fresh (f.map encLf)) (.wslice (f.map wL)) :=
  Wkn.map (enc := encLf) (enc' := wL) (fun _ => rfl) (fun x j a b h1 h2 => by
    match j with
    | 0 => simp [encLf, wL] at h1 h2; subst h1; subst h2; exact wkn_ints x
    | j + 1 => simp [encLf] at h1) f
theorem WknT.of {a b : AV} (h : Wkn a b) : WknT a b := .inl (.inl h)
theorem WknT.tuple {xs ys : List AV} (hl : xs.length = ys.length) (h : ∀ (j : Nat) x y, xs[j]? = some x → ys[j]? = some y → Wkn1 x y) : WknT (.tuple xs) (.tuple ys) := .inr ⟨xs, ys, rfl, rfl, hl, h⟩
theorem WknT.two {a b c d : AV} (h : Wkn1 a c) (k : Wkn1 b d) : WknT (.tuple [a, b]) (.tuple [c, d]) := .tuple rfl fun j x y h1 h2 => by
  match j with
  | 0 => simp at h1 h2; subst h1; subst h2; exact h
  | 1 => simp at h1 h2; subst h1; subst h2; exact k
  | j + 2 => simp at h1
theorem Wkn1.flat {a : AV} (h : a.flat = true) : Wkn1 a a := .inr ⟨rfl, h⟩
theorem unf_encLit (x : FLit) : UnfL (encLit x) := .cons (.int _ _) (.cons (.bool _) .nil)
theorem unf_encI (x : Int) : UnfL (encI x) := .cons (.int _ _) .nil
theorem unf_encT (x : ByteArray) : UnfL (encT x) := .cons (.str _) .nil
theorem unf_encC (x : List FLit) : UnfL (encC x) := .cons (.map unf_encLit x) .nil
theorem unf_encE (x : FEff) : UnfL (encE x) := .cons (.map unf_encLit _) (.cons (.int _ _) (.cons (.bool _) .nil))
theorem unf_encA (x : FAct) : UnfL (encA x) := .cons (.str _) (.cons (.int _ _) (.cons (.map unf_encLit _) (.cons (.map unf_encE _) .nil)))
theorem unf_task (t : FTask) : Unf (.agg (encTask t)) := .agg (.cons (.map unf_encT _) (.cons (.map unf_encI _) (.cons (.map unf_encLit _) (.cons (.map unf_encA _) .nil))))
end Go.Ahl
/- The abstract layer, part 33: what a row's cells hold, told in another way; nothing in a cell, as the right to append. -/
namespace Go.Ahl
theorem SRel.rewk {m : Mem} {loc : List Loc} {σ : Store} {w : World} (h : SRel m loc σ w) (id : Nat) {xs ys : List AV} (hs : σ[id]? = some (.row xs)) (hw : WkL xs ys) : SRel m loc (σ.set id (.row ys)) w where
  len := by simp [h.len]
  im := h.im
  bs := h.bs
  obj := by
    intro i l o h1 h2
    rcases get_set h2 with ⟨rfl, rfl⟩ | ⟨_, h2⟩
    · have := h.obj _ l _ h1 hs
      cases l with
      | nowhere =>
        have e : xs = [] := this
        subst e
        cases hw
        exact rfl
      | tok sz f => exact this.elim
      | blk b =>
        obtain ⟨arr, t, h1, h2, h3, h4, h5⟩ := this
        refine ⟨arr, t, h1, h2, by rw [← hw.len]; exact h3, fun j z v e1 e2 => ?_, h5⟩
        obtain ⟨x, q1, q2⟩ := hw.get j z e1
        exact q2 _ _ _ (h4 j x v q1 e2)
    · exact h.obj i l o h1 h2
  inj := by
    intro i j l l' o o' b h1 h2 h3 h4 w1 w2
    have fix : ∀ {i : Nat} {l : Loc} {o : AObj}, (σ.set id (.row ys))[i]? = some o → own l o = some b → ∃ o2, σ[i]? = some o2 ∧ own l o2 = some b := by
      intro i l o h3 w1
      rcases get_set h3 with ⟨rfl, rfl⟩ | ⟨_, h3⟩
      · exact ⟨_, hs, by rw [own_row l xs ys]; exact w1⟩
      · exact ⟨_, h3, w1⟩
    obtain ⟨o2, q1, q2⟩ := fix h3 w1
    obtain ⟨o3, q3, q4⟩ := fix h4 w2
    exact h.inj i j l l' o2 o3 b h1 h2 q1 q3 q2 q4
  lt := h.lt
  mp := h.mp
  mpo := by
    intro i l o b h1 h2 w1
    rcases get_set h2 with ⟨rfl, rfl⟩ | ⟨_, h2⟩
    · exact h.mpo _ l _ b h1 hs (by rw [own_row l xs ys]; exact w1)
    · exact h.mpo i l o b h1 h2 w1
  ok := h.ok
theorem Ghost.rewk {n0 nt : Nat} {s : Slots} {σ : Store} (id : Nat) {xs ys : List AV} (hs : σ[id]? = some (.row xs)) (hw : WkL xs ys) : Ghost n0 nt s σ s (σ.set id (.row ys)) :=
  fun m loc w t _ h1 h2 => ⟨m, loc, h1.rewk id hs hw, h2, .refl _ _ _ _⟩
/-- The nil in a cell of a row becomes a slice that one may append to. -/
theorem Ghost.tokRow {n0 nt : Nat} {s : Slots} {σ : Store} (id off sz : Nat) {cells : List AV} (hs : σ[id]? = some (.row cells)) (hx : cells[off]? = some (.slice .nil [])) :
    Ghost n0 nt s σ s ((σ ++ [AObj.grow sz 0]).set id (AObj.row (cells.set off (AV.slice (.grow σ.length) [])))) := by
  intro m loc w tm hl hS hr
  obtain ⟨g1, g2⟩ := hS.tok0 n0 sz
  have hid := lt_of_get hs
  have hid2 : id < loc.length := by rw [hS.len]; exact hid
  have hs' : (σ ++ [AObj.grow sz 0])[id]? = some (.row cells) := by rw [List.getElem?_append_left hid]; exact hs
  have hloc : (loc ++ [.tok sz Ahl.tok0])[id]? = some (loc[id]) := by rw [List.getElem?_append_left hid2]; exact List.getElem?_eq_getElem hid2
  have hobj := g1.obj id _ _ hloc hs'
  generalize loc[id] = l at hloc hobj
  cases l with
  | blk b =>
    obtain ⟨arr, t, e1, e2, e3, e4, e5⟩ := hobj
    have key := g1.turn n0 (m' := m) (w' := w) (l' := .blk b) (.row (cells.set off (.slice (.grow σ.length) []))) hloc hs' (.refl m) (.refl _) (fun _ _ _ => rfl) (Nat.le_refl _) (fun _ _ _ _ => rfl) ?_ ?_ ?_ (fun b' q => .inl q) ?_ rfl rfl rfl (Nat.le_refl _)
    · rw [set_same hloc] at key
      exact ⟨m, _, key.1, ⟨hr.size, fun i => (hr.rel i).mono (.refl m) (.app _ _ _)⟩, g2.trans key.2⟩
    · intro k off v hk e'
      refine ⟨g1.im k off v e', g1.ok.fz k off v ?_ e'⟩
      rcases hk with hk | hk
      · exact g1.ok.own k (own_names hloc hk)
      · exact Nat.le_trans g1.ok.low hk
    · intro k n hn
      obtain ⟨arr', t', fz, q1, q2⟩ := g1.bs k n hn
      exact .inr ⟨arr', t', fz, q1, q2⟩
    · rintro b' ⟨sz', f, k, q, _⟩; simp at q
    · rw [set_same hloc]
      refine ⟨arr, t, e1, e2, by simpa using e3, ?_, e5⟩
      intro j x v hj hv
      rcases get_set hj with ⟨rfl, rfl⟩ | ⟨_, hj⟩
      · have h1 := e4 off (.slice .nil []) v hx hv
        cases h1 with
        | slice _ _ ad cap sz' bb o f hcap htok =>
          obtain ⟨h1, h2⟩ := htok
          subst h1; subst h2
          exact rel_tok0 sz none hS
      · exact e4 j x v hj hv
  | nowhere => have e : cells = [] := hobj; subst e; simp at hx
  | tok _ _ => exact hobj.elim
/-- Some slots and objects are kept, and of an empty slice the right to append begins. -/
theorem Ghost.beginT {nt : Nat} {s : Slots} {σ : Store} (l : Store) (t sz : Nat) (r : Slots) (h1 : TellW s (σ.length + l.length) ((t, .slice .nil []) :: r)) (h2 : IdsS (σ ++ l).length (σ ++ l)) :
    Ghost σ.length nt s (σ ++ l) ((t, .slice (.grow (σ.length + l.length)) []) :: r) (σ ++ (l ++ [.grow sz 0])) := by
  have := Ghost.begin0 (nt := nt) (n0 := σ.length) (σ := σ ++ l) t sz r (by simp) (by rw [List.length_append]; exact h1) h2
  rw [List.length_append, List.append_assoc] at this
  exact this
end Go.Ahl
