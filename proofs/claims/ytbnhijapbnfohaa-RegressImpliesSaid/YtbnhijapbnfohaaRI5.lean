/- The law RegressImplies of layer 7 answers true for every input; there are no conditions beyond those of the given row. -/
import Derived.Test.YtbnhijapbnfohaaRI4
set_option linter.unusedVariables false
set_option linter.unusedSimpArgs false
namespace Go.Proofs.Ytbnhijapbnfohaa
open Go.Ahl Go.ChangeShapes Go.WideShapes Go.ChangeAt Go.RowKit
theorem fineE_fault (t : FTask) : ∀ fs : List (List (List FLit)), fs ≠ [] → fineE t fs = if validB t then (if fs.all (isForm t.facts.length) then 0 else 70) else 10
  | [], h => absurd rfl h
  | [f], _ => by
    rw [fineE]; unfold checkE
    cases h1 : validB t <;> cases h2 : isForm t.facts.length f <;> simp [h2, fineE]
  | f :: g :: r, _ => by
    rw [fineE, fineE_fault t (g :: r) (by simp), List.all_cons (a := f)]; unfold checkE
    cases h1 : validB t <;> cases h2 : isForm t.facts.length f <;> simp [h2]
theorem fewB_size {t : FTask} {fs : List (List (List FLit))} (h : fewB t fs = true) : taskSize t ≤ 400 ∧ (fs.map formSize).sum ≤ 2400 := by
  rw [fewB, fewT, Bool.and_eq_true, Bool.and_eq_true, decide_eq_true_eq, decide_eq_true_eq] at h
  exact ⟨h.1.1, h.2⟩
def c_law : CCode := .seq (.ops [⟨some 4, .box (.tmp 0), none, []⟩, ⟨some 8, .move (.lit (.bool false)), none, []⟩]) (.seq (.seq (.ops [⟨some 15, .load (some 4) (.tmp 4), none, []⟩, ⟨some 16, .move (.tmp 1), none, []⟩, ⟨some 17, .move (.tmp 2), none, []⟩, ⟨some 18, .bslice 1 [.tmp 16, .tmp 17] false, none, []⟩, ⟨some 19, .call (.lit (.func 7 [])) [.tmp 15, .tmp 18], none, []⟩, ⟨some 20, .un .not (.tmp 19), none, []⟩, ⟨some 21, .move (.tmp 20), none, []⟩, ⟨some 22, .move (.tmp 3), some (some 21, false), []⟩, ⟨some 23, .blen 1 (.tmp 22), some (some 21, false), []⟩, ⟨some 24, .bin .gtr .none (.tmp 23) (.lit (.int .i64 60)), some (some 21, false), []⟩, ⟨some 25, .pick (.tmp 21) (.lit (.bool true)) (.tmp 24), none, []⟩, ⟨some 26, .move (.tmp 25), none, []⟩, ⟨some 27, .faddr 0 (.tmp 4), some (some 26, false), []⟩, ⟨some 28, .load none (.tmp 27), some (some 26, false), []⟩, ⟨some 29, .blen 1 (.tmp 28), some (some 26, false), []⟩, ⟨some 30, .bin .gtr .none (.tmp 29) (.lit (.int .i64 16)), some (some 26, false), []⟩, ⟨some 31, .pick (.tmp 26) (.lit (.bool true)) (.tmp 30), none, []⟩]) (.cond (.tmp 31) (.seq (.ops [⟨some 32, .call (.lit (.func 8 [])) [], none, []⟩, ⟨some 8, .move (.tmp 32), none, []⟩]) .ret) .skip)) (.seq (.ops [⟨some 34, .load (some 4) (.tmp 4), none, []⟩, ⟨some 35, .move (.tmp 1), none, []⟩, ⟨some 36, .move (.tmp 2), none, []⟩, ⟨some 37, .call (.lit (.func 9 [])) [.tmp 34, .tmp 35, .tmp 36], none, []⟩, ⟨some 33, .move (.tmp 37), none, []⟩, ⟨some 38, .extract (.tmp 33) 0, none, []⟩, ⟨some 39, .extract (.tmp 33) 1, none, []⟩, ⟨some 40, .extract (.tmp 33) 2, none, []⟩, ⟨some 9, .move (.tmp 38), none, []⟩, ⟨some 10, .move (.tmp 39), none, []⟩, ⟨some 11, .move (.tmp 40), none, []⟩]) (.seq (.seq (.ops [⟨some 41, .load (some 4) (.tmp 4), none, []⟩, ⟨some 42, .move (.tmp 1), none, []⟩, ⟨some 43, .move (.tmp 2), none, []⟩, ⟨some 44, .bslice 1 [.tmp 42, .tmp 43] false, none, []⟩, ⟨some 45, .call (.lit (.func 10 [])) [.tmp 41, .tmp 44], none, []⟩, ⟨some 12, .move (.tmp 45), none, []⟩]) (.seq (.ops [⟨some 46, .move (.tmp 12), none, []⟩, ⟨some 47, .bin .neq .none (.tmp 46) (.lit (.int .i64 0)), none, []⟩]) (.cond (.tmp 47) (.seq (.ops [⟨some 48, .move (.tmp 11), none, []⟩, ⟨some 49, .move (.tmp 12), none, []⟩, ⟨some 50, .bin .eql .none (.tmp 48) (.tmp 49), none, []⟩, ⟨some 51, .move (.tmp 50), none, []⟩, ⟨some 52, .move (.tmp 9), some (some 51, true), []⟩, ⟨some 53, .un .not (.tmp 52), some (some 51, true), []⟩, ⟨some 54, .pick (.tmp 51) (.tmp 53) (.lit (.bool false)), none, []⟩, ⟨some 55, .move (.tmp 54), none, []⟩, ⟨some 56, .move (.tmp 10), some (some 55, true), []⟩, ⟨some 57, .blen 1 (.tmp 56), some (some 55, true), []⟩, ⟨some 58, .bin .eql .none (.tmp 57) (.lit (.int .i64 0)), some (some 55, true), []⟩, ⟨some 59, .pick (.tmp 55) (.tmp 58) (.lit (.bool false)), none, []⟩, ⟨some 60, .move (.tmp 59), none, []⟩, ⟨some 61, .call (.lit (.func 8 [])) [], some (some 60, true), []⟩, ⟨some 62, .pick (.tmp 60) (.tmp 61) (.lit (.bool false)), none, []⟩, ⟨some 8, .move (.tmp 62), none, []⟩]) .ret) .skip))) (.seq (.seq (.ops [⟨some 63, .move (.tmp 11), none, []⟩, ⟨some 64, .bin .neq .none (.tmp 63) (.lit (.int .i64 0)), none, []⟩, ⟨some 65, .move (.tmp 64), none, []⟩, ⟨some 66, .move (.tmp 9), some (some 65, false), []⟩, ⟨some 67, .move (.tmp 66), some (some 65, false), []⟩, ⟨some 68, .move (.tmp 10), some (some 67, true), []⟩, ⟨some 69, .blen 1 (.tmp 68), some (some 67, true), []⟩, ⟨some 70, .bin .gtr .none (.tmp 69) (.lit (.int .i64 0)), some (some 67, true), []⟩, ⟨some 71, .pick (.tmp 67) (.tmp 70) (.lit (.bool false)), some (some 65, false), []⟩, ⟨some 72, .pick (.tmp 65) (.lit (.bool true)) (.tmp 71), none, []⟩]) (.cond (.tmp 72) (.seq (.ops [⟨some 8, .move (.lit (.bool false)), none, []⟩]) .ret) .skip)) (.seq (.seq (.ops [⟨some 73, .move (.tmp 9), none, []⟩, ⟨some 74, .un .not (.tmp 73), none, []⟩]) (.cond (.tmp 74) (.seq (.ops [⟨some 75, .load (some 4) (.tmp 4), none, []⟩, ⟨some 76, .move (.tmp 10), none, []⟩, ⟨some 77, .call (.lit (.func 11 [])) [.tmp 75, .tmp 76], none, []⟩, ⟨some 78, .move (.tmp 77), none, []⟩, ⟨some 79, .move (.tmp 10), some (some 78, true), []⟩, ⟨some 80, .move (.tmp 1), some (some 78, true), []⟩, ⟨some 81, .call (.lit (.func 12 [])) [.tmp 79, .tmp 80], some (some 78, true), []⟩, ⟨some 82, .pick (.tmp 78) (.tmp 81) (.lit (.bool false)), none, []⟩, ⟨some 83, .move (.tmp 82), none, []⟩, ⟨some 84, .move (.tmp 10), some (some 83, true), []⟩, ⟨some 85, .move (.tmp 2), some (some 83, true), []⟩, ⟨some 86, .call (.lit (.func 12 [])) [.tmp 84, .tmp 85], some (some 83, true), []⟩, ⟨some 87, .un .not (.tmp 86), some (some 83, true), []⟩, ⟨some 88, .pick (.tmp 83) (.tmp 87) (.lit (.bool false)), none, []⟩, ⟨some 89, .move (.tmp 88), none, []⟩, ⟨some 90, .call (.lit (.func 8 [])) [], some (some 89, true), []⟩, ⟨some 91, .pick (.tmp 89) (.tmp 90) (.lit (.bool false)), none, []⟩, ⟨some 8, .move (.tmp 91), none, []⟩]) .ret) .skip)) (.seq (.seq (.ops [⟨some 92, .load (some 4) (.tmp 4), none, []⟩, ⟨some 93, .move (.tmp 3), none, []⟩, ⟨some 94, .call (.lit (.func 13 [])) [.tmp 92, .tmp 93], none, []⟩, ⟨some 95, .blen 1 (.tmp 94), none, []⟩, ⟨some 96, .move (.lit (.int .i64 0)), none, []⟩]) (.block 0 (.loop (.seq (.ops [⟨some 97, .bin .lss .none (.tmp 96) (.tmp 95), none, []⟩]) (.seq (.cond (.tmp 97) .skip (.exit 0)) (.seq (.block 1 (.seq (.ops [⟨some 98, .iaddr 1 (.tmp 94) (.tmp 96), none, []⟩, ⟨some 99, .load none (.tmp 98), none, []⟩, ⟨some 14, .move (.tmp 99), none, []⟩]) (.seq (.ops [⟨some 100, .move (.tmp 14), none, []⟩, ⟨some 101, .move (.tmp 1), none, []⟩, ⟨some 102, .call (.lit (.func 12 [])) [.tmp 100, .tmp 101], none, []⟩, ⟨some 103, .move (.tmp 102), none, []⟩, ⟨some 104, .move (.tmp 14), some (some 103, true), []⟩, ⟨some 105, .move (.tmp 2), some (some 103, true), []⟩, ⟨some 106, .call (.lit (.func 12 [])) [.tmp 104, .tmp 105], some (some 103, true), []⟩, ⟨some 107, .un .not (.tmp 106), some (some 103, true), []⟩, ⟨some 108, .pick (.tmp 103) (.tmp 107) (.lit (.bool false)), none, []⟩]) (.cond (.tmp 108) (.seq (.ops [⟨some 8, .move (.lit (.bool false)), none, []⟩]) .ret) .skip)))) (.ops [⟨some 109, .bin .add .none (.tmp 96) (.lit (.int .i64 1)), none, []⟩, ⟨some 96, .move (.tmp 109), none, []⟩]))))))) (.seq (.ops [⟨some 110, .call (.lit (.func 8 [])) [], none, []⟩, ⟨some 8, .move (.tmp 110), none, []⟩]) .ret)))))))
set_option maxRecDepth 20000 in
set_option maxHeartbeats 1000000 in
theorem law_spec (t : FTask) (f g : List (List FLit)) (l : List (List Int)) (ht : TB t) (hf : FB f) (hg : FB g) (hl : okL (okL okI) l) (σ : Store) :
    ACalls Try.prog 3 [.agg (encTask t), .slice .unk (f.map encC), .slice .unk (g.map encC), .slice .unk (l.map encL)] σ (isR (.bool true) σ) := by
  refine ACalls.intro (rs := [(.tmp 8)]) (by kernel_rfl) { own := [], ghosts := [] } Try.func3 (c := Try.f3.body.getD .skip) (by kernel_rfl) (by decide) (by rw [show Try.f3.ntmps = 111 by kernel_rfl]; exact Nat.le_of_ble_eq_true rfl) (by kernel_rfl) ?_
  intro hσ hids
  rw [show comp Try.prog { own := [], ghosts := [] } (Try.f3.body.getD .skip) = c_law by kernel_rfl, show Try.f3.ntmps = 111 by kernel_rfl]
  unfold c_law
  have hfs : ∀ x ∈ [f, g], FB x := by intro x hx; simp at hx; rcases hx with rfl | rfl; exact hf; exact hg
  simp only [go_sem, Int.reduceToNat, Int.reduceLE, Int.reduceLT, Nat.reduceBEq, Nat.reduceLT, Nat.reduceAdd, Nat.reduceLeDiff, encTask]
  refine ACalls.is (ACalls.wk (few_spec t [f, g] .unk _ ht (by simp) hfs) (.cons (.refl _) (WkL.one (wk_two _ _ _ _ _)))) ?_
  cases hfew : fewB t [f, g]
  · simp only [go_sem, Int.reduceToNat, Int.reduceLE, Int.reduceLT, Nat.reduceBEq, Nat.reduceLT, Nat.reduceAdd, Nat.reduceLeDiff]
    refine (awake_spec _).is ?_
    simp only [go_sem, Int.reduceToNat, Int.reduceLE, Int.reduceLT, Nat.reduceBEq, Nat.reduceLT, Nat.reduceAdd, Nat.reduceLeDiff]
    first | exact rtk (.bool true) ⟨rfl, rfl⟩ | exact rtk0 (.bool true) ⟨rfl, rfl⟩
  obtain ⟨hsz, _⟩ := fewB_size hfew
  by_cases h60 : (l.length : Int) > 60
  · simp only [go_sem, Int.reduceToNat, Int.reduceLE, Int.reduceLT, Nat.reduceBEq, Nat.reduceLT, Nat.reduceAdd, Nat.reduceLeDiff, h60]
    refine (awake_spec _).is ?_
    simp only [go_sem, Int.reduceToNat, Int.reduceLE, Int.reduceLT, Nat.reduceBEq, Nat.reduceLT, Nat.reduceAdd, Nat.reduceLeDiff]
    first | exact rtk (.bool true) ⟨rfl, rfl⟩ | exact rtk0 (.bool true) ⟨rfl, rfl⟩
  by_cases h16 : (t.facts.length : Int) > 16
  · simp only [go_sem, Int.reduceToNat, Int.reduceLE, Int.reduceLT, Nat.reduceBEq, Nat.reduceLT, Nat.reduceAdd, Nat.reduceLeDiff, h60, h16, encTask]
    refine (awake_spec _).is ?_
    simp only [go_sem, Int.reduceToNat, Int.reduceLE, Int.reduceLT, Nat.reduceBEq, Nat.reduceLT, Nat.reduceAdd, Nat.reduceLeDiff]
    first | exact rtk (.bool true) ⟨rfl, rfl⟩ | exact rtk0 (.bool true) ⟨rfl, rfl⟩
  simp only [go_sem, Int.reduceToNat, Int.reduceLE, Int.reduceLT, Nat.reduceBEq, Nat.reduceLT, Nat.reduceAdd, Nat.reduceLeDiff, h60, h16, encTask]
  refine (Implies_spec t f g .unk .unk _ ht hf hg (by omega)).mono ?_
  have hflt := fault_spec t [f, g] .unk
  rw [← fineE_fault t [f, g] (by simp)] at hflt
  rintro _ _ ⟨rfl, ⟨h1, rfl⟩ | ⟨h1, hp⟩⟩
  · have h1' : (fineE t [f, g] != 0) = true := by simpa using h1
    have h1'' : (fineE t [f, g] == fineE t [f, g]) = true := beq_self_eq_true _
    simp only [go_sem, Int.reduceToNat, Int.reduceLE, Int.reduceLT, Nat.reduceBEq, Nat.reduceLT, Nat.reduceAdd, Nat.reduceLeDiff, encTask]
    refine ACalls.is (ACalls.wk (hflt _ ht (by simp) hfs) (.cons (.refl _) (WkL.one (wk_two _ _ _ _ _)))) ?_
    simp only [go_sem, Int.reduceToNat, Int.reduceLE, Int.reduceLT, Nat.reduceBEq, Nat.reduceLT, Nat.reduceAdd, Nat.reduceLeDiff, h1', h1'']
    refine (awake_spec _).is ?_
    simp only [go_sem, Int.reduceToNat, Int.reduceLE, Int.reduceLT, Nat.reduceBEq, Nat.reduceLT, Nat.reduceAdd, Nat.reduceLeDiff]
    first | exact rtk (.bool true) ⟨rfl, rfl⟩ | exact rtk0 (.bool true) ⟨rfl, rfl⟩
  · rcases hp with ⟨rfl, hno⟩ | ⟨s, hs1, hs2, rfl, hs3, hs4⟩
    · simp only [go_sem, Int.reduceToNat, Int.reduceLE, Int.reduceLT, Nat.reduceBEq, Nat.reduceLT, Nat.reduceAdd, Nat.reduceLeDiff, encTask]
      refine ACalls.is (ACalls.wk (hflt _ ht (by simp) hfs) (.cons (.refl _) (WkL.one (wk_two _ _ _ _ _)))) ?_
      rw [h1]
      simp only [go_sem, Int.reduceToNat, Int.reduceLE, Int.reduceLT, Nat.reduceBEq, Nat.reduceLT, Nat.reduceAdd, Nat.reduceLeDiff, encTask]
      refine (states_spec t l .unk _ (by omega) (fun s hs => (hl.2 s hs).1)).is ?_
      simp only [go_sem, Int.reduceToNat, Int.reduceLE, Int.reduceLT, Nat.reduceBEq, Nat.reduceLT, Nat.reduceAdd, Nat.reduceLeDiff]
      refine wpc_while (fun (i : Nat) => [(1, .slice .unk (f.map encC)), (2, .slice .unk (g.map encC)), (94, .slice .unk ((statesOf t.facts.length l).map encL)), (95, .int .i64 (statesOf t.facts.length l).length), (96, .int .i64 i)]) (fun _ => σ) (fun i => i ≤ (statesOf t.facts.length l).length) (fun i => (statesOf t.facts.length l).length - i) 0 (Nat.zero_le _) (by (try dsimp only); first | exact ghk | exact ghk0) ?_
      intro i hi K hK hE hR
      by_cases h : i < (statesOf t.facts.length l).length
      · obtain ⟨x, hx⟩ := get_ex h
        have hxm := statesOf_mem (List.mem_of_getElem? hx)
        have hxl : x.length ≤ 1048576 := by rcases risingB_len x _ hxm with h | h; simp [h]; omega
        have hll : (statesOf t.facts.length l).length ≤ 1048576 := by
          unfold statesOf
          split
          · rw [statesL_len]
            have : (2 : Nat) ^ t.facts.length ≤ 2 ^ 8 := Nat.pow_le_pow_right (by omega) (by omega)
            omega
          · have := List.length_filter_le (risingB t.facts.length (-1)) l; omega
        have hlt : ((i : Int) < ((statesOf t.facts.length l).length : Int)) := by omega
        have hw : IntKind.i64.wrap ((i : Int) + 1) = ((i + 1 : Nat) : Int) := by rw [wrap_ok (by omega)]; omega
        simp only [go_sem, Int.reduceToNat, Int.reduceLE, Int.reduceLT, Nat.reduceBEq, Nat.reduceLT, Nat.reduceAdd, Nat.reduceLeDiff, hlt, hx, encL]
        refine (holds07_spec x f .unk .unk _ (by omega) hf.1 hf.2).is ?_
        cases hxf : formHolds x f
        · simp only [go_sem, Int.reduceToNat, Int.reduceLE, Int.reduceLT, Nat.reduceBEq, Nat.reduceLT, Nat.reduceAdd, Nat.reduceLeDiff]
          refine hK _ _ (i + 1) (by omega) (by first | omega | (simp only []; omega) | (simp; omega)) ?_; (try dsimp only); (try simp only [ hw]); first | exact ghk | exact ghk0
        · simp only [go_sem, Int.reduceToNat, Int.reduceLE, Int.reduceLT, Nat.reduceBEq, Nat.reduceLT, Nat.reduceAdd, Nat.reduceLeDiff]
          refine (holds07_spec x g .unk .unk _ (by omega) hg.1 hg.2).is ?_
          have hxg : formHolds x g = true := by
            obtain ⟨y, hy, hyt⟩ := List.any_eq_true.1 hxf
            obtain ⟨z, hz, hzt⟩ := hno y hy (fun i => x.contains i) hyt
            exact List.any_eq_true.2 ⟨z, hz, hzt⟩
          rw [hxg]
          simp only [go_sem, Int.reduceToNat, Int.reduceLE, Int.reduceLT, Nat.reduceBEq, Nat.reduceLT, Nat.reduceAdd, Nat.reduceLeDiff]
          refine hK _ _ (i + 1) (by omega) (by first | omega | (simp only []; omega) | (simp; omega)) ?_; (try dsimp only); (try simp only [ hw]); first | exact ghk | exact ghk0
      · have hlt : ¬ ((i : Int) < ((statesOf t.facts.length l).length : Int)) := by omega
        simp only [go_sem, Int.reduceToNat, Int.reduceLE, Int.reduceLT, Nat.reduceBEq, Nat.reduceLT, Nat.reduceAdd, Nat.reduceLeDiff, hlt, hE]
        refine (awake_spec _).is ?_
        simp only [go_sem, Int.reduceToNat, Int.reduceLE, Int.reduceLT, Nat.reduceBEq, Nat.reduceLT, Nat.reduceAdd, Nat.reduceLeDiff]
        first | exact rtk (.bool true) ⟨rfl, rfl⟩ | exact rtk0 (.bool true) ⟨rfl, rfl⟩
    · simp only [go_sem, Int.reduceToNat, Int.reduceLE, Int.reduceLT, Nat.reduceBEq, Nat.reduceLT, Nat.reduceAdd, Nat.reduceLeDiff, encTask]
      refine ACalls.is (ACalls.wk (hflt _ ht (by simp) hfs) (.cons (.refl _) (WkL.one (wk_two _ _ _ _ _)))) ?_
      rw [h1]
      simp only [go_sem, Int.reduceToNat, Int.reduceLE, Int.reduceLT, Nat.reduceBEq, Nat.reduceLT, Nat.reduceAdd, Nat.reduceLeDiff, encTask]
      refine (state02_spec t s .unk _ (by omega)).is ?_
      rw [hs1]
      simp only [go_sem, Int.reduceToNat, Int.reduceLE, Int.reduceLT, Nat.reduceBEq, Nat.reduceLT, Nat.reduceAdd, Nat.reduceLeDiff]
      refine (holds07_spec s f .unk .unk _ (by omega) hf.1 hf.2).is ?_
      rw [hs3]
      simp only [go_sem, Int.reduceToNat, Int.reduceLE, Int.reduceLT, Nat.reduceBEq, Nat.reduceLT, Nat.reduceAdd, Nat.reduceLeDiff]
      refine (holds07_spec s g .unk .unk _ (by omega) hg.1 hg.2).is ?_
      rw [hs4]
      simp only [go_sem, Int.reduceToNat, Int.reduceLE, Int.reduceLT, Nat.reduceBEq, Nat.reduceLT, Nat.reduceAdd, Nat.reduceLeDiff]
      refine (awake_spec _).is ?_
      simp only [go_sem, Int.reduceToNat, Int.reduceLE, Int.reduceLT, Nat.reduceBEq, Nat.reduceLT, Nat.reduceAdd, Nat.reduceLeDiff]
      first | exact rtk (.bool true) ⟨rfl, rfl⟩ | exact rtk0 (.bool true) ⟨rfl, rfl⟩
theorem law_reads : ReadsAll Try.prog Try.f3.params.toList (fun avs => ACalls Try.prog 3 avs [] (isR (.bool true) [])) := by
  rw [show Try.f3.params.toList = [27, 28, 28, 29] by kernel_rfl]
  exact .cons ra_task fun t ht => .cons ra_form fun f hf => .cons ra_form fun g hg => .cons ra_intss fun l hl => .nil (law_spec t f g l ht hf hg hl [])
set_option maxRecDepth 100000 in
theorem lifted (os : Os) (started : os.Started) (H : Type) (enc : TypeId × Value → H) :
    ReturnsInHanded {} Try.checked os 3 .any (Rows.regressImpliesSpec.pre6 enc Try.prog Try.f3 Rows.regressImpliesRow.domain false) (Rows.regressImpliesSpec.post enc Try.prog Try.f3 false true false false) := by
  refine returnsInHanded_of_change_sized (C := Try.checked) own started (by kernel_rfl) Try.func3
    (ChangeSpec.witness6 (enc := enc) (C := Try.checked) false ⟨#[], #[.agg #[.slice none 0 0, .slice none 0 0, .slice none 0 0, .slice none 0 0], .slice none 0 0, .slice none 0 0, .slice none 0 0], []⟩ 8 (by kernel_rfl) (by kernel_rfl) (by kernel_rfl) (by kernel_rfl)) ?_
  intro W base args ds gs before hval hW _ hsz _
  refine law_post (P := Try.prog) Try.func3 (by kernel_rfl) (by decide) rfl ?_ laidOut (rdble (by kernel_rfl)) (by kernel_rfl) Try.underlying4 law_reads hval hW hsz
  intro ds h
  rw [show Try.f3.params.size = 4 by kernel_rfl] at h
  match ds, h with
  | [a, b, c, d], _ => rfl
theorem holds : Rows.RegressImpliesSaid :=
  OpenClaim.holds_of_wide 3 Try.f3 rfl rfl rfl rfl rfl rfl rfl ⟨rfl, rfl, rfl, rfl, rfl⟩ rfl rfl rfl rfl rfl (by kernel_rfl) Try.func3 (by kernel_rfl)
    (of_decide_eq_true (by kernel_rfl)) (by unfold Func.isWrapper; first | (rw [if_pos (by decide +kernel)]; kernel_rfl) | (rw [if_neg (by decide +kernel)]; exact ⟨rfl, rfl⟩))
    (fun os started H enc _ => lifted os started H enc)
end Go.Proofs.Ytbnhijapbnfohaa
