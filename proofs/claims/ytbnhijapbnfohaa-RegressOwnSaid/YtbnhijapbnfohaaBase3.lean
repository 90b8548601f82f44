/- Contracts of the given program's functions, and an abstract layer over the model; no condition. -/
import Derived.Test.YtbnhijapbnfohaaProg
import Derived.Lib.Bytealg
import Derived.Test.YtbnhijapbnfohaaRows
import Derived.Shelf.SlSortCmp.NoneTotal
import Derived.Ground.SlsfProg
import Derived.Test.YtbnhijapbnfohaaBase2
set_option linter.unusedVariables false
set_option linter.unusedSimpArgs false
namespace Go.Proofs.Ytbnhijapbnfohaa
open Go.Ahl
def c_has : CCode := .seq (.ops [⟨some 4, .move (.lit (.bool false)), none, []⟩]) (.seq (.seq (.ops [⟨some 7, .move (.tmp 0), none, []⟩, ⟨some 8, .blen 1 (.tmp 7), none, []⟩, ⟨some 9, .move (.lit (.int .i64 0)), none, []⟩]) (.block 0 (.loop (.seq (.ops [⟨some 10, .bin .lss .none (.tmp 9) (.tmp 8), none, []⟩]) (.seq (.cond (.tmp 10) .skip (.exit 0)) (.seq (.block 1 (.seq (.ops [⟨some 11, .iaddr 1 (.tmp 7) (.tmp 9), none, []⟩, ⟨some 12, .load none (.tmp 11), none, []⟩, ⟨some 6, .move (.tmp 12), none, []⟩]) (.seq (.ops [⟨some 13, .move (.tmp 6), none, []⟩, ⟨some 14, .move (.tmp 1), none, []⟩, ⟨some 15, .bin .eql .none (.tmp 13) (.tmp 14), none, []⟩]) (.cond (.tmp 15) (.seq (.ops [⟨some 4, .move (.lit (.bool true)), none, []⟩]) .ret) .skip)))) (.ops [⟨some 16, .bin .add .none (.tmp 9) (.lit (.int .i64 1)), none, []⟩, ⟨some 9, .move (.tmp 16), none, []⟩]))))))) (.seq (.ops [⟨some 4, .move (.lit (.bool false)), none, []⟩]) .ret))
set_option maxRecDepth 20000 in
theorem has_spec (s : List Int) (x : Int) (tok : Tok) (σ : Store) (hl : s.length ≤ 140737488355328) :
    ACalls Try.prog 31 [.slice tok (s.map Ahl.encI), .int .i64 x] σ (isR (.bool (s.contains x)) σ) := by
  refine ACalls.intro (rs := [(.tmp 4)]) (by kernel_rfl) { own := [], ghosts := [] } Try.func31 (c := Try.f31.body.getD .skip) (by kernel_rfl) (by decide) (by rw [show Try.f31.ntmps = 17 by kernel_rfl]; exact Nat.le_of_ble_eq_true rfl) (by kernel_rfl) ?_
  intro hσ hids
  rw [show comp Try.prog { own := [], ghosts := [] } (Try.f31.body.getD .skip) = c_has by kernel_rfl, show Try.f31.ntmps = 17 by kernel_rfl]
  unfold c_has
  have hil : Ids σ.length (.slice tok (s.map Ahl.encI)) := hids _ (by simp)
  simp only [go_sem, Int.reduceToNat, Int.reduceLE, Int.reduceLT, Nat.reduceBEq, Nat.reduceLT, Nat.reduceAdd, Nat.reduceLeDiff]
  refine wpc_while (fun i => [(1, .int .i64 x), (7, .slice tok (s.map Ahl.encI)), (8, .int .i64 s.length), (9, .int .i64 (i : Nat))]) (fun _ => σ) (fun i => i ≤ s.length ∧ s.contains x = (s.drop i).contains x) (fun i => s.length - i) 0 ⟨Nat.zero_le _, rfl⟩ (by (try dsimp only); first | exact ghk | exact ghk0) ?_
  rintro i ⟨hi, hv⟩ K hK hE hR
  by_cases h : i < s.length
  · obtain ⟨y, hx⟩ := get_ex h
    have hlt : ((i : Int) < (s.length : Int)) := by omega
    have hw : IntKind.i64.wrap ((i : Int) + 1) = ((i + 1 : Nat) : Int) := by rw [wrap_ok (by omega)]; omega
    rw [drop_cons hx, List.contains_cons] at hv
    by_cases h1 : y = x
    · subst h1
      simp only [go_sem, Int.reduceToNat, Int.reduceLE, Int.reduceLT, Nat.reduceBEq, Nat.reduceLT, Nat.reduceAdd, Nat.reduceLeDiff, hlt, hx, Ahl.encI, beq_self_eq_true]
      rw [hR]
      first | exact rtk (.bool true) ⟨by rw [hv]; simp, rfl⟩ | exact rtk0 (.bool true) ⟨by rw [hv]; simp, rfl⟩
    · have h1' : (y == x) = false := by simpa using h1
      have h1'' : (x == y) = false := by simpa using Ne.symm h1
      simp only [go_sem, Int.reduceToNat, Int.reduceLE, Int.reduceLT, Nat.reduceBEq, Nat.reduceLT, Nat.reduceAdd, Nat.reduceLeDiff, hlt, hx, Ahl.encI, h1']
      rw [h1'', Bool.false_or] at hv
      refine hK _ _ (i + 1) (⟨by omega, hv⟩) (by first | omega | (simp only []; omega) | (simp; omega)) ?_; (try dsimp only); (try simp only [ hw]); first | exact ghk | exact ghk0
  · have hlt : ¬ ((i : Int) < (s.length : Int)) := by omega
    rw [drop_len h] at hv
    simp only [go_sem, Int.reduceToNat, Int.reduceLE, Int.reduceLT, Nat.reduceBEq, Nat.reduceLT, Nat.reduceAdd, Nat.reduceLeDiff, hlt, hE]
    first | exact rtk (.bool false) ⟨by rw [hv]; rfl, rfl⟩ | exact rtk0 (.bool false) ⟨by rw [hv]; rfl, rfl⟩
def condHolds (s : List Int) (l : List FLit) : Bool := l.all fun x => s.contains x.fact != x.neg
/-- Rising numbers behind p, below n. -/
def risingB (n : Int) : Int → List Int → Bool
  | _, [] => true
  | p, x :: l => decide (p < x) && decide (x < n) && risingB n x l
def prevI (s : List Int) (i : Nat) (p : Int) : Prop := -1 ≤ p ∧ (i = 0 → p = -1) ∧ (0 < i → s[i - 1]? = some p)
def c_rising : CCode := .seq (.ops [⟨some 4, .move (.lit (.bool false)), none, []⟩]) (.seq (.seq (.ops [⟨some 7, .move (.tmp 1), none, []⟩, ⟨some 8, .blen 1 (.tmp 7), none, []⟩, ⟨some 9, .move (.lit (.int .i64 0)), none, []⟩]) (.block 0 (.loop (.seq (.ops [⟨some 10, .bin .lss .none (.tmp 9) (.tmp 8), none, []⟩]) (.seq (.cond (.tmp 10) .skip (.exit 0)) (.seq (.block 1 (.seq (.ops [⟨some 11, .move (.tmp 9), none, []⟩, ⟨some 12, .iaddr 1 (.tmp 7) (.tmp 9), none, []⟩, ⟨some 13, .load none (.tmp 12), none, []⟩, ⟨some 5, .move (.tmp 11), none, []⟩, ⟨some 6, .move (.tmp 13), none, []⟩]) (.seq (.ops [⟨some 14, .move (.tmp 6), none, []⟩, ⟨some 15, .bin .lss .none (.tmp 14) (.lit (.int .i64 0)), none, []⟩, ⟨some 16, .move (.tmp 15), none, []⟩, ⟨some 17, .move (.tmp 6), some (some 16, false), []⟩, ⟨some 18, .move (.tmp 0), some (some 16, false), []⟩, ⟨some 19, .bin .geq .none (.tmp 17) (.tmp 18), some (some 16, false), []⟩, ⟨some 20, .pick (.tmp 16) (.lit (.bool true)) (.tmp 19), none, []⟩, ⟨some 21, .move (.tmp 20), none, []⟩, ⟨some 22, .move (.tmp 5), some (some 21, false), []⟩, ⟨some 23, .bin .gtr .none (.tmp 22) (.lit (.int .i64 0)), some (some 21, false), []⟩, ⟨some 24, .move (.tmp 23), some (some 21, false), []⟩, ⟨some 25, .move (.tmp 1), some (some 24, true), []⟩, ⟨some 26, .move (.tmp 5), some (some 24, true), []⟩, ⟨some 27, .bin .sub .none (.tmp 26) (.lit (.int .i64 1)), some (some 24, true), []⟩, ⟨some 28, .iaddr 1 (.tmp 25) (.tmp 27), some (some 24, true), []⟩, ⟨some 29, .load none (.tmp 28), some (some 24, true), []⟩, ⟨some 30, .move (.tmp 6), some (some 24, true), []⟩, ⟨some 31, .bin .geq .none (.tmp 29) (.tmp 30), some (some 24, true), []⟩, ⟨some 32, .pick (.tmp 24) (.tmp 31) (.lit (.bool false)), some (some 21, false), []⟩, ⟨some 33, .pick (.tmp 21) (.lit (.bool true)) (.tmp 32), none, []⟩]) (.cond (.tmp 33) (.seq (.ops [⟨some 4, .move (.lit (.bool false)), none, []⟩]) .ret) .skip)))) (.ops [⟨some 34, .bin .add .none (.tmp 9) (.lit (.int .i64 1)), none, []⟩, ⟨some 9, .move (.tmp 34), none, []⟩]))))))) (.seq (.ops [⟨some 4, .move (.lit (.bool true)), none, []⟩]) .ret))
set_option maxRecDepth 20000 in
theorem rising_spec (s : List Int) (n : Int) (tok : Tok) (σ : Store) (hs : s.length ≤ 140737488355328) :
    ACalls Try.prog 74 [.int .i64 n, .slice tok (s.map Ahl.encI)] σ (isR (.bool (risingB n (-1) s)) σ) := by
  refine ACalls.intro (rs := [(.tmp 4)]) (by kernel_rfl) { own := [], ghosts := [] } Try.func74 (c := Try.f74.body.getD .skip) (by kernel_rfl) (by decide) (by rw [show Try.f74.ntmps = 35 by kernel_rfl]; exact Nat.le_of_ble_eq_true rfl) (by kernel_rfl) ?_
  intro hσ hids
  rw [show comp Try.prog { own := [], ghosts := [] } (Try.f74.body.getD .skip) = c_rising by kernel_rfl, show Try.f74.ntmps = 35 by kernel_rfl]
  unfold c_rising
  have hil : Ids σ.length (.slice tok (s.map Ahl.encI)) := hids _ (by simp)
  simp only [go_sem, Int.reduceToNat, Int.reduceLE, Int.reduceLT, Nat.reduceBEq, Nat.reduceLT, Nat.reduceAdd, Nat.reduceLeDiff]
  refine wpc_while (fun (q : Nat × Int) => [(0, .int .i64 n), (1, .slice tok (s.map Ahl.encI)), (7, .slice tok (s.map Ahl.encI)), (8, .int .i64 s.length), (9, .int .i64 q.1)]) (fun _ => σ) (fun q => q.1 ≤ s.length ∧ prevI s q.1 q.2 ∧ risingB n (-1) s = risingB n q.2 (s.drop q.1)) (fun q => s.length - q.1) (0, -1) ⟨Nat.zero_le _, ⟨by omega, by simp, by simp⟩, rfl⟩ (by (try dsimp only); first | exact ghk | exact ghk0) ?_
  rintro ⟨i, p⟩ ⟨hi, ⟨hp1, hp2, hp3⟩, hv⟩ K hK hE hR
  dsimp only at hi hp1 hp2 hp3 hv ⊢
  by_cases h : i < s.length
  · obtain ⟨y, hx⟩ := get_ex h
    have hlt : ((i : Int) < (s.length : Int)) := by omega
    have hw : IntKind.i64.wrap ((i : Int) + 1) = ((i + 1 : Nat) : Int) := by rw [wrap_ok (by omega)]; omega
    rw [drop_cons hx, risingB] at hv
    by_cases h1 : y < 0
    · simp only [go_sem, Int.reduceToNat, Int.reduceLE, Int.reduceLT, Nat.reduceBEq, Nat.reduceLT, Nat.reduceAdd, Nat.reduceLeDiff, hlt, hx, Ahl.encI, h1]
      rw [hR]
      first | exact rtk (.bool false) ⟨by rw [hv]; simp; omega, rfl⟩ | exact rtk0 (.bool false) ⟨by rw [hv]; simp; omega, rfl⟩
    by_cases h2 : y ≥ n
    · simp only [go_sem, Int.reduceToNat, Int.reduceLE, Int.reduceLT, Nat.reduceBEq, Nat.reduceLT, Nat.reduceAdd, Nat.reduceLeDiff, hlt, hx, Ahl.encI, h1, h2]
      rw [hR]
      first | exact rtk (.bool false) ⟨by rw [hv]; simp; omega, rfl⟩ | exact rtk0 (.bool false) ⟨by rw [hv]; simp; omega, rfl⟩
    by_cases h3 : (i : Int) > 0
    · have hw1 : IntKind.i64.wrap ((i : Int) - 1) = ((i - 1 : Nat) : Int) := by rw [wrap_ok (by omega)]; omega
      have hy := hp3 (by omega)
      by_cases h4 : p ≥ y
      · simp only [go_sem, Int.reduceToNat, Int.reduceLE, Int.reduceLT, Nat.reduceBEq, Nat.reduceLT, Nat.reduceAdd, Nat.reduceLeDiff, hlt, hx, Ahl.encI, h1, h2, h3, hw1, hy, h4]
        rw [hR]
        first | exact rtk (.bool false) ⟨by rw [hv]; simp; omega, rfl⟩ | exact rtk0 (.bool false) ⟨by rw [hv]; simp; omega, rfl⟩
      · simp only [go_sem, Int.reduceToNat, Int.reduceLE, Int.reduceLT, Nat.reduceBEq, Nat.reduceLT, Nat.reduceAdd, Nat.reduceLeDiff, hlt, hx, Ahl.encI, h1, h2, h3, hw1, hy, h4]
        have h5 : decide (p < y) = true := by simpa using h4
        have h6 : decide (y < n) = true := by simpa using h2
        rw [h5, h6, Bool.true_and, Bool.true_and] at hv
        refine hK _ _ ((i + 1, y)) (⟨by simp only []; omega, ⟨by simp only []; omega, by simp, fun _ => hx⟩, hv⟩) (by first | omega | (simp only []; omega) | (simp; omega)) ?_; (try dsimp only); (try simp only [ hw]); first | exact ghk | exact ghk0
    · have h5 : decide (p < y) = true := by have := hp2 (by omega); simp; omega
      have h6 : decide (y < n) = true := by simpa using h2
      rw [h5, h6, Bool.true_and, Bool.true_and] at hv
      simp only [go_sem, Int.reduceToNat, Int.reduceLE, Int.reduceLT, Nat.reduceBEq, Nat.reduceLT, Nat.reduceAdd, Nat.reduceLeDiff, hlt, hx, Ahl.encI, h1, h2, h3]
      refine hK _ _ ((i + 1, y)) (⟨by simp only []; omega, ⟨by simp only []; omega, by simp, fun _ => hx⟩, hv⟩) (by first | omega | (simp only []; omega) | (simp; omega)) ?_; (try dsimp only); (try simp only [ hw]); first | exact ghk | exact ghk0
  · have hlt : ¬ ((i : Int) < (s.length : Int)) := by omega
    rw [drop_len h] at hv
    simp only [go_sem, Int.reduceToNat, Int.reduceLE, Int.reduceLT, Nat.reduceBEq, Nat.reduceLT, Nat.reduceAdd, Nat.reduceLeDiff, hlt, hE]
    first | exact rtk (.bool true) ⟨by rw [hv]; rfl, rfl⟩ | exact rtk0 (.bool true) ⟨by rw [hv]; rfl, rfl⟩
/-- A condition of facts behind p, below n. -/
def condB (n : Int) : Int → List FLit → Bool
  | _, [] => true
  | p, x :: l => decide (p < x.fact) && decide (x.fact < n) && condB n x.fact l
def prevC (s : List FLit) (i : Nat) (p : Int) : Prop := -1 ≤ p ∧ (i = 0 → p = -1) ∧ (0 < i → ∃ b, s[i - 1]? = some ⟨p, b⟩)
def d_cond_0 : List COp := [⟨some 14, .faddr 0 (.tmp 6), none, []⟩, ⟨some 15, .load none (.tmp 14), none, [0]⟩, ⟨some 16, .bin .lss .none (.tmp 15) (.lit (.int .i64 0)), none, [1]⟩, ⟨some 17, .move (.tmp 16), none, [2]⟩, ⟨some 18, .faddr 0 (.tmp 6), some (some 17, false), [3]⟩, ⟨some 19, .load none (.tmp 18), some (some 17, false), [4, 3]⟩, ⟨some 20, .move (.tmp 0), some (some 17, false), [3]⟩, ⟨some 21, .bin .geq .none (.tmp 19) (.tmp 20), some (some 17, false), [5, 6, 3]⟩, ⟨some 22, .pick (.tmp 17) (.lit (.bool true)) (.tmp 21), none, [3, 7]⟩, ⟨some 23, .move (.tmp 22), none, [8, 3]⟩, ⟨some 24, .move (.tmp 5), some (some 23, false), [9]⟩, ⟨some 25, .bin .gtr .none (.tmp 24) (.lit (.int .i64 0)), some (some 23, false), [10, 9]⟩, ⟨some 26, .move (.tmp 25), some (some 23, false), [11, 9, 9]⟩, ⟨some 27, .move (.tmp 1), some (some 26, true), [12]⟩, ⟨some 28, .move (.tmp 5), some (some 26, true), [12]⟩, ⟨some 29, .bin .sub .none (.tmp 28) (.lit (.int .i64 1)), some (some 26, true), [14, 12]⟩, ⟨some 30, .iaddr 2 (.tmp 27) (.tmp 29), some (some 26, true), [13, 15, 12]⟩, ⟨some 31, .faddr 0 (.tmp 30), some (some 26, true), [16, 12]⟩, ⟨some 32, .load none (.tmp 31), some (some 26, true), [17, 12]⟩, ⟨some 33, .faddr 0 (.tmp 6), some (some 26, true), [12]⟩, ⟨some 34, .load none (.tmp 33), some (some 26, true), [19, 12]⟩, ⟨some 35, .bin .geq .none (.tmp 32) (.tmp 34), some (some 26, true), [18, 20, 12]⟩, ⟨some 36, .pick (.tmp 26) (.tmp 35) (.lit (.bool false)), some (some 23, false), [12, 21, 9]⟩, ⟨some 37, .pick (.tmp 23) (.lit (.bool true)) (.tmp 36), none, [9, 22]⟩]
theorem dr_cond_0 (P : Program) (nt n0 : Nat) (Q : Post) (s : Slots) (σ : Store) : wpc P nt n0 (.draw d_cond_0) Q s σ = aOpsD P nt [⟨some 14, .faddr 0 (.tmp 6), none, []⟩, ⟨some 15, .load none (.tmp 14), none, [0]⟩, ⟨some 16, .bin .lss .none (.tmp 15) (.lit (.int .i64 0)), none, [1]⟩, ⟨some 17, .move (.tmp 16), none, [2]⟩, ⟨some 18, .faddr 0 (.tmp 6), some (some 17, false), [3]⟩, ⟨some 19, .load none (.tmp 18), some (some 17, false), [4, 3]⟩, ⟨some 20, .move (.tmp 0), some (some 17, false), [3]⟩, ⟨some 21, .bin .geq .none (.tmp 19) (.tmp 20), some (some 17, false), [5, 6, 3]⟩, ⟨some 22, .pick (.tmp 17) (.lit (.bool true)) (.tmp 21), none, [3, 7]⟩, ⟨some 23, .move (.tmp 22), none, [8, 3]⟩, ⟨some 24, .move (.tmp 5), some (some 23, false), [9]⟩, ⟨some 25, .bin .gtr .none (.tmp 24) (.lit (.int .i64 0)), some (some 23, false), [10, 9]⟩, ⟨some 26, .move (.tmp 25), some (some 23, false), [11, 9, 9]⟩, ⟨some 27, .move (.tmp 1), some (some 26, true), [12]⟩, ⟨some 28, .move (.tmp 5), some (some 26, true), [12]⟩, ⟨some 29, .bin .sub .none (.tmp 28) (.lit (.int .i64 1)), some (some 26, true), [14, 12]⟩, ⟨some 30, .iaddr 2 (.tmp 27) (.tmp 29), some (some 26, true), [13, 15, 12]⟩, ⟨some 31, .faddr 0 (.tmp 30), some (some 26, true), [16, 12]⟩, ⟨some 32, .load none (.tmp 31), some (some 26, true), [17, 12]⟩, ⟨some 33, .faddr 0 (.tmp 6), some (some 26, true), [12]⟩, ⟨some 34, .load none (.tmp 33), some (some 26, true), [19, 12]⟩, ⟨some 35, .bin .geq .none (.tmp 32) (.tmp 34), some (some 26, true), [18, 20, 12]⟩, ⟨some 36, .pick (.tmp 26) (.tmp 35) (.lit (.bool false)), some (some 23, false), [12, 21, 9]⟩, ⟨some 37, .pick (.tmp 23) (.lit (.bool true)) (.tmp 36), none, [9, 22]⟩] (Q .normal) s σ := wpc_draw _ (by decide)
def c_cond : CCode := .seq (.ops [⟨some 4, .move (.lit (.bool false)), none, []⟩]) (.seq (.seq (.ops [⟨some 7, .move (.tmp 1), none, []⟩, ⟨some 8, .blen 1 (.tmp 7), none, []⟩, ⟨some 9, .move (.lit (.int .i64 0)), none, []⟩]) (.block 0 (.loop (.seq (.ops [⟨some 10, .bin .lss .none (.tmp 9) (.tmp 8), none, []⟩]) (.seq (.cond (.tmp 10) .skip (.exit 0)) (.seq (.block 1 (.seq (.ops [⟨some 11, .move (.tmp 9), none, []⟩, ⟨some 12, .iaddr 2 (.tmp 7) (.tmp 9), none, []⟩, ⟨some 13, .load (some 2) (.tmp 12), none, []⟩, ⟨some 6, .alloc (.agg [.int .i64 0, .bool false]), none, []⟩, ⟨some 5, .move (.tmp 11), none, []⟩, ⟨none, .store 2 (.tmp 6) (.tmp 13), none, []⟩]) (.seq (.draw d_cond_0) (.cond (.tmp 37) (.seq (.ops [⟨some 4, .move (.lit (.bool false)), none, []⟩]) .ret) .skip)))) (.ops [⟨some 38, .bin .add .none (.tmp 9) (.lit (.int .i64 1)), none, []⟩, ⟨some 9, .move (.tmp 38), none, []⟩]))))))) (.seq (.ops [⟨some 4, .move (.lit (.bool true)), none, []⟩]) .ret))
set_option maxRecDepth 20000 in
theorem cond_spec (s : List FLit) (n : Int) (tok : Tok) (σ : Store) (hs : s.length ≤ 140737488355328) :
    ACalls Try.prog 75 [.int .i64 n, .slice tok (s.map encLit)] σ (isR (.bool (condB n (-1) s)) σ) := by
  refine ACalls.intro (rs := [(.tmp 4)]) (by kernel_rfl) { own := [], ghosts := [] } Try.func75 (c := Try.f75.body.getD .skip) (by kernel_rfl) (by decide) (by rw [show Try.f75.ntmps = 39 by kernel_rfl]; exact Nat.le_of_ble_eq_true rfl) (by kernel_rfl) ?_
  intro hσ hids
  rw [show comp Try.prog { own := [], ghosts := [] } (Try.f75.body.getD .skip) = c_cond by kernel_rfl, show Try.f75.ntmps = 39 by kernel_rfl]
  unfold c_cond
  have hil : Ids σ.length (.slice tok (s.map encLit)) := hids _ (by simp)
  simp only [go_sem, Int.reduceToNat, Int.reduceLE, Int.reduceLT, Nat.reduceBEq, Nat.reduceLT, Nat.reduceAdd, Nat.reduceLeDiff, dr_cond_0]
  refine wpc_while (fun (q : Nat × Int) => [(0, .int .i64 n), (1, .slice tok (s.map encLit)), (7, .slice tok (s.map encLit)), (8, .int .i64 s.length), (9, .int .i64 q.1)]) (fun _ => σ) (fun q => q.1 ≤ s.length ∧ prevC s q.1 q.2 ∧ condB n (-1) s = condB n q.2 (s.drop q.1)) (fun q => s.length - q.1) (0, -1) ⟨Nat.zero_le _, ⟨by omega, by simp, by simp⟩, rfl⟩ (by (try dsimp only); first | exact ghk | exact ghk0) ?_
  rintro ⟨i, p⟩ ⟨hi, ⟨hp1, hp2, hp3⟩, hv⟩ K hK hE hR
  dsimp only at hi hp1 hp2 hp3 hv ⊢
  by_cases h : i < s.length
  · obtain ⟨⟨y, nb⟩, hx⟩ := get_ex h
    have hlt : ((i : Int) < (s.length : Int)) := by omega
    have hw : IntKind.i64.wrap ((i : Int) + 1) = ((i + 1 : Nat) : Int) := by rw [wrap_ok (by omega)]; omega
    rw [drop_cons hx, condB] at hv
    dsimp only at hv
    by_cases h1 : y < 0
    · simp only [go_sem, Int.reduceToNat, Int.reduceLE, Int.reduceLT, Nat.reduceBEq, Nat.reduceLT, Nat.reduceAdd, Nat.reduceLeDiff, dr_cond_0, hlt, hx, encLit, h1]
      rw [hR]
      first | exact rtk (.bool false) ⟨by rw [hv]; simp; omega, rfl⟩ | exact rtk0 (.bool false) ⟨by rw [hv]; simp; omega, rfl⟩
    by_cases h2 : y ≥ n
    · simp only [go_sem, Int.reduceToNat, Int.reduceLE, Int.reduceLT, Nat.reduceBEq, Nat.reduceLT, Nat.reduceAdd, Nat.reduceLeDiff, dr_cond_0, hlt, hx, encLit, h1, h2]
      rw [hR]
      first | exact rtk (.bool false) ⟨by rw [hv]; simp; omega, rfl⟩ | exact rtk0 (.bool false) ⟨by rw [hv]; simp; omega, rfl⟩
    by_cases h3 : (i : Int) > 0
    · have hw1 : IntKind.i64.wrap ((i : Int) - 1) = ((i - 1 : Nat) : Int) := by rw [wrap_ok (by omega)]; omega
      obtain ⟨pb, hy⟩ := hp3 (by omega)
      by_cases h4 : p ≥ y
      · simp only [go_sem, Int.reduceToNat, Int.reduceLE, Int.reduceLT, Nat.reduceBEq, Nat.reduceLT, Nat.reduceAdd, Nat.reduceLeDiff, dr_cond_0, hlt, hx, encLit, h1, h2, h3, hw1, hy, h4]
        rw [hR]
        first | exact rtk (.bool false) ⟨by rw [hv]; simp; omega, rfl⟩ | exact rtk0 (.bool false) ⟨by rw [hv]; simp; omega, rfl⟩
      · simp only [go_sem, Int.reduceToNat, Int.reduceLE, Int.reduceLT, Nat.reduceBEq, Nat.reduceLT, Nat.reduceAdd, Nat.reduceLeDiff, dr_cond_0, hlt, hx, encLit, h1, h2, h3, hw1, hy, h4]
        have h5 : decide (p < y) = true := by simpa using h4
        have h6 : decide (y < n) = true := by simpa using h2
        rw [h5, h6, Bool.true_and, Bool.true_and] at hv
        refine hK _ _ ((i + 1, y)) (⟨by simp only []; omega, ⟨by simp only []; omega, by simp, fun _ => ⟨nb, hx⟩⟩, hv⟩) (by first | omega | (simp only []; omega) | (simp; omega)) ?_; (try dsimp only); (try simp only [ hw]); first | exact ghk | exact ghk0
    · have h5 : decide (p < y) = true := by have := hp2 (by omega); simp; omega
      have h6 : decide (y < n) = true := by simpa using h2
      rw [h5, h6, Bool.true_and, Bool.true_and] at hv
      simp only [go_sem, Int.reduceToNat, Int.reduceLE, Int.reduceLT, Nat.reduceBEq, Nat.reduceLT, Nat.reduceAdd, Nat.reduceLeDiff, dr_cond_0, hlt, hx, encLit, h1, h2, h3]
      refine hK _ _ ((i + 1, y)) (⟨by simp only []; omega, ⟨by simp only []; omega, by simp, fun _ => ⟨nb, hx⟩⟩, hv⟩) (by first | omega | (simp only []; omega) | (simp; omega)) ?_; (try dsimp only); (try simp only [ hw]); first | exact ghk | exact ghk0
  · have hlt : ¬ ((i : Int) < (s.length : Int)) := by omega
    rw [drop_len h] at hv
    simp only [go_sem, Int.reduceToNat, Int.reduceLE, Int.reduceLT, Nat.reduceBEq, Nat.reduceLT, Nat.reduceAdd, Nat.reduceLeDiff, dr_cond_0, hlt, hE]
    first | exact rtk (.bool true) ⟨by rw [hv]; rfl, rfl⟩ | exact rtk0 (.bool true) ⟨by rw [hv]; rfl, rfl⟩
end Go.Proofs.Ytbnhijapbnfohaa
namespace Go.Proofs.Ytbnhijapbnfohaa
open Go.Ahl
def encF (f : List (List FLit)) : List AV := [.slice .unk (f.map encC)]
def formHolds (s : List Int) (f : List (List FLit)) : Bool := f.any (condHolds s)
def formB (n : Int) (f : List (List FLit)) : Bool := f.all (condB n (-1))
def isForm (n : Int) (f : List (List FLit)) : Bool := decide (f.length ≤ 400) && formB n f
theorem mulTop {j n T : Nat} (h : j ≤ n) : j * T ≤ n * T := Nat.mul_le_mul_right _ h
def formSize (f : List (List FLit)) : Nat := f.length + (f.map List.length).sum
theorem sum_cons (f : List FLit) (r : List (List FLit)) : (((f :: r).map List.length).sum : Nat) = f.length + (r.map List.length).sum := by simp
theorem sums_cons (f : List (List FLit)) (r : List (List (List FLit))) : (((f :: r).map formSize).sum : Nat) = formSize f + (r.map formSize).sum := by simp
def c_few07 : CCode := .seq (.ops [⟨some 4, .move (.lit (.bool false)), none, []⟩]) (.seq (.ops [⟨some 5, .move (.lit (.int .i64 0)), none, []⟩]) (.seq (.seq (.ops [⟨some 10, .move (.tmp 1), none, []⟩, ⟨some 11, .blen 1 (.tmp 10), none, []⟩, ⟨some 12, .move (.lit (.int .i64 0)), none, []⟩]) (.block 0 (.loop (.seq (.ops [⟨some 13, .bin .lss .none (.tmp 12) (.tmp 11), none, []⟩]) (.seq (.cond (.tmp 13) .skip (.exit 0)) (.seq (.block 1 (.seq (.ops [⟨some 14, .iaddr 1 (.tmp 10) (.tmp 12), none, []⟩, ⟨some 15, .load none (.tmp 14), none, []⟩, ⟨some 7, .move (.tmp 15), none, []⟩]) (.seq (.ops [⟨some 16, .move (.tmp 5), none, []⟩, ⟨some 17, .move (.tmp 7), none, []⟩, ⟨some 18, .blen 1 (.tmp 17), none, []⟩, ⟨some 19, .bin .add .none (.tmp 16) (.tmp 18), none, []⟩, ⟨some 5, .move (.tmp 19), none, []⟩]) (.seq (.seq (.ops [⟨some 20, .move (.tmp 5), none, []⟩, ⟨some 21, .move (.tmp 0), none, []⟩, ⟨some 22, .bin .gtr .none (.tmp 20) (.tmp 21), none, []⟩]) (.cond (.tmp 22) (.seq (.ops [⟨some 4, .move (.lit (.bool false)), none, []⟩]) .ret) .skip)) (.seq (.ops [⟨some 23, .move (.tmp 7), none, []⟩, ⟨some 24, .blen 1 (.tmp 23), none, []⟩, ⟨some 25, .move (.lit (.int .i64 0)), none, []⟩]) (.block 2 (.loop (.seq (.ops [⟨some 26, .bin .lss .none (.tmp 25) (.tmp 24), none, []⟩]) (.seq (.cond (.tmp 26) .skip (.exit 2)) (.seq (.block 3 (.seq (.ops [⟨some 27, .iaddr 1 (.tmp 23) (.tmp 25), none, []⟩, ⟨some 28, .load none (.tmp 27), none, []⟩, ⟨some 9, .move (.tmp 28), none, []⟩]) (.ops [⟨some 29, .move (.tmp 5), none, []⟩, ⟨some 30, .move (.tmp 9), none, []⟩, ⟨some 31, .blen 1 (.tmp 30), none, []⟩, ⟨some 32, .bin .add .none (.tmp 29) (.tmp 31), none, []⟩, ⟨some 5, .move (.tmp 32), none, []⟩]))) (.ops [⟨some 33, .bin .add .none (.tmp 25) (.lit (.int .i64 1)), none, []⟩, ⟨some 25, .move (.tmp 33), none, []⟩]))))))))))) (.ops [⟨some 34, .bin .add .none (.tmp 12) (.lit (.int .i64 1)), none, []⟩, ⟨some 12, .move (.tmp 34), none, []⟩]))))))) (.seq (.ops [⟨some 35, .move (.tmp 5), none, []⟩, ⟨some 36, .move (.tmp 0), none, []⟩, ⟨some 37, .bin .leq .none (.tmp 35) (.tmp 36), none, []⟩, ⟨some 4, .move (.tmp 37), none, []⟩]) .ret)))
set_option maxRecDepth 20000 in
theorem few07_spec (n : Nat) (hn : n ≤ 4096) (fs : List (List (List FLit))) (tok : Tok) (σ : Store) (hf : fs.length ≤ 140737488355328) (hl : ∀ f ∈ fs, f.length ≤ 140737488355328 ∧ ∀ l ∈ f, l.length ≤ 140737488355328) :
    ACalls Try.prog 30 [.int .i64 n, .slice tok (fs.map encF)] σ (isR (.bool (decide ((fs.map formSize).sum ≤ n))) σ) := by
  refine ACalls.intro (rs := [(.tmp 4)]) (by kernel_rfl) { own := [], ghosts := [] } Try.func30 (c := Try.f30.body.getD .skip) (by kernel_rfl) (by decide) (by rw [show Try.f30.ntmps = 38 by kernel_rfl]; exact Nat.le_of_ble_eq_true rfl) (by kernel_rfl) ?_
  intro hσ hids
  rw [show comp Try.prog { own := [], ghosts := [] } (Try.f30.body.getD .skip) = c_few07 by kernel_rfl, show Try.f30.ntmps = 38 by kernel_rfl]
  unfold c_few07
  obtain ⟨T, hT⟩ : ∃ T : Nat, T = 140737488355328 := ⟨_, rfl⟩
  have hnT := mulTop (T := T) hn
  have hil' : Ids σ.length (.slice tok (fs.map encF)) := hids _ (by simp)
  simp only [go_sem, Int.reduceToNat, Int.reduceLE, Int.reduceLT, Nat.reduceBEq, Nat.reduceLT, Nat.reduceAdd, Nat.reduceLeDiff]
  refine wpc_while (fun (q : Nat × Nat) => [(0, .int .i64 n), (5, .int .i64 q.2), (10, .slice tok (fs.map encF)), (11, .int .i64 fs.length), (12, .int .i64 q.1)]) (fun _ => σ) (fun q => q.1 ≤ fs.length ∧ q.2 ≤ n + n * T ∧ (fs.map formSize).sum = q.2 + ((fs.drop q.1).map formSize).sum) (fun q => fs.length - q.1) (0, 0) ⟨Nat.zero_le _, Nat.zero_le _, by simp⟩ (by (try dsimp only); first | exact ghk | exact ghk0) ?_
  rintro ⟨i, a⟩ ⟨hi, ha, hv⟩ K hK hE hR
  dsimp only at hi ha hv ⊢
  by_cases h : i < fs.length
  · obtain ⟨f, hx⟩ := get_ex h; have hlt : ((i : Int) < (fs.length : Int)) := (by omega); have hw : IntKind.i64.wrap ((i : Int) + 1) = ((i + 1 : Nat) : Int) := (by rw [wrap_ok (by omega)]; omega)
    obtain ⟨f1, f2⟩ := hl f (List.mem_of_getElem? hx)
    rw [drop_cons hx, sums_cons, formSize] at hv
    have hw1 : IntKind.i64.wrap ((a : Int) + f.length) = ((a + f.length : Nat) : Int) := by rw [wrap_ok (by omega)]; omega
    by_cases h1 : ((a + f.length : Nat) : Int) > n
    · simp only [go_sem, Int.reduceToNat, Int.reduceLE, Int.reduceLT, Nat.reduceBEq, Nat.reduceLT, Nat.reduceAdd, Nat.reduceLeDiff, hlt, hx, encF, hw1, h1]
      rw [hR]
      first | exact rtk (.bool false) ⟨by rw [decide_eq_false (p := (fs.map formSize).sum ≤ n) (by omega)], rfl⟩ | exact rtk0 (.bool false) ⟨by rw [decide_eq_false (p := (fs.map formSize).sum ≤ n) (by omega)], rfl⟩
    · have hif : Ids σ.length (.slice .unk (f.map encC)) := ids_map ids_encC _
      simp only [go_sem, Int.reduceToNat, Int.reduceLE, Int.reduceLT, Nat.reduceBEq, Nat.reduceLT, Nat.reduceAdd, Nat.reduceLeDiff, hlt, hx, encF, hw1, h1]
      refine wpc_while (fun (q : Nat × Nat) => [(0, .int .i64 n), (5, .int .i64 q.2), (10, .slice tok (fs.map encF)), (11, .int .i64 fs.length), (12, .int .i64 i), (23, .slice .unk (f.map encC)), (24, .int .i64 f.length), (25, .int .i64 q.1)]) (fun _ => σ) (fun q => q.1 ≤ f.length ∧ q.2 ≤ n + q.1 * T ∧ (fs.map formSize).sum = q.2 + ((f.drop q.1).map List.length).sum + ((fs.drop (i + 1)).map formSize).sum) (fun q => f.length - q.1) (0, a + f.length) ⟨Nat.zero_le _, by simp only []; omega, by rw [List.drop_zero]; omega⟩ (by (try dsimp only); first | exact ghk | exact ghk0) ?_
      rintro ⟨j, b⟩ ⟨hjl, hbb, hvj⟩ K' hK' hE' hR'
      dsimp only at hjl hbb hvj ⊢
      have hfn : f.length ≤ n := by omega
      have hjm := mulTop (T := T) (Nat.le_trans hjl hfn)
      by_cases hj : j < f.length
      · obtain ⟨l, hxj⟩ := get_ex hj; have hltj : ((j : Int) < (f.length : Int)) := (by omega); have hwj : IntKind.i64.wrap ((j : Int) + 1) = ((j + 1 : Nat) : Int) := (by rw [wrap_ok (by omega)]; omega)
        have f3 := f2 l (List.mem_of_getElem? hxj)
        rw [drop_cons hxj, sum_cons] at hvj
        have hw2 : IntKind.i64.wrap ((b : Int) + l.length) = ((b + l.length : Nat) : Int) := by rw [wrap_ok (by omega)]; omega
        simp only [go_sem, Int.reduceToNat, Int.reduceLE, Int.reduceLT, Nat.reduceBEq, Nat.reduceLT, Nat.reduceAdd, Nat.reduceLeDiff, hltj, hxj, encC, hw2]
        refine hK' _ _ (j + 1, b + l.length) ⟨by simp only []; omega, by simp only [Nat.add_mul]; omega, by simp only []; omega⟩ (by simp only []; omega) ?_
        exact (by (try dsimp only); (try simp only [hwj]); first | exact ghk | exact ghk0)
      · have hltj : ¬ ((j : Int) < (f.length : Int)) := by omega
        rw [drop_len hj] at hvj
        simp only [go_sem, Int.reduceToNat, Int.reduceLE, Int.reduceLT, Nat.reduceBEq, Nat.reduceLT, Nat.reduceAdd, Nat.reduceLeDiff, hltj, hE']
        refine hK _ _ ((i + 1, b)) (⟨by simp only []; omega, by simp only []; omega, by simpa using hvj⟩) (by first | omega | (simp only []; omega) | (simp; omega)) ?_; (try dsimp only); (try simp only [ hw]); first | exact ghk | exact ghk0
  · have hlt : ¬ ((i : Int) < (fs.length : Int)) := by omega
    rw [drop_len h, List.map_nil, List.sum_nil] at hv
    simp only [go_sem, Int.reduceToNat, Int.reduceLE, Int.reduceLT, Nat.reduceBEq, Nat.reduceLT, Nat.reduceAdd, Nat.reduceLeDiff, hlt, hE]
    first | exact rtk (.bool (decide ((a : Int) ≤ n))) ⟨by congr 1; apply decide_eq_decide.2; omega, rfl⟩ | exact rtk0 (.bool (decide ((a : Int) ≤ n))) ⟨by congr 1; apply decide_eq_decide.2; omega, rfl⟩
end Go.Proofs.Ytbnhijapbnfohaa
namespace Go.Proofs.Ytbnhijapbnfohaa
open Go.Ahl
theorem bget (b : ByteArray) (i : Nat) : b[i]? = b.data.toList[i]? := by
  rw [Array.getElem?_toList]
  by_cases h : i < b.size
  · rw [getElem?_pos b i h, Array.getElem?_eq_getElem (by exact h)]; rfl
  · rw [getElem?_neg b i h, Array.getElem?_eq_none (by simpa using h)]
def letterB (c : Int) : Bool := (decide (97 ≤ c) && decide (c ≤ 122)) || (decide (65 ≤ c) && decide (c ≤ 90))
def digitB (c : Int) : Bool := decide (48 ≤ c) && decide (c ≤ 57)
def c_letter : CCode := .seq (.ops [⟨some 2, .move (.lit (.bool false)), none, []⟩]) (.seq (.ops [⟨some 3, .move (.tmp 0), none, []⟩, ⟨some 4, .bin .geq .none (.tmp 3) (.lit (.int .u8 97)), none, []⟩, ⟨some 5, .move (.tmp 4), none, []⟩, ⟨some 6, .move (.tmp 0), some (some 5, true), []⟩, ⟨some 7, .bin .leq .none (.tmp 6) (.lit (.int .u8 122)), some (some 5, true), []⟩, ⟨some 8, .pick (.tmp 5) (.tmp 7) (.lit (.bool false)), none, []⟩, ⟨some 9, .move (.tmp 8), none, []⟩, ⟨some 10, .move (.tmp 0), some (some 9, false), []⟩, ⟨some 11, .bin .geq .none (.tmp 10) (.lit (.int .u8 65)), some (some 9, false), []⟩, ⟨some 12, .move (.tmp 11), some (some 9, false), []⟩, ⟨some 13, .move (.tmp 0), some (some 12, true), []⟩, ⟨some 14, .bin .leq .none (.tmp 13) (.lit (.int .u8 90)), some (some 12, true), []⟩, ⟨some 15, .pick (.tmp 12) (.tmp 14) (.lit (.bool false)), some (some 9, false), []⟩, ⟨some 16, .pick (.tmp 9) (.lit (.bool true)) (.tmp 15), none, []⟩, ⟨some 2, .move (.tmp 16), none, []⟩]) .ret)
set_option maxRecDepth 20000 in
theorem letter_spec (c : Int) (σ : Store) : ACalls Try.prog 91 [.int .u8 c] σ (isR (.bool (letterB c)) σ) := by
  refine ACalls.intro (rs := [(.tmp 2)]) (by kernel_rfl) { own := [], ghosts := [] } Try.func91 (c := Try.f91.body.getD .skip) (by kernel_rfl) (by decide) (by rw [show Try.f91.ntmps = 17 by kernel_rfl]; exact Nat.le_of_ble_eq_true rfl) (by kernel_rfl) ?_
  intro hσ hids
  rw [show comp Try.prog { own := [], ghosts := [] } (Try.f91.body.getD .skip) = c_letter by kernel_rfl, show Try.f91.ntmps = 17 by kernel_rfl]
  unfold c_letter
  by_cases h1 : c ≥ 97 <;> by_cases h2 : c ≤ 122 <;> by_cases h3 : c ≥ 65 <;> by_cases h4 : c ≤ 90
  all_goals
    simp only [go_sem, Int.reduceToNat, Int.reduceLE, Int.reduceLT, Nat.reduceBEq, Nat.reduceLT, Nat.reduceAdd, Nat.reduceLeDiff, h1, h2, h3, h4]
    first | exact rtw (v := .bool _) wkS ⟨by simp only [letterB, ge_iff_le] at *; simp only [h1, h2, h3, h4]; rfl, rfl⟩ | exact rtw0 (v := .bool _) wkS ⟨by simp only [letterB, ge_iff_le] at *; simp only [h1, h2, h3, h4]; rfl, rfl⟩
def okC (c : UInt8) : Bool := letterB c.toNat || digitB c.toNat || [45, 95, 40, 41, 44].contains c
def nameL : List UInt8 → Bool
  | [] => false
  | c :: l => decide (l.length + 1 ≤ 40) && letterB c.toNat && (c :: l).all okC
def nameB (b : ByteArray) : Bool := nameL b.data.toList
theorem nameL_len {l : List UInt8} (h : ¬ (l.length : Int) < 1) (h2 : ¬ (l.length : Int) > 40) {c : UInt8} (hc : l[0]? = some c) : nameL l = (letterB c.toNat && l.all okC) := by
  cases l with
  | nil => simp at h
  | cons d l =>
    simp only [List.getElem?_cons_zero, Option.some.injEq] at hc
    subst hc
    rw [nameL, decide_eq_true (by simp at h2; omega : l.length + 1 ≤ 40), Bool.true_and]
theorem nameL_short {l : List UInt8} (h : (l.length : Int) < 1) : nameL l = false := by
  cases l with
  | nil => rfl
  | cons c l => simp at h; omega
theorem nameL_long {l : List UInt8} (h : (l.length : Int) > 40) : nameL l = false := by
  cases l with
  | nil => rfl
  | cons c l => rw [nameL, decide_eq_false (by simp at h; omega)]; rfl
theorem indexByteString_spec (b : ByteArray) (c : UInt8) (σ : Store) : ACalls Try.prog 113 [.str b, .int .u8 c.toNat] σ (isR (.int .i64 (Lib.indexByte b.data.toList c)) σ) := by
  refine .extern Try.func113 (by kernel_rfl) (by kernel_rfl) (by kernel_rfl) (by kernel_rfl) (e := Extern.BytealgIndexByte.indexByte) ?_
  intro m loc w vs ha
  obtain ⟨v0, v1, rfl, h0, h1⟩ := ha.two
  cases h0; cases h1
  refine ⟨_, Lib.run_indexByteString _ _ _, ?_⟩
  rw [Int.toNat_natCast, show c.toNat.toUInt8 = c by simp]
  exact .int _ _
def c_indexByte2 : CCode := .seq (.ops [⟨some 4, .move (.lit (.int .i64 0)), none, []⟩]) (.seq (.ops [⟨some 5, .move (.tmp 0), none, []⟩, ⟨some 6, .move (.tmp 1), none, []⟩, ⟨some 7, .call (.lit (.func 113 [])) [.tmp 5, .tmp 6], none, []⟩, ⟨some 4, .move (.tmp 7), none, []⟩]) .ret)
set_option maxRecDepth 20000 in
theorem indexByte2_spec (b : ByteArray) (c : UInt8) (σ : Store) : ACalls Try.prog 107 [.str b, .int .u8 c.toNat] σ (isR (.int .i64 (Lib.indexByte b.data.toList c)) σ) := by
  refine ACalls.intro (rs := [(.tmp 4)]) (by kernel_rfl) { own := [], ghosts := [] } Try.func107 (c := Try.f107.body.getD .skip) (by kernel_rfl) (by decide) (by rw [show Try.f107.ntmps = 8 by kernel_rfl]; exact Nat.le_of_ble_eq_true rfl) (by kernel_rfl) ?_
  intro hσ hids
  rw [show comp Try.prog { own := [], ghosts := [] } (Try.f107.body.getD .skip) = c_indexByte2 by kernel_rfl, show Try.f107.ntmps = 8 by kernel_rfl]
  unfold c_indexByte2
  simp only [go_sem, Int.reduceToNat, Int.reduceLE, Int.reduceLT, Nat.reduceBEq, Nat.reduceLT, Nat.reduceAdd, Nat.reduceLeDiff]
  refine (indexByteString_spec b c σ).is ?_
  simp only [go_sem, Int.reduceToNat, Int.reduceLE, Int.reduceLT, Nat.reduceBEq, Nat.reduceLT, Nat.reduceAdd, Nat.reduceLeDiff]
  first | exact rtw (v := .int .i64 _) wkS ⟨rfl, rfl⟩ | exact rtw0 (v := .int .i64 _) wkS ⟨rfl, rfl⟩
def c_indexByte : CCode := .seq (.ops [⟨some 4, .move (.lit (.int .i64 0)), none, []⟩]) (.seq (.ops [⟨some 5, .move (.tmp 0), none, []⟩, ⟨some 6, .move (.tmp 1), none, []⟩, ⟨some 7, .call (.lit (.func 107 [])) [.tmp 5, .tmp 6], none, []⟩, ⟨some 4, .move (.tmp 7), none, []⟩]) .ret)
set_option maxRecDepth 20000 in
theorem indexByte_spec (b : ByteArray) (c : UInt8) (σ : Store) : ACalls Try.prog 92 [.str b, .int .u8 c.toNat] σ (isR (.int .i64 (Lib.indexByte b.data.toList c)) σ) := by
  refine ACalls.intro (rs := [(.tmp 4)]) (by kernel_rfl) { own := [], ghosts := [] } Try.func92 (c := Try.f92.body.getD .skip) (by kernel_rfl) (by decide) (by rw [show Try.f92.ntmps = 8 by kernel_rfl]; exact Nat.le_of_ble_eq_true rfl) (by kernel_rfl) ?_
  intro hσ hids
  rw [show comp Try.prog { own := [], ghosts := [] } (Try.f92.body.getD .skip) = c_indexByte by kernel_rfl, show Try.f92.ntmps = 8 by kernel_rfl]
  unfold c_indexByte
  simp only [go_sem, Int.reduceToNat, Int.reduceLE, Int.reduceLT, Nat.reduceBEq, Nat.reduceLT, Nat.reduceAdd, Nat.reduceLeDiff]
  refine (indexByte2_spec b c σ).is ?_
  simp only [go_sem, Int.reduceToNat, Int.reduceLE, Int.reduceLT, Nat.reduceBEq, Nat.reduceLT, Nat.reduceAdd, Nat.reduceLeDiff]
  first | exact rtw (v := .int .i64 _) wkS ⟨rfl, rfl⟩ | exact rtw0 (v := .int .i64 _) wkS ⟨rfl, rfl⟩
theorem indexByte_neg : ∀ (l : List UInt8) (c : UInt8), (Lib.indexByte l c < 0) = (l.contains c = false)
  | [], c => by simp [Lib.indexByte]
  | b :: l, c => by
    have ih := indexByte_neg l c
    have h1 := Lib.indexByte_ge l c
    unfold Lib.indexByte
    rw [List.contains_cons]
    by_cases hb : b = c
    · subst hb; simp
    · have e1 : (b == c) = false := by simpa using hb
      have e2 : (c == b) = false := by simpa using Ne.symm hb
      rw [e1, e2, Bool.false_or, ← ih, if_neg (by simp)]
      by_cases hm : Lib.indexByte l c = -1
      · rw [if_pos (by simpa using hm), hm]
      · rw [if_neg (by simpa using hm)]; exact propext ⟨fun _ => by omega, fun _ => by omega⟩
def c_name : CCode := .seq (.ops [⟨some 2, .move (.lit (.bool false)), none, []⟩]) (.seq (.seq (.ops [⟨some 5, .move (.tmp 0), none, []⟩, ⟨some 6, .bin .eql .none (.tmp 5) (.lit (.str (bys []))), none, []⟩, ⟨some 7, .move (.tmp 6), none, []⟩, ⟨some 8, .move (.tmp 0), some (some 7, false), []⟩, ⟨some 9, .blen 0 (.tmp 8), some (some 7, false), []⟩, ⟨some 10, .bin .gtr .none (.tmp 9) (.lit (.int .i64 40)), some (some 7, false), []⟩, ⟨some 11, .pick (.tmp 7) (.lit (.bool true)) (.tmp 10), none, []⟩, ⟨some 12, .move (.tmp 11), none, []⟩, ⟨some 13, .move (.tmp 0), some (some 12, false), []⟩, ⟨some 14, .istr (.tmp 13) (.lit (.int .i64 0)), some (some 12, false), []⟩, ⟨some 15, .call (.lit (.func 91 [])) [.tmp 14], some (some 12, false), []⟩, ⟨some 16, .un .not (.tmp 15), some (some 12, false), []⟩, ⟨some 17, .pick (.tmp 12) (.lit (.bool true)) (.tmp 16), none, []⟩]) (.cond (.tmp 17) (.seq (.ops [⟨some 2, .move (.lit (.bool false)), none, []⟩]) .ret) .skip)) (.seq (.seq (.ops [⟨some 18, .move (.tmp 0), none, []⟩, ⟨some 19, .blen 0 (.tmp 18), none, []⟩, ⟨some 20, .move (.lit (.int .i64 0)), none, []⟩]) (.block 0 (.loop (.seq (.ops [⟨some 21, .bin .lss .none (.tmp 20) (.tmp 19), none, []⟩]) (.seq (.cond (.tmp 21) .skip (.exit 0)) (.seq (.block 1 (.seq (.ops [⟨some 22, .move (.tmp 20), none, []⟩, ⟨some 3, .move (.tmp 22), none, []⟩]) (.seq (.ops [⟨some 23, .move (.tmp 0), none, []⟩, ⟨some 24, .move (.tmp 3), none, []⟩, ⟨some 25, .istr (.tmp 23) (.tmp 24), none, []⟩, ⟨some 4, .move (.tmp 25), none, []⟩]) (.seq (.ops [⟨some 26, .move (.tmp 4), none, []⟩, ⟨some 27, .call (.lit (.func 91 [])) [.tmp 26], none, []⟩, ⟨some 28, .un .not (.tmp 27), none, []⟩, ⟨some 29, .move (.tmp 28), none, []⟩, ⟨some 30, .move (.tmp 4), some (some 29, true), []⟩, ⟨some 31, .bin .lss .none (.tmp 30) (.lit (.int .u8 48)), some (some 29, true), []⟩, ⟨some 32, .move (.tmp 31), some (some 29, true), []⟩, ⟨some 33, .move (.tmp 4), some (some 32, false), []⟩, ⟨some 34, .bin .gtr .none (.tmp 33) (.lit (.int .u8 57)), some (some 32, false), []⟩, ⟨some 35, .pick (.tmp 32) (.lit (.bool true)) (.tmp 34), some (some 29, true), []⟩, ⟨some 36, .pick (.tmp 29) (.tmp 35) (.lit (.bool false)), none, []⟩, ⟨some 37, .move (.tmp 36), none, []⟩, ⟨some 38, .move (.tmp 4), some (some 37, true), []⟩, ⟨some 39, .call (.lit (.func 92 [])) [.lit (.str (bys [45, 95, 40, 41, 44])), .tmp 38], some (some 37, true), []⟩, ⟨some 40, .bin .lss .none (.tmp 39) (.lit (.int .i64 0)), some (some 37, true), []⟩, ⟨some 41, .pick (.tmp 37) (.tmp 40) (.lit (.bool false)), none, []⟩]) (.cond (.tmp 41) (.seq (.ops [⟨some 2, .move (.lit (.bool false)), none, []⟩]) .ret) .skip))))) (.ops [⟨some 42, .bin .add .none (.tmp 20) (.lit (.int .i64 1)), none, []⟩, ⟨some 20, .move (.tmp 42), none, []⟩]))))))) (.seq (.ops [⟨some 2, .move (.lit (.bool true)), none, []⟩]) .ret)))
set_option maxRecDepth 20000 in
theorem name_spec (b : ByteArray) (σ : Store) (hb : b.data.toList.length ≤ 140737488355328) : ACalls Try.prog 76 [.str b] σ (isR (.bool (nameB b)) σ) := by
  refine ACalls.intro (rs := [(.tmp 2)]) (by kernel_rfl) { own := [], ghosts := [] } Try.func76 (c := Try.f76.body.getD .skip) (by kernel_rfl) (by decide) (by rw [show Try.f76.ntmps = 43 by kernel_rfl]; exact Nat.le_of_ble_eq_true rfl) (by kernel_rfl) ?_
  intro hσ hids
  rw [show comp Try.prog { own := [], ghosts := [] } (Try.f76.body.getD .skip) = c_name by kernel_rfl, show Try.f76.ntmps = 43 by kernel_rfl]
  unfold c_name
  have hs : b.size = b.data.toList.length := rfl
  unfold nameB
  have hem : (b.toList == (bys []).toList) = decide (b.data.toList.length = 0) := by
    by_cases he : b = .empty
    · subst he; rw [toList_data, toList_data]; rfl
    · rw [decide_eq_false (fun e => he (by cases b; simp at e; subst e; rfl))]
      refine beq_eq_false_iff_ne.2 fun e => he ?_
      rw [toList_data, toList_data] at e
      cases b; simp [bys] at e; subst e; rfl
  by_cases h1 : (b.data.toList.length : Int) < 1
  · have h1' : b.data.toList.length = 0 := by omega
    simp only [go_sem, Int.reduceToNat, Int.reduceLE, Int.reduceLT, Nat.reduceBEq, Nat.reduceLT, Nat.reduceAdd, Nat.reduceLeDiff, hs, hem, h1']
    first | exact rtk (.bool false) ⟨by rw [nameL_short h1], rfl⟩ | exact rtk0 (.bool false) ⟨by rw [nameL_short h1], rfl⟩
  have h1' : ¬ b.data.toList.length = 0 := by omega
  by_cases h2 : (b.data.toList.length : Int) > 40
  · simp only [go_sem, Int.reduceToNat, Int.reduceLE, Int.reduceLT, Nat.reduceBEq, Nat.reduceLT, Nat.reduceAdd, Nat.reduceLeDiff, hs, hem, h1', h2]
    first | exact rtk (.bool false) ⟨by rw [nameL_long h2], rfl⟩ | exact rtk0 (.bool false) ⟨by rw [nameL_long h2], rfl⟩
  obtain ⟨c0, hc0⟩ : ∃ c, b.data.toList[0]? = some c := get_ex (by omega)
  have hn := nameL_len h1 h2 hc0
  rw [← bget] at hc0
  simp only [go_sem, Int.reduceToNat, Int.reduceLE, Int.reduceLT, Nat.reduceBEq, Nat.reduceLT, Nat.reduceAdd, Nat.reduceLeDiff, hs, hem, h1', h2, hc0, Int.toNat_zero, Int.le_refl]
  refine (letter_spec c0.toNat σ).is ?_
  cases hl : letterB c0.toNat
  · simp only [go_sem, Int.reduceToNat, Int.reduceLE, Int.reduceLT, Nat.reduceBEq, Nat.reduceLT, Nat.reduceAdd, Nat.reduceLeDiff, hs]
    first | exact rtk (.bool false) ⟨by rw [hn, hl]; rfl, rfl⟩ | exact rtk0 (.bool false) ⟨by rw [hn, hl]; rfl, rfl⟩
  rw [hl, Bool.true_and] at hn
  simp only [go_sem, Int.reduceToNat, Int.reduceLE, Int.reduceLT, Nat.reduceBEq, Nat.reduceLT, Nat.reduceAdd, Nat.reduceLeDiff, hs]
  refine wpc_while (fun i => [(0, .str b), (19, .int .i64 b.data.toList.length), (20, .int .i64 (i : Nat))]) (fun _ => σ) (fun i => i ≤ b.data.toList.length ∧ nameL b.data.toList = (b.data.toList.drop i).all okC) (fun i => b.data.toList.length - i) 0 ⟨Nat.zero_le _, hn⟩ (by (try dsimp only); first | exact ghk | exact ghk0) ?_
  rintro i ⟨hi, hv⟩ K hK hE hR
  by_cases h : i < b.data.toList.length
  · obtain ⟨y, hx⟩ := get_ex h; have hlt : ((i : Int) < (b.data.toList.length : Int)) := (by omega); have hw : IntKind.i64.wrap ((i : Int) + 1) = ((i + 1 : Nat) : Int) := (by rw [wrap_ok (by omega)]; omega)
    rw [drop_cons hx, List.all_cons] at hv
    rw [← bget] at hx
    simp only [go_sem, Int.reduceToNat, Int.reduceLE, Int.reduceLT, Nat.reduceBEq, Nat.reduceLT, Nat.reduceAdd, Nat.reduceLeDiff, hlt, hx]
    refine (letter_spec y.toNat σ).is ?_
    cases h1 : letterB y.toNat
    · have hdig : digitB y.toNat = (!(decide ((y.toNat : Int) < 48)) && !(decide ((y.toNat : Int) > 57))) := by
        unfold digitB
        by_cases a : (y.toNat : Int) < 48 <;> by_cases b : (y.toNat : Int) > 57
        · rw [decide_eq_true a, decide_eq_true b, decide_eq_false (by omega)]; rfl
        · rw [decide_eq_true a, decide_eq_false b, decide_eq_false (by omega)]; rfl
        · rw [decide_eq_false a, decide_eq_true b, decide_eq_true (by omega), decide_eq_false (by omega)]; rfl
        · rw [decide_eq_false a, decide_eq_false b, decide_eq_true (by omega), decide_eq_true (by omega)]; rfl
      by_cases h2 : digitB y.toNat = true
      · rw [h2] at hdig
        have a1 : ¬ (y.toNat : Int) < 48 := fun a => by rw [decide_eq_true a] at hdig; simp at hdig
        have a2 : ¬ (y.toNat : Int) > 57 := fun a => by rw [decide_eq_true a, Bool.not_true, Bool.and_false] at hdig; simp at hdig
        have hok : okC y = true := by rw [okC, h1, h2]; rfl
        rw [hok, Bool.true_and] at hv
        simp only [go_sem, Int.reduceToNat, Int.reduceLE, Int.reduceLT, Nat.reduceBEq, Nat.reduceLT, Nat.reduceAdd, Nat.reduceLeDiff, a1, a2]
        refine hK _ _ (i + 1) (⟨by omega, hv⟩) (by first | omega | (simp only []; omega) | (simp; omega)) ?_; (try dsimp only); (try simp only [ hw]); first | exact ghk | exact ghk0
      · have h2 : digitB y.toNat = false := by simpa using h2
        rw [h2] at hdig
        have hor : (y.toNat : Int) < 48 ∨ (¬ (y.toNat : Int) < 48 ∧ (y.toNat : Int) > 57) := by
          by_cases a : (y.toNat : Int) < 48
          · exact .inl a
          · refine .inr ⟨a, ?_⟩
            rw [decide_eq_false a, Bool.not_false, Bool.true_and] at hdig
            simpa using hdig.symm
        have hok : okC y = [45, 95, 40, 41, 44].contains y := by rw [okC, h1, h2]; rfl
        have hi := indexByte_neg [45, 95, 40, 41, 44] y
        rcases hor with a1 | ⟨a1, a2⟩
        · simp only [go_sem, Int.reduceToNat, Int.reduceLE, Int.reduceLT, Nat.reduceBEq, Nat.reduceLT, Nat.reduceAdd, Nat.reduceLeDiff, a1]
          refine (indexByte_spec (bys [45, 95, 40, 41, 44]) y σ).is ?_
          rw [show (bys [45, 95, 40, 41, 44]).data.toList = [45, 95, 40, 41, 44] from rfl]
          cases h3 : [45, 95, 40, 41, 44].contains y
          · rw [h3] at hi
            have hi : Lib.indexByte [45, 95, 40, 41, 44] y < 0 := by rw [hi]
            simp only [go_sem, Int.reduceToNat, Int.reduceLE, Int.reduceLT, Nat.reduceBEq, Nat.reduceLT, Nat.reduceAdd, Nat.reduceLeDiff, hi]
            rw [hR]
            first | exact rtk (.bool false) ⟨by rw [hv, hok, h3]; rfl, rfl⟩ | exact rtk0 (.bool false) ⟨by rw [hv, hok, h3]; rfl, rfl⟩
          · rw [h3] at hi
            have hi : ¬ Lib.indexByte [45, 95, 40, 41, 44] y < 0 := by rw [hi]; simp
            simp only [go_sem, Int.reduceToNat, Int.reduceLE, Int.reduceLT, Nat.reduceBEq, Nat.reduceLT, Nat.reduceAdd, Nat.reduceLeDiff, hi]
            rw [hok, h3, Bool.true_and] at hv
            refine hK _ _ (i + 1) (⟨by omega, hv⟩) (by first | omega | (simp only []; omega) | (simp; omega)) ?_; (try dsimp only); (try simp only [ hw]); first | exact ghk | exact ghk0
        · simp only [go_sem, Int.reduceToNat, Int.reduceLE, Int.reduceLT, Nat.reduceBEq, Nat.reduceLT, Nat.reduceAdd, Nat.reduceLeDiff, a1, a2]
          refine (indexByte_spec (bys [45, 95, 40, 41, 44]) y σ).is ?_
          rw [show (bys [45, 95, 40, 41, 44]).data.toList = [45, 95, 40, 41, 44] from rfl]
          cases h3 : [45, 95, 40, 41, 44].contains y
          · rw [h3] at hi
            have hi : Lib.indexByte [45, 95, 40, 41, 44] y < 0 := by rw [hi]
            simp only [go_sem, Int.reduceToNat, Int.reduceLE, Int.reduceLT, Nat.reduceBEq, Nat.reduceLT, Nat.reduceAdd, Nat.reduceLeDiff, hi]
            rw [hR]
            first | exact rtk (.bool false) ⟨by rw [hv, hok, h3]; rfl, rfl⟩ | exact rtk0 (.bool false) ⟨by rw [hv, hok, h3]; rfl, rfl⟩
          · rw [h3] at hi
            have hi : ¬ Lib.indexByte [45, 95, 40, 41, 44] y < 0 := by rw [hi]; simp
            simp only [go_sem, Int.reduceToNat, Int.reduceLE, Int.reduceLT, Nat.reduceBEq, Nat.reduceLT, Nat.reduceAdd, Nat.reduceLeDiff, hi]
            rw [hok, h3, Bool.true_and] at hv
            refine hK _ _ (i + 1) (⟨by omega, hv⟩) (by first | omega | (simp only []; omega) | (simp; omega)) ?_; (try dsimp only); (try simp only [ hw]); first | exact ghk | exact ghk0
    · simp only [go_sem, Int.reduceToNat, Int.reduceLE, Int.reduceLT, Nat.reduceBEq, Nat.reduceLT, Nat.reduceAdd, Nat.reduceLeDiff]
      have hok : okC y = true := by rw [okC, h1]; rfl
      rw [hok, Bool.true_and] at hv
      refine hK _ _ (i + 1) (⟨by omega, hv⟩) (by first | omega | (simp only []; omega) | (simp; omega)) ?_; (try dsimp only); (try simp only [ hw]); first | exact ghk | exact ghk0
  · have hlt : ¬ ((i : Int) < (b.data.toList.length : Int)) := by omega
    rw [drop_len h] at hv
    simp only [go_sem, Int.reduceToNat, Int.reduceLE, Int.reduceLT, Nat.reduceBEq, Nat.reduceLT, Nat.reduceAdd, Nat.reduceLeDiff, hlt, hE]
    first | exact rtk (.bool true) ⟨by rw [hv]; rfl, rfl⟩ | exact rtk0 (.bool true) ⟨by rw [hv]; rfl, rfl⟩
end Go.Proofs.Ytbnhijapbnfohaa
namespace Go.Proofs.Ytbnhijapbnfohaa
open Go.Ahl
theorem take_succ' {α : Type} {l : List α} {i : Nat} {x : α} (h : l[i]? = some x) : l.take (i + 1) = l.take i ++ [x] := by
  rw [List.take_add_one, h]; rfl
/-- Names that are none of some, and differ. -/
def namesFrom (seen : List ByteArray) : List ByteArray → Bool
  | [] => true
  | s :: l => nameB s && !(decide (s ∈ seen)) && namesFrom (seen ++ [s]) l
def effB (n : Int) (e : FEff) : Bool := condB n (-1) e.when_ && (decide (0 ≤ e.lit.fact) && decide (e.lit.fact < n))
def actB (n : Int) (a : FAct) : Bool := decide (0 ≤ a.cost) && (decide (a.cost ≤ 100000) && (condB n (-1) a.pre && (decide (a.effects.length ≤ 100) && a.effects.all (effB n))))
def validB (t : FTask) : Bool :=
  decide (t.facts.length ≤ 200) && (decide (t.actions.length ≤ 1000) && (risingB t.facts.length (-1) t.init && (condB t.facts.length (-1) t.goal && (namesFrom [] t.facts && (namesFrom [] (t.actions.map (·.name)) && t.actions.all (actB t.facts.length))))))
/-- A task whose lists are not too long. -/
structure TB (t : FTask) : Prop where
  facts : t.facts.length ≤ 140737488355328
  names : ∀ b ∈ t.facts, b.data.toList.length ≤ 140737488355328
  init : t.init.length ≤ 140737488355328
  goal : t.goal.length ≤ 140737488355328
  actions : t.actions.length ≤ 140737488355328
  name : ∀ a ∈ t.actions, a.name.data.toList.length ≤ 140737488355328
  pre : ∀ a ∈ t.actions, a.pre.length ≤ 140737488355328
  effects : ∀ a ∈ t.actions, a.effects.length ≤ 140737488355328
  whens : ∀ a ∈ t.actions, ∀ e ∈ a.effects, e.when_.length ≤ 140737488355328
end Go.Proofs.Ytbnhijapbnfohaa
namespace Go.Proofs.Ytbnhijapbnfohaa
open Go.Ahl
/-- The actions as task.Valid goes through them. -/
def actsFrom (n : Int) (seen : List ByteArray) : List FAct → Bool
  | [] => true
  | a :: l => nameB a.name && (!(decide (a.name ∈ seen)) && (actB n a && actsFrom n (seen ++ [a.name]) l))
theorem actsFrom_eq (n : Int) : ∀ (l : List FAct) (seen : List ByteArray), actsFrom n seen l = (namesFrom seen (l.map (·.name)) && l.all (actB n))
  | [], seen => rfl
  | a :: l, seen => by
    rw [actsFrom, List.map_cons, namesFrom, List.all_cons, actsFrom_eq n l]
    cases nameB a.name <;> cases decide (a.name ∈ seen) <;> cases actB n a <;> simp
def c_valid : CCode := .seq (.ops [⟨some 1, .box (.tmp 0), none, []⟩, ⟨some 2, .move (.lit (.bool false)), none, []⟩]) (.seq (.ops [⟨some 11, .faddr 0 (.tmp 1), none, []⟩, ⟨some 12, .load none (.tmp 11), none, []⟩, ⟨some 13, .blen 1 (.tmp 12), none, []⟩, ⟨some 3, .move (.tmp 13), none, []⟩]) (.seq (.seq (.ops [⟨some 14, .move (.tmp 3), none, []⟩, ⟨some 15, .bin .gtr .none (.tmp 14) (.lit (.int .i64 200)), none, []⟩, ⟨some 16, .move (.tmp 15), none, []⟩, ⟨some 17, .faddr 3 (.tmp 1), some (some 16, false), []⟩, ⟨some 18, .load none (.tmp 17), some (some 16, false), []⟩, ⟨some 19, .blen 1 (.tmp 18), some (some 16, false), []⟩, ⟨some 20, .bin .gtr .none (.tmp 19) (.lit (.int .i64 1000)), some (some 16, false), []⟩, ⟨some 21, .pick (.tmp 16) (.lit (.bool true)) (.tmp 20), none, []⟩, ⟨some 22, .move (.tmp 21), none, []⟩, ⟨some 23, .move (.tmp 3), some (some 22, false), []⟩, ⟨some 24, .faddr 1 (.tmp 1), some (some 22, false), []⟩, ⟨some 25, .load none (.tmp 24), some (some 22, false), []⟩, ⟨some 26, .call (.lit (.func 74 [])) [.tmp 23, .tmp 25], some (some 22, false), []⟩, ⟨some 27, .un .not (.tmp 26), some (some 22, false), []⟩, ⟨some 28, .pick (.tmp 22) (.lit (.bool true)) (.tmp 27), none, []⟩, ⟨some 29, .move (.tmp 28), none, []⟩, ⟨some 30, .move (.tmp 3), some (some 29, false), []⟩, ⟨some 31, .faddr 2 (.tmp 1), some (some 29, false), []⟩, ⟨some 32, .load none (.tmp 31), some (some 29, false), []⟩, ⟨some 33, .call (.lit (.func 75 [])) [.tmp 30, .tmp 32], some (some 29, false), []⟩, ⟨some 34, .un .not (.tmp 33), some (some 29, false), []⟩, ⟨some 35, .pick (.tmp 29) (.lit (.bool true)) (.tmp 34), none, []⟩]) (.cond (.tmp 35) (.seq (.ops [⟨some 2, .move (.lit (.bool false)), none, []⟩]) .ret) .skip)) (.seq (.ops [⟨some 36, .mkmap, none, []⟩, ⟨some 4, .move (.tmp 36), none, []⟩]) (.seq (.seq (.ops [⟨some 37, .faddr 0 (.tmp 1), none, []⟩, ⟨some 38, .load none (.tmp 37), none, []⟩, ⟨some 39, .blen 1 (.tmp 38), none, []⟩, ⟨some 40, .move (.lit (.int .i64 0)), none, []⟩]) (.block 0 (.loop (.seq (.ops [⟨some 41, .bin .lss .none (.tmp 40) (.tmp 39), none, []⟩]) (.seq (.cond (.tmp 41) .skip (.exit 0)) (.seq (.block 1 (.seq (.ops [⟨some 42, .iaddr 1 (.tmp 38) (.tmp 40), none, []⟩, ⟨some 43, .load none (.tmp 42), none, []⟩, ⟨some 6, .move (.tmp 43), none, []⟩]) (.seq (.seq (.ops [⟨some 44, .move (.tmp 6), none, []⟩, ⟨some 45, .call (.lit (.func 76 [])) [.tmp 44], none, []⟩, ⟨some 46, .un .not (.tmp 45), none, []⟩, ⟨some 47, .move (.tmp 46), none, []⟩, ⟨some 48, .move (.tmp 4), some (some 47, false), []⟩, ⟨some 49, .move (.tmp 6), some (some 47, false), []⟩, ⟨some 50, .lookup true (.bool false) (.tmp 48) (.tmp 49) false, some (some 47, false), []⟩, ⟨some 51, .pick (.tmp 47) (.lit (.bool true)) (.tmp 50), none, []⟩]) (.cond (.tmp 51) (.seq (.ops [⟨some 2, .move (.lit (.bool false)), none, []⟩]) .ret) .skip)) (.ops [⟨some 52, .move (.tmp 4), none, []⟩, ⟨some 53, .move (.tmp 6), none, []⟩, ⟨none, .mapup true (.tmp 52) (.tmp 53) (.lit (.bool true)), none, []⟩])))) (.ops [⟨some 54, .bin .add .none (.tmp 40) (.lit (.int .i64 1)), none, []⟩, ⟨some 40, .move (.tmp 54), none, []⟩]))))))) (.seq (.ops [⟨some 55, .mkmap, none, []⟩, ⟨some 4, .move (.tmp 55), none, []⟩]) (.seq (.seq (.ops [⟨some 56, .faddr 3 (.tmp 1), none, []⟩, ⟨some 57, .load none (.tmp 56), none, []⟩, ⟨some 58, .blen 1 (.tmp 57), none, []⟩, ⟨some 59, .move (.lit (.int .i64 0)), none, []⟩]) (.block 2 (.loop (.seq (.ops [⟨some 60, .bin .lss .none (.tmp 59) (.tmp 58), none, []⟩]) (.seq (.cond (.tmp 60) .skip (.exit 2)) (.seq (.block 3 (.seq (.ops [⟨some 61, .iaddr 4 (.tmp 57) (.tmp 59), none, []⟩, ⟨some 62, .load (some 4) (.tmp 61), none, []⟩, ⟨some 8, .alloc (.agg [.str (bys []), .int .i64 0, .slice .nil [], .slice .nil []]), none, []⟩, ⟨none, .store 4 (.tmp 8) (.tmp 62), none, []⟩]) (.seq (.seq (.ops [⟨some 63, .faddr 0 (.tmp 8), none, []⟩, ⟨some 64, .load none (.tmp 63), none, []⟩, ⟨some 65, .call (.lit (.func 76 [])) [.tmp 64], none, []⟩, ⟨some 66, .un .not (.tmp 65), none, []⟩, ⟨some 67, .move (.tmp 66), none, []⟩, ⟨some 68, .move (.tmp 4), some (some 67, false), []⟩, ⟨some 69, .faddr 0 (.tmp 8), some (some 67, false), []⟩, ⟨some 70, .load none (.tmp 69), some (some 67, false), []⟩, ⟨some 71, .lookup true (.bool false) (.tmp 68) (.tmp 70) false, some (some 67, false), []⟩, ⟨some 72, .pick (.tmp 67) (.lit (.bool true)) (.tmp 71), none, []⟩, ⟨some 73, .move (.tmp 72), none, []⟩, ⟨some 74, .faddr 1 (.tmp 8), some (some 73, false), []⟩, ⟨some 75, .load none (.tmp 74), some (some 73, false), []⟩, ⟨some 76, .bin .lss .none (.tmp 75) (.lit (.int .i64 0)), some (some 73, false), []⟩, ⟨some 77, .pick (.tmp 73) (.lit (.bool true)) (.tmp 76), none, []⟩, ⟨some 78, .move (.tmp 77), none, []⟩, ⟨some 79, .faddr 1 (.tmp 8), some (some 78, false), []⟩, ⟨some 80, .load none (.tmp 79), some (some 78, false), []⟩, ⟨some 81, .bin .gtr .none (.tmp 80) (.lit (.int .i64 100000)), some (some 78, false), []⟩, ⟨some 82, .pick (.tmp 78) (.lit (.bool true)) (.tmp 81), none, []⟩, ⟨some 83, .move (.tmp 82), none, []⟩, ⟨some 84, .move (.tmp 3), some (some 83, false), []⟩, ⟨some 85, .faddr 2 (.tmp 8), some (some 83, false), []⟩, ⟨some 86, .load none (.tmp 85), some (some 83, false), []⟩, ⟨some 87, .call (.lit (.func 75 [])) [.tmp 84, .tmp 86], some (some 83, false), []⟩, ⟨some 88, .un .not (.tmp 87), some (some 83, false), []⟩, ⟨some 89, .pick (.tmp 83) (.lit (.bool true)) (.tmp 88), none, []⟩, ⟨some 90, .move (.tmp 89), none, []⟩, ⟨some 91, .faddr 3 (.tmp 8), some (some 90, false), []⟩, ⟨some 92, .load none (.tmp 91), some (some 90, false), []⟩, ⟨some 93, .blen 1 (.tmp 92), some (some 90, false), []⟩, ⟨some 94, .bin .gtr .none (.tmp 93) (.lit (.int .i64 100)), some (some 90, false), []⟩, ⟨some 95, .pick (.tmp 90) (.lit (.bool true)) (.tmp 94), none, []⟩]) (.cond (.tmp 95) (.seq (.ops [⟨some 2, .move (.lit (.bool false)), none, []⟩]) .ret) .skip)) (.seq (.ops [⟨some 96, .move (.tmp 4), none, []⟩, ⟨some 97, .faddr 0 (.tmp 8), none, []⟩, ⟨some 98, .load none (.tmp 97), none, []⟩, ⟨none, .mapup true (.tmp 96) (.tmp 98) (.lit (.bool true)), none, []⟩]) (.seq (.ops [⟨some 99, .faddr 3 (.tmp 8), none, []⟩, ⟨some 100, .load none (.tmp 99), none, []⟩, ⟨some 101, .blen 1 (.tmp 100), none, []⟩, ⟨some 102, .move (.lit (.int .i64 0)), none, []⟩]) (.block 4 (.loop (.seq (.ops [⟨some 103, .bin .lss .none (.tmp 102) (.tmp 101), none, []⟩]) (.seq (.cond (.tmp 103) .skip (.exit 4)) (.seq (.block 5 (.seq (.ops [⟨some 104, .iaddr 3 (.tmp 100) (.tmp 102), none, []⟩, ⟨some 105, .load (some 3) (.tmp 104), none, []⟩, ⟨some 10, .alloc (.agg [.slice .nil [], .int .i64 0, .bool false]), none, []⟩, ⟨none, .store 3 (.tmp 10) (.tmp 105), none, []⟩]) (.seq (.ops [⟨some 106, .move (.tmp 3), none, []⟩, ⟨some 107, .faddr 0 (.tmp 10), none, []⟩, ⟨some 108, .load none (.tmp 107), none, []⟩, ⟨some 109, .call (.lit (.func 75 [])) [.tmp 106, .tmp 108], none, []⟩, ⟨some 110, .un .not (.tmp 109), none, []⟩, ⟨some 111, .move (.tmp 110), none, []⟩, ⟨some 112, .faddr 1 (.tmp 10), some (some 111, false), []⟩, ⟨some 113, .faddr 0 (.tmp 112), some (some 111, false), []⟩, ⟨some 114, .load none (.tmp 113), some (some 111, false), []⟩, ⟨some 115, .bin .lss .none (.tmp 114) (.lit (.int .i64 0)), some (some 111, false), []⟩, ⟨some 116, .pick (.tmp 111) (.lit (.bool true)) (.tmp 115), none, []⟩, ⟨some 117, .move (.tmp 116), none, []⟩, ⟨some 118, .faddr 1 (.tmp 10), some (some 117, false), []⟩, ⟨some 119, .faddr 0 (.tmp 118), some (some 117, false), []⟩, ⟨some 120, .load none (.tmp 119), some (some 117, false), []⟩, ⟨some 121, .move (.tmp 3), some (some 117, false), []⟩, ⟨some 122, .bin .geq .none (.tmp 120) (.tmp 121), some (some 117, false), []⟩, ⟨some 123, .pick (.tmp 117) (.lit (.bool true)) (.tmp 122), none, []⟩]) (.cond (.tmp 123) (.seq (.ops [⟨some 2, .move (.lit (.bool false)), none, []⟩]) .ret) .skip)))) (.ops [⟨some 124, .bin .add .none (.tmp 102) (.lit (.int .i64 1)), none, []⟩, ⟨some 102, .move (.tmp 124), none, []⟩]))))))))))) (.ops [⟨some 125, .bin .add .none (.tmp 59) (.lit (.int .i64 1)), none, []⟩, ⟨some 59, .move (.tmp 125), none, []⟩]))))))) (.seq (.ops [⟨some 2, .move (.lit (.bool true)), none, []⟩]) .ret)))))))
set_option maxRecDepth 20000 in
theorem valid_spec (t : FTask) (σ : Store) (hb : TB t) : ACalls Try.prog 51 [.agg (encTask t)] σ (isR (.bool (validB t)) σ) := by
  refine ACalls.intro (rs := [(.tmp 2)]) (by kernel_rfl) { own := [], ghosts := [] } Try.func51 (c := Try.f51.body.getD .skip) (by kernel_rfl) (by decide) (by rw [show Try.f51.ntmps = 126 by kernel_rfl]; exact Nat.le_of_ble_eq_true rfl) (by kernel_rfl) ?_
  intro hσ hids
  rw [show comp Try.prog { own := [], ghosts := [] } (Try.f51.body.getD .skip) = c_valid by kernel_rfl, show Try.f51.ntmps = 126 by kernel_rfl]
  unfold c_valid
  unfold validB
  rw [← actsFrom_eq]
  by_cases h1 : (t.facts.length : Int) > 200
  · simp only [go_sem, Int.reduceToNat, Int.reduceLE, Int.reduceLT, Nat.reduceBEq, Nat.reduceLT, Nat.reduceAdd, Nat.reduceLeDiff, encTask, h1]
    first | exact rtk (.bool false) ⟨by rw [decide_eq_false (by omega : ¬ t.facts.length ≤ 200)]; rfl, rfl⟩ | exact rtk0 (.bool false) ⟨by rw [decide_eq_false (by omega : ¬ t.facts.length ≤ 200)]; rfl, rfl⟩
  rw [decide_eq_true (by omega : t.facts.length ≤ 200), Bool.true_and]
  by_cases h5 : (t.actions.length : Int) > 1000
  · simp only [go_sem, Int.reduceToNat, Int.reduceLE, Int.reduceLT, Nat.reduceBEq, Nat.reduceLT, Nat.reduceAdd, Nat.reduceLeDiff, encTask, h1, h5]
    first | exact rtk (.bool false) ⟨by rw [decide_eq_false (by omega : ¬ t.actions.length ≤ 1000)]; rfl, rfl⟩ | exact rtk0 (.bool false) ⟨by rw [decide_eq_false (by omega : ¬ t.actions.length ≤ 1000)]; rfl, rfl⟩
  rw [decide_eq_true (by omega : t.actions.length ≤ 1000)]
  simp only [go_sem, Int.reduceToNat, Int.reduceLE, Int.reduceLT, Nat.reduceBEq, Nat.reduceLT, Nat.reduceAdd, Nat.reduceLeDiff, encTask, h1, h5]
  refine (rising_spec t.init t.facts.length _ _ hb.init).is ?_
  cases h3 : risingB t.facts.length (-1) t.init
  · simp only [go_sem, Int.reduceToNat, Int.reduceLE, Int.reduceLT, Nat.reduceBEq, Nat.reduceLT, Nat.reduceAdd, Nat.reduceLeDiff]
    first | exact rtk (.bool false) ⟨by simp only [Bool.false_and, Bool.and_false], rfl⟩ | exact rtk0 (.bool false) ⟨by simp only [Bool.false_and, Bool.and_false], rfl⟩
  simp only [go_sem, Int.reduceToNat, Int.reduceLE, Int.reduceLT, Nat.reduceBEq, Nat.reduceLT, Nat.reduceAdd, Nat.reduceLeDiff]
  refine (cond_spec t.goal t.facts.length _ _ hb.goal).is ?_
  cases h4 : condB t.facts.length (-1) t.goal
  · simp only [go_sem, Int.reduceToNat, Int.reduceLE, Int.reduceLT, Nat.reduceBEq, Nat.reduceLT, Nat.reduceAdd, Nat.reduceLeDiff]
    first | exact rtk (.bool false) ⟨by simp only [Bool.false_and, Bool.and_false], rfl⟩ | exact rtk0 (.bool false) ⟨by simp only [Bool.false_and, Bool.and_false], rfl⟩
  simp only [Bool.true_and]
  simp only [go_sem, Int.reduceToNat, Int.reduceLE, Int.reduceLT, Nat.reduceBEq, Nat.reduceLT, Nat.reduceAdd, Nat.reduceLeDiff]
  have hs1 : ∀ i, IdsS (σ ++ [AObj.row (encTask t), AObj.map (encSet (t.facts.take i))]).length (σ ++ [AObj.row (encTask t), AObj.map (encSet (t.facts.take i))]) := fun i => idsS_app _ hσ (all_cons' (idsO_row (ids_encTask t)) (all_cons' (ids_encSet _) all_nil'))
  refine wpc_while (fun i => [(1, .ptr σ.length 0), (3, .int .i64 t.facts.length), (4, .map (σ.length + 1)), (38, .slice .unk (t.facts.map encT)), (39, .int .i64 t.facts.length), (40, .int .i64 (i : Nat))]) (fun i => σ ++ [.row (encTask t), .map (encSet (t.facts.take i))])
    (fun i => i ≤ t.facts.length ∧ namesFrom [] t.facts = namesFrom (t.facts.take i) (t.facts.drop i)) (fun i => t.facts.length - i) 0 ⟨Nat.zero_le _, rfl⟩ (by (try dsimp only); first | exact ghL (hs1 0) | exact ghL0 (hs1 0)) ?_
  rintro i ⟨hi, hv⟩ K hK hE hR
  by_cases h : i < t.facts.length
  · obtain ⟨y, hx⟩ := get_ex h; have hlt : ((i : Int) < (t.facts.length : Int)) := (by omega); have hw : IntKind.i64.wrap ((i : Int) + 1) = ((i + 1 : Nat) : Int) := (by rw [wrap_ok (by omega)]; omega)
    rw [drop_cons hx, namesFrom] at hv
    simp only [go_sem, Int.reduceToNat, Int.reduceLE, Int.reduceLT, Nat.reduceBEq, Nat.reduceLT, Nat.reduceAdd, Nat.reduceLeDiff, hlt, hx, encT, hR]
    refine (name_spec y _ (hb.names y (List.mem_of_getElem? hx))).is ?_
    cases h1 : nameB y
    · simp only [go_sem, Int.reduceToNat, Int.reduceLE, Int.reduceLT, Nat.reduceBEq, Nat.reduceLT, Nat.reduceAdd, Nat.reduceLeDiff, hR]
      first | exact rtk (.bool false) ⟨by rw [hv, h1, Bool.false_and, Bool.false_and, Bool.false_and], rfl⟩ | exact rtk0 (.bool false) ⟨by rw [hv, h1, Bool.false_and, Bool.false_and, Bool.false_and], rfl⟩
    by_cases h2 : y ∈ t.facts.take i
    · obtain ⟨j, hj⟩ := find_in y _ 0 h2
      simp only [go_sem, Int.reduceToNat, Int.reduceLE, Int.reduceLT, Nat.reduceBEq, Nat.reduceLT, Nat.reduceAdd, Nat.reduceLeDiff, hj, hR]
      first | exact rtk (.bool false) ⟨by rw [hv, h1, decide_eq_true h2, Bool.not_true, Bool.and_false, Bool.false_and, Bool.false_and], rfl⟩ | exact rtk0 (.bool false) ⟨by rw [hv, h1, decide_eq_true h2, Bool.not_true, Bool.and_false, Bool.false_and, Bool.false_and], rfl⟩
    · have hj := find_out y _ 0 h2
      simp only [go_sem, Int.reduceToNat, Int.reduceLE, Int.reduceLT, Nat.reduceBEq, Nat.reduceLT, Nat.reduceAdd, Nat.reduceLeDiff, hj, encSet_app, ← take_succ' hx]
      rw [h1, decide_eq_false h2, Bool.not_false, Bool.true_and, Bool.true_and, ← take_succ' hx] at hv
      refine hK _ _ (i + 1) (⟨by omega, hv⟩) (by first | omega | (simp only []; omega) | (simp; omega)) ?_; (try dsimp only); (try simp only [ hw]); first | exact ghL (hs1 (i + 1)) | exact ghL0 (hs1 (i + 1))
  · have hlt : ¬ ((i : Int) < (t.facts.length : Int)) := by omega
    rw [drop_len h, namesFrom] at hv
    simp only [go_sem, Int.reduceToNat, Int.reduceLE, Int.reduceLT, Nat.reduceBEq, Nat.reduceLT, Nat.reduceAdd, Nat.reduceLeDiff, hlt, hE, encTask]
    rw [hv, Bool.true_and]
    clear hK hE hR
    have hs2 : ∀ i, IdsS (σ ++ [AObj.row (encTask t), AObj.map (encSet t.facts), AObj.map (encSet ((t.actions.take i).map (·.name)))]).length (σ ++ [AObj.row (encTask t), AObj.map (encSet t.facts), AObj.map (encSet ((t.actions.take i).map (·.name)))]) := fun i => idsS_app _ hσ (all_cons' (idsO_row (ids_encTask t)) (all_cons' (ids_encSet _) (all_cons' (ids_encSet _) all_nil')))
    have ht : t.facts.take i = t.facts := List.take_of_length_le (by omega)
    rw [ht]
    refine wpc_while (fun i => [(3, .int .i64 t.facts.length), (4, .map (σ.length + 2)), (57, .slice .unk (t.actions.map encA)), (58, .int .i64 t.actions.length), (59, .int .i64 (i : Nat))])
      (fun i => σ ++ [.row (encTask t), .map (encSet t.facts), .map (encSet ((t.actions.take i).map (·.name)))]) (fun i => i ≤ t.actions.length ∧ actsFrom t.facts.length [] t.actions = actsFrom t.facts.length ((t.actions.take i).map (·.name)) (t.actions.drop i)) (fun i => t.actions.length - i) 0 ⟨Nat.zero_le _, rfl⟩ (by (try dsimp only); first | exact ghL (hs2 0) | exact ghL0 (hs2 0)) ?_
    clear hv h hi
    rintro i ⟨hi, hv⟩ K hK hE hR
    by_cases h : i < t.actions.length
    · obtain ⟨a, hx⟩ := get_ex h; have hlt : ((i : Int) < (t.actions.length : Int)) := (by omega); have hw : IntKind.i64.wrap ((i : Int) + 1) = ((i + 1 : Nat) : Int) := (by rw [wrap_ok (by omega)]; omega)
      have ha := List.mem_of_getElem? hx
      rw [drop_cons hx, actsFrom] at hv
      simp only [go_sem, Int.reduceToNat, Int.reduceLE, Int.reduceLT, Nat.reduceBEq, Nat.reduceLT, Nat.reduceAdd, Nat.reduceLeDiff, hlt, hx, encA]
      refine (name_spec a.name _ (hb.name a ha)).is ?_
      cases n1 : nameB a.name
      · simp only [go_sem, Int.reduceToNat, Int.reduceLE, Int.reduceLT, Nat.reduceBEq, Nat.reduceLT, Nat.reduceAdd, Nat.reduceLeDiff, hR]
        first | exact rtk (.bool false) ⟨by rw [hv, n1]; rfl, rfl⟩ | exact rtk0 (.bool false) ⟨by rw [hv, n1]; rfl, rfl⟩
      rw [n1, Bool.true_and] at hv
      by_cases n2 : a.name ∈ (t.actions.take i).map (·.name)
      · obtain ⟨j, hj⟩ := find_in a.name _ 0 n2
        simp only [go_sem, Int.reduceToNat, Int.reduceLE, Int.reduceLT, Nat.reduceBEq, Nat.reduceLT, Nat.reduceAdd, Nat.reduceLeDiff, hj, hR]
        first | exact rtk (.bool false) ⟨by rw [hv, decide_eq_true n2]; rfl, rfl⟩ | exact rtk0 (.bool false) ⟨by rw [hv, decide_eq_true n2]; rfl, rfl⟩
      have hj := find_out a.name _ 0 n2
      rw [decide_eq_false n2, Bool.not_false, Bool.true_and, actB] at hv
      by_cases a1 : a.cost < 0
      · simp only [go_sem, Int.reduceToNat, Int.reduceLE, Int.reduceLT, Nat.reduceBEq, Nat.reduceLT, Nat.reduceAdd, Nat.reduceLeDiff, hj, a1, hR]
        first | exact rtk (.bool false) ⟨by rw [hv, decide_eq_false (by omega : ¬ 0 ≤ a.cost)]; rfl, rfl⟩ | exact rtk0 (.bool false) ⟨by rw [hv, decide_eq_false (by omega : ¬ 0 ≤ a.cost)]; rfl, rfl⟩
      by_cases a2 : a.cost > 100000
      · simp only [go_sem, Int.reduceToNat, Int.reduceLE, Int.reduceLT, Nat.reduceBEq, Nat.reduceLT, Nat.reduceAdd, Nat.reduceLeDiff, hj, a1, a2, hR]
        first | exact rtk (.bool false) ⟨by rw [hv, decide_eq_false (by omega : ¬ a.cost ≤ 100000), Bool.false_and, Bool.and_false]; rfl, rfl⟩ | exact rtk0 (.bool false) ⟨by rw [hv, decide_eq_false (by omega : ¬ a.cost ≤ 100000), Bool.false_and, Bool.and_false]; rfl, rfl⟩
      rw [decide_eq_true (by omega : 0 ≤ a.cost), decide_eq_true (by omega : a.cost ≤ 100000), Bool.true_and, Bool.true_and] at hv
      simp only [go_sem, Int.reduceToNat, Int.reduceLE, Int.reduceLT, Nat.reduceBEq, Nat.reduceLT, Nat.reduceAdd, Nat.reduceLeDiff, hj, a1, a2]
      refine (cond_spec a.pre t.facts.length _ _ (hb.pre a ha)).is ?_
      cases a3 : condB t.facts.length (-1) a.pre
      · simp only [go_sem, Int.reduceToNat, Int.reduceLE, Int.reduceLT, Nat.reduceBEq, Nat.reduceLT, Nat.reduceAdd, Nat.reduceLeDiff, hR]
        first | exact rtk (.bool false) ⟨by rw [hv, a3]; rfl, rfl⟩ | exact rtk0 (.bool false) ⟨by rw [hv, a3]; rfl, rfl⟩
      rw [a3, Bool.true_and] at hv
      by_cases a4 : (a.effects.length : Int) > 100
      · simp only [go_sem, Int.reduceToNat, Int.reduceLE, Int.reduceLT, Nat.reduceBEq, Nat.reduceLT, Nat.reduceAdd, Nat.reduceLeDiff, a4, hR]
        first | exact rtk (.bool false) ⟨by rw [hv, decide_eq_false (by omega : ¬ a.effects.length ≤ 100)]; rfl, rfl⟩ | exact rtk0 (.bool false) ⟨by rw [hv, decide_eq_false (by omega : ¬ a.effects.length ≤ 100)]; rfl, rfl⟩
      rw [decide_eq_true (by omega : a.effects.length ≤ 100), Bool.true_and] at hv
      have hc : (t.actions.take i).map (·.name) ++ [a.name] = (t.actions.take (i + 1)).map (·.name) := by rw [take_succ' hx]; simp
      rw [hc] at hv
      simp only [go_sem, Int.reduceToNat, Int.reduceLE, Int.reduceLT, Nat.reduceBEq, Nat.reduceLT, Nat.reduceAdd, Nat.reduceLeDiff, a4, hj, encSet_app, hc]
      refine wpc_while (fun j => [(3, .int .i64 t.facts.length), (4, .map (σ.length + 2)), (57, .slice .unk (t.actions.map encA)), (58, .int .i64 t.actions.length), (59, .int .i64 (i : Nat)), (100, .slice .unk (a.effects.map encE)), (101, .int .i64 a.effects.length), (102, .int .i64 (j : Nat))])
        (fun j => σ ++ [.row (encTask t), .map (encSet t.facts), .map (encSet ((t.actions.take (i + 1)).map (·.name)))]) (fun j => j ≤ a.effects.length ∧ actsFrom t.facts.length [] t.actions = ((a.effects.drop j).all (effB t.facts.length) && actsFrom t.facts.length ((t.actions.take (i + 1)).map (·.name)) (t.actions.drop (i + 1)))) (fun j => a.effects.length - j) 0 ⟨Nat.zero_le _, hv⟩ (by (try dsimp only); first | exact ghL (hs2 (i + 1)) | exact ghL0 (hs2 (i + 1))) ?_
      rintro j ⟨hj', hvj⟩ K' hK' hE' hR'
      by_cases hj : j < a.effects.length
      · obtain ⟨e, hxj⟩ := get_ex hj; have hltj : ((j : Int) < (a.effects.length : Int)) := (by omega); have hwj : IntKind.i64.wrap ((j : Int) + 1) = ((j + 1 : Nat) : Int) := (by rw [wrap_ok (by omega)]; omega)
        have he := List.mem_of_getElem? hxj
        rw [drop_cons hxj, List.all_cons] at hvj
        simp only [go_sem, Int.reduceToNat, Int.reduceLE, Int.reduceLT, Nat.reduceBEq, Nat.reduceLT, Nat.reduceAdd, Nat.reduceLeDiff, hltj, hxj, encE]
        refine (cond_spec e.when_ t.facts.length _ _ (hb.whens a ha e he)).is ?_
        cases b1 : condB t.facts.length (-1) e.when_
        · simp only [go_sem, Int.reduceToNat, Int.reduceLE, Int.reduceLT, Nat.reduceBEq, Nat.reduceLT, Nat.reduceAdd, Nat.reduceLeDiff, hR', hR]
          first | exact rtk (.bool false) ⟨by rw [hvj, effB, b1]; rfl, rfl⟩ | exact rtk0 (.bool false) ⟨by rw [hvj, effB, b1]; rfl, rfl⟩
        rw [effB, b1, Bool.true_and] at hvj
        by_cases b2 : e.lit.fact < 0
        · simp only [go_sem, Int.reduceToNat, Int.reduceLE, Int.reduceLT, Nat.reduceBEq, Nat.reduceLT, Nat.reduceAdd, Nat.reduceLeDiff, b2, hR', hR]
          first | exact rtk (.bool false) ⟨by rw [hvj, decide_eq_false (by omega : ¬ 0 ≤ e.lit.fact)]; rfl, rfl⟩ | exact rtk0 (.bool false) ⟨by rw [hvj, decide_eq_false (by omega : ¬ 0 ≤ e.lit.fact)]; rfl, rfl⟩
        by_cases b3 : e.lit.fact ≥ t.facts.length
        · simp only [go_sem, Int.reduceToNat, Int.reduceLE, Int.reduceLT, Nat.reduceBEq, Nat.reduceLT, Nat.reduceAdd, Nat.reduceLeDiff, b2, b3, hR', hR]
          first | exact rtk (.bool false) ⟨by rw [hvj, decide_eq_false (by omega : ¬ e.lit.fact < t.facts.length), Bool.and_false]; rfl, rfl⟩ | exact rtk0 (.bool false) ⟨by rw [hvj, decide_eq_false (by omega : ¬ e.lit.fact < t.facts.length), Bool.and_false]; rfl, rfl⟩
        rw [decide_eq_true (by omega : 0 ≤ e.lit.fact), decide_eq_true (by omega : e.lit.fact < t.facts.length), Bool.true_and, Bool.true_and] at hvj
        simp only [go_sem, Int.reduceToNat, Int.reduceLE, Int.reduceLT, Nat.reduceBEq, Nat.reduceLT, Nat.reduceAdd, Nat.reduceLeDiff, b2, b3]
        refine hK' _ _ (j + 1) ⟨by omega, hvj⟩ (by omega) ?_
        exact (by (try dsimp only); (try simp only [ hwj]); first | exact ghL (hs2 (i + 1)) | exact ghL0 (hs2 (i + 1)))
      · have hltj : ¬ ((j : Int) < (a.effects.length : Int)) := by omega
        rw [drop_len hj, List.all_nil, Bool.true_and] at hvj
        simp only [go_sem, Int.reduceToNat, Int.reduceLE, Int.reduceLT, Nat.reduceBEq, Nat.reduceLT, Nat.reduceAdd, Nat.reduceLeDiff, hltj, hE']
        refine hK _ _ (i + 1) (⟨by omega, hvj⟩) (by first | omega | (simp only []; omega) | (simp; omega)) ?_; (try dsimp only); (try simp only [ hw]); first | exact ghL (hs2 (i + 1)) | exact ghL0 (hs2 (i + 1))
    · have hlt : ¬ ((i : Int) < (t.actions.length : Int)) := by omega
      rw [drop_len h] at hv
      simp only [go_sem, Int.reduceToNat, Int.reduceLE, Int.reduceLT, Nat.reduceBEq, Nat.reduceLT, Nat.reduceAdd, Nat.reduceLeDiff, hlt, hE]
      first | exact rtk (.bool true) ⟨by rw [hv]; rfl, rfl⟩ | exact rtk0 (.bool true) ⟨by rw [hv]; rfl, rfl⟩
end Go.Proofs.Ytbnhijapbnfohaa
namespace Go.Proofs.Ytbnhijapbnfohaa
open Go.Ahl
/-- The place of the first element of a kind, counted from k, or -1. -/
def idxFrom {α : Type} (p : α → Bool) : Int → List α → Int
  | _, [] => -1
  | k, x :: l => if p x then k else idxFrom p (k + 1) l
theorem idxFrom_ge {α : Type} (p : α → Bool) : ∀ (l : List α) (k : Int), 0 ≤ k → decide (idxFrom p k l ≥ 0) = l.any p
  | [], k, h => by simp [idxFrom]
  | x :: l, k, h => by
    rw [idxFrom, List.any_cons]
    cases hx : p x
    · simp only [Bool.false_eq_true, if_false, Bool.false_or]; exact idxFrom_ge p l (k + 1) (by omega)
    · simp [h]
def c_indexFuncC : CCode := .seq (.ops [⟨some 4, .move (.lit (.int .i64 0)), none, []⟩]) (.seq (.seq (.ops [⟨some 6, .move (.tmp 0), none, []⟩, ⟨some 7, .blen 1 (.tmp 6), none, []⟩, ⟨some 8, .move (.lit (.int .i64 0)), none, []⟩]) (.block 0 (.loop (.seq (.ops [⟨some 9, .bin .lss .none (.tmp 8) (.tmp 7), none, []⟩]) (.seq (.cond (.tmp 9) .skip (.exit 0)) (.seq (.block 1 (.seq (.ops [⟨some 10, .move (.tmp 8), none, []⟩, ⟨some 5, .move (.tmp 10), none, []⟩]) (.seq (.ops [⟨some 11, .move (.tmp 1), none, []⟩, ⟨some 12, .move (.tmp 0), none, []⟩, ⟨some 13, .move (.tmp 5), none, []⟩, ⟨some 14, .iaddr 1 (.tmp 12) (.tmp 13), none, []⟩, ⟨some 15, .load none (.tmp 14), none, []⟩, ⟨some 16, .call (.tmp 11) [.tmp 15], none, []⟩]) (.cond (.tmp 16) (.seq (.ops [⟨some 17, .move (.tmp 5), none, []⟩, ⟨some 4, .move (.tmp 17), none, []⟩]) .ret) .skip)))) (.ops [⟨some 18, .bin .add .none (.tmp 8) (.lit (.int .i64 1)), none, []⟩, ⟨some 8, .move (.tmp 18), none, []⟩]))))))) (.seq (.ops [⟨some 4, .move (.lit (.int .i64 (-1))), none, []⟩]) .ret))
set_option maxRecDepth 20000 in
theorem indexFuncC_spec {α : Type} (v : α → AV) (l : List α) (g : FuncId) (cap : List AV) (p : α → Bool) (tok : Tok) (σ : Store) (hl : l.length ≤ 140737488355328)
    (hp : ∀ x ∈ l, ACalls Try.prog g (v x :: cap) σ (isR (.bool (p x)) σ)) :
    ACalls Try.prog 58 [.slice tok (l.map fun x => [v x]), .func g cap] σ (isR (.int .i64 (idxFrom p 0 l)) σ) := by
  refine ACalls.intro (rs := [(.tmp 4)]) (by kernel_rfl) { own := [], ghosts := [] } Try.func58 (c := Try.f58.body.getD .skip) (by kernel_rfl) (by decide) (by rw [show Try.f58.ntmps = 19 by kernel_rfl]; exact Nat.le_of_ble_eq_true rfl) (by kernel_rfl) ?_
  intro hσ hids
  rw [show comp Try.prog { own := [], ghosts := [] } (Try.f58.body.getD .skip) = c_indexFuncC by kernel_rfl, show Try.f58.ntmps = 19 by kernel_rfl]
  unfold c_indexFuncC
  have hil : Ids σ.length (.slice tok (l.map fun x => [v x])) := hids _ (by simp)
  have hif : Ids σ.length (.func g cap) := hids _ (by simp)
  simp only [go_sem, Int.reduceToNat, Int.reduceLE, Int.reduceLT, Nat.reduceBEq, Nat.reduceLT, Nat.reduceAdd, Nat.reduceLeDiff]
  refine wpc_while (fun i => [(0, .slice tok (l.map fun x => [v x])), (1, .func g cap), (7, .int .i64 l.length), (8, .int .i64 (i : Nat))]) (fun _ => σ) (fun i => i ≤ l.length ∧ idxFrom p 0 l = idxFrom p i (l.drop i)) (fun i => l.length - i) 0 ⟨Nat.zero_le _, rfl⟩ (by (try dsimp only); first | exact ghk | exact ghk0) ?_
  rintro i ⟨hi, hv⟩ K hK hE hR
  by_cases h : i < l.length
  · obtain ⟨y, hx⟩ := get_ex h; have hlt : ((i : Int) < (l.length : Int)) := (by omega); have hw : IntKind.i64.wrap ((i : Int) + 1) = ((i + 1 : Nat) : Int) := (by rw [wrap_ok (by omega)]; omega)
    rw [drop_cons hx, idxFrom] at hv
    simp only [go_sem, Int.reduceToNat, Int.reduceLE, Int.reduceLT, Nat.reduceBEq, Nat.reduceLT, Nat.reduceAdd, Nat.reduceLeDiff, hlt, hx]
    refine (hp y (List.mem_of_getElem? hx)).is ?_
    cases h1 : p y
    · simp only [go_sem, Int.reduceToNat, Int.reduceLE, Int.reduceLT, Nat.reduceBEq, Nat.reduceLT, Nat.reduceAdd, Nat.reduceLeDiff]
      rw [h1, if_neg (by simp)] at hv
      refine hK _ _ (i + 1) (⟨by omega, by rw [hv]; norm_cast⟩) (by first | omega | (simp only []; omega) | (simp; omega)) ?_; (try dsimp only); (try simp only [ hw]); first | exact ghk | exact ghk0
    · rw [h1, if_pos rfl] at hv
      simp only [go_sem, Int.reduceToNat, Int.reduceLE, Int.reduceLT, Nat.reduceBEq, Nat.reduceLT, Nat.reduceAdd, Nat.reduceLeDiff, hR]
      first | exact rtk (.int .i64 i) ⟨by rw [hv], rfl⟩ | exact rtk0 (.int .i64 i) ⟨by rw [hv], rfl⟩
  · have hlt : ¬ ((i : Int) < (l.length : Int)) := by omega
    rw [drop_len h] at hv
    simp only [go_sem, Int.reduceToNat, Int.reduceLE, Int.reduceLT, Nat.reduceBEq, Nat.reduceLT, Nat.reduceAdd, Nat.reduceLeDiff, hlt, hE]
    first | exact rtk (.int .i64 (-1)) ⟨by rw [hv]; rfl, rfl⟩ | exact rtk0 (.int .i64 (-1)) ⟨by rw [hv]; rfl, rfl⟩
def c_indexFuncL : CCode := .seq (.ops [⟨some 4, .move (.lit (.int .i64 0)), none, []⟩]) (.seq (.seq (.ops [⟨some 6, .move (.tmp 0), none, []⟩, ⟨some 7, .blen 1 (.tmp 6), none, []⟩, ⟨some 8, .move (.lit (.int .i64 0)), none, []⟩]) (.block 0 (.loop (.seq (.ops [⟨some 9, .bin .lss .none (.tmp 8) (.tmp 7), none, []⟩]) (.seq (.cond (.tmp 9) .skip (.exit 0)) (.seq (.block 1 (.seq (.ops [⟨some 10, .move (.tmp 8), none, []⟩, ⟨some 5, .move (.tmp 10), none, []⟩]) (.seq (.ops [⟨some 11, .move (.tmp 1), none, []⟩, ⟨some 12, .move (.tmp 0), none, []⟩, ⟨some 13, .move (.tmp 5), none, []⟩, ⟨some 14, .iaddr 2 (.tmp 12) (.tmp 13), none, []⟩, ⟨some 15, .load (some 2) (.tmp 14), none, []⟩, ⟨some 16, .call (.tmp 11) [.tmp 15], none, []⟩]) (.cond (.tmp 16) (.seq (.ops [⟨some 17, .move (.tmp 5), none, []⟩, ⟨some 4, .move (.tmp 17), none, []⟩]) .ret) .skip)))) (.ops [⟨some 18, .bin .add .none (.tmp 8) (.lit (.int .i64 1)), none, []⟩, ⟨some 8, .move (.tmp 18), none, []⟩]))))))) (.seq (.ops [⟨some 4, .move (.lit (.int .i64 (-1))), none, []⟩]) .ret))
set_option maxRecDepth 20000 in
theorem indexFuncL_spec (l : List FLit) (g : FuncId) (cap : List AV) (p : FLit → Bool) (tok : Tok) (σ : Store) (hl : l.length ≤ 140737488355328)
    (hp : ∀ x ∈ l, ACalls Try.prog g (.agg (encLit x) :: cap) σ (isR (.bool (p x)) σ)) :
    ACalls Try.prog 78 [.slice tok (l.map encLit), .func g cap] σ (isR (.int .i64 (idxFrom p 0 l)) σ) := by
  refine ACalls.intro (rs := [(.tmp 4)]) (by kernel_rfl) { own := [], ghosts := [] } Try.func78 (c := Try.f78.body.getD .skip) (by kernel_rfl) (by decide) (by rw [show Try.f78.ntmps = 19 by kernel_rfl]; exact Nat.le_of_ble_eq_true rfl) (by kernel_rfl) ?_
  intro hσ hids
  rw [show comp Try.prog { own := [], ghosts := [] } (Try.f78.body.getD .skip) = c_indexFuncL by kernel_rfl, show Try.f78.ntmps = 19 by kernel_rfl]
  unfold c_indexFuncL
  have hil : Ids σ.length (.slice tok (l.map encLit)) := hids _ (by simp)
  have hif : Ids σ.length (.func g cap) := hids _ (by simp)
  simp only [go_sem, Int.reduceToNat, Int.reduceLE, Int.reduceLT, Nat.reduceBEq, Nat.reduceLT, Nat.reduceAdd, Nat.reduceLeDiff]
  refine wpc_while (fun i => [(0, .slice tok (l.map encLit)), (1, .func g cap), (7, .int .i64 l.length), (8, .int .i64 (i : Nat))]) (fun _ => σ) (fun i => i ≤ l.length ∧ idxFrom p 0 l = idxFrom p i (l.drop i)) (fun i => l.length - i) 0 ⟨Nat.zero_le _, rfl⟩ (by (try dsimp only); first | exact ghk | exact ghk0) ?_
  rintro i ⟨hi, hv⟩ K hK hE hR
  by_cases h : i < l.length
  · obtain ⟨y, hx⟩ := get_ex h; have hlt : ((i : Int) < (l.length : Int)) := (by omega); have hw : IntKind.i64.wrap ((i : Int) + 1) = ((i + 1 : Nat) : Int) := (by rw [wrap_ok (by omega)]; omega)
    rw [drop_cons hx, idxFrom] at hv
    simp only [go_sem, Int.reduceToNat, Int.reduceLE, Int.reduceLT, Nat.reduceBEq, Nat.reduceLT, Nat.reduceAdd, Nat.reduceLeDiff, hlt, hx, encLit]
    refine (hp y (List.mem_of_getElem? hx)).is ?_
    cases h1 : p y
    · simp only [go_sem, Int.reduceToNat, Int.reduceLE, Int.reduceLT, Nat.reduceBEq, Nat.reduceLT, Nat.reduceAdd, Nat.reduceLeDiff]
      rw [h1, if_neg (by simp)] at hv
      refine hK _ _ (i + 1) (⟨by omega, by rw [hv]; norm_cast⟩) (by first | omega | (simp only []; omega) | (simp; omega)) ?_; (try dsimp only); (try simp only [ hw]); first | exact ghk | exact ghk0
    · rw [h1, if_pos rfl] at hv
      simp only [go_sem, Int.reduceToNat, Int.reduceLE, Int.reduceLT, Nat.reduceBEq, Nat.reduceLT, Nat.reduceAdd, Nat.reduceLeDiff, hR]
      first | exact rtk (.int .i64 i) ⟨by rw [hv], rfl⟩ | exact rtk0 (.int .i64 i) ⟨by rw [hv], rfl⟩
  · have hlt : ¬ ((i : Int) < (l.length : Int)) := by omega
    rw [drop_len h] at hv
    simp only [go_sem, Int.reduceToNat, Int.reduceLE, Int.reduceLT, Nat.reduceBEq, Nat.reduceLT, Nat.reduceAdd, Nat.reduceLeDiff, hlt, hE]
    first | exact rtk (.int .i64 (-1)) ⟨by rw [hv]; rfl, rfl⟩ | exact rtk0 (.int .i64 (-1)) ⟨by rw [hv]; rfl, rfl⟩
def c_containsFuncC : CCode := .seq (.ops [⟨some 4, .move (.lit (.bool false)), none, []⟩]) (.seq (.ops [⟨some 5, .move (.tmp 0), none, []⟩, ⟨some 6, .move (.tmp 1), none, []⟩, ⟨some 7, .call (.lit (.func 58 [])) [.tmp 5, .tmp 6], none, []⟩, ⟨some 8, .bin .geq .none (.tmp 7) (.lit (.int .i64 0)), none, []⟩, ⟨some 4, .move (.tmp 8), none, []⟩]) .ret)
set_option maxRecDepth 20000 in
theorem containsFuncC_spec {α : Type} (v : α → AV) (l : List α) (g : FuncId) (cap : List AV) (p : α → Bool) (tok : Tok) (σ : Store) (hl : l.length ≤ 140737488355328)
    (hp : ∀ x ∈ l, ACalls Try.prog g (v x :: cap) σ (isR (.bool (p x)) σ)) :
    ACalls Try.prog 70 [.slice tok (l.map fun x => [v x]), .func g cap] σ (isR (.bool (l.any p)) σ) := by
  refine ACalls.intro (rs := [(.tmp 4)]) (by kernel_rfl) { own := [], ghosts := [] } Try.func70 (c := Try.f70.body.getD .skip) (by kernel_rfl) (by decide) (by rw [show Try.f70.ntmps = 9 by kernel_rfl]; exact Nat.le_of_ble_eq_true rfl) (by kernel_rfl) ?_
  intro hσ hids
  rw [show comp Try.prog { own := [], ghosts := [] } (Try.f70.body.getD .skip) = c_containsFuncC by kernel_rfl, show Try.f70.ntmps = 9 by kernel_rfl]
  unfold c_containsFuncC
  simp only [go_sem, Int.reduceToNat, Int.reduceLE, Int.reduceLT, Nat.reduceBEq, Nat.reduceLT, Nat.reduceAdd, Nat.reduceLeDiff]
  refine (indexFuncC_spec v l g cap p tok σ hl hp).is ?_
  simp only [go_sem, Int.reduceToNat, Int.reduceLE, Int.reduceLT, Nat.reduceBEq, Nat.reduceLT, Nat.reduceAdd, Nat.reduceLeDiff, idxFrom_ge p l 0 (Int.le_refl _)]
  first | exact rtw (v := .bool _) wkS ⟨rfl, rfl⟩ | exact rtw0 (v := .bool _) wkS ⟨rfl, rfl⟩
def c_containsFuncL : CCode := .seq (.ops [⟨some 4, .move (.lit (.bool false)), none, []⟩]) (.seq (.ops [⟨some 5, .move (.tmp 0), none, []⟩, ⟨some 6, .move (.tmp 1), none, []⟩, ⟨some 7, .call (.lit (.func 78 [])) [.tmp 5, .tmp 6], none, []⟩, ⟨some 8, .bin .geq .none (.tmp 7) (.lit (.int .i64 0)), none, []⟩, ⟨some 4, .move (.tmp 8), none, []⟩]) .ret)
set_option maxRecDepth 20000 in
theorem containsFuncL_spec (l : List FLit) (g : FuncId) (cap : List AV) (p : FLit → Bool) (tok : Tok) (σ : Store) (hl : l.length ≤ 140737488355328)
    (hp : ∀ x ∈ l, ACalls Try.prog g (.agg (encLit x) :: cap) σ (isR (.bool (p x)) σ)) :
    ACalls Try.prog 60 [.slice tok (l.map encLit), .func g cap] σ (isR (.bool (l.any p)) σ) := by
  refine ACalls.intro (rs := [(.tmp 4)]) (by kernel_rfl) { own := [], ghosts := [] } Try.func60 (c := Try.f60.body.getD .skip) (by kernel_rfl) (by decide) (by rw [show Try.f60.ntmps = 9 by kernel_rfl]; exact Nat.le_of_ble_eq_true rfl) (by kernel_rfl) ?_
  intro hσ hids
  rw [show comp Try.prog { own := [], ghosts := [] } (Try.f60.body.getD .skip) = c_containsFuncL by kernel_rfl, show Try.f60.ntmps = 9 by kernel_rfl]
  unfold c_containsFuncL
  simp only [go_sem, Int.reduceToNat, Int.reduceLE, Int.reduceLT, Nat.reduceBEq, Nat.reduceLT, Nat.reduceAdd, Nat.reduceLeDiff]
  refine (indexFuncL_spec l g cap p tok σ hl hp).is ?_
  simp only [go_sem, Int.reduceToNat, Int.reduceLE, Int.reduceLT, Nat.reduceBEq, Nat.reduceLT, Nat.reduceAdd, Nat.reduceLeDiff, idxFrom_ge p l 0 (Int.le_refl _)]
  first | exact rtw (v := .bool _) wkS ⟨rfl, rfl⟩ | exact rtw0 (v := .bool _) wkS ⟨rfl, rfl⟩
theorem flat_lit (x y : FLit) : flatEq [1, 0] (encLit x) (encLit y) = some (decide (x = y)) := by
  obtain ⟨a, b⟩ := x; obtain ⟨c, d⟩ := y
  simp only [encLit, flatEq, cellEq, if_true]
  congr 1
  by_cases h1 : a = c <;> by_cases h2 : b = d <;> simp [h1, h2]
def d_indexLit_0 : List COp := [⟨some 11, .load (some 2) (.tmp 3), none, []⟩, ⟨some 12, .move (.tmp 0), none, []⟩, ⟨some 13, .move (.tmp 5), none, []⟩, ⟨some 14, .iaddr 2 (.tmp 12) (.tmp 13), none, [1, 2]⟩, ⟨some 15, .load (some 2) (.tmp 14), none, [3]⟩, ⟨some 16, .bin .eql (.flat [1, 0]) (.tmp 11) (.tmp 15), none, [0, 4]⟩]
theorem dr_indexLit_0 (P : Program) (nt n0 : Nat) (Q : Post) (s : Slots) (σ : Store) : wpc P nt n0 (.draw d_indexLit_0) Q s σ = aOpsD P nt [⟨some 11, .load (some 2) (.tmp 3), none, []⟩, ⟨some 12, .move (.tmp 0), none, []⟩, ⟨some 13, .move (.tmp 5), none, []⟩, ⟨some 14, .iaddr 2 (.tmp 12) (.tmp 13), none, [1, 2]⟩, ⟨some 15, .load (some 2) (.tmp 14), none, [3]⟩, ⟨some 16, .bin .eql (.flat [1, 0]) (.tmp 11) (.tmp 15), none, [0, 4]⟩] (Q .normal) s σ := wpc_draw _ (by decide)
def c_indexLit : CCode := .seq (.ops [⟨some 3, .box (.tmp 1), none, []⟩, ⟨some 4, .move (.lit (.int .i64 0)), none, []⟩]) (.seq (.seq (.ops [⟨some 6, .move (.tmp 0), none, []⟩, ⟨some 7, .blen 1 (.tmp 6), none, []⟩, ⟨some 8, .move (.lit (.int .i64 0)), none, []⟩]) (.block 0 (.loop (.seq (.ops [⟨some 9, .bin .lss .none (.tmp 8) (.tmp 7), none, []⟩]) (.seq (.cond (.tmp 9) .skip (.exit 0)) (.seq (.block 1 (.seq (.ops [⟨some 10, .move (.tmp 8), none, []⟩, ⟨some 5, .move (.tmp 10), none, []⟩]) (.seq (.draw d_indexLit_0) (.cond (.tmp 16) (.seq (.ops [⟨some 17, .move (.tmp 5), none, []⟩, ⟨some 4, .move (.tmp 17), none, []⟩]) .ret) .skip)))) (.ops [⟨some 18, .bin .add .none (.tmp 8) (.lit (.int .i64 1)), none, []⟩, ⟨some 8, .move (.tmp 18), none, []⟩]))))))) (.seq (.ops [⟨some 4, .move (.lit (.int .i64 (-1))), none, []⟩]) .ret))
set_option maxRecDepth 20000 in
theorem indexLit_spec (l : List FLit) (x : FLit) (tok : Tok) (σ : Store) (hl : l.length ≤ 140737488355328) :
    ACalls Try.prog 106 [.slice tok (l.map encLit), .agg (encLit x)] σ (isR (.int .i64 (idxFrom (fun y => decide (x = y)) 0 l)) σ) := by
  refine ACalls.intro (rs := [(.tmp 4)]) (by kernel_rfl) { own := [], ghosts := [] } Try.func106 (c := Try.f106.body.getD .skip) (by kernel_rfl) (by decide) (by rw [show Try.f106.ntmps = 19 by kernel_rfl]; exact Nat.le_of_ble_eq_true rfl) (by kernel_rfl) ?_
  intro hσ hids
  rw [show comp Try.prog { own := [], ghosts := [] } (Try.f106.body.getD .skip) = c_indexLit by kernel_rfl, show Try.f106.ntmps = 19 by kernel_rfl]
  unfold c_indexLit
  have hil : Ids σ.length (.slice tok (l.map encLit)) := hids _ (by simp)
  have hσ1 := ids_grow hσ (ids_encLit x)
  simp only [go_sem, Int.reduceToNat, Int.reduceLE, Int.reduceLT, Nat.reduceBEq, Nat.reduceLT, Nat.reduceAdd, Nat.reduceLeDiff, dr_indexLit_0, encLit]
  refine wpc_while (fun i => [(0, .slice tok (l.map encLit)), (3, .ptr σ.length 0), (7, .int .i64 l.length), (8, .int .i64 (i : Nat))]) (fun _ => σ ++ [.row (encLit x)]) (fun i => i ≤ l.length ∧ idxFrom (fun y => decide (x = y)) 0 l = idxFrom (fun y => decide (x = y)) i (l.drop i)) (fun i => l.length - i) 0 ⟨Nat.zero_le _, rfl⟩ (by (try dsimp only); exact ghk1) ?_
  rintro i ⟨hi, hv⟩ K hK hE hR
  by_cases h : i < l.length
  · obtain ⟨y, hx⟩ := get_ex h; have hlt : ((i : Int) < (l.length : Int)) := (by omega); have hw : IntKind.i64.wrap ((i : Int) + 1) = ((i + 1 : Nat) : Int) := (by rw [wrap_ok (by omega)]; omega)
    rw [drop_cons hx, idxFrom] at hv
    have hf := flat_lit x y
    simp only [encLit] at hf
    by_cases h1 : x = y
    · simp only [go_sem, Int.reduceToNat, Int.reduceLE, Int.reduceLT, Nat.reduceBEq, Nat.reduceLT, Nat.reduceAdd, Nat.reduceLeDiff, dr_indexLit_0, hlt, hx, encLit, hf, decide_eq_true h1, hR]
      rw [if_pos (by simpa using h1)] at hv
      first | exact rtk (.int .i64 i) ⟨by rw [hv], rfl⟩ | exact rtk0 (.int .i64 i) ⟨by rw [hv], rfl⟩
    · simp only [go_sem, Int.reduceToNat, Int.reduceLE, Int.reduceLT, Nat.reduceBEq, Nat.reduceLT, Nat.reduceAdd, Nat.reduceLeDiff, dr_indexLit_0, hlt, hx, encLit, hf, decide_eq_false h1]
      rw [if_neg (by simpa using h1)] at hv
      refine hK _ _ (i + 1) (⟨by omega, by rw [hv]; norm_cast⟩) (by first | omega | (simp only []; omega) | (simp; omega)) ?_; (try dsimp only); (try simp only [ hw]); exact ghk1
  · have hlt : ¬ ((i : Int) < (l.length : Int)) := by omega
    rw [drop_len h] at hv
    simp only [go_sem, Int.reduceToNat, Int.reduceLE, Int.reduceLT, Nat.reduceBEq, Nat.reduceLT, Nat.reduceAdd, Nat.reduceLeDiff, dr_indexLit_0, hlt, hE]
    first | exact rtk (.int .i64 (-1)) ⟨by rw [hv]; rfl, rfl⟩ | exact rtk0 (.int .i64 (-1)) ⟨by rw [hv]; rfl, rfl⟩
theorem any_contains (l : List FLit) (x : FLit) : l.any (fun y => decide (x = y)) = l.contains x := by
  induction l with
  | nil => rfl
  | cons y l ih => rw [List.any_cons, List.contains_cons, ih]; rfl
def c_containsLit : CCode := .seq (.ops [⟨some 3, .box (.tmp 1), none, []⟩, ⟨some 4, .move (.lit (.bool false)), none, []⟩]) (.seq (.ops [⟨some 5, .move (.tmp 0), none, []⟩, ⟨some 6, .load (some 2) (.tmp 3), none, []⟩, ⟨some 7, .call (.lit (.func 106 [])) [.tmp 5, .tmp 6], none, []⟩, ⟨some 8, .bin .geq .none (.tmp 7) (.lit (.int .i64 0)), none, []⟩, ⟨some 4, .move (.tmp 8), none, []⟩]) .ret)
set_option maxRecDepth 20000 in
theorem containsLit_spec (l : List FLit) (x : FLit) (tok : Tok) (σ : Store) (hl : l.length ≤ 140737488355328) :
    ACalls Try.prog 90 [.slice tok (l.map encLit), .agg (encLit x)] σ (isR (.bool (l.contains x)) σ) := by
  refine ACalls.intro (rs := [(.tmp 4)]) (by kernel_rfl) { own := [], ghosts := [] } Try.func90 (c := Try.f90.body.getD .skip) (by kernel_rfl) (by decide) (by rw [show Try.f90.ntmps = 9 by kernel_rfl]; exact Nat.le_of_ble_eq_true rfl) (by kernel_rfl) ?_
  intro hσ hids
  rw [show comp Try.prog { own := [], ghosts := [] } (Try.f90.body.getD .skip) = c_containsLit by kernel_rfl, show Try.f90.ntmps = 9 by kernel_rfl]
  unfold c_containsLit
  have hσ1 := ids_grow hσ (ids_encLit x)
  simp only [go_sem, Int.reduceToNat, Int.reduceLE, Int.reduceLT, Nat.reduceBEq, Nat.reduceLT, Nat.reduceAdd, Nat.reduceLeDiff, encLit]
  refine (indexLit_spec l x tok _ hl).is ?_
  simp only [go_sem, Int.reduceToNat, Int.reduceLE, Int.reduceLT, Nat.reduceBEq, Nat.reduceLT, Nat.reduceAdd, Nat.reduceLeDiff, idxFrom_ge _ l 0 (Int.le_refl _), any_contains]
  first | exact rtw (v := .bool _) wkS ⟨rfl, rfl⟩ | exact rtw0 (v := .bool _) wkS ⟨rfl, rfl⟩
def c_within1 : CCode := .seq (.ops [⟨some 2, .box (.tmp 0), none, []⟩, ⟨some 3, .move (.lit (.bool false)), none, []⟩]) (.seq (.ops [⟨some 4, .load none (.tmp 1), none, []⟩, ⟨some 5, .load (some 2) (.tmp 2), none, []⟩, ⟨some 6, .call (.lit (.func 90 [])) [.tmp 4, .tmp 5], none, []⟩, ⟨some 7, .un .not (.tmp 6), none, []⟩, ⟨some 3, .move (.tmp 7), none, []⟩]) .ret)
set_option maxRecDepth 20000 in
theorem within1_spec (l : List FLit) (x : FLit) (tok : Tok) (id : Nat) (σ : Store) (hl : l.length ≤ 140737488355328) (hid : σ[id]? = some (.row [.slice tok (l.map encLit)])) :
    ACalls Try.prog 89 [.agg (encLit x), .ptr id 0] σ (isR (.bool (!(l.contains x))) σ) := by
  refine ACalls.intro (rs := [(.tmp 3)]) (by kernel_rfl) { own := [], ghosts := [] } Try.func89 (c := Try.f89.body.getD .skip) (by kernel_rfl) (by decide) (by rw [show Try.f89.ntmps = 8 by kernel_rfl]; exact Nat.le_of_ble_eq_true rfl) (by kernel_rfl) ?_
  intro hσ hids
  rw [show comp Try.prog { own := [], ghosts := [] } (Try.f89.body.getD .skip) = c_within1 by kernel_rfl, show Try.f89.ntmps = 8 by kernel_rfl]
  unfold c_within1
  simp only [go_sem, Int.reduceToNat, Int.reduceLE, Int.reduceLT, Nat.reduceBEq, Nat.reduceLT, Nat.reduceAdd, Nat.reduceLeDiff, encLit, g_old _ _ hid]
  refine (containsLit_spec l x tok _ hl).is ?_
  simp only [go_sem, Int.reduceToNat, Int.reduceLE, Int.reduceLT, Nat.reduceBEq, Nat.reduceLT, Nat.reduceAdd, Nat.reduceLeDiff]
  first | exact rtw (v := .bool _) wkS ⟨rfl, rfl⟩ | exact rtw0 (v := .bool _) wkS ⟨rfl, rfl⟩
/-- Are all literals of the first among the second's? -/
def withinB (a b : List FLit) : Bool := !(a.any fun x => !(b.contains x))
def c_within : CCode := .seq (.ops [⟨some 3, .box (.tmp 1), none, []⟩, ⟨some 4, .move (.lit (.bool false)), none, []⟩]) (.seq (.ops [⟨some 5, .move (.tmp 0), none, []⟩, ⟨some 6, .mkfunc 89 [.tmp 3], none, []⟩, ⟨some 7, .call (.lit (.func 60 [])) [.tmp 5, .tmp 6], none, []⟩, ⟨some 8, .un .not (.tmp 7), none, []⟩, ⟨some 4, .move (.tmp 8), none, []⟩]) .ret)
set_option maxRecDepth 20000 in
theorem within_spec (a b : List FLit) (tok tok' : Tok) (σ : Store) (ha : a.length ≤ 140737488355328) (hb : b.length ≤ 140737488355328) :
    ACalls Try.prog 72 [.slice tok (a.map encLit), .slice tok' (b.map encLit)] σ (isR (.bool (withinB a b)) σ) := by
  refine ACalls.intro (rs := [(.tmp 4)]) (by kernel_rfl) { own := [], ghosts := [] } Try.func72 (c := Try.f72.body.getD .skip) (by kernel_rfl) (by decide) (by rw [show Try.f72.ntmps = 9 by kernel_rfl]; exact Nat.le_of_ble_eq_true rfl) (by kernel_rfl) ?_
  intro hσ hids
  rw [show comp Try.prog { own := [], ghosts := [] } (Try.f72.body.getD .skip) = c_within by kernel_rfl, show Try.f72.ntmps = 9 by kernel_rfl]
  unfold c_within
  simp only [go_sem, Int.reduceToNat, Int.reduceLE, Int.reduceLT, Nat.reduceBEq, Nat.reduceLT, Nat.reduceAdd, Nat.reduceLeDiff]
  refine (containsFuncL_spec a _ _ (fun x => !(b.contains x)) tok _ ha (fun x _ => within1_spec b x tok' _ _ hb (by simp))).is ?_
  simp only [go_sem, Int.reduceToNat, Int.reduceLE, Int.reduceLT, Nat.reduceBEq, Nat.reduceLT, Nat.reduceAdd, Nat.reduceLeDiff]
  first | exact rtw (v := .bool _) wkS ⟨rfl, rfl⟩ | exact rtw0 (v := .bool _) wkS ⟨rfl, rfl⟩
def c_formula1 : CCode := .seq (.ops [⟨some 3, .move (.lit (.bool false)), none, []⟩]) (.seq (.ops [⟨some 4, .faddr 0 (.tmp 1), none, []⟩, ⟨some 5, .load none (.tmp 4), none, []⟩, ⟨some 6, .blen 1 (.tmp 5), none, []⟩, ⟨some 7, .move (.tmp 0), none, []⟩, ⟨some 8, .call (.lit (.func 75 [])) [.tmp 6, .tmp 7], none, []⟩, ⟨some 9, .un .not (.tmp 8), none, []⟩, ⟨some 3, .move (.tmp 9), none, []⟩]) .ret)
set_option maxRecDepth 20000 in
theorem formula1_spec (t : FTask) (l : List FLit) (id : Nat) (tok : Tok) (σ : Store) (hl : l.length ≤ 140737488355328) (hid : σ[id]? = some (.row (encTask t))) :
    ACalls Try.prog 77 [.slice tok (l.map encLit), .ptr id 0] σ (isR (.bool (!(condB t.facts.length (-1) l))) σ) := by
  refine ACalls.intro (rs := [(.tmp 3)]) (by kernel_rfl) { own := [], ghosts := [] } Try.func77 (c := Try.f77.body.getD .skip) (by kernel_rfl) (by decide) (by rw [show Try.f77.ntmps = 10 by kernel_rfl]; exact Nat.le_of_ble_eq_true rfl) (by kernel_rfl) ?_
  intro hσ hids
  rw [show comp Try.prog { own := [], ghosts := [] } (Try.f77.body.getD .skip) = c_formula1 by kernel_rfl, show Try.f77.ntmps = 10 by kernel_rfl]
  unfold c_formula1
  simp only [encTask] at hid
  simp only [go_sem, Int.reduceToNat, Int.reduceLE, Int.reduceLT, Nat.reduceBEq, Nat.reduceLT, Nat.reduceAdd, Nat.reduceLeDiff, hid]
  refine (cond_spec l t.facts.length tok _ hl).is ?_
  simp only [go_sem, Int.reduceToNat, Int.reduceLE, Int.reduceLT, Nat.reduceBEq, Nat.reduceLT, Nat.reduceAdd, Nat.reduceLeDiff]
  first | exact rtw (v := .bool _) wkS ⟨rfl, rfl⟩ | exact rtw0 (v := .bool _) wkS ⟨rfl, rfl⟩
theorem any_not {α : Type} (p : α → Bool) (l : List α) : (!(l.any fun x => !(p x))) = l.all p := by
  induction l with
  | nil => rfl
  | cons x l ih => rw [List.any_cons, List.all_cons, Bool.not_or, ih, Bool.not_not]
def c_formula : CCode := .seq (.ops [⟨some 2, .box (.tmp 0), none, []⟩, ⟨some 4, .move (.lit (.bool false)), none, []⟩]) (.seq (.ops [⟨some 5, .move (.tmp 1), none, []⟩, ⟨some 6, .blen 1 (.tmp 5), none, []⟩, ⟨some 7, .bin .leq .none (.tmp 6) (.lit (.int .i64 400)), none, []⟩, ⟨some 8, .move (.tmp 7), none, []⟩, ⟨some 9, .move (.tmp 1), some (some 8, true), []⟩, ⟨some 10, .mkfunc 77 [.tmp 2], some (some 8, true), []⟩, ⟨some 11, .call (.lit (.func 70 [])) [.tmp 9, .tmp 10], some (some 8, true), []⟩, ⟨some 12, .un .not (.tmp 11), some (some 8, true), []⟩, ⟨some 13, .pick (.tmp 8) (.tmp 12) (.lit (.bool false)), none, []⟩, ⟨some 4, .move (.tmp 13), none, []⟩]) .ret)
set_option maxRecDepth 20000 in
theorem formula_spec (t : FTask) (f : List (List FLit)) (tok : Tok) (σ : Store) (hf : f.length ≤ 140737488355328) (hl : ∀ l ∈ f, l.length ≤ 140737488355328) :
    ACalls Try.prog 52 [.agg (encTask t), .slice tok (f.map encC)] σ (isR (.bool (isForm t.facts.length f)) σ) := by
  refine ACalls.intro (rs := [(.tmp 4)]) (by kernel_rfl) { own := [], ghosts := [] } Try.func52 (c := Try.f52.body.getD .skip) (by kernel_rfl) (by decide) (by rw [show Try.f52.ntmps = 14 by kernel_rfl]; exact Nat.le_of_ble_eq_true rfl) (by kernel_rfl) ?_
  intro hσ hids
  rw [show comp Try.prog { own := [], ghosts := [] } (Try.f52.body.getD .skip) = c_formula by kernel_rfl, show Try.f52.ntmps = 14 by kernel_rfl]
  unfold c_formula
  by_cases h : (f.length : Int) ≤ 400
  · simp only [go_sem, Int.reduceToNat, Int.reduceLE, Int.reduceLT, Nat.reduceBEq, Nat.reduceLT, Nat.reduceAdd, Nat.reduceLeDiff, encTask, h]
    refine (containsFuncC_spec (fun l => .slice .unk (l.map encLit)) f _ _ (fun l => !(condB t.facts.length (-1) l)) tok _ hf (fun l hl' => formula1_spec t l _ .unk _ (hl l hl') (by simp [encTask]))).is ?_
    simp only [go_sem, Int.reduceToNat, Int.reduceLE, Int.reduceLT, Nat.reduceBEq, Nat.reduceLT, Nat.reduceAdd, Nat.reduceLeDiff]
    first | exact rtw (v := .bool _) wkS ⟨by rw [any_not, isForm, decide_eq_true (by omega : f.length ≤ 400), Bool.true_and]; rfl, rfl⟩ | exact rtw0 (v := .bool _) wkS ⟨by rw [any_not, isForm, decide_eq_true (by omega : f.length ≤ 400), Bool.true_and]; rfl, rfl⟩
  · simp only [go_sem, Int.reduceToNat, Int.reduceLE, Int.reduceLT, Nat.reduceBEq, Nat.reduceLT, Nat.reduceAdd, Nat.reduceLeDiff, encTask, h]
    first | exact rtw (v := .bool _) wkS ⟨by rw [isForm, decide_eq_false (by omega : ¬ f.length ≤ 400)]; rfl, rfl⟩ | exact rtw0 (v := .bool _) wkS ⟨by rw [isForm, decide_eq_false (by omega : ¬ f.length ≤ 400)]; rfl, rfl⟩
def checkE (t : FTask) (f : List (List FLit)) : Int := if validB t then (if isForm t.facts.length f then 0 else 70) else 10
def c_check07 : CCode := .seq (.ops [⟨some 2, .box (.tmp 0), none, []⟩, ⟨some 4, .move (.lit (.int .i64 0)), none, []⟩]) (.seq (.seq (.ops [⟨some 5, .load (some 4) (.tmp 2), none, []⟩, ⟨some 6, .call (.lit (.func 51 [])) [.tmp 5], none, []⟩, ⟨some 7, .un .not (.tmp 6), none, []⟩]) (.cond (.tmp 7) (.seq (.ops [⟨some 4, .move (.lit (.int .i64 10)), none, []⟩]) .ret) .skip)) (.seq (.seq (.ops [⟨some 8, .load (some 4) (.tmp 2), none, []⟩, ⟨some 9, .move (.tmp 1), none, []⟩, ⟨some 10, .call (.lit (.func 52 [])) [.tmp 8, .tmp 9], none, []⟩, ⟨some 11, .un .not (.tmp 10), none, []⟩]) (.cond (.tmp 11) (.seq (.ops [⟨some 4, .move (.lit (.int .i64 70)), none, []⟩]) .ret) .skip)) (.seq (.ops [⟨some 4, .move (.lit (.int .i64 0)), none, []⟩]) .ret)))
set_option maxRecDepth 20000 in
theorem check07_spec (t : FTask) (f : List (List FLit)) (tok : Tok) (σ : Store) (ht : TB t) (hf : f.length ≤ 140737488355328) (hl : ∀ l ∈ f, l.length ≤ 140737488355328) :
    ACalls Try.prog 26 [.agg (encTask t), .slice tok (f.map encC)] σ (isR (.int .i64 (checkE t f)) σ) := by
  refine ACalls.intro (rs := [(.tmp 4)]) (by kernel_rfl) { own := [], ghosts := [] } Try.func26 (c := Try.f26.body.getD .skip) (by kernel_rfl) (by decide) (by rw [show Try.f26.ntmps = 12 by kernel_rfl]; exact Nat.le_of_ble_eq_true rfl) (by kernel_rfl) ?_
  intro hσ hids
  rw [show comp Try.prog { own := [], ghosts := [] } (Try.f26.body.getD .skip) = c_check07 by kernel_rfl, show Try.f26.ntmps = 12 by kernel_rfl]
  unfold c_check07
  simp only [go_sem, Int.reduceToNat, Int.reduceLE, Int.reduceLT, Nat.reduceBEq, Nat.reduceLT, Nat.reduceAdd, Nat.reduceLeDiff, encTask]
  refine (valid_spec t _ ht).is ?_
  cases h1 : validB t
  · simp only [go_sem, Int.reduceToNat, Int.reduceLE, Int.reduceLT, Nat.reduceBEq, Nat.reduceLT, Nat.reduceAdd, Nat.reduceLeDiff]
    first | exact rtk (.int .i64 10) ⟨by rw [checkE, h1]; rfl, rfl⟩ | exact rtk0 (.int .i64 10) ⟨by rw [checkE, h1]; rfl, rfl⟩
  simp only [go_sem, Int.reduceToNat, Int.reduceLE, Int.reduceLT, Nat.reduceBEq, Nat.reduceLT, Nat.reduceAdd, Nat.reduceLeDiff]
  refine (formula_spec t f tok _ hf hl).is ?_
  cases h2 : isForm t.facts.length f
  · simp only [go_sem, Int.reduceToNat, Int.reduceLE, Int.reduceLT, Nat.reduceBEq, Nat.reduceLT, Nat.reduceAdd, Nat.reduceLeDiff]
    first | exact rtk (.int .i64 70) ⟨by rw [checkE, h1, h2]; rfl, rfl⟩ | exact rtk0 (.int .i64 70) ⟨by rw [checkE, h1, h2]; rfl, rfl⟩
  simp only [go_sem, Int.reduceToNat, Int.reduceLE, Int.reduceLT, Nat.reduceBEq, Nat.reduceLT, Nat.reduceAdd, Nat.reduceLeDiff]
  first | exact rtk (.int .i64 0) ⟨by rw [checkE, h1, h2]; rfl, rfl⟩ | exact rtk0 (.int .i64 0) ⟨by rw [checkE, h1, h2]; rfl, rfl⟩
def fineE (t : FTask) : List (List (List FLit)) → Int
  | [] => 0
  | f :: r => if checkE t f = 0 then fineE t r else checkE t f
/-- A formula whose lists are not too long. -/
def FB (f : List (List FLit)) : Prop := f.length ≤ 140737488355328 ∧ ∀ l ∈ f, l.length ≤ 140737488355328
def c_fine07 : CCode := .seq (.ops [⟨some 2, .box (.tmp 0), none, []⟩, ⟨some 4, .move (.lit (.int .i64 0)), none, []⟩]) (.seq (.seq (.ops [⟨some 8, .move (.tmp 1), none, []⟩, ⟨some 9, .blen 1 (.tmp 8), none, []⟩, ⟨some 10, .move (.lit (.int .i64 0)), none, []⟩]) (.block 0 (.loop (.seq (.ops [⟨some 11, .bin .lss .none (.tmp 10) (.tmp 9), none, []⟩]) (.seq (.cond (.tmp 11) .skip (.exit 0)) (.seq (.block 1 (.seq (.ops [⟨some 12, .iaddr 1 (.tmp 8) (.tmp 10), none, []⟩, ⟨some 13, .load none (.tmp 12), none, []⟩, ⟨some 6, .move (.tmp 13), none, []⟩]) (.seq (.ops [⟨some 14, .load (some 4) (.tmp 2), none, []⟩, ⟨some 15, .move (.tmp 6), none, []⟩, ⟨some 16, .call (.lit (.func 26 [])) [.tmp 14, .tmp 15], none, []⟩, ⟨some 7, .move (.tmp 16), none, []⟩]) (.seq (.ops [⟨some 17, .move (.tmp 7), none, []⟩, ⟨some 18, .bin .neq .none (.tmp 17) (.lit (.int .i64 0)), none, []⟩]) (.cond (.tmp 18) (.seq (.ops [⟨some 19, .move (.tmp 7), none, []⟩, ⟨some 4, .move (.tmp 19), none, []⟩]) .ret) .skip))))) (.ops [⟨some 20, .bin .add .none (.tmp 10) (.lit (.int .i64 1)), none, []⟩, ⟨some 10, .move (.tmp 20), none, []⟩]))))))) (.seq (.ops [⟨some 4, .move (.lit (.int .i64 0)), none, []⟩]) .ret))
set_option maxRecDepth 20000 in
theorem fine07_spec (t : FTask) (fs : List (List (List FLit))) (tok : Tok) (σ : Store) (ht : TB t) (hs : fs.length ≤ 140737488355328) (hf : ∀ f ∈ fs, FB f) :
    ACalls Try.prog 32 [.agg (encTask t), .slice tok (fs.map encF)] σ (isR (.int .i64 (fineE t fs)) σ) := by
  refine ACalls.intro (rs := [(.tmp 4)]) (by kernel_rfl) { own := [], ghosts := [] } Try.func32 (c := Try.f32.body.getD .skip) (by kernel_rfl) (by decide) (by rw [show Try.f32.ntmps = 21 by kernel_rfl]; exact Nat.le_of_ble_eq_true rfl) (by kernel_rfl) ?_
  intro hσ hids
  rw [show comp Try.prog { own := [], ghosts := [] } (Try.f32.body.getD .skip) = c_fine07 by kernel_rfl, show Try.f32.ntmps = 21 by kernel_rfl]
  unfold c_fine07
  have hil : Ids σ.length (.slice tok (fs.map encF)) := hids _ (by simp)
  have hσ1 := ids_grow hσ (ids_encTask t)
  simp only [go_sem, Int.reduceToNat, Int.reduceLE, Int.reduceLT, Nat.reduceBEq, Nat.reduceLT, Nat.reduceAdd, Nat.reduceLeDiff, encTask]
  refine wpc_while (fun i => [(2, .ptr σ.length 0), (8, .slice tok (fs.map encF)), (9, .int .i64 fs.length), (10, .int .i64 (i : Nat))]) (fun _ => σ ++ [.row (encTask t)]) (fun i => i ≤ fs.length ∧ fineE t fs = fineE t (fs.drop i)) (fun i => fs.length - i) 0 ⟨Nat.zero_le _, rfl⟩ (by (try dsimp only); exact ghk1) ?_
  rintro i ⟨hi, hv⟩ K hK hE hR
  by_cases h : i < fs.length
  · obtain ⟨f, hx⟩ := get_ex h; have hlt : ((i : Int) < (fs.length : Int)) := (by omega); have hw : IntKind.i64.wrap ((i : Int) + 1) = ((i + 1 : Nat) : Int) := (by rw [wrap_ok (by omega)]; omega)
    have hb := hf f (List.mem_of_getElem? hx)
    rw [drop_cons hx, fineE] at hv
    simp only [go_sem, Int.reduceToNat, Int.reduceLE, Int.reduceLT, Nat.reduceBEq, Nat.reduceLT, Nat.reduceAdd, Nat.reduceLeDiff, hlt, hx, encF, encTask]
    refine (check07_spec t f .unk _ ht hb.1 hb.2).is ?_
    by_cases h1 : checkE t f = 0
    · rw [h1]
      simp only [go_sem, Int.reduceToNat, Int.reduceLE, Int.reduceLT, Nat.reduceBEq, Nat.reduceLT, Nat.reduceAdd, Nat.reduceLeDiff, bne_self_eq_false]
      rw [if_pos h1] at hv
      refine hK _ _ (i + 1) (⟨by omega, hv⟩) (by first | omega | (simp only []; omega) | (simp; omega)) ?_; (try dsimp only); (try simp only [ hw]); exact ghk1
    · have h1' : (checkE t f != 0) = true := by simpa using h1
      simp only [go_sem, Int.reduceToNat, Int.reduceLE, Int.reduceLT, Nat.reduceBEq, Nat.reduceLT, Nat.reduceAdd, Nat.reduceLeDiff, h1', hR]
      rw [if_neg h1] at hv
      first | exact rtw (v := .int .i64 _) wkS ⟨by rw [hv], rfl⟩ | exact rtw0 (v := .int .i64 _) wkS ⟨by rw [hv], rfl⟩
  · have hlt : ¬ ((i : Int) < (fs.length : Int)) := by omega
    rw [drop_len h] at hv
    simp only [go_sem, Int.reduceToNat, Int.reduceLE, Int.reduceLT, Nat.reduceBEq, Nat.reduceLT, Nat.reduceAdd, Nat.reduceLeDiff, hlt, hE]
    first | exact rtk (.int .i64 0) ⟨by rw [hv]; rfl, rfl⟩ | exact rtk0 (.int .i64 0) ⟨by rw [hv]; rfl, rfl⟩
def c_told : CCode := .seq (.ops [⟨some 4, .move (.lit (.slice .nil [])), none, []⟩, ⟨some 5, .move (.lit (.int .i64 0)), none, []⟩]) (.seq (.seq (.ops [⟨some 6, .move (.tmp 1), none, []⟩, ⟨some 7, .un .not (.tmp 6), none, []⟩, ⟨some 8, .move (.tmp 7), none, []⟩, ⟨some 9, .move (.tmp 0), some (some 8, false), []⟩, ⟨some 10, .blen 1 (.tmp 9), some (some 8, false), []⟩, ⟨some 11, .bin .gtr .none (.tmp 10) (.lit (.int .i64 400)), some (some 8, false), []⟩, ⟨some 12, .pick (.tmp 8) (.lit (.bool true)) (.tmp 11), none, []⟩]) (.cond (.tmp 12) (.seq (.ops [⟨some 4, .move (.lit (.slice .nil [])), none, []⟩, ⟨some 5, .move (.lit (.int .i64 2)), none, []⟩]) .ret) .skip)) (.seq (.ops [⟨some 13, .move (.tmp 0), none, []⟩, ⟨some 4, .move (.tmp 13), none, []⟩, ⟨some 5, .move (.lit (.int .i64 0)), none, []⟩]) .ret))
set_option maxRecDepth 20000 in
theorem told_spec (es : List (List AV)) (tok : Tok) (ok : Bool) (σ : Store) :
    ACalls Try.prog 39 [.slice tok es, .bool ok] σ (isR (if ok = true ∧ es.length ≤ 400 then .tuple [.slice tok es, .int .i64 0] else .tuple [.slice .nil [], .int .i64 2]) σ) := by
  refine ACalls.intro (rs := [(.tmp 4), (.tmp 5)]) (by kernel_rfl) { own := [], ghosts := [] } Try.func39 (c := Try.f39.body.getD .skip) (by kernel_rfl) (by decide) (by rw [show Try.f39.ntmps = 14 by kernel_rfl]; exact Nat.le_of_ble_eq_true rfl) (by kernel_rfl) ?_
  intro hσ hids
  rw [show comp Try.prog { own := [], ghosts := [] } (Try.f39.body.getD .skip) = c_told by kernel_rfl, show Try.f39.ntmps = 14 by kernel_rfl]
  unfold c_told
  have hil : Ids σ.length (.slice tok es) := hids _ (by simp)
  cases ok
  · simp only [go_sem, Int.reduceToNat, Int.reduceLE, Int.reduceLT, Nat.reduceBEq, Nat.reduceLT, Nat.reduceAdd, Nat.reduceLeDiff]
    first | exact rtl (.slice .nil []) (.int .i64 2) ⟨by rw [if_neg (by simp)], rfl⟩ | exact rtl0 (.slice .nil []) (.int .i64 2) ⟨by rw [if_neg (by simp)], rfl⟩
  by_cases h : (es.length : Int) > 400
  · simp only [go_sem, Int.reduceToNat, Int.reduceLE, Int.reduceLT, Nat.reduceBEq, Nat.reduceLT, Nat.reduceAdd, Nat.reduceLeDiff, h]
    first | exact rtl (.slice .nil []) (.int .i64 2) ⟨by rw [if_neg (by omega)], rfl⟩ | exact rtl0 (.slice .nil []) (.int .i64 2) ⟨by rw [if_neg (by omega)], rfl⟩
  · simp only [go_sem, Int.reduceToNat, Int.reduceLE, Int.reduceLT, Nat.reduceBEq, Nat.reduceLT, Nat.reduceAdd, Nat.reduceLeDiff, h]
    first | exact rtl (.slice tok es) (.int .i64 0) ⟨by rw [if_pos (by omega)], rfl⟩ | exact rtl0 (.slice tok es) (.int .i64 0) ⟨by rw [if_pos (by omega)], rfl⟩
def lessI (a b : FLit) : Int := if a.fact = b.fact then (if a.neg = b.neg then 0 else if b.neg then -1 else 1) else a.fact - b.fact
/-- Facts that are numbers of facts. -/
def litOk (x : FLit) : Prop := 0 ≤ x.fact ∧ x.fact ≤ 1073741824
def c_less : CCode := .seq (.ops [⟨some 2, .box (.tmp 0), none, []⟩, ⟨some 3, .box (.tmp 1), none, []⟩, ⟨some 4, .move (.lit (.int .i64 0)), none, []⟩]) (.seq (.seq (.ops [⟨some 5, .faddr 0 (.tmp 2), none, []⟩, ⟨some 6, .load none (.tmp 5), none, []⟩, ⟨some 7, .faddr 0 (.tmp 3), none, []⟩, ⟨some 8, .load none (.tmp 7), none, []⟩, ⟨some 9, .bin .neq .none (.tmp 6) (.tmp 8), none, []⟩]) (.cond (.tmp 9) (.seq (.ops [⟨some 10, .faddr 0 (.tmp 2), none, []⟩, ⟨some 11, .load none (.tmp 10), none, []⟩, ⟨some 12, .faddr 0 (.tmp 3), none, []⟩, ⟨some 13, .load none (.tmp 12), none, []⟩, ⟨some 14, .bin .sub .none (.tmp 11) (.tmp 13), none, []⟩, ⟨some 4, .move (.tmp 14), none, []⟩]) .ret) .skip)) (.seq (.block 0 (.seq (.ops [⟨some 16, .faddr 1 (.tmp 2), none, []⟩, ⟨some 17, .load none (.tmp 16), none, []⟩, ⟨some 18, .faddr 1 (.tmp 3), none, []⟩, ⟨some 19, .load none (.tmp 18), none, []⟩, ⟨some 20, .bin .eql .bool (.tmp 17) (.tmp 19), none, []⟩, ⟨some 15, .move (.tmp 20), none, []⟩]) (.cond (.tmp 15) (.seq (.ops [⟨some 4, .move (.lit (.int .i64 0)), none, []⟩]) .ret) (.seq (.ops [⟨some 22, .faddr 1 (.tmp 3), none, []⟩, ⟨some 23, .load none (.tmp 22), none, []⟩, ⟨some 21, .move (.tmp 23), none, []⟩]) (.cond (.tmp 21) (.seq (.ops [⟨some 4, .move (.lit (.int .i64 (-1))), none, []⟩]) .ret) .skip))))) (.seq (.ops [⟨some 4, .move (.lit (.int .i64 1)), none, []⟩]) .ret)))
set_option maxRecDepth 20000 in
theorem less_spec (a b : FLit) (σ : Store) (ha : litOk a) (hb : litOk b) :
    ACalls Try.prog 88 [.agg (encLit a), .agg (encLit b)] σ (isR (.int .i64 (lessI a b)) σ) := by
  refine ACalls.intro (rs := [(.tmp 4)]) (by kernel_rfl) { own := [], ghosts := [] } Try.func88 (c := Try.f88.body.getD .skip) (by kernel_rfl) (by decide) (by rw [show Try.f88.ntmps = 24 by kernel_rfl]; exact Nat.le_of_ble_eq_true rfl) (by kernel_rfl) ?_
  intro hσ hids
  rw [show comp Try.prog { own := [], ghosts := [] } (Try.f88.body.getD .skip) = c_less by kernel_rfl, show Try.f88.ntmps = 24 by kernel_rfl]
  unfold c_less
  by_cases h1 : a.fact = b.fact
  · have h1' : (a.fact != b.fact) = false := by simpa using h1
    by_cases h2 : a.neg = b.neg
    · have h2' : (a.neg == b.neg) = true := by simpa using h2
      simp only [go_sem, Int.reduceToNat, Int.reduceLE, Int.reduceLT, Nat.reduceBEq, Nat.reduceLT, Nat.reduceAdd, Nat.reduceLeDiff, encLit, h1', h2']
      first | exact rtk (.int .i64 0) ⟨by rw [lessI, if_pos h1, if_pos h2], rfl⟩ | exact rtk0 (.int .i64 0) ⟨by rw [lessI, if_pos h1, if_pos h2], rfl⟩
    · have h2' : (a.neg == b.neg) = false := by simpa using h2
      cases h3 : b.neg
      · rw [h3] at h2'
        simp only [go_sem, Int.reduceToNat, Int.reduceLE, Int.reduceLT, Nat.reduceBEq, Nat.reduceLT, Nat.reduceAdd, Nat.reduceLeDiff, encLit, h1', h3, h2']
        first | exact rtk (.int .i64 1) ⟨by rw [lessI, if_pos h1, if_neg h2, h3]; rfl, rfl⟩ | exact rtk0 (.int .i64 1) ⟨by rw [lessI, if_pos h1, if_neg h2, h3]; rfl, rfl⟩
      · rw [h3] at h2'
        simp only [go_sem, Int.reduceToNat, Int.reduceLE, Int.reduceLT, Nat.reduceBEq, Nat.reduceLT, Nat.reduceAdd, Nat.reduceLeDiff, encLit, h1', h3, h2']
        first | exact rtk (.int .i64 (-1)) ⟨by rw [lessI, if_pos h1, if_neg h2, h3]; rfl, rfl⟩ | exact rtk0 (.int .i64 (-1)) ⟨by rw [lessI, if_pos h1, if_neg h2, h3]; rfl, rfl⟩
  · have h1' : (a.fact != b.fact) = true := by simpa using h1
    have hw : IntKind.i64.wrap (a.fact - b.fact) = a.fact - b.fact := wrap_ok (by have := ha.1; have := ha.2; have := hb.1; have := hb.2; omega)
    simp only [go_sem, Int.reduceToNat, Int.reduceLE, Int.reduceLT, Nat.reduceBEq, Nat.reduceLT, Nat.reduceAdd, Nat.reduceLeDiff, encLit, h1', hw]
    first | exact rtw (v := .int .i64 _) wkS ⟨by rw [lessI, if_neg h1], rfl⟩ | exact rtw0 (v := .int .i64 _) wkS ⟨by rw [lessI, if_neg h1], rfl⟩
def cmpLits : List FLit → List FLit → Int
  | [], [] => 0
  | [], _ :: _ => -1
  | _ :: _, [] => 1
  | a :: l, b :: r => if lessI a b = 0 then cmpLits l r else lessI a b
def c_compareLit : CCode := .seq (.ops [⟨some 6, .move (.lit (.int .i64 0)), none, []⟩]) (.seq (.seq (.ops [⟨some 11, .move (.tmp 0), none, []⟩, ⟨some 12, .blen 1 (.tmp 11), none, []⟩, ⟨some 13, .move (.lit (.int .i64 0)), none, []⟩]) (.block 0 (.loop (.seq (.ops [⟨some 14, .bin .lss .none (.tmp 13) (.tmp 12), none, []⟩]) (.seq (.cond (.tmp 14) .skip (.exit 0)) (.seq (.block 1 (.seq (.ops [⟨some 15, .move (.tmp 13), none, []⟩, ⟨some 16, .iaddr 2 (.tmp 11) (.tmp 13), none, []⟩, ⟨some 17, .load (some 2) (.tmp 16), none, []⟩, ⟨some 8, .alloc (.agg [.int .i64 0, .bool false]), none, []⟩, ⟨some 7, .move (.tmp 15), none, []⟩, ⟨none, .store 2 (.tmp 8) (.tmp 17), none, []⟩]) (.seq (.seq (.ops [⟨some 18, .move (.tmp 7), none, []⟩, ⟨some 19, .move (.tmp 1), none, []⟩, ⟨some 20, .blen 1 (.tmp 19), none, []⟩, ⟨some 21, .bin .geq .none (.tmp 18) (.tmp 20), none, []⟩]) (.cond (.tmp 21) (.seq (.ops [⟨some 6, .move (.lit (.int .i64 1)), none, []⟩]) .ret) .skip)) (.seq (.ops [⟨some 22, .move (.tmp 1), none, []⟩, ⟨some 23, .move (.tmp 7), none, []⟩, ⟨some 24, .iaddr 2 (.tmp 22) (.tmp 23), none, []⟩, ⟨some 25, .load (some 2) (.tmp 24), none, []⟩, ⟨some 9, .alloc (.agg [.int .i64 0, .bool false]), none, []⟩, ⟨none, .store 2 (.tmp 9) (.tmp 25), none, []⟩]) (.seq (.ops [⟨some 26, .move (.tmp 2), none, []⟩, ⟨some 27, .load (some 2) (.tmp 8), none, []⟩, ⟨some 28, .load (some 2) (.tmp 9), none, []⟩, ⟨some 29, .call (.tmp 26) [.tmp 27, .tmp 28], none, []⟩, ⟨some 10, .move (.tmp 29), none, []⟩]) (.seq (.ops [⟨some 30, .move (.tmp 10), none, []⟩, ⟨some 31, .bin .neq .none (.tmp 30) (.lit (.int .i64 0)), none, []⟩]) (.cond (.tmp 31) (.seq (.ops [⟨some 32, .move (.tmp 10), none, []⟩, ⟨some 6, .move (.tmp 32), none, []⟩]) .ret) .skip))))))) (.ops [⟨some 33, .bin .add .none (.tmp 13) (.lit (.int .i64 1)), none, []⟩, ⟨some 13, .move (.tmp 33), none, []⟩]))))))) (.seq (.seq (.ops [⟨some 34, .move (.tmp 0), none, []⟩, ⟨some 35, .blen 1 (.tmp 34), none, []⟩, ⟨some 36, .move (.tmp 1), none, []⟩, ⟨some 37, .blen 1 (.tmp 36), none, []⟩, ⟨some 38, .bin .lss .none (.tmp 35) (.tmp 37), none, []⟩]) (.cond (.tmp 38) (.seq (.ops [⟨some 6, .move (.lit (.int .i64 (-1))), none, []⟩]) .ret) .skip)) (.seq (.ops [⟨some 6, .move (.lit (.int .i64 0)), none, []⟩]) .ret)))
set_option maxRecDepth 20000 in
theorem compareLit_spec (a b : List FLit) (tok tok' : Tok) (σ : Store) (hla : a.length ≤ 140737488355328) (hlb : b.length ≤ 140737488355328) (ha : ∀ x ∈ a, litOk x) (hb : ∀ x ∈ b, litOk x) :
    ACalls Try.prog 87 [.slice tok (a.map encLit), .slice tok' (b.map encLit), .func 88 []] σ (isR (.int .i64 (cmpLits a b)) σ) := by
  refine ACalls.intro (rs := [(.tmp 6)]) (by kernel_rfl) { own := [], ghosts := [] } Try.func87 (c := Try.f87.body.getD .skip) (by kernel_rfl) (by decide) (by rw [show Try.f87.ntmps = 39 by kernel_rfl]; exact Nat.le_of_ble_eq_true rfl) (by kernel_rfl) ?_
  intro hσ hids
  rw [show comp Try.prog { own := [], ghosts := [] } (Try.f87.body.getD .skip) = c_compareLit by kernel_rfl, show Try.f87.ntmps = 39 by kernel_rfl]
  unfold c_compareLit
  have hia : Ids σ.length (.slice tok (a.map encLit)) := hids _ (by simp)
  have hib : Ids σ.length (.slice tok' (b.map encLit)) := hids _ (by simp)
  simp only [go_sem, Int.reduceToNat, Int.reduceLE, Int.reduceLT, Nat.reduceBEq, Nat.reduceLT, Nat.reduceAdd, Nat.reduceLeDiff]
  refine wpc_while (fun i => [(0, .slice tok (a.map encLit)), (1, .slice tok' (b.map encLit)), (2, .func 88 []), (11, .slice tok (a.map encLit)), (12, .int .i64 a.length), (13, .int .i64 (i : Nat))]) (fun _ => σ) (fun i => i ≤ a.length ∧ i ≤ b.length ∧ cmpLits a b = cmpLits (a.drop i) (b.drop i)) (fun i => a.length - i) 0 ⟨Nat.zero_le _, Nat.zero_le _, rfl⟩ (by (try dsimp only); first | exact ghk | exact ghk0) ?_
  rintro i ⟨hi, hib', hv⟩ K hK hE hR
  by_cases h : i < a.length
  · obtain ⟨x, hx⟩ := get_ex h; have hlt : ((i : Int) < (a.length : Int)) := (by omega); have hw : IntKind.i64.wrap ((i : Int) + 1) = ((i + 1 : Nat) : Int) := (by rw [wrap_ok (by omega)]; omega)
    by_cases hge : (i : Int) ≥ b.length
    · rw [drop_cons hx, drop_len (by omega : ¬ i < b.length)] at hv
      simp only [go_sem, Int.reduceToNat, Int.reduceLE, Int.reduceLT, Nat.reduceBEq, Nat.reduceLT, Nat.reduceAdd, Nat.reduceLeDiff, hlt, hx, encLit, hge, hR]
      first | exact rtk (.int .i64 1) ⟨by rw [hv]; rfl, rfl⟩ | exact rtk0 (.int .i64 1) ⟨by rw [hv]; rfl, rfl⟩
    · obtain ⟨y, hy⟩ : ∃ y, b[i]? = some y := get_ex (by omega)
      rw [drop_cons hx, drop_cons hy, cmpLits] at hv
      simp only [go_sem, Int.reduceToNat, Int.reduceLE, Int.reduceLT, Nat.reduceBEq, Nat.reduceLT, Nat.reduceAdd, Nat.reduceLeDiff, hlt, hx, encLit, hge, hy]
      refine (less_spec x y _ (ha x (List.mem_of_getElem? hx)) (hb y (List.mem_of_getElem? hy))).is ?_
      by_cases h1 : lessI x y = 0
      · rw [h1]
        simp only [go_sem, Int.reduceToNat, Int.reduceLE, Int.reduceLT, Nat.reduceBEq, Nat.reduceLT, Nat.reduceAdd, Nat.reduceLeDiff, bne_self_eq_false]
        rw [if_pos h1] at hv
        refine hK _ _ (i + 1) (⟨by omega, by omega, hv⟩) (by first | omega | (simp only []; omega) | (simp; omega)) ?_; (try dsimp only); (try simp only [ hw]); first | exact ghk | exact ghk0
      · have h1' : (lessI x y != 0) = true := by simpa using h1
        simp only [go_sem, Int.reduceToNat, Int.reduceLE, Int.reduceLT, Nat.reduceBEq, Nat.reduceLT, Nat.reduceAdd, Nat.reduceLeDiff, h1', hR]
        rw [if_neg h1] at hv
        first | exact rtw (v := .int .i64 _) wkS ⟨by rw [hv], rfl⟩ | exact rtw0 (v := .int .i64 _) wkS ⟨by rw [hv], rfl⟩
  · have hlt : ¬ ((i : Int) < (a.length : Int)) := by omega
    rw [drop_len h] at hv
    by_cases h2 : (a.length : Int) < b.length
    · obtain ⟨y, hy⟩ : ∃ y, b[i]? = some y := get_ex (by omega)
      rw [drop_cons hy] at hv
      simp only [go_sem, Int.reduceToNat, Int.reduceLE, Int.reduceLT, Nat.reduceBEq, Nat.reduceLT, Nat.reduceAdd, Nat.reduceLeDiff, hlt, hE, h2]
      first | exact rtk (.int .i64 (-1)) ⟨by rw [hv]; rfl, rfl⟩ | exact rtk0 (.int .i64 (-1)) ⟨by rw [hv]; rfl, rfl⟩
    · rw [drop_len (by omega : ¬ i < b.length)] at hv
      simp only [go_sem, Int.reduceToNat, Int.reduceLE, Int.reduceLT, Nat.reduceBEq, Nat.reduceLT, Nat.reduceAdd, Nat.reduceLeDiff, hlt, hE, h2]
      first | exact rtk (.int .i64 0) ⟨by rw [hv]; rfl, rfl⟩ | exact rtk0 (.int .i64 0) ⟨by rw [hv]; rfl, rfl⟩
def orderI (a b : List FLit) : Int := if a.length = b.length then cmpLits a b else (a.length : Int) - b.length
def c_order : CCode := .seq (.ops [⟨some 4, .move (.lit (.int .i64 0)), none, []⟩]) (.seq (.seq (.ops [⟨some 5, .move (.tmp 0), none, []⟩, ⟨some 6, .blen 1 (.tmp 5), none, []⟩, ⟨some 7, .move (.tmp 1), none, []⟩, ⟨some 8, .blen 1 (.tmp 7), none, []⟩, ⟨some 9, .bin .neq .none (.tmp 6) (.tmp 8), none, []⟩]) (.cond (.tmp 9) (.seq (.ops [⟨some 10, .move (.tmp 0), none, []⟩, ⟨some 11, .blen 1 (.tmp 10), none, []⟩, ⟨some 12, .move (.tmp 1), none, []⟩, ⟨some 13, .blen 1 (.tmp 12), none, []⟩, ⟨some 14, .bin .sub .none (.tmp 11) (.tmp 13), none, []⟩, ⟨some 4, .move (.tmp 14), none, []⟩]) .ret) .skip)) (.seq (.ops [⟨some 15, .move (.tmp 0), none, []⟩, ⟨some 16, .move (.tmp 1), none, []⟩, ⟨some 17, .call (.lit (.func 87 [])) [.tmp 15, .tmp 16, .lit (.func 88 [])], none, []⟩, ⟨some 4, .move (.tmp 17), none, []⟩]) .ret))
set_option maxRecDepth 20000 in
theorem order_spec (a b : List FLit) (tok tok' : Tok) (σ : Store) (hla : a.length ≤ 140737488355328) (hlb : b.length ≤ 140737488355328) (ha : ∀ x ∈ a, litOk x) (hb : ∀ x ∈ b, litOk x) :
    ACalls Try.prog 69 [.slice tok (a.map encLit), .slice tok' (b.map encLit)] σ (isR (.int .i64 (orderI a b)) σ) := by
  refine ACalls.intro (rs := [(.tmp 4)]) (by kernel_rfl) { own := [], ghosts := [] } Try.func69 (c := Try.f69.body.getD .skip) (by kernel_rfl) (by decide) (by rw [show Try.f69.ntmps = 18 by kernel_rfl]; exact Nat.le_of_ble_eq_true rfl) (by kernel_rfl) ?_
  intro hσ hids
  rw [show comp Try.prog { own := [], ghosts := [] } (Try.f69.body.getD .skip) = c_order by kernel_rfl, show Try.f69.ntmps = 18 by kernel_rfl]
  unfold c_order
  by_cases h : a.length = b.length
  · have h' : ((a.length : Int) != b.length) = false := by rw [h]; exact bne_self_eq_false _
    simp only [go_sem, Int.reduceToNat, Int.reduceLE, Int.reduceLT, Nat.reduceBEq, Nat.reduceLT, Nat.reduceAdd, Nat.reduceLeDiff, h']
    refine (compareLit_spec a b tok tok' σ hla hlb ha hb).is ?_
    simp only [go_sem, Int.reduceToNat, Int.reduceLE, Int.reduceLT, Nat.reduceBEq, Nat.reduceLT, Nat.reduceAdd, Nat.reduceLeDiff]
    first | exact rtw (v := .int .i64 _) wkS ⟨by rw [orderI, if_pos h], rfl⟩ | exact rtw0 (v := .int .i64 _) wkS ⟨by rw [orderI, if_pos h], rfl⟩
  · have h' : ((a.length : Int) != b.length) = true := by simp; omega
    have hw : IntKind.i64.wrap ((a.length : Int) - b.length) = (a.length : Int) - b.length := wrap_ok (by omega)
    simp only [go_sem, Int.reduceToNat, Int.reduceLE, Int.reduceLT, Nat.reduceBEq, Nat.reduceLT, Nat.reduceAdd, Nat.reduceLeDiff, h', hw]
    first | exact rtw (v := .int .i64 _) wkS ⟨by rw [orderI, if_neg h], rfl⟩ | exact rtw0 (v := .int .i64 _) wkS ⟨by rw [orderI, if_neg h], rfl⟩
end Go.Proofs.Ytbnhijapbnfohaa
namespace Go.Proofs.Ytbnhijapbnfohaa
open Go.Ahl
def okI (n : Int) : Prop := -9223372036854775808 ≤ n ∧ n ≤ 9223372036854775807
theorem rd_int : Reads Try.prog 3 Ahl.encI okI := .int Try.underlying3
theorem rd_str : Reads Try.prog 9 encT (fun s => s.size ≤ 140737488355328) := .str Try.underlying9
theorem rd_lit : Reads Try.prog 62 encLit (fun _ => True) :=
  (Reads.struct Try.underlying62 (by kernel_rfl) (ReadsFs.cons (by rfl) rd_int (.cons (by kernel_rfl) (.bool Try.underlying4) (.nil _)))).conv (fun x => ⟨x.1, x.2.1⟩) (fun x => rfl) (fun _ _ => trivial)
theorem rd_strs : Reads Try.prog 22 (Ahl.encS encT) (okL fun s => s.size ≤ 140737488355328) := .slice Try.underlying22 (Nat.le_of_ble_eq_true (by kernel_rfl)) (Nat.le_of_ble_eq_true (by kernel_rfl)) rd_str
theorem rd_ints : Reads Try.prog 23 (Ahl.encS Ahl.encI) (okL okI) := .slice Try.underlying23 (Nat.le_of_ble_eq_true (by kernel_rfl)) (Nat.le_of_ble_eq_true (by kernel_rfl)) rd_int
theorem rd_lits : Reads Try.prog 24 (Ahl.encS encLit) (okL fun _ => True) := .slice Try.underlying24 (Nat.le_of_ble_eq_true (by kernel_rfl)) (Nat.le_of_ble_eq_true (by kernel_rfl)) rd_lit
theorem rd_form : Reads Try.prog 28 (Ahl.encS encC) (fun f => FB f) :=
  (Reads.slice Try.underlying28 (Nat.le_of_ble_eq_true (by kernel_rfl)) (Nat.le_of_ble_eq_true (by kernel_rfl)) rd_lits).conv id (fun _ => rfl) (fun f h => ⟨h.1, fun l hl => (h.2 l hl).1⟩)
theorem rd_eff : Reads Try.prog 64 encE (fun e => e.when_.length ≤ 140737488355328) :=
  (Reads.struct Try.underlying64 (by kernel_rfl) (ReadsFs.cons (by rfl) rd_lits (.cons (by kernel_rfl) rd_lit (.nil _)))).conv (fun x => ⟨x.1, x.2.1⟩) (fun x => rfl) (fun x h => h.1.1)
theorem rd_effs : Reads Try.prog 42 (Ahl.encS encE) (okL fun e => e.when_.length ≤ 140737488355328) := .slice Try.underlying42 (Nat.le_of_ble_eq_true (by kernel_rfl)) (Nat.le_of_ble_eq_true (by kernel_rfl)) rd_eff
structure AB (a : FAct) : Prop where
  name : a.name.data.toList.length ≤ 140737488355328
  pre : a.pre.length ≤ 140737488355328
  effects : a.effects.length ≤ 140737488355328
  whens : ∀ e ∈ a.effects, e.when_.length ≤ 140737488355328
theorem rd_act : Reads Try.prog 44 encA AB :=
  (Reads.struct Try.underlying44 (by kernel_rfl) (ReadsFs.cons (by rfl) rd_str (.cons (by kernel_rfl) rd_int (.cons (by kernel_rfl) rd_lits (.cons (by kernel_rfl) rd_effs (.nil _)))))).conv (fun x => ⟨x.1, x.2.1, x.2.2.1, x.2.2.2.1⟩) (fun x => rfl) (fun x h => ⟨h.1, h.2.2.1.1, h.2.2.2.1.1, h.2.2.2.1.2⟩)
theorem rd_acts : Reads Try.prog 25 (Ahl.encS encA) (okL AB) := .slice Try.underlying25 (Nat.le_of_ble_eq_true (by kernel_rfl)) (Nat.le_of_ble_eq_true (by kernel_rfl)) rd_act
theorem rd_task : Reads Try.prog 27 encTask TB :=
  (Reads.struct Try.underlying27 (by kernel_rfl) (ReadsFs.cons (by rfl) rd_strs (.cons (by kernel_rfl) rd_ints (.cons (by kernel_rfl) rd_lits (.cons (by kernel_rfl) rd_acts (.nil _)))))).conv (fun x => ⟨x.1, x.2.1, x.2.2.1, x.2.2.2.1⟩) (fun x => rfl)
    (fun x h => ⟨h.1.1, h.1.2, h.2.1.1, h.2.2.1.1, h.2.2.2.1.1, fun a ha => (h.2.2.2.1.2 a ha).name, fun a ha => (h.2.2.2.1.2 a ha).pre, fun a ha => (h.2.2.2.1.2 a ha).effects, fun a ha => (h.2.2.2.1.2 a ha).whens⟩)
theorem ra_task : RArg Try.prog 27 (fun t => .agg (encTask t)) TB := .agg rd_task Try.underlying27
theorem ra_form : RArg Try.prog 28 (fun f : List (List FLit) => .slice .unk (f.map encC)) FB := .one rd_form (by intro d h; rw [Try.underlying28] at h; injection h with h; subst h; rfl)
theorem ra_int : RArg Try.prog 3 (fun n => .int .i64 n) okI := .one rd_int (by intro d h; rw [Try.underlying3] at h; injection h with h; subst h; rfl)
theorem laidOut : laidOutB Try.prog = true := by kernel_rfl
theorem own : ownKnob Try.prog.godebug = none := by kernel_rfl
theorem rdble {ts : List TypeId} (h : (ts.all fun t => Try.prog.readableRec t && decide (t < Try.prog.types.size)) = true) : ∀ t ∈ ts, Try.prog.readableRec t = true ∧ t < Try.prog.types.size := by
  intro t ht
  have := List.all_eq_true.1 h t ht
  rw [Bool.and_eq_true] at this
  exact ⟨this.1, of_decide_eq_true this.2⟩
end Go.Proofs.Ytbnhijapbnfohaa
namespace Go.Proofs.Ytbnhijapbnfohaa
open Go.Ahl
def c_both1 : CCode := .seq (.ops [⟨some 2, .box (.tmp 0), none, []⟩, ⟨some 3, .box (.tmp 1), none, []⟩, ⟨some 4, .move (.lit (.int .i64 0)), none, []⟩]) (.seq (.ops [⟨some 5, .faddr 0 (.tmp 2), none, []⟩, ⟨some 6, .load none (.tmp 5), none, []⟩, ⟨some 7, .faddr 0 (.tmp 3), none, []⟩, ⟨some 8, .load none (.tmp 7), none, []⟩, ⟨some 9, .bin .sub .none (.tmp 6) (.tmp 8), none, []⟩, ⟨some 4, .move (.tmp 9), none, []⟩]) .ret)
set_option maxRecDepth 20000 in
theorem both1_spec (a b : FLit) (σ : Store) (ha : litOk a) (hb : litOk b) : ACalls Try.prog 83 [.agg (encLit a), .agg (encLit b)] σ (isR (.int .i64 (a.fact - b.fact)) σ) := by
  refine ACalls.intro (rs := [(.tmp 4)]) (by kernel_rfl) { own := [], ghosts := [] } Try.func83 (c := Try.f83.body.getD .skip) (by kernel_rfl) (by decide) (by rw [show Try.f83.ntmps = 10 by kernel_rfl]; exact Nat.le_of_ble_eq_true rfl) (by kernel_rfl) ?_
  intro hσ hids
  rw [show comp Try.prog { own := [], ghosts := [] } (Try.f83.body.getD .skip) = c_both1 by kernel_rfl, show Try.f83.ntmps = 10 by kernel_rfl]
  unfold c_both1
  have hw : IntKind.i64.wrap (a.fact - b.fact) = a.fact - b.fact := wrap_ok (by have := ha.1; have := ha.2; have := hb.1; have := hb.2; omega)
  simp only [go_sem, Int.reduceToNat, Int.reduceLE, Int.reduceLT, Nat.reduceBEq, Nat.reduceLT, Nat.reduceAdd, Nat.reduceLeDiff, encLit, hw]
  first | exact rtw (v := .int .i64 _) wkS ⟨rfl, rfl⟩ | exact rtw0 (v := .int .i64 _) wkS ⟨rfl, rfl⟩
def c_both2 : CCode := .seq (.ops [⟨some 2, .box (.tmp 0), none, []⟩, ⟨some 3, .box (.tmp 1), none, []⟩, ⟨some 4, .move (.lit (.bool false)), none, []⟩]) (.seq (.ops [⟨some 5, .faddr 0 (.tmp 2), none, []⟩, ⟨some 6, .load none (.tmp 5), none, []⟩, ⟨some 7, .faddr 0 (.tmp 3), none, []⟩, ⟨some 8, .load none (.tmp 7), none, []⟩, ⟨some 9, .bin .eql .none (.tmp 6) (.tmp 8), none, []⟩, ⟨some 10, .move (.tmp 9), none, []⟩, ⟨some 11, .faddr 1 (.tmp 2), some (some 10, true), []⟩, ⟨some 12, .load none (.tmp 11), some (some 10, true), []⟩, ⟨some 13, .faddr 1 (.tmp 3), some (some 10, true), []⟩, ⟨some 14, .load none (.tmp 13), some (some 10, true), []⟩, ⟨some 15, .bin .neq .bool (.tmp 12) (.tmp 14), some (some 10, true), []⟩, ⟨some 16, .pick (.tmp 10) (.tmp 15) (.lit (.bool false)), none, []⟩, ⟨some 4, .move (.tmp 16), none, []⟩]) .ret)
set_option maxRecDepth 20000 in
theorem both2_spec (a b : FLit) (σ : Store) : ACalls Try.prog 84 [.agg (encLit a), .agg (encLit b)] σ (isR (.bool (a.fact == b.fact && !(a.neg == b.neg))) σ) := by
  refine ACalls.intro (rs := [(.tmp 4)]) (by kernel_rfl) { own := [], ghosts := [] } Try.func84 (c := Try.f84.body.getD .skip) (by kernel_rfl) (by decide) (by rw [show Try.f84.ntmps = 17 by kernel_rfl]; exact Nat.le_of_ble_eq_true rfl) (by kernel_rfl) ?_
  intro hσ hids
  rw [show comp Try.prog { own := [], ghosts := [] } (Try.f84.body.getD .skip) = c_both2 by kernel_rfl, show Try.f84.ntmps = 17 by kernel_rfl]
  unfold c_both2
  cases h1 : (a.fact == b.fact)
  · simp only [go_sem, Int.reduceToNat, Int.reduceLE, Int.reduceLT, Nat.reduceBEq, Nat.reduceLT, Nat.reduceAdd, Nat.reduceLeDiff, encLit, h1]
    first | exact rtw (v := .bool _) wkS ⟨rfl, rfl⟩ | exact rtw0 (v := .bool _) wkS ⟨rfl, rfl⟩
  · simp only [go_sem, Int.reduceToNat, Int.reduceLE, Int.reduceLT, Nat.reduceBEq, Nat.reduceLT, Nat.reduceAdd, Nat.reduceLeDiff, encLit, h1]
    first | exact rtw (v := .bool _) wkS ⟨rfl, rfl⟩ | exact rtw0 (v := .bool _) wkS ⟨rfl, rfl⟩
def mergeF : Nat → List FLit → List FLit → Option (List FLit)
  | 0, _, _ => some []
  | _ + 1, [], [] => some []
  | n + 1, x :: a, [] => (mergeF n a []).map (x :: ·)
  | n + 1, [], y :: b => (mergeF n [] b).map (y :: ·)
  | n + 1, x :: a, y :: b =>
    if x.fact < y.fact then (mergeF n a (y :: b)).map (x :: ·)
    else if y.fact < x.fact then (mergeF n (x :: a) b).map (y :: ·)
    else if x.neg = y.neg then (mergeF n a b).map (x :: ·) else none
/-- The conjunction of two conditions. -/
def bothL (a b : List FLit) : Option (List FLit) := mergeF (a.length + b.length) a b
def resB : Option (List FLit) → AV
  | some l => .tuple [.slice .unk (l.map encLit), .bool true]
  | none => .tuple [.slice .nil [], .bool false]
theorem map_snoc (o : Option (List FLit)) (out : List FLit) (x : FLit) : (o.map (x :: ·)).map (out ++ ·) = o.map ((out ++ [x]) ++ ·) := by
  cases o <;> simp
def d_merged_0 : List COp := [⟨some 30, .move (.tmp 1), none, []⟩, ⟨some 31, .blen 1 (.tmp 30), none, [0]⟩, ⟨some 32, .bin .eql .none (.tmp 31) (.lit (.int .i64 0)), none, [1]⟩, ⟨some 33, .move (.tmp 32), none, [2]⟩, ⟨some 34, .move (.tmp 0), some (some 33, false), [3]⟩, ⟨some 35, .blen 1 (.tmp 34), some (some 33, false), [4, 3]⟩, ⟨some 36, .bin .gtr .none (.tmp 35) (.lit (.int .i64 0)), some (some 33, false), [5, 3]⟩, ⟨some 37, .move (.tmp 36), some (some 33, false), [6, 3, 3]⟩, ⟨some 38, .move (.tmp 2), some (some 37, true), [7]⟩, ⟨some 39, .move (.tmp 0), some (some 37, true), [7]⟩, ⟨some 40, .iaddr 2 (.tmp 39) (.lit (.int .i64 0)), some (some 37, true), [9, 7]⟩, ⟨some 41, .load (some 2) (.tmp 40), some (some 37, true), [10, 7]⟩, ⟨some 42, .move (.tmp 1), some (some 37, true), [7]⟩, ⟨some 43, .iaddr 2 (.tmp 42) (.lit (.int .i64 0)), some (some 37, true), [12, 7]⟩, ⟨some 44, .load (some 2) (.tmp 43), some (some 37, true), [13, 7]⟩, ⟨some 45, .call (.tmp 38) [.tmp 41, .tmp 44], some (some 37, true), [8, 11, 14, 7, 7]⟩, ⟨some 46, .bin .lss .none (.tmp 45) (.lit (.int .i64 0)), some (some 37, true), [15, 7]⟩, ⟨some 47, .pick (.tmp 37) (.tmp 46) (.lit (.bool false)), some (some 33, false), [7, 16, 3]⟩, ⟨some 48, .move (.tmp 47), some (some 33, false), [17, 15, 3]⟩, ⟨some 49, .move (.tmp 3), some (some 48, true), [18]⟩, ⟨some 50, .move (.tmp 0), some (some 48, true), [18]⟩, ⟨some 51, .iaddr 2 (.tmp 50) (.lit (.int .i64 0)), some (some 48, true), [20, 18]⟩, ⟨some 52, .load (some 2) (.tmp 51), some (some 48, true), [21, 18]⟩, ⟨some 53, .move (.tmp 1), some (some 48, true), [18]⟩, ⟨some 54, .iaddr 2 (.tmp 53) (.lit (.int .i64 0)), some (some 48, true), [23, 18]⟩, ⟨some 55, .load (some 2) (.tmp 54), some (some 48, true), [24, 18]⟩, ⟨some 56, .call (.tmp 49) [.tmp 52, .tmp 55], some (some 48, true), [19, 22, 25, 18, 18]⟩, ⟨some 57, .un .not (.tmp 56), some (some 48, true), [26, 18]⟩, ⟨some 58, .pick (.tmp 48) (.tmp 57) (.lit (.bool false)), some (some 33, false), [18, 27, 3]⟩, ⟨some 59, .pick (.tmp 33) (.lit (.bool true)) (.tmp 58), none, [3, 28]⟩, ⟨some 29, .move (.tmp 59), none, [29, 26]⟩]
theorem dr_merged_0 (P : Program) (nt n0 : Nat) (Q : Post) (s : Slots) (σ : Store) : wpc P nt n0 (.draw d_merged_0) Q s σ = aOpsD P nt [⟨some 30, .move (.tmp 1), none, []⟩, ⟨some 31, .blen 1 (.tmp 30), none, [0]⟩, ⟨some 32, .bin .eql .none (.tmp 31) (.lit (.int .i64 0)), none, [1]⟩, ⟨some 33, .move (.tmp 32), none, [2]⟩, ⟨some 34, .move (.tmp 0), some (some 33, false), [3]⟩, ⟨some 35, .blen 1 (.tmp 34), some (some 33, false), [4, 3]⟩, ⟨some 36, .bin .gtr .none (.tmp 35) (.lit (.int .i64 0)), some (some 33, false), [5, 3]⟩, ⟨some 37, .move (.tmp 36), some (some 33, false), [6, 3, 3]⟩, ⟨some 38, .move (.tmp 2), some (some 37, true), [7]⟩, ⟨some 39, .move (.tmp 0), some (some 37, true), [7]⟩, ⟨some 40, .iaddr 2 (.tmp 39) (.lit (.int .i64 0)), some (some 37, true), [9, 7]⟩, ⟨some 41, .load (some 2) (.tmp 40), some (some 37, true), [10, 7]⟩, ⟨some 42, .move (.tmp 1), some (some 37, true), [7]⟩, ⟨some 43, .iaddr 2 (.tmp 42) (.lit (.int .i64 0)), some (some 37, true), [12, 7]⟩, ⟨some 44, .load (some 2) (.tmp 43), some (some 37, true), [13, 7]⟩, ⟨some 45, .call (.tmp 38) [.tmp 41, .tmp 44], some (some 37, true), [8, 11, 14, 7, 7]⟩, ⟨some 46, .bin .lss .none (.tmp 45) (.lit (.int .i64 0)), some (some 37, true), [15, 7]⟩, ⟨some 47, .pick (.tmp 37) (.tmp 46) (.lit (.bool false)), some (some 33, false), [7, 16, 3]⟩, ⟨some 48, .move (.tmp 47), some (some 33, false), [17, 15, 3]⟩, ⟨some 49, .move (.tmp 3), some (some 48, true), [18]⟩, ⟨some 50, .move (.tmp 0), some (some 48, true), [18]⟩, ⟨some 51, .iaddr 2 (.tmp 50) (.lit (.int .i64 0)), some (some 48, true), [20, 18]⟩, ⟨some 52, .load (some 2) (.tmp 51), some (some 48, true), [21, 18]⟩, ⟨some 53, .move (.tmp 1), some (some 48, true), [18]⟩, ⟨some 54, .iaddr 2 (.tmp 53) (.lit (.int .i64 0)), some (some 48, true), [23, 18]⟩, ⟨some 55, .load (some 2) (.tmp 54), some (some 48, true), [24, 18]⟩, ⟨some 56, .call (.tmp 49) [.tmp 52, .tmp 55], some (some 48, true), [19, 22, 25, 18, 18]⟩, ⟨some 57, .un .not (.tmp 56), some (some 48, true), [26, 18]⟩, ⟨some 58, .pick (.tmp 48) (.tmp 57) (.lit (.bool false)), some (some 33, false), [18, 27, 3]⟩, ⟨some 59, .pick (.tmp 33) (.lit (.bool true)) (.tmp 58), none, [3, 28]⟩, ⟨some 29, .move (.tmp 59), none, [29, 26]⟩] (Q .normal) s σ := wpc_draw _ (by decide)
def d_merged_1 : List COp := [⟨some 60, .move (.tmp 10), none, []⟩, ⟨some 61, .move (.tmp 0), none, []⟩, ⟨some 62, .iaddr 2 (.tmp 61) (.lit (.int .i64 0)), none, [1]⟩, ⟨some 63, .load (some 2) (.tmp 62), none, [2]⟩, ⟨some 64, .bslice 2 [.tmp 63] false, none, [3]⟩, ⟨some 65, .bappend 2 16 (.tmp 60) (.tmp 64) false, none, [0, 4]⟩, ⟨some 66, .move (.tmp 0), none, []⟩, ⟨some 67, .slc 2 (.tmp 66) (some (.lit (.int .i64 1))) none none, none, [6]⟩, ⟨some 10, .move (.tmp 65), none, [5, 5, 0, 1, 2, 3, 4, 5]⟩, ⟨some 0, .move (.tmp 67), none, [7, 8, 0, 1, 2, 3, 4, 5, 6, 7, 8]⟩]
theorem dr_merged_1 (P : Program) (nt n0 : Nat) (Q : Post) (s : Slots) (σ : Store) : wpc P nt n0 (.draw d_merged_1) Q s σ = aOpsD P nt [⟨some 60, .move (.tmp 10), none, []⟩, ⟨some 61, .move (.tmp 0), none, []⟩, ⟨some 62, .iaddr 2 (.tmp 61) (.lit (.int .i64 0)), none, [1]⟩, ⟨some 63, .load (some 2) (.tmp 62), none, [2]⟩, ⟨some 64, .bslice 2 [.tmp 63] false, none, [3]⟩, ⟨some 65, .bappend 2 16 (.tmp 60) (.tmp 64) false, none, [0, 4]⟩, ⟨some 66, .move (.tmp 0), none, []⟩, ⟨some 67, .slc 2 (.tmp 66) (some (.lit (.int .i64 1))) none none, none, [6]⟩, ⟨some 10, .move (.tmp 65), none, [5, 5, 0, 1, 2, 3, 4, 5]⟩, ⟨some 0, .move (.tmp 67), none, [7, 8, 0, 1, 2, 3, 4, 5, 6, 7, 8]⟩] (Q .normal) s σ := wpc_draw _ (by decide)
def d_merged_2 : List COp := [⟨some 69, .move (.tmp 0), none, []⟩, ⟨some 70, .blen 1 (.tmp 69), none, [0]⟩, ⟨some 71, .bin .eql .none (.tmp 70) (.lit (.int .i64 0)), none, [1]⟩, ⟨some 72, .move (.tmp 71), none, [2]⟩, ⟨some 73, .move (.tmp 2), some (some 72, false), [3]⟩, ⟨some 74, .move (.tmp 0), some (some 72, false), [3]⟩, ⟨some 75, .iaddr 2 (.tmp 74) (.lit (.int .i64 0)), some (some 72, false), [5, 3]⟩, ⟨some 76, .load (some 2) (.tmp 75), some (some 72, false), [6, 3]⟩, ⟨some 77, .move (.tmp 1), some (some 72, false), [3]⟩, ⟨some 78, .iaddr 2 (.tmp 77) (.lit (.int .i64 0)), some (some 72, false), [8, 3]⟩, ⟨some 79, .load (some 2) (.tmp 78), some (some 72, false), [9, 3]⟩, ⟨some 80, .call (.tmp 73) [.tmp 76, .tmp 79], some (some 72, false), [4, 7, 10, 3, 3]⟩, ⟨some 81, .bin .gtr .none (.tmp 80) (.lit (.int .i64 0)), some (some 72, false), [11, 3]⟩, ⟨some 82, .move (.tmp 81), some (some 72, false), [12, 11, 3]⟩, ⟨some 83, .move (.tmp 3), some (some 82, true), [13]⟩, ⟨some 84, .move (.tmp 0), some (some 82, true), [13]⟩, ⟨some 85, .iaddr 2 (.tmp 84) (.lit (.int .i64 0)), some (some 82, true), [15, 13]⟩, ⟨some 86, .load (some 2) (.tmp 85), some (some 82, true), [16, 13]⟩, ⟨some 87, .move (.tmp 1), some (some 82, true), [13]⟩, ⟨some 88, .iaddr 2 (.tmp 87) (.lit (.int .i64 0)), some (some 82, true), [18, 13]⟩, ⟨some 89, .load (some 2) (.tmp 88), some (some 82, true), [19, 13]⟩, ⟨some 90, .call (.tmp 83) [.tmp 86, .tmp 89], some (some 82, true), [14, 17, 20, 13, 13]⟩, ⟨some 91, .un .not (.tmp 90), some (some 82, true), [21, 13]⟩, ⟨some 92, .pick (.tmp 82) (.tmp 91) (.lit (.bool false)), some (some 72, false), [13, 22, 3]⟩, ⟨some 93, .pick (.tmp 72) (.lit (.bool true)) (.tmp 92), none, [3, 23]⟩, ⟨some 68, .move (.tmp 93), none, [24, 21]⟩]
theorem dr_merged_2 (P : Program) (nt n0 : Nat) (Q : Post) (s : Slots) (σ : Store) : wpc P nt n0 (.draw d_merged_2) Q s σ = aOpsD P nt [⟨some 69, .move (.tmp 0), none, []⟩, ⟨some 70, .blen 1 (.tmp 69), none, [0]⟩, ⟨some 71, .bin .eql .none (.tmp 70) (.lit (.int .i64 0)), none, [1]⟩, ⟨some 72, .move (.tmp 71), none, [2]⟩, ⟨some 73, .move (.tmp 2), some (some 72, false), [3]⟩, ⟨some 74, .move (.tmp 0), some (some 72, false), [3]⟩, ⟨some 75, .iaddr 2 (.tmp 74) (.lit (.int .i64 0)), some (some 72, false), [5, 3]⟩, ⟨some 76, .load (some 2) (.tmp 75), some (some 72, false), [6, 3]⟩, ⟨some 77, .move (.tmp 1), some (some 72, false), [3]⟩, ⟨some 78, .iaddr 2 (.tmp 77) (.lit (.int .i64 0)), some (some 72, false), [8, 3]⟩, ⟨some 79, .load (some 2) (.tmp 78), some (some 72, false), [9, 3]⟩, ⟨some 80, .call (.tmp 73) [.tmp 76, .tmp 79], some (some 72, false), [4, 7, 10, 3, 3]⟩, ⟨some 81, .bin .gtr .none (.tmp 80) (.lit (.int .i64 0)), some (some 72, false), [11, 3]⟩, ⟨some 82, .move (.tmp 81), some (some 72, false), [12, 11, 3]⟩, ⟨some 83, .move (.tmp 3), some (some 82, true), [13]⟩, ⟨some 84, .move (.tmp 0), some (some 82, true), [13]⟩, ⟨some 85, .iaddr 2 (.tmp 84) (.lit (.int .i64 0)), some (some 82, true), [15, 13]⟩, ⟨some 86, .load (some 2) (.tmp 85), some (some 82, true), [16, 13]⟩, ⟨some 87, .move (.tmp 1), some (some 82, true), [13]⟩, ⟨some 88, .iaddr 2 (.tmp 87) (.lit (.int .i64 0)), some (some 82, true), [18, 13]⟩, ⟨some 89, .load (some 2) (.tmp 88), some (some 82, true), [19, 13]⟩, ⟨some 90, .call (.tmp 83) [.tmp 86, .tmp 89], some (some 82, true), [14, 17, 20, 13, 13]⟩, ⟨some 91, .un .not (.tmp 90), some (some 82, true), [21, 13]⟩, ⟨some 92, .pick (.tmp 82) (.tmp 91) (.lit (.bool false)), some (some 72, false), [13, 22, 3]⟩, ⟨some 93, .pick (.tmp 72) (.lit (.bool true)) (.tmp 92), none, [3, 23]⟩, ⟨some 68, .move (.tmp 93), none, [24, 21]⟩] (Q .normal) s σ := wpc_draw _ (by decide)
def d_merged_3 : List COp := [⟨some 94, .move (.tmp 10), none, []⟩, ⟨some 95, .move (.tmp 1), none, []⟩, ⟨some 96, .iaddr 2 (.tmp 95) (.lit (.int .i64 0)), none, [1]⟩, ⟨some 97, .load (some 2) (.tmp 96), none, [2]⟩, ⟨some 98, .bslice 2 [.tmp 97] false, none, [3]⟩, ⟨some 99, .bappend 2 16 (.tmp 94) (.tmp 98) false, none, [0, 4]⟩, ⟨some 100, .move (.tmp 1), none, []⟩, ⟨some 101, .slc 2 (.tmp 100) (some (.lit (.int .i64 1))) none none, none, [6]⟩, ⟨some 10, .move (.tmp 99), none, [5, 5, 0, 1, 2, 3, 4, 5]⟩, ⟨some 1, .move (.tmp 101), none, [7, 8, 0, 1, 2, 3, 4, 5, 6, 7, 8]⟩]
theorem dr_merged_3 (P : Program) (nt n0 : Nat) (Q : Post) (s : Slots) (σ : Store) : wpc P nt n0 (.draw d_merged_3) Q s σ = aOpsD P nt [⟨some 94, .move (.tmp 10), none, []⟩, ⟨some 95, .move (.tmp 1), none, []⟩, ⟨some 96, .iaddr 2 (.tmp 95) (.lit (.int .i64 0)), none, [1]⟩, ⟨some 97, .load (some 2) (.tmp 96), none, [2]⟩, ⟨some 98, .bslice 2 [.tmp 97] false, none, [3]⟩, ⟨some 99, .bappend 2 16 (.tmp 94) (.tmp 98) false, none, [0, 4]⟩, ⟨some 100, .move (.tmp 1), none, []⟩, ⟨some 101, .slc 2 (.tmp 100) (some (.lit (.int .i64 1))) none none, none, [6]⟩, ⟨some 10, .move (.tmp 99), none, [5, 5, 0, 1, 2, 3, 4, 5]⟩, ⟨some 1, .move (.tmp 101), none, [7, 8, 0, 1, 2, 3, 4, 5, 6, 7, 8]⟩] (Q .normal) s σ := wpc_draw _ (by decide)
def d_merged_4 : List COp := [⟨some 103, .move (.tmp 3), none, []⟩, ⟨some 104, .move (.tmp 0), none, []⟩, ⟨some 105, .iaddr 2 (.tmp 104) (.lit (.int .i64 0)), none, [1]⟩, ⟨some 106, .load (some 2) (.tmp 105), none, [2]⟩, ⟨some 107, .move (.tmp 1), none, []⟩, ⟨some 108, .iaddr 2 (.tmp 107) (.lit (.int .i64 0)), none, [4]⟩, ⟨some 109, .load (some 2) (.tmp 108), none, [5]⟩, ⟨some 110, .call (.tmp 103) [.tmp 106, .tmp 109], none, [0, 3, 6]⟩, ⟨some 102, .move (.tmp 110), none, [7, 7]⟩]
theorem dr_merged_4 (P : Program) (nt n0 : Nat) (Q : Post) (s : Slots) (σ : Store) : wpc P nt n0 (.draw d_merged_4) Q s σ = aOpsD P nt [⟨some 103, .move (.tmp 3), none, []⟩, ⟨some 104, .move (.tmp 0), none, []⟩, ⟨some 105, .iaddr 2 (.tmp 104) (.lit (.int .i64 0)), none, [1]⟩, ⟨some 106, .load (some 2) (.tmp 105), none, [2]⟩, ⟨some 107, .move (.tmp 1), none, []⟩, ⟨some 108, .iaddr 2 (.tmp 107) (.lit (.int .i64 0)), none, [4]⟩, ⟨some 109, .load (some 2) (.tmp 108), none, [5]⟩, ⟨some 110, .call (.tmp 103) [.tmp 106, .tmp 109], none, [0, 3, 6]⟩, ⟨some 102, .move (.tmp 110), none, [7, 7]⟩] (Q .normal) s σ := wpc_draw _ (by decide)
def d_merged_5 : List COp := [⟨some 19, .move (.tmp 10), none, []⟩, ⟨some 20, .move (.tmp 0), none, []⟩, ⟨some 21, .iaddr 2 (.tmp 20) (.lit (.int .i64 0)), none, [1]⟩, ⟨some 22, .load (some 2) (.tmp 21), none, [2]⟩, ⟨some 23, .bslice 2 [.tmp 22] false, none, [3]⟩, ⟨some 24, .bappend 2 16 (.tmp 19) (.tmp 23) false, none, [0, 4]⟩, ⟨some 25, .move (.tmp 0), none, []⟩, ⟨some 26, .slc 2 (.tmp 25) (some (.lit (.int .i64 1))) none none, none, [6]⟩, ⟨some 27, .move (.tmp 1), none, []⟩, ⟨some 28, .slc 2 (.tmp 27) (some (.lit (.int .i64 1))) none none, none, [8]⟩, ⟨some 10, .move (.tmp 24), none, [5, 5, 0, 1, 2, 3, 4, 5]⟩, ⟨some 0, .move (.tmp 26), none, [7, 10, 0, 1, 2, 3, 4, 5, 6, 7, 10]⟩, ⟨some 1, .move (.tmp 28), none, [9, 11, 0, 1, 2, 3, 4, 5, 6, 7, 8, 9, 10, 11]⟩]
theorem dr_merged_5 (P : Program) (nt n0 : Nat) (Q : Post) (s : Slots) (σ : Store) : wpc P nt n0 (.draw d_merged_5) Q s σ = aOpsD P nt [⟨some 19, .move (.tmp 10), none, []⟩, ⟨some 20, .move (.tmp 0), none, []⟩, ⟨some 21, .iaddr 2 (.tmp 20) (.lit (.int .i64 0)), none, [1]⟩, ⟨some 22, .load (some 2) (.tmp 21), none, [2]⟩, ⟨some 23, .bslice 2 [.tmp 22] false, none, [3]⟩, ⟨some 24, .bappend 2 16 (.tmp 19) (.tmp 23) false, none, [0, 4]⟩, ⟨some 25, .move (.tmp 0), none, []⟩, ⟨some 26, .slc 2 (.tmp 25) (some (.lit (.int .i64 1))) none none, none, [6]⟩, ⟨some 27, .move (.tmp 1), none, []⟩, ⟨some 28, .slc 2 (.tmp 27) (some (.lit (.int .i64 1))) none none, none, [8]⟩, ⟨some 10, .move (.tmp 24), none, [5, 5, 0, 1, 2, 3, 4, 5]⟩, ⟨some 0, .move (.tmp 26), none, [7, 10, 0, 1, 2, 3, 4, 5, 6, 7, 10]⟩, ⟨some 1, .move (.tmp 28), none, [9, 11, 0, 1, 2, 3, 4, 5, 6, 7, 8, 9, 10, 11]⟩] (Q .normal) s σ := wpc_draw _ (by decide)
def c_merged : CCode := .seq (.ops [⟨some 8, .move (.lit (.slice .nil [])), none, []⟩, ⟨some 9, .move (.lit (.bool false)), none, []⟩]) (.seq (.ops [⟨some 10, .move (.lit (.slice .nil [])), none, []⟩]) (.seq (.block 0 (.loop (.seq (.seq (.ops [⟨some 11, .move (.tmp 0), none, []⟩, ⟨some 12, .blen 1 (.tmp 11), none, []⟩, ⟨some 13, .bin .gtr .none (.tmp 12) (.lit (.int .i64 0)), none, []⟩, ⟨some 14, .move (.tmp 13), none, []⟩, ⟨some 15, .move (.tmp 1), some (some 14, false), []⟩, ⟨some 16, .blen 1 (.tmp 15), some (some 14, false), []⟩, ⟨some 17, .bin .gtr .none (.tmp 16) (.lit (.int .i64 0)), some (some 14, false), []⟩, ⟨some 18, .pick (.tmp 14) (.lit (.bool true)) (.tmp 17), none, []⟩]) (.cond (.tmp 18) .skip (.exit 0))) (.block 1 (.block 2 (.seq (.draw d_merged_0) (.cond (.tmp 29) (.draw d_merged_1) (.seq (.draw d_merged_2) (.cond (.tmp 68) (.draw d_merged_3) (.seq (.draw d_merged_4) (.cond (.tmp 102) (.seq (.ops [⟨some 8, .move (.lit (.slice .nil [])), none, []⟩, ⟨some 9, .move (.lit (.bool false)), none, []⟩]) .ret) (.draw d_merged_5)))))))))))) (.seq (.ops [⟨some 111, .move (.tmp 10), none, []⟩, ⟨some 8, .move (.tmp 111), none, []⟩, ⟨some 9, .move (.lit (.bool true)), none, []⟩]) .ret)))
set_option maxRecDepth 20000 in
theorem merged_spec (a b : List FLit) (tok tok' : Tok) (σ : Store) (hla : a.length ≤ 1073741824) (hlb : b.length ≤ 1073741824) (ha : ∀ x ∈ a, litOk x) (hb : ∀ x ∈ b, litOk x) :
    ACalls Try.prog 82 [.slice tok (a.map encLit), .slice tok' (b.map encLit), .func 83 [], .func 84 []] σ (isR (resB (bothL a b)) σ) := by
  refine ACalls.intro (rs := [(.tmp 8), (.tmp 9)]) (by kernel_rfl) { own := [], ghosts := [] } Try.func82 (c := Try.f82.body.getD .skip) (by kernel_rfl) (by decide) (by rw [show Try.f82.ntmps = 112 by kernel_rfl]; exact Nat.le_of_ble_eq_true rfl) (by kernel_rfl) ?_
  intro hσ hids
  rw [show comp Try.prog { own := [], ghosts := [] } (Try.f82.body.getD .skip) = c_merged by kernel_rfl, show Try.f82.ntmps = 112 by kernel_rfl]
  unfold c_merged
  have hia : Ids σ.length (.slice tok (a.map encLit)) := hids _ (by simp)
  have hib : Ids σ.length (.slice tok' (b.map encLit)) := hids _ (by simp)
  have hs1 : ∀ n, IdsS (σ ++ [AObj.grow 2 n]).length (σ ++ [AObj.grow 2 n]) := fun n => idsS_push hσ trivial
  simp only [go_sem, Int.reduceToNat, Int.reduceLE, Int.reduceLT, Nat.reduceBEq, Nat.reduceLT, Nat.reduceAdd, Nat.reduceLeDiff, dr_merged_0, dr_merged_1, dr_merged_2, dr_merged_3, dr_merged_4, dr_merged_5]
  refine wpc_while (fun (q : Nat × List FLit × List FLit × List FLit) => [(10, .slice (.grow σ.length) (q.2.1.map encLit)), (0, .slice .unk (q.2.2.1.map encLit)), (1, .slice .unk (q.2.2.2.map encLit)), (2, .func 83 []), (3, .func 84 [])])
    (fun q => σ ++ [.grow 2 q.2.1.length]) (fun q => q.2.2.1.length + q.2.2.2.length ≤ q.1 ∧ q.2.1.length + q.2.2.1.length + q.2.2.2.length ≤ a.length + b.length ∧ (∀ x ∈ q.2.2.1, litOk x) ∧ (∀ x ∈ q.2.2.2, litOk x) ∧ bothL a b = (mergeF q.1 q.2.2.1 q.2.2.2).map (q.2.1 ++ ·))
    (fun q => q.1) (a.length + b.length, [], a, b) ⟨Nat.le_refl _, by simp, ha, hb, by simp [bothL]⟩ ?_ ?_
  · exact (.begin0 10 2 _ (Nat.le_refl _) tellT hσ)
  rintro ⟨n, out, p, q⟩ ⟨hn, hlen, hp, hq, hv⟩ K hK hE hR
  dsimp only at hn hlen hp hq hv ⊢
  have enc1 : ∀ x : FLit, [[AV.int .i64 x.fact, AV.bool x.neg]] = [x].map encLit := fun x => rfl
  have hbig : bigLen (out.length + 1) 16 := big_ok (by omega) (by omega)
  match p, q, n, hn, hlen, hp, hq, hv with
  | [], [], n, _, _, _, _, hv =>
    have hv : bothL a b = some out := by rw [hv]; cases n <;> simp [mergeF]
    simp only [go_sem, Int.reduceToNat, Int.reduceLE, Int.reduceLT, Nat.reduceBEq, Nat.reduceLT, Nat.reduceAdd, Nat.reduceLeDiff, dr_merged_0, dr_merged_1, dr_merged_2, dr_merged_3, dr_merged_4, dr_merged_5, Int.lt_irrefl, gt_iff_lt, Int.natCast_zero, hE]
    first | exact rtl (.slice .unk (out.map encLit)) (.bool true) ⟨by rw [hv]; rfl, rfl⟩ | exact rtl0 (.slice .unk (out.map encLit)) (.bool true) ⟨by rw [hv]; rfl, rfl⟩
  | x :: p, [], n + 1, hn, hlen, hp, hq, hv =>
    have h1 : ((p.length + 1 : Nat) : Int) > 0 := by omega
    have hc : out.map encLit ++ [[AV.int .i64 x.fact, AV.bool x.neg]] = (out ++ [x]).map encLit := by simp [encLit]
    simp only [go_sem, Int.reduceToNat, Int.reduceLE, Int.reduceLT, Nat.reduceBEq, Nat.reduceLT, Nat.reduceAdd, Nat.reduceLeDiff, dr_merged_0, dr_merged_1, dr_merged_2, dr_merged_3, dr_merged_4, dr_merged_5, h1, encLit, hbig, hc]
    refine hK _ _ (n, out ++ [x], p, []) ⟨by simp at hn ⊢; omega, by simp at hlen ⊢; omega, fun y hy => hp y (List.mem_cons_of_mem _ hy), hq, by rw [hv, mergeF, map_snoc]⟩ (by simp only []; omega) ?_
    simp only [List.length_append, List.length_cons, List.length_nil, Nat.reduceAdd]
    exact (by (try dsimp only); first | exact ghL (hs1 (out.length + 1)) | exact ghL0 (hs1 (out.length + 1)))
  | [], y :: q, n + 1, hn, hlen, hp, hq, hv =>
    have h1 : ((q.length + 1 : Nat) : Int) > 0 := by omega
    have h2 : (((q.length + 1 : Nat) : Int) == 0) = false := by simp; omega
    have hc : out.map encLit ++ [[AV.int .i64 y.fact, AV.bool y.neg]] = (out ++ [y]).map encLit := by simp [encLit]
    simp only [go_sem, Int.reduceToNat, Int.reduceLE, Int.reduceLT, Nat.reduceBEq, Nat.reduceLT, Nat.reduceAdd, Nat.reduceLeDiff, dr_merged_0, dr_merged_1, dr_merged_2, dr_merged_3, dr_merged_4, dr_merged_5, h1, h2, encLit, hbig, hc, Int.lt_irrefl, gt_iff_lt]
    refine hK _ _ (n, out ++ [y], [], q) ⟨by simp at hn ⊢; omega, by simp at hlen ⊢; omega, hp, fun x hx => hq x (List.mem_cons_of_mem _ hx), by rw [hv, mergeF, map_snoc]⟩ (by simp only []; omega) ?_
    simp only [List.length_append, List.length_cons, List.length_nil, Nat.reduceAdd]
    exact (by (try dsimp only); first | exact ghL (hs1 (out.length + 1)) | exact ghL0 (hs1 (out.length + 1)))
  | x :: p, y :: q, n + 1, hn, hlen, hp, hq, hv =>
    have h1 : ((p.length + 1 : Nat) : Int) > 0 := by omega
    have h2 : (((q.length + 1 : Nat) : Int) == 0) = false := by simp; omega
    have h3 : (((p.length + 1 : Nat) : Int) == 0) = false := by simp; omega
    have hx := hp x List.mem_cons_self
    have hy := hq y List.mem_cons_self
    have hc : out.map encLit ++ [[AV.int .i64 x.fact, AV.bool x.neg]] = (out ++ [x]).map encLit := by simp [encLit]
    have hc' : out.map encLit ++ [[AV.int .i64 y.fact, AV.bool y.neg]] = (out ++ [y]).map encLit := by simp [encLit]
    rw [mergeF] at hv
    simp only [go_sem, Int.reduceToNat, Int.reduceLE, Int.reduceLT, Nat.reduceBEq, Nat.reduceLT, Nat.reduceAdd, Nat.reduceLeDiff, dr_merged_0, dr_merged_1, dr_merged_2, dr_merged_3, dr_merged_4, dr_merged_5, h1, h2, encLit]
    refine ⟨_, both1_spec x y _ hx hy, ?_⟩
    by_cases c1 : x.fact - y.fact < 0
    · simp only [go_sem, Int.reduceToNat, Int.reduceLE, Int.reduceLT, Nat.reduceBEq, Nat.reduceLT, Nat.reduceAdd, Nat.reduceLeDiff, dr_merged_0, dr_merged_1, dr_merged_2, dr_merged_3, dr_merged_4, dr_merged_5, c1, encLit]
      refine ⟨_, both2_spec x y _, ?_⟩
      have c2 : (x.fact == y.fact) = false := by simp; omega
      simp only [go_sem, Int.reduceToNat, Int.reduceLE, Int.reduceLT, Nat.reduceBEq, Nat.reduceLT, Nat.reduceAdd, Nat.reduceLeDiff, dr_merged_0, dr_merged_1, dr_merged_2, dr_merged_3, dr_merged_4, dr_merged_5, c2, encLit, Bool.false_and, hbig, hc]
      rw [if_pos (by omega)] at hv
      refine hK _ _ (n, out ++ [x], p, y :: q) ⟨by simp at hn ⊢; omega, by simp at hlen ⊢; omega, fun z hz => hp z (List.mem_cons_of_mem _ hz), hq, by rw [hv, map_snoc]⟩ (by simp only []; omega) ?_
      simp only [List.length_append, List.length_cons, List.length_nil, Nat.reduceAdd]
      exact (by (try dsimp only); first | exact ghL (hs1 (out.length + 1)) | exact ghL0 (hs1 (out.length + 1)))
    rw [if_neg (by omega)] at hv
    simp only [go_sem, Int.reduceToNat, Int.reduceLE, Int.reduceLT, Nat.reduceBEq, Nat.reduceLT, Nat.reduceAdd, Nat.reduceLeDiff, dr_merged_0, dr_merged_1, dr_merged_2, dr_merged_3, dr_merged_4, dr_merged_5, c1, h3, encLit]
    refine ⟨_, both1_spec x y _ hx hy, ?_⟩
    by_cases c3 : x.fact - y.fact > 0
    · simp only [go_sem, Int.reduceToNat, Int.reduceLE, Int.reduceLT, Nat.reduceBEq, Nat.reduceLT, Nat.reduceAdd, Nat.reduceLeDiff, dr_merged_0, dr_merged_1, dr_merged_2, dr_merged_3, dr_merged_4, dr_merged_5, c3, encLit]
      refine ⟨_, both2_spec x y _, ?_⟩
      have c2 : (x.fact == y.fact) = false := by simp; omega
      simp only [go_sem, Int.reduceToNat, Int.reduceLE, Int.reduceLT, Nat.reduceBEq, Nat.reduceLT, Nat.reduceAdd, Nat.reduceLeDiff, dr_merged_0, dr_merged_1, dr_merged_2, dr_merged_3, dr_merged_4, dr_merged_5, c2, encLit, Bool.false_and, hbig, hc']
      rw [if_pos (by omega)] at hv
      refine hK _ _ (n, out ++ [y], x :: p, q) ⟨by simp at hn ⊢; omega, by simp at hlen ⊢; omega, hp, fun z hz => hq z (List.mem_cons_of_mem _ hz), by rw [hv, map_snoc]⟩ (by simp only []; omega) ?_
      simp only [List.length_append, List.length_cons, List.length_nil, Nat.reduceAdd]
      exact (by (try dsimp only); first | exact ghL (hs1 (out.length + 1)) | exact ghL0 (hs1 (out.length + 1)))
    rw [if_neg (by omega)] at hv
    have c2 : (x.fact == y.fact) = true := by simp; omega
    simp only [go_sem, Int.reduceToNat, Int.reduceLE, Int.reduceLT, Nat.reduceBEq, Nat.reduceLT, Nat.reduceAdd, Nat.reduceLeDiff, dr_merged_0, dr_merged_1, dr_merged_2, dr_merged_3, dr_merged_4, dr_merged_5, c3, encLit]
    refine ⟨_, both2_spec x y _, ?_⟩
    by_cases c4 : x.neg = y.neg
    · have c4' : (x.neg == y.neg) = true := by simpa using c4
      simp only [go_sem, Int.reduceToNat, Int.reduceLE, Int.reduceLT, Nat.reduceBEq, Nat.reduceLT, Nat.reduceAdd, Nat.reduceLeDiff, dr_merged_0, dr_merged_1, dr_merged_2, dr_merged_3, dr_merged_4, dr_merged_5, c2, c4', hbig, hc, encLit]
      rw [if_pos c4] at hv
      refine hK _ _ (n, out ++ [x], p, q) ⟨by simp at hn ⊢; omega, by simp at hlen ⊢; omega, fun z hz => hp z (List.mem_cons_of_mem _ hz), fun z hz => hq z (List.mem_cons_of_mem _ hz), by rw [hv, map_snoc]⟩ (by simp only []; omega) ?_
      simp only [List.length_append, List.length_cons, List.length_nil, Nat.reduceAdd]
      exact (by (try dsimp only); first | exact ghL (hs1 (out.length + 1)) | exact ghL0 (hs1 (out.length + 1)))
    · have c4' : (x.neg == y.neg) = false := by simpa using c4
      simp only [go_sem, Int.reduceToNat, Int.reduceLE, Int.reduceLT, Nat.reduceBEq, Nat.reduceLT, Nat.reduceAdd, Nat.reduceLeDiff, dr_merged_0, dr_merged_1, dr_merged_2, dr_merged_3, dr_merged_4, dr_merged_5, c2, c4', hR]
      rw [if_neg c4] at hv
      first | exact rtl (.slice .nil []) (.bool false) ⟨by rw [hv]; rfl, rfl⟩ | exact rtl0 (.slice .nil []) (.bool false) ⟨by rw [hv]; rfl, rfl⟩
  | x :: p, _, 0, hn, _, _, _, _ => simp at hn
  | _, y :: q, 0, hn, _, _, _, _ => simp at hn
def c_both : CCode := .seq (.ops [⟨some 4, .move (.lit (.slice .nil [])), none, []⟩, ⟨some 5, .move (.lit (.bool false)), none, []⟩]) (.seq (.ops [⟨some 6, .move (.tmp 0), none, []⟩, ⟨some 7, .move (.tmp 1), none, []⟩, ⟨some 8, .call (.lit (.func 82 [])) [.tmp 6, .tmp 7, .lit (.func 83 []), .lit (.func 84 [])], none, []⟩, ⟨some 9, .extract (.tmp 8) 0, none, []⟩, ⟨some 10, .extract (.tmp 8) 1, none, []⟩, ⟨some 4, .move (.tmp 9), none, []⟩, ⟨some 5, .move (.tmp 10), none, []⟩]) .ret)
set_option maxRecDepth 20000 in
theorem both_spec (a b : List FLit) (tok tok' : Tok) (σ : Store) (hla : a.length ≤ 1073741824) (hlb : b.length ≤ 1073741824) (ha : ∀ x ∈ a, litOk x) (hb : ∀ x ∈ b, litOk x) :
    ACalls Try.prog 67 [.slice tok (a.map encLit), .slice tok' (b.map encLit)] σ (isR (resB (bothL a b)) σ) := by
  refine ACalls.intro (rs := [(.tmp 4), (.tmp 5)]) (by kernel_rfl) { own := [], ghosts := [] } Try.func67 (c := Try.f67.body.getD .skip) (by kernel_rfl) (by decide) (by rw [show Try.f67.ntmps = 11 by kernel_rfl]; exact Nat.le_of_ble_eq_true rfl) (by kernel_rfl) ?_
  intro hσ hids
  rw [show comp Try.prog { own := [], ghosts := [] } (Try.f67.body.getD .skip) = c_both by kernel_rfl, show Try.f67.ntmps = 11 by kernel_rfl]
  unfold c_both
  simp only [go_sem, Int.reduceToNat, Int.reduceLE, Int.reduceLT, Nat.reduceBEq, Nat.reduceLT, Nat.reduceAdd, Nat.reduceLeDiff]
  refine (merged_spec a b tok tok' σ hla hlb ha hb).is ?_
  cases h : bothL a b with
  | none =>
    simp only [go_sem, Int.reduceToNat, Int.reduceLE, Int.reduceLT, Nat.reduceBEq, Nat.reduceLT, Nat.reduceAdd, Nat.reduceLeDiff, resB]
    first | exact rtl (.slice .nil []) (.bool false) ⟨rfl, rfl⟩ | exact rtl0 (.slice .nil []) (.bool false) ⟨rfl, rfl⟩
  | some l =>
    simp only [go_sem, Int.reduceToNat, Int.reduceLE, Int.reduceLT, Nat.reduceBEq, Nat.reduceLT, Nat.reduceAdd, Nat.reduceLeDiff, resB]
    first | exact rtl (.slice .unk (l.map encLit)) (.bool true) ⟨rfl, rfl⟩ | exact rtl0 (.slice .unk (l.map encLit)) (.bool true) ⟨rfl, rfl⟩
def c_reduced1 : CCode := .seq (.ops [⟨some 3, .move (.lit (.bool false)), none, []⟩]) (.seq (.ops [⟨some 4, .move (.tmp 0), none, []⟩, ⟨some 5, .load none (.tmp 1), none, []⟩, ⟨some 6, .call (.lit (.func 72 [])) [.tmp 4, .tmp 5], none, []⟩, ⟨some 3, .move (.tmp 6), none, []⟩]) .ret)
set_option maxRecDepth 20000 in
theorem reduced1_spec (a b : List FLit) (tok tok' : Tok) (id : Nat) (σ : Store) (hla : a.length ≤ 140737488355328) (hlb : b.length ≤ 140737488355328) (hid : σ[id]? = some (.row [.slice tok' (b.map encLit)])) :
    ACalls Try.prog 71 [.slice tok (a.map encLit), .ptr id 0] σ (isR (.bool (withinB a b)) σ) := by
  refine ACalls.intro (rs := [(.tmp 3)]) (by kernel_rfl) { own := [], ghosts := [] } Try.func71 (c := Try.f71.body.getD .skip) (by kernel_rfl) (by decide) (by rw [show Try.f71.ntmps = 7 by kernel_rfl]; exact Nat.le_of_ble_eq_true rfl) (by kernel_rfl) ?_
  intro hσ hids
  rw [show comp Try.prog { own := [], ghosts := [] } (Try.f71.body.getD .skip) = c_reduced1 by kernel_rfl, show Try.f71.ntmps = 7 by kernel_rfl]
  unfold c_reduced1
  simp only [go_sem, Int.reduceToNat, Int.reduceLE, Int.reduceLT, Nat.reduceBEq, Nat.reduceLT, Nat.reduceAdd, Nat.reduceLeDiff, hid]
  refine (within_spec a b tok tok' σ hla hlb).is ?_
  simp only [go_sem, Int.reduceToNat, Int.reduceLE, Int.reduceLT, Nat.reduceBEq, Nat.reduceLT, Nat.reduceAdd, Nat.reduceLeDiff]
  first | exact rtw (v := .bool _) wkS ⟨rfl, rfl⟩ | exact rtw0 (v := .bool _) wkS ⟨rfl, rfl⟩
def c_cloneL : CCode := .seq (.ops [⟨some 2, .move (.lit (.slice .nil [])), none, []⟩]) (.seq (.seq (.ops [⟨some 3, .move (.tmp 0), none, []⟩, ⟨some 4, .bin .eql .slice (.tmp 3) (.lit (.slice .nil [])), none, []⟩]) (.cond (.tmp 4) (.seq (.ops [⟨some 2, .move (.lit (.slice .nil [])), none, []⟩]) .ret) .skip)) (.seq (.ops [⟨some 5, .bslice 2 [] false, none, []⟩, ⟨some 6, .move (.tmp 0), none, []⟩, ⟨some 7, .bappend 2 16 (.tmp 5) (.tmp 6) false, none, []⟩, ⟨some 2, .move (.tmp 7), none, []⟩]) .ret))
set_option maxRecDepth 20000 in
theorem cloneL_specF (l : List FLit) (tok : Tok) (σ : Store) (hl : l.length ≤ 1073741824) :
    ACalls Try.prog 73 [.slice tok (l.map encLit)] σ (isR (.slice .fresh (l.map encLit)) σ) := by
  refine ACalls.intro (rs := [(.tmp 2)]) (by kernel_rfl) { own := [], ghosts := [] } Try.func73 (c := Try.f73.body.getD .skip) (by kernel_rfl) (by decide) (by rw [show Try.f73.ntmps = 8 by kernel_rfl]; exact Nat.le_of_ble_eq_true rfl) (by kernel_rfl) ?_
  intro hσ hids
  rw [show comp Try.prog { own := [], ghosts := [] } (Try.f73.body.getD .skip) = c_cloneL by kernel_rfl, show Try.f73.ntmps = 8 by kernel_rfl]
  unfold c_cloneL
  have hbig : bigLen l.length 16 := big_ok (by omega) (by omega)
  simp only [go_sem, Int.reduceToNat, Int.reduceLE, Int.reduceLT, Nat.reduceBEq, Nat.reduceLT, Nat.reduceAdd, Nat.reduceLeDiff]
  intro b hb
  cases b
  · have hall : ∀ x ∈ l, (encLit x).length = 2 ∧ (encLit x).all AV.one = true := fun x _ => ⟨rfl, rfl⟩
    simp only [go_sem, Int.reduceToNat, Int.reduceLE, Int.reduceLT, Nat.reduceBEq, Nat.reduceLT, Nat.reduceAdd, Nat.reduceLeDiff, hbig]
    refine ⟨hall, ?_⟩
    first | exact rtk (.slice .fresh (l.map encLit)) ⟨rfl, rfl⟩ | exact rtk0 (.slice .fresh (l.map encLit)) ⟨rfl, rfl⟩
  · have hl0 : l = [] := by
      cases l with
      | nil => rfl
      | cons x l => exact absurd (hb (by simp)) (by simp)
    subst hl0
    simp only [go_sem, Int.reduceToNat, Int.reduceLE, Int.reduceLT, Nat.reduceBEq, Nat.reduceLT, Nat.reduceAdd, Nat.reduceLeDiff]
    first | exact rtk (.slice .fresh []) ⟨rfl, rfl⟩ | exact rtk0 (.slice .fresh []) ⟨rfl, rfl⟩
end Go.Proofs.Ytbnhijapbnfohaa
namespace Go.Proofs.Ytbnhijapbnfohaa
open Go.Ahl
/-! ### The order of conditions is total -/
def keyL (x : FLit) : Int := 2 * x.fact + (if x.neg then 1 else 0)
theorem lessI_neg (a b : FLit) : (lessI a b < 0) = (keyL a < keyL b) := by
  unfold lessI keyL
  apply propext
  by_cases h : a.fact = b.fact
  · rw [if_pos h, h]; cases a.neg <;> cases b.neg <;> simp <;> omega
  · rw [if_neg h]; cases a.neg <;> cases b.neg <;> simp <;> omega
theorem lessI_zero (a b : FLit) : (lessI a b = 0) = (keyL a = keyL b) := by
  unfold lessI keyL
  apply propext
  by_cases h : a.fact = b.fact
  · rw [if_pos h, h]; cases a.neg <;> cases b.neg <;> simp <;> omega
  · rw [if_neg h]; cases a.neg <;> cases b.neg <;> simp <;> omega
theorem keyL_inj {a b : FLit} (h : keyL a = keyL b) : a = b := by
  obtain ⟨f, n⟩ := a; obtain ⟨g, k⟩ := b
  unfold keyL at h
  cases n <;> cases k <;> simp at h <;> first | (have : f = g := by omega); subst this; rfl | omega
theorem cmp_refl : ∀ a : List FLit, cmpLits a a = 0
  | [] => rfl
  | x :: l => by rw [cmpLits, if_pos (by rw [lessI_zero]), cmp_refl l]
theorem cmp_anti : ∀ {a b : List FLit}, cmpLits a b = 0 → a = b
  | [], [], _ => rfl
  | [], _ :: _, h => by simp [cmpLits] at h
  | _ :: _, [], h => by simp [cmpLits] at h
  | x :: a, y :: b, h => by
    rw [cmpLits] at h
    by_cases h0 : lessI x y = 0
    · rw [if_pos h0] at h
      rw [lessI_zero] at h0
      rw [keyL_inj h0, cmp_anti h]
    · rw [if_neg h0] at h; exact absurd h h0
theorem cmp_swap : ∀ {a b : List FLit}, cmpLits a b < 0 ↔ 0 < cmpLits b a
  | [], [] => by simp [cmpLits]
  | [], _ :: _ => by simp [cmpLits]
  | _ :: _, [] => by simp [cmpLits]
  | x :: a, y :: b => by
    rw [cmpLits, cmpLits]
    by_cases h0 : lessI x y = 0
    · have h1 : lessI y x = 0 := by rw [lessI_zero] at h0 ⊢; exact h0.symm
      rw [if_pos h0, if_pos h1]; exact cmp_swap
    · have h1 : ¬ lessI y x = 0 := by rw [lessI_zero] at h0 ⊢; exact fun e => h0 e.symm
      rw [if_neg h0, if_neg h1]
      have e1 := lessI_neg x y
      have e2 := lessI_neg y x
      rw [lessI_zero] at h0
      rw [e1]
      constructor
      · intro h
        rcases Int.lt_trichotomy (lessI y x) 0 with q | q | q
        · rw [e2] at q; omega
        · exact absurd q h1
        · exact q
      · intro h
        have : ¬ keyL y < keyL x := fun q => by rw [← e2] at q; omega
        omega
theorem cmp_trans : ∀ {a b c : List FLit}, cmpLits a b < 0 → cmpLits b c < 0 → cmpLits a c < 0
  | [], [], _, h, _ => by simp [cmpLits] at h
  | _ :: _, [], _, h, _ => by simp [cmpLits] at h
  | _, _ :: _, [], _, h => by simp [cmpLits] at h
  | [], _ :: _, _ :: _, _, _ => by simp [cmpLits]
  | x :: a, y :: b, z :: c, h, k => by
    rw [cmpLits] at h k ⊢
    by_cases h0 : lessI x y = 0
    · rw [if_pos h0] at h
      rw [lessI_zero] at h0
      have hxy := keyL_inj h0; subst hxy
      by_cases k0 : lessI x z = 0
      · rw [if_pos k0] at k ⊢; exact cmp_trans h k
      · rw [if_neg k0] at k ⊢; exact k
    · rw [if_neg h0, lessI_neg] at h
      by_cases k0 : lessI y z = 0
      · rw [lessI_zero] at k0
        have hyz := keyL_inj k0; subst hyz
        rw [if_neg h0, lessI_neg]; exact h
      · rw [if_neg k0, lessI_neg] at k
        rw [if_neg (by rw [lessI_zero]; omega), lessI_neg]; omega
theorem order_refl (a : List FLit) : orderI a a = 0 := by rw [orderI, if_pos rfl, cmp_refl]
theorem order_anti {a b : List FLit} (h : orderI a b = 0) : a = b := by
  unfold orderI at h
  by_cases hl : a.length = b.length
  · rw [if_pos hl] at h; exact cmp_anti h
  · rw [if_neg hl] at h; omega
theorem order_swap {a b : List FLit} : orderI a b < 0 ↔ 0 < orderI b a := by
  unfold orderI
  by_cases hl : a.length = b.length
  · rw [if_pos hl, if_pos hl.symm]; exact cmp_swap
  · rw [if_neg hl, if_neg (fun e => hl e.symm)]; omega
theorem order_trans {a b c : List FLit} (h : orderI a b < 0) (k : orderI b c < 0) : orderI a c < 0 := by
  unfold orderI at h k ⊢
  by_cases hl : a.length = b.length
  · rw [if_pos hl] at h
    by_cases kl : b.length = c.length
    · rw [if_pos kl] at k; rw [if_pos (hl.trans kl)]; exact cmp_trans h k
    · rw [if_neg kl] at k; rw [if_neg (by omega)]; omega
  · rw [if_neg hl] at h
    by_cases kl : b.length = c.length
    · rw [if_neg (by omega)]; omega
    · rw [if_neg kl] at k; rw [if_neg (by omega)]; omega
theorem order_le_total (a b : List FLit) : orderI a b ≤ 0 ∨ orderI b a ≤ 0 := by
  rcases Int.lt_trichotomy (orderI a b) 0 with h | h | h
  · exact .inl (by omega)
  · exact .inl (by omega)
  · have := (order_swap (a := b) (b := a)).2 h; exact .inr (by omega)
theorem order_le_trans {a b c : List FLit} (h : orderI a b ≤ 0) (k : orderI b c ≤ 0) : orderI a c ≤ 0 := by
  rcases Int.lt_or_eq_of_le h with h | h
  · rcases Int.lt_or_eq_of_le k with k | k
    · exact Int.le_of_lt (order_trans h k)
    · rw [← order_anti k]; exact Int.le_of_lt h
  · rw [order_anti h]; exact k
def insO (x : List FLit) : List (List FLit) → List (List FLit)
  | [] => [x]
  | y :: l => if orderI x y ≤ 0 then x :: y :: l else y :: insO x l
/-- The terms in order. -/
def sortO : List (List FLit) → List (List FLit)
  | [] => []
  | x :: l => insO x (sortO l)
theorem insO_perm (x : List FLit) : ∀ l, (insO x l).Perm (x :: l)
  | [] => .refl _
  | y :: l => by
    rw [insO]
    split
    · exact .refl _
    · exact ((insO_perm x l).cons y).trans (.swap x y l)
theorem sortO_perm : ∀ l, (sortO l).Perm l
  | [] => .refl _
  | x :: l => (insO_perm x (sortO l)).trans ((sortO_perm l).cons x)
def leO (a b : List FLit) : Prop := orderI a b ≤ 0
theorem insO_sorted (x : List FLit) : ∀ {l}, l.Pairwise leO → (insO x l).Pairwise leO
  | [], _ => by simp [insO]
  | y :: l, h => by
    rw [insO]
    rw [List.pairwise_cons] at h
    split
    · rename_i hxy
      refine List.pairwise_cons.2 ⟨fun z hz => ?_, List.pairwise_cons.2 h⟩
      rcases List.mem_cons.1 hz with rfl | hz
      · exact hxy
      · exact order_le_trans hxy (h.1 z hz)
    · rename_i hxy
      refine List.pairwise_cons.2 ⟨fun z hz => ?_, insO_sorted x h.2⟩
      rcases List.mem_cons.1 ((insO_perm x l).mem_iff.1 hz) with rfl | hz
      · rcases order_le_total z y with q | q
        · exact absurd q hxy
        · exact q
      · exact h.1 z hz
theorem sortO_sorted : ∀ l, (sortO l).Pairwise leO
  | [] => .nil
  | x :: l => insO_sorted x (sortO_sorted l)
theorem sorted_unique : ∀ {a b : List (List FLit)}, a.Perm b → a.Pairwise leO → b.Pairwise leO → a = b
  | [], b, p, _, _ => by rw [p.nil_eq]
  | x :: a, b, p, ha, hb => by
    match b, p, hb with
    | [], p, _ => exact absurd p.symm.nil_eq (by simp)
    | y :: b, p, hb =>
      rw [List.pairwise_cons] at ha hb
      have hxy : x = y := by
        rcases List.mem_cons.1 (p.mem_iff.1 List.mem_cons_self) with h | h
        · exact h
        · rcases List.mem_cons.1 (p.mem_iff.2 (List.mem_cons_self (a := y) (l := b))) with h' | h'
          · exact h'.symm
          · have q1 := hb.1 x h
            have q2 := ha.1 y h'
            have q2 : orderI x y ≤ 0 := q2
            have q1 : orderI y x ≤ 0 := q1
            rcases Int.lt_or_eq_of_le q2 with q2 | q2
            · have := order_swap.1 q2; omega
            · exact order_anti q2
      subst hxy
      rw [sorted_unique p.cons_inv ha.2 hb.2]
theorem sortO_unique {a l : List (List FLit)} (p : a.Perm l) (h : a.Pairwise fun x y => ¬ orderI y x < 0) : a = sortO l := by
  refine sorted_unique (p.trans (sortO_perm l).symm) (h.imp fun {x y} hxy => ?_) (sortO_sorted l)
  rcases order_le_total x y with q | q
  · exact q
  · have : orderI y x = 0 := by omega
    rw [order_anti this]; show orderI x x ≤ 0; rw [order_refl]; exact Int.le_refl _
/-! ### Reduced formulas -/
def redLoop : List (List FLit) → List (List FLit) → List (List FLit)
  | out, [] => out
  | out, x :: l => if out.any (fun y => withinB y x) then redLoop out l else redLoop (out ++ [x]) l
/-- The reduced form of a formula. -/
def reducedL (f : List (List FLit)) : List (List FLit) := redLoop [] (sortO f)
end Go.Proofs.Ytbnhijapbnfohaa
/- The abstract layer, part 20: the library's sorting of rows of one cell an element, told of rows of one's own. -/
namespace Go.Ahl
open Go.Sort Go.Shelf Go.RowKit Go.Lib Go.Proofs
/-- The memory, without what may be written to at any time. -/
def Mem.strip (m : Mem) : Mem := { m with wk := fun _ _ => none }
theorem SRel.strip {m : Mem} {loc : List Loc} {σ : Store} {w : World} (h : SRel m loc σ w) (hr : ∀ a v, Rel m loc a v → Rel m.strip loc a v) : SRel m.strip loc σ w where
  len := h.len
  im := h.im
  bs := h.bs
  obj i l o h1 h2 := by
    have := h.obj i l o h1 h2
    cases l with
    | nowhere => cases o <;> exact this
    | blk b =>
      cases o with
      | dead => trivial
      | grow sz n => exact this
      | vec sz n cells => exact this
      | row cells =>
        obtain ⟨arr, t, h1, h2, h3, h4, h5⟩ := this
        exact ⟨arr, t, h1, h2, h3, fun j x v e1 e2 => hr _ _ (h4 j x v e1 e2), h5⟩
      | map es =>
        obtain ⟨en, c, h1, h2⟩ := this
        exact ⟨en, c, h1, ⟨h2.len, fun i k x e a b => ⟨hr _ _ (h2.key i k x e a b).1, hr _ _ (h2.key i k x e a b).2⟩, h2.born, h2.apart⟩⟩
      | iter es seen =>
        rcases this with ⟨h1, h2⟩ | ⟨q, en, c, sa, st, h1, h2, h3, h4⟩
        · exact .inl ⟨h1, h2⟩
        · exact .inr ⟨q, en, c, sa, st, h1, h2, ⟨h3.len, fun i k x e a b => ⟨hr _ _ (h3.key i k x e a b).1, hr _ _ (h3.key i k x e a b).2⟩, h3.born, h3.apart⟩, h4⟩
    | tok sz f =>
      cases o with
      | vec sz' n cells =>
        obtain ⟨h0, h1, h2, h3⟩ := this
        refine ⟨h0, h1, h2, ?_⟩
        rcases h3 with h3 | ⟨b, arr, t, g1, g2, g3, g4, g5, g6⟩
        · exact .inl h3
        · exact .inr ⟨b, arr, t, g1, g2, g3, g4, fun j x v e1 e2 => hr _ _ (g5 j x v e1 e2), g6⟩
      | _ => exact this
  inj := h.inj
  lt := h.lt
  mp := h.mp
  mpo := h.mpo
  ok := ⟨h.ok.low, h.ok.own, fun _ _ _ e => by simp [Mem.strip] at e, h.ok.fz⟩
theorem Rel.strip {m : Mem} {a : AV} {v : Value} (h : Rel m [] a v) : Rel m.strip [] a v := by
  generalize hl : ([] : List Loc) = loc at h
  induction h with
  | any v => exact .any v
  | bool b => exact .bool b
  | int k n => exact .int k n
  | str s => exact .str s
  | slice tok elems a cap sz b o f hcap htok hsz ha hc hr ih =>
    refine .slice tok elems a cap sz b o f hcap ?_ hsz ha hc ih
    cases tok <;> exact htok
  | ref id sz off len cap b n h1 h2 h3 h4 => exact .ref id sz off len cap b n h1 h2 h3 h4
  | ref0 id sz off a h1 => exact .ref0 id sz off a h1
  | vec id sz len cap f a h1 h2 h3 => exact .vec id sz len cap f a h1 h2 h3
  | ptr id off b h1 => exact .ptr id off b h1
  | rptr cells b o f hc hr ih => exact .rptr cells b o f hc ih
  | map id b h1 => exact .map id b h1
  | mapnil => exact .mapnil
  | func fn c vs h1 h2 ih => exact .func fn c vs h1 ih
  | agg c vs h1 h2 ih => exact .agg c vs h1 ih
  | tuple c vs h1 h2 ih => exact .tuple c vs h1 ih
  | conc v => exact .conc v
  | cell K v h => exact .cell K v h
  | wslice elems a cap sz b o f hl' => subst hl; simp at hl'
  | wptr cells b o f hl' => subst hl; simp at hl'
theorem world_of_ext {m m' : Mem} {loc' : List Loc} {w w' : World} (h : Ext 0 m [] w m' loc' w') (hz : ∀ b o, m.wk b o = none) : ∃ q os', w' = grow (w.drewN q) os' := by
  refine ⟨w'.drawn - w.drawn, w'.heap.extract w.heap.size w'.heap.size, ?_⟩
  have hn : ∀ b, ¬ Names [] b := by rintro b ⟨i, e | ⟨_, _, _, e, _⟩⟩ <;> simp at e
  have h1 := h.os; have h2 := h.tape; have h3 := h.output; have h4 := h.drawn
  have hh : w'.heap = w.heap ++ w'.heap.extract w.heap.size w'.heap.size := by
    apply Array.ext_getElem?
    intro k
    rw [Array.getElem?_append]
    by_cases hk : k < w.heap.size
    · rw [if_pos hk]; exact h.frame k hk (hn k) (hz k)
    · rw [if_neg hk, Array.getElem?_extract]
      by_cases hk2 : k < w'.heap.size
      · rw [if_pos (by omega)]; congr 1; omega
      · rw [if_neg (by omega), Array.getElem?_eq_none (by omega)]
  cases w; cases w'
  simp only at h1 h2 h3 h4 hh
  subst h1; subst h2; subst h3
  simp only [grow, World.drewN, World.mk.injEq, true_and, and_true]
  exact ⟨hh, by omega⟩
theorem srel_base {m : Mem} {loc : List Loc} {σ : Store} {w : World} (h : SRel m loc σ w) : SRel m [] [] w := by
  have := h.take 0 (fun i o e => by simp at e)
  simpa using this
section
variable {α : Type} [Inhabited α] (enc : α → Value) (w : World) (blk off n : Nat) (d : Array α) (os : Array Obj)
theorem size_sortWorld : (sortWorld enc w blk off n d os).heap.size = w.heap.size + os.size := by
  simp [sortWorld, Sort.ahead]
theorem sortWorld_other {k : Nat} (hk : k < w.heap.size) (hne : k ≠ blk) : (sortWorld enc w blk off n d os).heap[k]? = w.heap[k]? := by
  show ((putRow enc (Sort.ahead w n) blk off d).heap ++ os)[k]? = _
  rw [Array.getElem?_append_left (by simpa [Sort.ahead] using hk)]
  show (w.heap.modify blk _)[k]? = _
  rw [Array.getElem?_modify, if_neg (fun e => hne e.symm)]
theorem sortWorld_own {arr : Array Value} {t : TypeId} {fz : Nat × Nat} (h : w.heap[blk]? = some (.cells arr t fz)) : (sortWorld enc w blk off n d os).heap[blk]? = some (.cells (putCells enc off d arr) t fz) := by
  have hk : blk < w.heap.size := by
    rcases Nat.lt_or_ge blk w.heap.size with q | q
    · exact q
    · rw [Array.getElem?_eq_none q] at h; simp at h
  show ((putRow enc (Sort.ahead w n) blk off d).heap ++ os)[blk]? = _
  rw [Array.getElem?_append_left (by simpa [Sort.ahead] using hk)]
  show (w.heap.modify blk _)[blk]? = _
  rw [Array.getElem?_modify, if_pos rfl, h]; rfl
theorem size_putCells (arr : Array Value) : (putCells enc off d arr).size = arr.size := by simp [putCells]
end
theorem srel_sorted {α : Type} [Inhabited α] (enc : α → Value) {m : Mem} {w : World} (blk off n : Nat) (d : Array α) (os : Array Obj) (h : SRel m [] [] w) (hb : ∀ o, m.im blk o = none) (hbm : m.mp blk = none) (hz : ∀ b o, m.wk b o = none) : SRel m [] [] (sortWorld enc w blk off n d os) := by
  refine ⟨rfl, ?_, ?_, by intro i l o e; simp at e, by intro i j l l' o o' b e; simp at e, by rintro b ⟨i, e | ⟨_, _, _, e, _⟩⟩ <;> simp at e, ?_, by intro i l o b e; simp at e, ?_⟩
  · intro b o v e
    have hne : b ≠ blk := fun q => by subst q; rw [hb] at e; simp at e
    have := h.im b o v e
    have hlt := h.im_lt e
    unfold World.cell? at this ⊢
    rw [sortWorld_other enc w blk off n d os hlt hne]; exact this
  · intro b k e
    obtain ⟨arr, t, fz, h1, h2⟩ := h.bs b k e
    by_cases hne : b = blk
    · subst hne; exact ⟨_, t, fz, sortWorld_own enc w b off n d os h1, by rw [size_putCells]; exact h2⟩
    · exact ⟨arr, t, fz, by rw [sortWorld_other enc w blk off n d os (h.bs_lt e) hne]; exact h1, h2⟩
  · intro b e q
    have hne : b ≠ blk := fun q' => by subst q'; rw [hbm] at q; simp at q
    rw [sortWorld_other enc w blk off n d os (h.mp_lt q) hne]; exact h.mp b e q
  · refine ⟨by rw [size_sortWorld]; exact Nat.le_trans h.ok.low (Nat.le_add_right _ _), by rintro b ⟨i, e | ⟨_, _, _, e, _⟩⟩ <;> simp at e, fun b o K e => by rw [hz] at e; simp at e, fun b o v q e => ?_⟩
    have hne : b ≠ blk := fun q' => by subst q'; rw [hb] at e; simp at e
    rw [frozen_same (sortWorld_other enc w blk off n d os (h.im_lt e) hne)]; exact h.ok.fz b o v q e
theorem rel_ref {m : Mem} {loc : List Loc} {id sz off len : Nat} {v : Value} (h : Rel m loc (.ref id sz off len) v) :
    (∃ cap b n, v = .slice (some ⟨b, off, none⟩) len cap ∧ loc[id]? = some (.blk b) ∧ len ≤ cap ∧ m.bs b = some n ∧ off + cap * sz ≤ n) ∨ (len = 0 ∧ ∃ a, v = .slice a 0 0) := by
  cases h with
  | ref _ _ _ _ cap b n h1 h2 h3 h4 => exact .inl ⟨cap, b, n, rfl, h1, h2, h3, h4⟩
  | ref0 _ _ _ a _ => exact .inr ⟨rfl, a, rfl⟩
section
variable {P : Program} {ρ : Ren} {β : Type}
/-- slices.SortFunc at rows of one cell an element, by an order that only looks at its two elements. -/
theorem sort1 (L : SlLaysF.n6 P ρ) {fn gn : Func} (hf : P.funcs[ρ.f 6]? = some fn) (hfb : fn.body.isSome = true) (hfn : fn.name ≠ "runtime.NumGoroutine") (av : β → AV) (ok : β → Prop) (cf : β → β → Int)
    (hone : ∀ b, (av b).one = true) (hids : ∀ b, Ids 0 (av b)) (b0 : β) (v0 : Value) (hb0 : ok b0) (hv0 : ∀ m, Rel m [] (av b0) v0)
    (irr : ∀ x, ok x → ¬ cf x x < 0) (tr : ∀ x y z, ok x → ok y → ok z → cf x y < 0 → cf y z < 0 → cf x z < 0) (ntr : ∀ x y z, ok x → ok y → ok z → ¬ cf x y < 0 → ¬ cf y z < 0 → ¬ cf x z < 0)
    (g : FuncId) (hg : P.funcs[g]? = some gn) (hgb : gn.body.isSome = true) (hgn : (gn.name == "runtime.NumGoroutine") = false) (hcmp : ∀ x y, ok x → ok y → ACalls P g [av x, av y] [] (isR (.int .i64 (cf x y)) []))
    (id : Nat) (l : List β) (hl : ∀ x ∈ l, ok x) (σ : Store) (hσ : σ[id]? = some (.row (l.map av))) (hlen : l.length < 4611686018427387904) :
    ACalls P (ρ.f 6) [.ref id 1 0 l.length, .func g []] σ fun r σ' => r = .tuple [] ∧ ∃ l' : List β, l'.Perm l ∧ l'.Pairwise (fun x y => ¬ cf y x < 0) ∧ σ' = σ.set id (.row (l'.map av)) := by
  intro m loc w vs hs ha
  refine .inl ⟨fn, hf, hfb, hfn, ?_⟩
  obtain ⟨v, u, rfl, h1, h2⟩ := ha.two
  cases h2 with
  | func _ _ us hlenu _ =>
  have hus : us = #[] := Array.size_eq_zero_iff.1 hlenu
  subst hus
  have hid := lt_of_get hσ
  have hloc : loc[id]? = some (loc[id]'(by rw [hs.len]; exact hid)) := List.getElem?_eq_getElem _
  by_cases hl0 : l.length = 0
  · have hlnil : l = [] := List.length_eq_zero_iff.1 hl0
    subst hlnil
    have key : ∀ a c, v = .slice a 0 c → Calls P (ρ.f 6) #[v, .func (.func g) #[] #[]] w fun e w' => ∃ v', e = .returned v' ∧ ARet loc m w (fun r σ' => r = .tuple [] ∧ ∃ l' : List β, l'.Perm [] ∧ l'.Pairwise (fun x y => ¬ cf y x < 0) ∧ σ' = σ.set id (.row (l'.map av))) v' w' := by
      rintro a c rfl
      refine (AnyF.slices_SortFunc_none (P := P) (ρ := ρ) { L with } a c _ w).mono ?_
      rintro e w' ⟨rfl, rfl⟩
      refine ⟨_, rfl, .tuple [], σ, m, loc, ⟨rfl, [], .refl _, .nil, ?_⟩, .tuple [] #[] rfl (by simp), hs, .refl _ _ _ _⟩
      rw [← set_same hσ]; simp
    rcases rel_ref h1 with ⟨cap, b, n, q0, _⟩ | ⟨_, a, q0⟩
    · exact key _ _ q0
    · exact key _ _ q0
  · rcases rel_ref h1 with ⟨cap, blk, n, q0, q1, q2, q3, q4⟩ | ⟨q0, _⟩
    rotate_left
    · exact absurd q0 hl0
    · subst q0
      obtain ⟨arr, t, e1, e2, e3, e4, e5⟩ := hs.obj id _ _ q1 hσ
      have e3 : l.length ≤ arr.size := by simpa using e3
      let A := { p : β × Value // ok p.1 ∧ Rel m [] (av p.1) p.2 }
      letI : Inhabited A := ⟨⟨(b0, v0), hb0, hv0 m⟩⟩
      let enc : A → Value := fun x => x.1.2
      let cfA : A → A → Int := fun x y => cf x.1.1 y.1.1
      have hrel : ∀ j (hj : j < l.length), Rel m [] (av l[j]) (arr[j]'(by omega)) := by
        intro j hj
        have := e4 j (av l[j]) (arr[j]'(by omega)) (by rw [List.getElem?_map, List.getElem?_eq_getElem hj]; rfl) (Array.getElem?_eq_getElem _)
        have := this.take (n := 0) (hids _)
        simpa using this
      let d : Array A := Array.ofFn fun j : Fin l.length => ⟨(l[j.1], arr[j.1]'(by omega)), hl _ (List.getElem_mem _), hrel j.1 j.2⟩
      have hds : d.size = l.length := by simp [d]
      have hdj : ∀ j (hj : j < l.length), (d[j]!).1 = (l[j], arr[j]'(by omega)) := by
        intro j hj
        rw [getElem!_pos d j (by rw [hds]; exact hj)]
        simp [d]
      have hdl : d.toList.map (·.1.1) = l := by
        apply List.ext_getElem (by simp [hds])
        intro j h1 h2
        simp [d]
      have hO : SWO (ltOf cfA) := by
        refine ⟨fun x => ?_, fun x y z a b => ?_, fun x y z a b => ?_⟩
        · exact decide_eq_false (irr _ x.2.1)
        · exact decide_eq_true (tr _ _ _ x.2.1 y.2.1 z.2.1 (of_decide_eq_true a) (of_decide_eq_true b))
        · exact decide_eq_false (ntr _ _ _ x.2.1 y.2.1 z.2.1 (of_decide_eq_false a) (of_decide_eq_false b))
      have hgc : ∃ c, gn.body = some c := Option.isSome_iff_exists.1 hgb
      obtain ⟨gc, hgc⟩ := hgc
      have hH : Holds enc w blk 0 d := by
        intro j hj
        rw [hds] at hj
        have : enc d[j]! = arr[j]'(by omega) := by show (d[j]!).1.2 = _; rw [hdj j hj]
        rw [this, Nat.zero_add]
        refine ⟨by simp [World.cell?, e1], by simp [World.frozen?, e1]⟩
      have hblk : blk < w.heap.size := hs.lt blk ⟨id, .inl q1⟩
      have hbase := srel_base hs
      have hlays : CmpLays1 P g #[] enc cfA blk 0 d.size w := by
        intro n' os dk hsz x y
        have hS := srel_sorted (m := m.strip) enc blk 0 n' dk os (hbase.strip fun _ _ q => q.strip) e5 (hs.mpo id _ _ blk q1 hσ rfl) (fun _ _ => rfl)
        have hA : ArgsRel m.strip [] [av x.1.1, av y.1.1] (#[enc x, enc y] ++ #[]) := by
          refine ⟨rfl, fun j a v => ?_⟩
          match j with
          | 0 => intro r1 r2; simp at r1 r2; subst r1; subst r2; exact x.2.2.strip
          | 1 => intro r1 r2; simp at r1 r2; subst r1; subst r2; exact y.2.2.strip
          | j + 2 => intro r1; simp at r1
        refine ((hcmp x.1.1 y.1.1 x.2.1 y.2.1).calls hg hgb (by simpa using hgn) hS hA).mono ?_
        rintro e w' ⟨v, rfl, r, σ', m', loc', ⟨rfl, rfl⟩, r1, r2, r3⟩
        cases r1
        exact ⟨rfl, world_of_ext r3 (fun _ _ => rfl)⟩
      have hmain := Any.slices_SortFunc L enc (fun x => rel_one x.2.2 (hone _)) cfA hO g #[] blk 0 cap d w (enters_of hg hgn hgc) hlays hH hblk (by rw [hds]; exact hlen)
      rw [hds] at hmain
      refine hmain.mono ?_
      rintro e w' ⟨rfl, d', n', os, hperm, hsorted, rfl⟩
      obtain ⟨p1, _, p3⟩ := hperm
      have hd's : d'.size = l.length := p1.trans hds
      have ex : ∀ x : Array A, x.size = l.length → (x.extract 0 l.length).toList = x.toList := fun x hx => by rw [← hx]; simp
      rw [ex d' hd's, ex d hds] at p3
      let l' : List β := d'.toList.map (·.1.1)
      have hl's : l'.length = l.length := by simp [l', hd's]
      have hset : loc.set id (.blk blk) = loc := set_same q1
      have key := hs.turn loc.length (m' := m) (w' := sortWorld enc w blk 0 n' d' os) (l' := .blk blk) (.row (l'.map av)) q1 hσ (.refl m) (.refl _)
        (fun k hk hne => sortWorld_other enc w blk 0 n' d' os hk (fun q => hne (by subst q; rfl))) (by rw [size_sortWorld]; omega) (fun _ _ _ _ => rfl) ?_ ?_ ?_ (fun b q => .inl q) ?_ rfl rfl rfl (by simp [sortWorld, grow, putRow, mapBlock, Sort.ahead])
      · rw [hset] at key
        refine ⟨_, rfl, .tuple [], _, m, loc, ⟨rfl, l', ?_, ?_, rfl⟩, .tuple [] #[] rfl (by simp), key.1, key.2⟩
        · have := p3.map (fun x : A => x.1.1); rw [hdl] at this; exact this
        · rw [List.pairwise_iff_getElem]
          intro i j hi hj hij
          have := hsorted i j (Nat.zero_le _) hij (by rw [← hl's]; exact hj)
          rw [getElem!_pos d' j (by rw [hd's, ← hl's]; exact hj), getElem!_pos d' i (by rw [hd's, ← hl's]; exact hi)] at this
          have := of_decide_eq_false this
          simpa [l', cfA] using this
      · intro k o v hk e'
        rcases hk with hk | hk
        · simp [own] at hk; subst hk; rw [e5] at e'; simp at e'
        · have := hs.im_lt e'; omega
      · intro k z hz
        by_cases hk : k = blk
        · subst hk
          refine .inr ⟨_, t, _, sortWorld_own enc w k 0 n' d' os e1, ?_⟩
          rw [size_putCells]
          rw [e2] at hz; injection hz
        · exact .inl ⟨hz, by simp [own]; exact fun q => hk q.symm⟩
      · rintro b ⟨_, _, _, e, _⟩; simp at e
      · refine ⟨_, t, sortWorld_own enc w blk 0 n' d' os e1, by rw [size_putCells]; exact e2, by rw [size_putCells, List.length_map, hl's]; exact e3, ?_, e5⟩
        rw [hset]
        intro j x v hj hv'
        have hjl : j < l.length := by have := lt_of_get hj; simpa [hl's] using this
        have hjd : j < d'.size := by rw [hd's]; exact hjl
        have hx : x = av (d'[j]).1.1 := by
          simp only [l', List.getElem?_map, Array.getElem?_toList, Array.getElem?_eq_getElem hjd, Option.map_some, Option.some.injEq] at hj
          exact hj.symm
        have hvv : v = (d'[j]).1.2 := by
          simp only [putCells, Array.getElem?_mapIdx, Array.getElem?_eq_getElem (by omega : j < arr.size), Option.map_some, Option.some.injEq] at hv'
          rw [if_pos (by omega), Nat.sub_zero, getElem!_pos d' j hjd] at hv'
          exact hv'.symm
        subst hx; subst hvv
        exact (d'[j]).2.2.mono (.refl m) (fun i l hi => by simp at hi)
end
end Go.Ahl
namespace Go.Proofs
open Go.Shelf Go.RowKit Go.Lib Go.Sort
def Ytbnhijapbnfohaa.laysC_ren : Go.Shelf.Ren := ⟨fun | 6 => 68 | 15 => 86 | 14 => 85 | 28 => 104 | 29 => 105 | 20 => 96 | 21 => 97 | 22 => 98 | 23 => 99 | 24 => 100 | 25 => 101 | 26 => 102 | 27 => 103 | 46 => 108 | 47 => 109 | 48 => 110 | 49 => 111 | 50 => 112 | 57 => 114 | n => n, fun | 22 => 28 | 24 => 24 | 25 => 96 | 3 => 3 | 39 => 108 | 0 => 0 | 53 => 123 | 55 => 125 | 4 => 4 | 46 => 116 | 45 => 115 | 50 => 120 | 5 => 5 | 9 => 9 | 66 => 127 | 70 => 131 | 76 => 133 | 77 => 134 | n => n, fun | n => n⟩
theorem Ytbnhijapbnfohaa.laysC : Go.Proofs.SlLaysF.n6 Try.prog Ytbnhijapbnfohaa.laysC_ren := {
  mixed := by kernel_rfl
  f6 := ⟨Try.f68.name, by decide, Try.func68.trans (congrArg some (by kernel_rfl))⟩
  f14 := ⟨Try.f85.name, by decide, Try.func85.trans (congrArg some (by kernel_rfl))⟩
  f15 := Try.func86.trans (congrArg some (by kernel_rfl))
  f20 := ⟨Try.f96.name, by decide, Try.func96.trans (congrArg some (by kernel_rfl))⟩
  f21 := ⟨Try.f97.name, by decide, Try.func97.trans (congrArg some (by kernel_rfl))⟩
  f22 := ⟨Try.f98.name, by decide, Try.func98.trans (congrArg some (by kernel_rfl))⟩
  f23 := ⟨Try.f99.name, by decide, Try.func99.trans (congrArg some (by kernel_rfl))⟩
  f24 := ⟨Try.f100.name, by decide, Try.func100.trans (congrArg some (by kernel_rfl))⟩
  f25 := ⟨Try.f101.name, by decide, Try.func101.trans (congrArg some (by kernel_rfl))⟩
  f26 := ⟨Try.f102.name, by decide, Try.func102.trans (congrArg some (by kernel_rfl))⟩
  f27 := ⟨Try.f103.name, by decide, Try.func103.trans (congrArg some (by kernel_rfl))⟩
  f28 := Try.func104.trans (congrArg some (by kernel_rfl))
  f29 := Try.func105.trans (congrArg some (by kernel_rfl))
  f46 := ⟨Try.f108.name, by decide, Try.func108.trans (congrArg some (by kernel_rfl))⟩
  f47 := Try.func109.trans (congrArg some (by kernel_rfl))
  f48 := Try.func110.trans (congrArg some (by kernel_rfl))
  f49 := ⟨Try.f111.name, by decide, Try.func111.trans (congrArg some (by kernel_rfl))⟩
  f50 := ⟨Try.f112.name, by decide, Try.func112.trans (congrArg some (by kernel_rfl))⟩
  f57 := ⟨Try.f114.name, by decide, Try.func114.trans (congrArg some (by kernel_rfl))⟩
  t0 := Try.underlying0
  a0 := Try.isAgg0
  z0 := Try.sizeOf0
  v0 := Try.zeroValue0
  t3 := Try.underlying3
  a3 := Try.isAgg3
  z3 := Try.sizeOf3
  v3 := Try.zeroValue3
  t4 := Try.underlying4
  a4 := Try.isAgg4
  z4 := Try.sizeOf4
  v4 := Try.zeroValue4
  t5 := Try.underlying5
  a5 := Try.isAgg5
  z5 := Try.sizeOf5
  v5 := Try.zeroValue5
  t9 := Try.underlying9
  a9 := Try.isAgg9
  z9 := Try.sizeOf9
  v9 := Try.zeroValue9
  t22 := Try.underlying28
  a22 := Try.isAgg28
  z22 := Try.sizeOf28
  v22 := Try.zeroValue28
  a24 := Try.isAgg24
  z24 := Try.sizeOf24
  t25 := Try.underlying96
  a25 := Try.isAgg96
  z25 := Try.sizeOf96
  v25 := Try.zeroValue96
  t39 := Try.underlying108
  a39 := Try.isAgg108
  z39 := Try.sizeOf108
  v39 := Try.zeroValue108
  t45 := Try.underlying115
  a45 := Try.isAgg115
  z45 := Try.sizeOf115
  v45 := Try.zeroValue115
  t46 := Try.underlying116
  a46 := Try.isAgg116
  z46 := Try.sizeOf116
  v46 := Try.zeroValue116
  t50 := Try.underlying120
  a50 := Try.isAgg120
  z50 := Try.sizeOf120
  v50 := Try.zeroValue120
  t53 := Try.underlying123
  a53 := Try.isAgg123
  z53 := Try.sizeOf123
  v53 := Try.zeroValue123
  t55 := Try.underlying125
  a55 := Try.isAgg125
  z55 := Try.sizeOf125
  v55 := Try.zeroValue125
  t66 := Try.underlying127
  a66 := Try.isAgg127
  z66 := Try.sizeOf127
  v66 := Try.zeroValue127
  t70 := Try.underlying131
  a70 := Try.isAgg131
  z70 := Try.sizeOf131
  v70 := Try.zeroValue131
  t76 := Try.underlying133
  a76 := Try.isAgg133
  z76 := Try.sizeOf133
  v76 := Try.zeroValue133
  t77 := Try.underlying134
  a77 := Try.isAgg134
  z77 := Try.sizeOf134
  v77 := Try.zeroValue134 }
end Go.Proofs
namespace Go.Proofs.Ytbnhijapbnfohaa
open Go.Ahl
def vC (l : List FLit) : AV := .slice .unk (l.map encLit)
def vCf (l : List FLit) : AV := .slice .fresh (l.map encLit)
theorem flat_C (f : List (List FLit)) : (f.map encC).flatten = f.map vC := by
  induction f with
  | nil => rfl
  | cons l f ih => rw [List.map_cons, List.flatten_cons, ih]; rfl
theorem ids_vC {n : Nat} (f : List (List FLit)) : IdsL n (f.map vC) := by
  intro x hx
  obtain ⟨l, _, rfl⟩ := List.mem_map.1 hx
  exact ids_map ids_encLit l
/-- A condition of facts that are numbers, not too long. -/
def cOk (l : List FLit) : Prop := l.length ≤ 1073741824 ∧ ∀ x ∈ l, litOk x
/-- A formula of such, not too long. -/
def fOk (f : List (List FLit)) : Prop := f.length ≤ 1073741824 ∧ ∀ l ∈ f, cOk l
theorem sortC_spec (id : Nat) (l : List (List FLit)) (hl : ∀ x ∈ l, cOk x) (σ : Store) (hσ : σ[id]? = some (.row (l.map vC))) (hlen : l.length ≤ 1073741824) :
    ACalls Try.prog 68 [.ref id 1 0 l.length, .func 69 []] σ fun r σ' => r = .tuple [] ∧ σ' = σ.set id (.row ((sortO l).map vC)) := by
  have h := sort1 laysC (fn := Try.f68) (gn := Try.f69) Try.func68 (by kernel_rfl) (by decide) vC cOk orderI (fun _ => rfl) (fun l => ids_map ids_encLit l) [] (.slice none 0 0) ⟨by simp, by simp⟩
    (fun m => .slice .unk [] none 0 0 0 0 (fun _ _ => undef) (Nat.le_refl _) trivial (by simp) (fun h => absurd rfl h) (fun i hi => absurd hi (by simp)) (by simp))
    (fun x _ => by rw [order_refl]; omega) (fun x y z _ _ _ => order_trans)
    (fun x y z _ _ _ h k => by
      rcases order_le_total y x with q | q
      · rcases order_le_total z y with q' | q'
        · have := order_le_trans q' q
          intro hh; have := order_swap.1 hh; omega
        · have e : orderI y z = 0 := by omega
          rw [← order_anti e]; exact h
      · have e : orderI x y = 0 := by omega
        rw [order_anti e]; exact k)
    69 Try.func69 (by kernel_rfl) (by kernel_rfl) (fun x y hx hy => order_spec x y .unk .unk [] (by have := hx.1; omega) (by have := hy.1; omega) hx.2 hy.2) id l hl σ hσ (by omega)
  refine h.mono ?_
  rintro r σ' ⟨rfl, l', hp, hs, rfl⟩
  exact ⟨rfl, by rw [sortO_unique hp hs]⟩
def c_cloneC : CCode := .seq (.ops [⟨some 2, .move (.lit (.slice .nil [])), none, []⟩]) (.seq (.seq (.ops [⟨some 3, .move (.tmp 0), none, []⟩, ⟨some 4, .bin .eql .slice (.tmp 3) (.lit (.slice .nil [])), none, []⟩]) (.cond (.tmp 4) (.seq (.ops [⟨some 2, .move (.lit (.slice .nil [])), none, []⟩]) .ret) .skip)) (.seq (.ops [⟨some 5, .bslice 1 [] true, none, []⟩, ⟨some 6, .move (.tmp 0), none, []⟩, ⟨some 7, .bappend 1 24 (.tmp 5) (.tmp 6) true, none, []⟩, ⟨some 2, .move (.tmp 7), none, []⟩]) .ret))
set_option maxRecDepth 20000 in
theorem cloneC_spec (f : List (List FLit)) (tok : Tok) (σ : Store) (hf : f.length ≤ 1073741824) :
    ACalls Try.prog 47 [.slice tok (f.map encC)] σ (fun r σ' => r = .ref σ.length 1 0 f.length ∧ σ' = σ ++ [.row (f.map vC)]) := by
  refine ACalls.intro (rs := [(.tmp 2)]) (by kernel_rfl) { own := [(3, 0), (3, 2)], ghosts := [] } Try.func47 (c := Try.f47.body.getD .skip) (by kernel_rfl) (by decide) (by rw [show Try.f47.ntmps = 8 by kernel_rfl]; exact Nat.le_of_ble_eq_true rfl) (by kernel_rfl) ?_
  intro hσ hids
  rw [show comp Try.prog { own := [(3, 0), (3, 2)], ghosts := [] } (Try.f47.body.getD .skip) = c_cloneC by kernel_rfl, show Try.f47.ntmps = 8 by kernel_rfl]
  unfold c_cloneC
  have hbig : bigLen f.length 24 := big_ok (by omega) (by omega)
  have hσ1 : IdsS (σ ++ [AObj.row (f.map vC)]).length (σ ++ [AObj.row (f.map vC)]) := ids_grow hσ (ids_vC f)
  simp only [go_sem, Int.reduceToNat, Int.reduceLE, Int.reduceLT, Nat.reduceBEq, Nat.reduceLT, Nat.reduceAdd, Nat.reduceLeDiff]
  intro b hb
  cases b
  · have hall : ∀ x ∈ f, (encC x).length = 1 ∧ (encC x).all AV.one = true := fun x _ => ⟨rfl, rfl⟩
    simp only [go_sem, Int.reduceToNat, Int.reduceLE, Int.reduceLT, Nat.reduceBEq, Nat.reduceLT, Nat.reduceAdd, Nat.reduceLeDiff, hbig, flat_C]
    refine ⟨hall, ?_⟩
    refine ret_gh (v := .ref σ.length 1 0 f.length) (σ' := σ ++ [.row (f.map vC)]) ?_ (by simp) hσ1 (.ref _ _ _ _ (by simp)) ⟨rfl, rfl⟩
    exact .keepL0 _ rfl (Nat.le_refl _) ⟨⟨.refl _, .ref _ _ _ _ (by simp)⟩, trivial⟩ hσ1
  · have hl0 : f = [] := by
      cases f with
      | nil => rfl
      | cons x l => exact absurd (hb (by simp)) (by simp)
    subst hl0
    simp only [go_sem, Int.reduceToNat, Int.reduceLE, Int.reduceLT, Nat.reduceBEq, Nat.reduceLT, Nat.reduceAdd, Nat.reduceLeDiff]
    refine ret_gh (v := .ref σ.length 1 0 0) (σ' := σ ++ [.row []]) ?_ (by simp) hσ1 (.ref _ _ _ _ (by simp)) ⟨rfl, rfl⟩
    exact (Ghost.keep0 (s' := [(2, .slice .nil [])]) (Nat.le_refl _) ⟨⟨.refl _, ids_nil _ (by simp)⟩, trivial⟩ hσ).trans ((Ghost.row0 2 1 0 (.inl rfl)).trans (.same (lk_twice 2 _ _ [])))
def c_reduced : CCode := .seq (.ops [⟨some 2, .move (.lit (.slice .nil [])), none, []⟩]) (.seq (.ops [⟨some 7, .move (.tmp 0), none, []⟩, ⟨some 8, .call (.lit (.func 47 [])) [.tmp 7], none, []⟩, ⟨some 3, .move (.tmp 8), none, []⟩]) (.seq (.ops [⟨some 9, .move (.tmp 3), none, []⟩, ⟨some 10, .call (.lit (.func 68 [])) [.tmp 9, .lit (.func 69 [])], none, []⟩]) (.seq (.ops [⟨some 4, .move (.lit (.slice .nil [])), none, []⟩]) (.seq (.seq (.ops [⟨some 11, .move (.tmp 3), none, []⟩, ⟨some 12, .blen 1 (.tmp 11), none, []⟩, ⟨some 13, .move (.lit (.int .i64 0)), none, []⟩]) (.block 0 (.loop (.seq (.ops [⟨some 14, .bin .lss .none (.tmp 13) (.tmp 12), none, []⟩]) (.seq (.cond (.tmp 14) .skip (.exit 0)) (.seq (.block 1 (.seq (.ops [⟨some 15, .iaddr 1 (.tmp 11) (.tmp 13), none, []⟩, ⟨some 16, .load none (.tmp 15), none, []⟩, ⟨some 6, .alloc (.slice .nil []), none, []⟩, ⟨none, .store 1 (.tmp 6) (.tmp 16), none, []⟩]) (.seq (.ops [⟨some 17, .move (.tmp 4), none, []⟩, ⟨some 18, .mkfunc 71 [.tmp 6], none, []⟩, ⟨some 19, .call (.lit (.func 70 [])) [.tmp 17, .tmp 18], none, []⟩, ⟨some 20, .un .not (.tmp 19), none, []⟩]) (.cond (.tmp 20) (.ops [⟨some 21, .move (.tmp 4), none, []⟩, ⟨some 22, .load none (.tmp 6), none, []⟩, ⟨some 23, .call (.lit (.func 73 [])) [.tmp 22], none, []⟩, ⟨some 24, .bslice 1 [.tmp 23] false, none, []⟩, ⟨some 25, .bappend 1 24 (.tmp 21) (.tmp 24) false, none, []⟩, ⟨some 4, .move (.tmp 25), none, []⟩]) .skip)))) (.ops [⟨some 26, .bin .add .none (.tmp 13) (.lit (.int .i64 1)), none, []⟩, ⟨some 13, .move (.tmp 26), none, []⟩]))))))) (.seq (.ops [⟨some 27, .move (.tmp 4), none, []⟩, ⟨some 2, .move (.tmp 27), none, []⟩]) .ret)))))
set_option maxRecDepth 20000 in
theorem reduced_specF (f : List (List FLit)) (tok : Tok) (σ : Store) (hf : fOk f) :
    ACalls Try.prog 46 [.slice tok (f.map encC)] σ (fun r σ' => r = .slice (.grow σ.length) ((reducedL f).map encCf) ∧ σ' = σ ++ [.grow 1 (reducedL f).length]) := by
  refine ACalls.intro (rs := [(.tmp 2)]) (by kernel_rfl) { own := [], ghosts := [] } Try.func46 (c := Try.f46.body.getD .skip) (by kernel_rfl) (by decide) (by rw [show Try.f46.ntmps = 28 by kernel_rfl]; exact Nat.le_of_ble_eq_true rfl) (by kernel_rfl) ?_
  intro hσ hids
  rw [show comp Try.prog { own := [], ghosts := [] } (Try.f46.body.getD .skip) = c_reduced by kernel_rfl, show Try.f46.ntmps = 28 by kernel_rfl]
  unfold c_reduced
  simp only [go_sem, Int.reduceToNat, Int.reduceLE, Int.reduceLT, Nat.reduceBEq, Nat.reduceLT, Nat.reduceAdd, Nat.reduceLeDiff]
  refine (cloneC_spec f tok σ hf.1).mono ?_
  rintro _ _ ⟨rfl, rfl⟩
  simp only [go_sem, Int.reduceToNat, Int.reduceLE, Int.reduceLT, Nat.reduceBEq, Nat.reduceLT, Nat.reduceAdd, Nat.reduceLeDiff]
  refine (sortC_spec σ.length f hf.2 _ (by simp) hf.1).mono ?_
  rintro _ _ ⟨rfl, rfl⟩
  have hlen : (sortO f).length = f.length := (sortO_perm f).length_eq
  have hso : ∀ x ∈ sortO f, cOk x := fun x hx => hf.2 x ((sortO_perm f).mem_iff.1 hx)
  have hfl := hf.1
  have hσ1 : IdsS (σ ++ [AObj.row ((sortO f).map vC)]).length (σ ++ [AObj.row ((sortO f).map vC)]) := ids_grow hσ (ids_vC _)
  have hs2 : ∀ n, IdsS (σ ++ [AObj.row ((sortO f).map vC), AObj.grow 1 n]).length (σ ++ [AObj.row ((sortO f).map vC), AObj.grow 1 n]) := fun n => idsS_app _ hσ (all_cons' (idsO_row (ids_vC _)) (all_cons' trivial all_nil'))
  simp only [go_sem, Int.reduceToNat, Int.reduceLE, Int.reduceLT, Nat.reduceBEq, Nat.reduceLT, Nat.reduceAdd, Nat.reduceLeDiff]
  refine wpc_while (fun (q : Nat × List (List FLit)) => [(4, .slice (.grow (σ.length + 1)) (q.2.map encCf)), (11, .ref σ.length 1 0 f.length), (12, .int .i64 f.length), (13, .int .i64 q.1)]) (fun q => σ ++ [.row ((sortO f).map vC), .grow 1 q.2.length])
    (fun q => q.1 ≤ f.length ∧ q.2.length ≤ q.1 ∧ (∀ x ∈ q.2, cOk x) ∧ reducedL f = redLoop q.2 ((sortO f).drop q.1)) (fun q => f.length - q.1) (0, []) ⟨Nat.zero_le _, Nat.le_refl _, by simp, rfl⟩ (.begin1 4 1 _ (Nat.le_refl _) tellT hσ1) ?_
  rintro ⟨i, out⟩ ⟨hi, ho, hok, hv⟩ K hK hE hR
  dsimp only at hi ho hok hv ⊢
  by_cases h : i < (sortO f).length
  · obtain ⟨x, hx⟩ := get_ex h; have hlt : ((i : Int) < ((sortO f).length : Int)) := (by omega); have hw : IntKind.i64.wrap ((i : Int) + 1) = ((i + 1 : Nat) : Int) := (by rw [wrap_ok (by omega)]; omega)
    have hx0 := hso x (List.mem_of_getElem? hx)
    have hxl := hx0.1
    have hlt' : ((i : Int) < (f.length : Int)) := by omega
    have hif : i < f.length := by omega
    rw [drop_cons hx, redLoop] at hv
    simp only [go_sem, Int.reduceToNat, Int.reduceLE, Int.reduceLT, Nat.reduceBEq, Nat.reduceLT, Nat.reduceAdd, Nat.reduceLeDiff, hlt', hx, hif, vC]
    refine (containsFuncC_spec vCf out _ _ (fun y => withinB y x) _ _ (by omega) (fun y hy => reduced1_spec y x .fresh .unk _ _ (by have := (hok y hy).1; omega) (by omega) (by simp))).is ?_
    cases h1 : out.any (fun y => withinB y x)
    · simp only [go_sem, Int.reduceToNat, Int.reduceLE, Int.reduceLT, Nat.reduceBEq, Nat.reduceLT, Nat.reduceAdd, Nat.reduceLeDiff, vC]
      refine (cloneL_specF x .unk _ hx0.1).is ?_
      have hc : out.map encCf ++ [[AV.slice .fresh (x.map encLit)]] = (out ++ [x]).map encCf := by simp [encCf]
      have hbig : bigLen (out.length + 1) 24 := big_ok (by omega) (by omega)
      simp only [go_sem, Int.reduceToNat, Int.reduceLE, Int.reduceLT, Nat.reduceBEq, Nat.reduceLT, Nat.reduceAdd, Nat.reduceLeDiff, hc, hbig]
      rw [h1, if_neg (by simp)] at hv
      refine hK _ _ (i + 1, out ++ [x]) ⟨by simp only []; omega, by simp; omega, fun y hy => ?_, hv⟩ (by simp only []; omega) ?_
      · rcases List.mem_append.1 hy with hy | hy
        · exact hok y hy
        · rw [List.mem_singleton.1 hy]; exact hx0
      · simp only [List.length_append, List.length_cons, List.length_nil, Nat.reduceAdd]
        exact (by (try dsimp only); (try simp only [ hw]); first | exact ghL (hs2 (out.length + 1)) | exact ghL0 (hs2 (out.length + 1)))
    · simp only [go_sem, Int.reduceToNat, Int.reduceLE, Int.reduceLT, Nat.reduceBEq, Nat.reduceLT, Nat.reduceAdd, Nat.reduceLeDiff]
      rw [h1, if_pos rfl] at hv
      refine hK _ _ ((i + 1, out)) (⟨by simp only []; omega, by simp only []; omega, hok, hv⟩) (by first | omega | (simp only []; omega) | (simp; omega)) ?_; (try dsimp only); (try simp only [ hw]); first | exact ghL (hs2 out.length) | exact ghL0 (hs2 out.length)
  · have hlt' : ¬ ((i : Int) < (f.length : Int)) := by omega
    rw [drop_len h, redLoop] at hv
    simp only [go_sem, Int.reduceToNat, Int.reduceLE, Int.reduceLT, Nat.reduceBEq, Nat.reduceLT, Nat.reduceAdd, Nat.reduceLeDiff, hlt', hE]
    refine ret_gh (v := .slice (.grow σ.length) (out.map encCf)) (σ' := σ ++ [.grow 1 out.length]) ?_ (by simp) (idsS_push hσ (o := .grow 1 out.length) trivial) (ids_grow_map ids_encCf (by simp)) ⟨by rw [hv], by rw [hv]⟩
    exact .moved _ 1 _ (Nat.le_refl _) rfl hσ trivial ⟨.slice _ (fun e he y hy => by obtain ⟨l, _, rfl⟩ := List.mem_map.1 he; exact ids_encCf l y hy), trivial⟩
theorem reduced_spec (f : List (List FLit)) (tok : Tok) (σ : Store) (hf : fOk f) :
    ACalls Try.prog 46 [.slice tok (f.map encC)] σ (fun r σ' => r = .slice (.grow σ.length) ((reducedL f).map encC) ∧ σ' = σ ++ [.grow 1 (reducedL f).length]) :=
  (reduced_specF f tok σ hf).wkC fun r σ' hr => by obtain ⟨rfl, rfl⟩ := hr; exact ⟨_, Wk.cf _ _, rfl, rfl⟩
end Go.Proofs.Ytbnhijapbnfohaa
namespace Go.Proofs.Ytbnhijapbnfohaa
open Go.Ahl
/-! ### Conditions of n facts -/
def cV (n : Int) (l : List FLit) : Prop := condB n (-1) l = true
def vF (n : Int) (f : List (List FLit)) : Prop := ∀ l ∈ f, cV n l
theorem condB_cons {n p : Int} {x : FLit} {l : List FLit} (h : condB n p (x :: l) = true) : p < x.fact ∧ x.fact < n ∧ condB n x.fact l = true := by
  rw [condB, Bool.and_eq_true, Bool.and_eq_true] at h
  exact ⟨of_decide_eq_true h.1.1, of_decide_eq_true h.1.2, h.2⟩
theorem condB_mk {n p : Int} {x : FLit} {l : List FLit} (h1 : p < x.fact) (h2 : x.fact < n) (h3 : condB n x.fact l = true) : condB n p (x :: l) = true := by
  rw [condB, decide_eq_true h1, decide_eq_true h2, h3]; rfl
theorem condB_len {n : Int} : ∀ {l : List FLit} {p : Int}, condB n p l = true → l = [] ∨ (l.length : Int) ≤ n - 1 - p
  | [], _, _ => .inl rfl
  | x :: l, p, h => by
    obtain ⟨h1, h2, h3⟩ := condB_cons h
    rcases condB_len h3 with rfl | h4
    · right; simp; omega
    · right; simp; omega
theorem condB_mem {n : Int} : ∀ {l : List FLit} {p : Int}, condB n p l = true → ∀ x ∈ l, p < x.fact ∧ x.fact < n
  | [], _, _, x, hx => by simp at hx
  | y :: l, p, h, x, hx => by
    obtain ⟨h1, h2, h3⟩ := condB_cons h
    rcases List.mem_cons.1 hx with rfl | hx
    · exact ⟨h1, h2⟩
    · have := condB_mem h3 x hx; exact ⟨by omega, this.2⟩
theorem cV.ok {n : Int} (hn : n ≤ 1000000) {l : List FLit} (h : cV n l) : cOk l := by
  refine ⟨?_, fun x hx => ?_⟩
  · rcases condB_len h with rfl | h
    · simp
    · omega
  · have := condB_mem h x hx; exact ⟨by omega, by omega⟩
theorem vF.ok {n : Int} (hn : n ≤ 1000000) {f : List (List FLit)} (h : vF n f) (hl : f.length ≤ 1073741824) : fOk f := ⟨hl, fun l hl => (h l hl).ok hn⟩
theorem mergeF_V {n : Int} : ∀ (k : Nat) (a b c : List FLit) (p : Int), mergeF k a b = some c → condB n p a = true → condB n p b = true → condB n p c = true
  | 0, _, _, c, p, h, _, _ => by simp [mergeF] at h; subst h; rfl
  | k + 1, [], [], c, p, h, _, _ => by simp [mergeF] at h; subst h; rfl
  | k + 1, x :: a, [], c, p, h, ha, _ => by
    rw [mergeF, Option.map_eq_some_iff] at h
    obtain ⟨d, h, rfl⟩ := h
    obtain ⟨h1, h2, h3⟩ := condB_cons ha
    exact condB_mk h1 h2 (mergeF_V k a [] d x.fact h h3 rfl)
  | k + 1, [], y :: b, c, p, h, _, hb => by
    rw [mergeF, Option.map_eq_some_iff] at h
    obtain ⟨d, h, rfl⟩ := h
    obtain ⟨h1, h2, h3⟩ := condB_cons hb
    exact condB_mk h1 h2 (mergeF_V k [] b d y.fact h rfl h3)
  | k + 1, x :: a, y :: b, c, p, h, ha, hb => by
    obtain ⟨a1, a2, a3⟩ := condB_cons ha
    obtain ⟨b1, b2, b3⟩ := condB_cons hb
    rw [mergeF] at h
    split at h
    · rename_i hlt
      rw [Option.map_eq_some_iff] at h
      obtain ⟨d, h, rfl⟩ := h
      exact condB_mk a1 a2 (mergeF_V k a (y :: b) d x.fact h a3 (condB_mk hlt b2 b3))
    · split at h
      · rename_i hlt
        rw [Option.map_eq_some_iff] at h
        obtain ⟨d, h, rfl⟩ := h
        exact condB_mk b1 b2 (mergeF_V k (x :: a) b d y.fact h (condB_mk hlt a2 a3) b3)
      · split at h
        · rename_i h1 h2 _
          rw [Option.map_eq_some_iff] at h
          obtain ⟨d, h, rfl⟩ := h
          have e : x.fact = y.fact := by omega
          rw [← e] at b3
          exact condB_mk a1 a2 (mergeF_V k a b d x.fact h a3 b3)
        · simp at h
theorem bothL_V {n : Int} {a b c : List FLit} (h : bothL a b = some c) (ha : cV n a) (hb : cV n b) : cV n c := mergeF_V _ a b c _ h ha hb
theorem redLoop_mem : ∀ (l out : List (List FLit)) x, x ∈ redLoop out l → x ∈ out ∨ x ∈ l
  | [], out, x, h => .inl h
  | y :: l, out, x, h => by
    rw [redLoop] at h
    split at h
    · rcases redLoop_mem l out x h with h | h
      · exact .inl h
      · exact .inr (List.mem_cons_of_mem _ h)
    · rcases redLoop_mem l _ x h with h | h
      · rcases List.mem_append.1 h with h | h
        · exact .inl h
        · rw [List.mem_singleton.1 h]; exact .inr List.mem_cons_self
      · exact .inr (List.mem_cons_of_mem _ h)
theorem reducedL_mem {f : List (List FLit)} {x : List FLit} (h : x ∈ reducedL f) : x ∈ f := by
  rcases redLoop_mem _ _ _ h with h | h
  · simp at h
  · exact (sortO_perm f).mem_iff.1 h
theorem redLoop_len : ∀ (l out : List (List FLit)), (redLoop out l).length ≤ out.length + l.length
  | [], out => by simp [redLoop]
  | y :: l, out => by
    rw [redLoop]
    split
    · have := redLoop_len l out; simp; omega
    · have := redLoop_len l (out ++ [y]); simp at this ⊢; omega
theorem reducedL_len (f : List (List FLit)) : (reducedL f).length ≤ f.length := by
  have := redLoop_len (sortO f) []
  rw [(sortO_perm f).length_eq] at this; simpa [reducedL] using this
theorem reducedL_V {n : Int} {f : List (List FLit)} (h : vF n f) : vF n (reducedL f) := fun l hl => h l (reducedL_mem hl)
/-- All conjunctions of a term of the one and one of the other. -/
def prodL (f g : List (List FLit)) : List (List FLit) := f.flatMap fun a => g.filterMap fun b => bothL a b
def bigL (f g : List (List FLit)) : List (List FLit) × List (List FLit) := if 40000 < f.length * g.length then (reducedL f, reducedL g) else (f, g)
/-- The conjunction of two formulas; none: too many terms, even before they are reduced. -/
def bothF (f g : List (List FLit)) : Option (List (List FLit)) :=
  if 40000 < (bigL f g).1.length * (bigL f g).2.length then none else some (reducedL (prodL (bigL f g).1 (bigL f g).2))
theorem prodL_cons (a : List FLit) (f g : List (List FLit)) : prodL (a :: f) g = (g.filterMap fun b => bothL a b) ++ prodL f g := rfl
theorem prodL_len : ∀ (f g : List (List FLit)), (prodL f g).length ≤ f.length * g.length
  | [], g => by simp [prodL]
  | a :: f, g => by
    rw [prodL_cons, List.length_append, List.length_cons, Nat.succ_mul]
    have h1 := prodL_len f g
    have h2 := List.length_filterMap_le (fun b => bothL a b) g
    omega
theorem prodL_V {n : Int} {f g : List (List FLit)} (hf : vF n f) (hg : vF n g) : vF n (prodL f g) := by
  intro c hc
  obtain ⟨a, ha, h⟩ := List.mem_flatMap.1 hc
  obtain ⟨b, hb, h⟩ := List.mem_filterMap.1 h
  exact bothL_V h (hf a ha) (hg b hb)
theorem bothF_V {n : Int} {f g h : List (List FLit)} (e : bothF f g = some h) (hf : vF n f) (hg : vF n g) : vF n h := by
  unfold bothF at e
  split at e
  · simp at e
  · injection e with e; subst e
    refine reducedL_V (prodL_V ?_ ?_)
    · unfold bigL; split
      · exact reducedL_V hf
      · exact hf
    · unfold bigL; split
      · exact reducedL_V hg
      · exact hg
theorem bothF_len {f g h : List (List FLit)} (e : bothF f g = some h) : h.length ≤ 40000 := by
  unfold bothF at e
  split at e
  · simp at e
  · injection e with e; subst e
    have := reducedL_len (prodL (bigL f g).1 (bigL f g).2)
    have := prodL_len (bigL f g).1 (bigL f g).2
    omega
/-- What the conjunction of two formulas comes back as. -/
def retB (σ : Store) : Option (List (List FLit)) → Cont
  | none => fun r σ' => r = .tuple [.slice .nil [], .bool false] ∧ σ' = σ
  | some l => fun r σ' => r = .tuple [.slice (.grow σ.length) (l.map encC), .bool (decide (l.length ≤ 400))] ∧ σ' = σ ++ [.grow 1 l.length]
def retBf (σ : Store) : Option (List (List FLit)) → Cont
  | none => fun r σ' => r = .tuple [.slice .nil [], .bool false] ∧ σ' = σ
  | some l => fun r σ' => r = .tuple [.slice (.grow σ.length) (l.map encCf), .bool (decide (l.length ≤ 400))] ∧ σ' = σ ++ [.grow 1 l.length]
theorem retBf_wk (σ : Store) (o : Option (List (List FLit))) (r : AV) (σ' : Store) (h : retBf σ o r σ') : ∃ r', Wk r r' ∧ retB σ o r' σ' := by
  cases o with
  | none => exact ⟨r, .refl _, h⟩
  | some l => obtain ⟨rfl, rfl⟩ := h; exact ⟨_, Wk.tuple (.cons (Wk.cf _ _) (WkL.one (.refl _))), rfl, rfl⟩
def c_Both : CCode := .seq (.ops [⟨some 4, .move (.lit (.slice .nil [])), none, []⟩, ⟨some 5, .move (.lit (.bool false)), none, []⟩]) (.seq (.seq (.ops [⟨some 13, .move (.tmp 0), none, []⟩, ⟨some 14, .blen 1 (.tmp 13), none, []⟩, ⟨some 15, .move (.tmp 1), none, []⟩, ⟨some 16, .blen 1 (.tmp 15), none, []⟩, ⟨some 17, .bin .mul .none (.tmp 14) (.tmp 16), none, []⟩, ⟨some 18, .bin .gtr .none (.tmp 17) (.lit (.int .i64 40000)), none, []⟩]) (.cond (.tmp 18) (.ops [⟨some 19, .move (.tmp 0), none, []⟩, ⟨some 20, .call (.lit (.func 46 [])) [.tmp 19], none, []⟩, ⟨some 21, .move (.tmp 1), none, []⟩, ⟨some 22, .call (.lit (.func 46 [])) [.tmp 21], none, []⟩, ⟨some 0, .move (.tmp 20), none, []⟩, ⟨some 1, .move (.tmp 22), none, []⟩]) .skip)) (.seq (.seq (.ops [⟨some 23, .move (.tmp 0), none, []⟩, ⟨some 24, .blen 1 (.tmp 23), none, []⟩, ⟨some 25, .move (.tmp 1), none, []⟩, ⟨some 26, .blen 1 (.tmp 25), none, []⟩, ⟨some 27, .bin .mul .none (.tmp 24) (.tmp 26), none, []⟩, ⟨some 28, .bin .gtr .none (.tmp 27) (.lit (.int .i64 40000)), none, []⟩]) (.cond (.tmp 28) (.seq (.ops [⟨some 4, .move (.lit (.slice .nil [])), none, []⟩, ⟨some 5, .move (.lit (.bool false)), none, []⟩]) .ret) .skip)) (.seq (.ops [⟨some 6, .move (.lit (.slice .nil [])), none, []⟩]) (.seq (.seq (.ops [⟨some 29, .move (.tmp 0), none, []⟩, ⟨some 30, .blen 1 (.tmp 29), none, []⟩, ⟨some 31, .move (.lit (.int .i64 0)), none, []⟩]) (.block 0 (.loop (.seq (.ops [⟨some 32, .bin .lss .none (.tmp 31) (.tmp 30), none, []⟩]) (.seq (.cond (.tmp 32) .skip (.exit 0)) (.seq (.block 1 (.seq (.ops [⟨some 33, .iaddr 1 (.tmp 29) (.tmp 31), none, []⟩, ⟨some 34, .load none (.tmp 33), none, []⟩, ⟨some 8, .move (.tmp 34), none, []⟩]) (.seq (.ops [⟨some 35, .move (.tmp 1), none, []⟩, ⟨some 36, .blen 1 (.tmp 35), none, []⟩, ⟨some 37, .move (.lit (.int .i64 0)), none, []⟩]) (.block 2 (.loop (.seq (.ops [⟨some 38, .bin .lss .none (.tmp 37) (.tmp 36), none, []⟩]) (.seq (.cond (.tmp 38) .skip (.exit 2)) (.seq (.block 3 (.seq (.ops [⟨some 39, .iaddr 1 (.tmp 35) (.tmp 37), none, []⟩, ⟨some 40, .load none (.tmp 39), none, []⟩, ⟨some 10, .move (.tmp 40), none, []⟩]) (.seq (.ops [⟨some 42, .move (.tmp 8), none, []⟩, ⟨some 43, .move (.tmp 10), none, []⟩, ⟨some 44, .call (.lit (.func 67 [])) [.tmp 42, .tmp 43], none, []⟩, ⟨some 41, .move (.tmp 44), none, []⟩, ⟨some 45, .extract (.tmp 41) 0, none, []⟩, ⟨some 46, .extract (.tmp 41) 1, none, []⟩, ⟨some 11, .move (.tmp 45), none, []⟩, ⟨some 12, .move (.tmp 46), none, []⟩]) (.seq (.ops [⟨some 47, .move (.tmp 12), none, []⟩]) (.cond (.tmp 47) (.ops [⟨some 48, .move (.tmp 6), none, []⟩, ⟨some 49, .move (.tmp 11), none, []⟩, ⟨some 50, .bslice 1 [.tmp 49] false, none, []⟩, ⟨some 51, .bappend 1 24 (.tmp 48) (.tmp 50) false, none, []⟩, ⟨some 6, .move (.tmp 51), none, []⟩]) .skip))))) (.ops [⟨some 52, .bin .add .none (.tmp 37) (.lit (.int .i64 1)), none, []⟩, ⟨some 37, .move (.tmp 52), none, []⟩]))))))))) (.ops [⟨some 53, .bin .add .none (.tmp 31) (.lit (.int .i64 1)), none, []⟩, ⟨some 31, .move (.tmp 53), none, []⟩]))))))) (.seq (.ops [⟨some 54, .move (.tmp 6), none, []⟩, ⟨some 55, .call (.lit (.func 46 [])) [.tmp 54], none, []⟩, ⟨some 6, .move (.tmp 55), none, []⟩]) (.seq (.ops [⟨some 56, .move (.tmp 6), none, []⟩, ⟨some 57, .move (.tmp 6), none, []⟩, ⟨some 58, .blen 1 (.tmp 57), none, []⟩, ⟨some 59, .bin .leq .none (.tmp 58) (.lit (.int .i64 400)), none, []⟩, ⟨some 4, .move (.tmp 56), none, []⟩, ⟨some 5, .move (.tmp 59), none, []⟩]) .ret))))))
set_option maxRecDepth 20000 in
theorem Both_specF (n : Int) (hn : n ≤ 1000000) (f g : List (List FLit)) (tok tok' : Tok) (σ : Store) (hf : f.length ≤ 1000000) (hg : g.length ≤ 1000000) (vf : vF n f) (vg : vF n g) :
    ACalls Try.prog 45 [.slice tok (f.map encC), .slice tok' (g.map encC)] σ (retBf σ (bothF f g)) := by
  refine ACalls.intro (rs := [(.tmp 4), (.tmp 5)]) (by kernel_rfl) { own := [], ghosts := [] } Try.func45 (c := Try.f45.body.getD .skip) (by kernel_rfl) (by decide) (by rw [show Try.f45.ntmps = 60 by kernel_rfl]; exact Nat.le_of_ble_eq_true rfl) (by kernel_rfl) ?_
  intro hσ hids
  rw [show comp Try.prog { own := [], ghosts := [] } (Try.f45.body.getD .skip) = c_Both by kernel_rfl, show Try.f45.ntmps = 60 by kernel_rfl]
  unfold c_Both
  have hif : Ids σ.length (.slice tok (f.map encC)) := hids _ (by simp)
  have hig : Ids σ.length (.slice tok' (g.map encC)) := hids _ (by simp)
  have hprod : ∀ {a b : Nat}, a ≤ 1000000 → b ≤ 1000000 → IntKind.i64.wrap ((a : Int) * b) = ((a * b : Nat) : Int) := by
    intro a b ha hb
    have := Nat.mul_le_mul ha hb
    rw [wrap_ok (by rw [← Int.natCast_mul]; omega), Int.natCast_mul]
  have hw1 := hprod hf hg
  by_cases h1 : ((f.length * g.length : Nat) : Int) > 40000
  · simp only [go_sem, Int.reduceToNat, Int.reduceLE, Int.reduceLT, Nat.reduceBEq, Nat.reduceLT, Nat.reduceAdd, Nat.reduceLeDiff, hw1, h1]
    refine (reduced_spec f tok _ (vf.ok hn (by omega))).mono ?_
    rintro _ _ ⟨rfl, rfl⟩
    simp only [go_sem, Int.reduceToNat, Int.reduceLE, Int.reduceLT, Nat.reduceBEq, Nat.reduceLT, Nat.reduceAdd, Nat.reduceLeDiff]
    refine (reduced_spec g tok' _ (vg.ok hn (by omega))).mono ?_
    rintro _ _ ⟨rfl, rfl⟩
    have hbg : bigL f g = (reducedL f, reducedL g) := by unfold bigL; rw [if_pos (by omega)]
    unfold bothF
    rw [hbg]
    have hl1 := reducedL_len f
    have hl2 := reducedL_len g
    have vf' := reducedL_V vf
    have vg' := reducedL_V vg
    dsimp only
    generalize reducedL f = f' at *
    generalize reducedL g = g' at *
    have hw2 : IntKind.i64.wrap ((f'.length : Int) * g'.length) = ((f'.length * g'.length : Nat) : Int) := hprod (by omega) (by omega)
    by_cases h2 : ((f'.length * g'.length : Nat) : Int) > 40000
    · rw [if_pos (by omega)]
      simp only [go_sem, Int.reduceToNat, Int.reduceLE, Int.reduceLT, Nat.reduceBEq, Nat.reduceLT, Nat.reduceAdd, Nat.reduceLeDiff, hw2, h2]
      first | exact rtl (.slice .nil []) (.bool false) ⟨rfl, rfl⟩ | exact rtl0 (.slice .nil []) (.bool false) ⟨rfl, rfl⟩
    rw [if_neg (by omega)]
    simp only [go_sem, Int.reduceToNat, Int.reduceLE, Int.reduceLT, Nat.reduceBEq, Nat.reduceLT, Nat.reduceAdd, Nat.reduceLeDiff, hw2, h2]
    have hp1 : f'.length ≤ 1073741824 := by omega
    have hs1 : ∀ n, IdsS (σ ++ [AObj.grow 1 n]).length (σ ++ [AObj.grow 1 n]) := fun n => idsS_push hσ trivial
    have hpl := prodL_len f' g'
    refine wpc_while (fun (q : Nat × List (List FLit)) => [(6, .slice (.grow σ.length) (q.2.map encC)), (1, .slice .unk (g'.map encC)), (29, .slice .unk (f'.map encC)), (30, .int .i64 f'.length), (31, .int .i64 q.1)]) (fun q => σ ++ [.grow 1 q.2.length])
      (fun q => q.1 ≤ f'.length ∧ prodL f' g' = q.2 ++ prodL (f'.drop q.1) g') (fun q => f'.length - q.1) (0, []) ⟨Nat.zero_le _, rfl⟩ (by first | exact .begin0 6 1 _ (Nat.le_refl _) tellT hσ | exact .begin 6 1 _ (Nat.le_refl _) tellT hσ) ?_
    rintro ⟨i, out⟩ ⟨hi, hv⟩ K hK hE hR
    dsimp only at hi hv ⊢
    have hol : out.length ≤ 40000 := by have := congrArg List.length hv; rw [List.length_append] at this; omega
    by_cases h : i < f'.length
    · obtain ⟨a, hx⟩ := get_ex h; have hlt : ((i : Int) < (f'.length : Int)) := (by omega); have hw : IntKind.i64.wrap ((i : Int) + 1) = ((i + 1 : Nat) : Int) := (by rw [wrap_ok (by omega)]; omega)
      have ha := vf' a (List.mem_of_getElem? hx)
      rw [drop_cons hx, prodL_cons, ← List.append_assoc] at hv
      simp only [go_sem, Int.reduceToNat, Int.reduceLE, Int.reduceLT, Nat.reduceBEq, Nat.reduceLT, Nat.reduceAdd, Nat.reduceLeDiff, hlt, hx, encC]
      refine wpc_while (fun (q : Nat × List (List FLit)) => [(6, .slice (.grow σ.length) (q.2.map encC)), (1, .slice .unk (g'.map encC)), (8, .slice .unk (a.map encLit)), (29, .slice .unk (f'.map encC)), (30, .int .i64 f'.length), (31, .int .i64 i), (35, .slice .unk (g'.map encC)), (36, .int .i64 g'.length), (37, .int .i64 q.1)]) (fun q => σ ++ [.grow 1 q.2.length])
        (fun q => q.1 ≤ g'.length ∧ prodL f' g' = (q.2 ++ (g'.drop q.1).filterMap fun b => bothL a b) ++ prodL (f'.drop (i + 1)) g') (fun q => g'.length - q.1) (0, out) ⟨Nat.zero_le _, hv⟩ (by (try dsimp only); first | exact ghL (hs1 out.length) | exact ghL0 (hs1 out.length)) ?_
      rintro ⟨j, out⟩ ⟨hj', hvj⟩ K' hK' hE' hR'
      dsimp only at hj' hvj ⊢
      have hol : out.length ≤ 40000 := by have := congrArg List.length hvj; rw [List.length_append, List.length_append] at this; omega
      by_cases hj : j < g'.length
      · obtain ⟨b, hxj⟩ := get_ex hj; have hltj : ((j : Int) < (g'.length : Int)) := (by omega); have hwj : IntKind.i64.wrap ((j : Int) + 1) = ((j + 1 : Nat) : Int) := (by rw [wrap_ok (by omega)]; omega)
        have hb := vg' b (List.mem_of_getElem? hxj)
        rw [drop_cons hxj, List.filterMap_cons] at hvj
        simp only [go_sem, Int.reduceToNat, Int.reduceLE, Int.reduceLT, Nat.reduceBEq, Nat.reduceLT, Nat.reduceAdd, Nat.reduceLeDiff, hltj, hxj, encC]
        refine (both_spec a b .unk .unk _ (ha.ok hn).1 (hb.ok hn).1 (ha.ok hn).2 (hb.ok hn).2).is ?_
        cases hab : bothL a b with
        | none =>
          simp only [go_sem, Int.reduceToNat, Int.reduceLE, Int.reduceLT, Nat.reduceBEq, Nat.reduceLT, Nat.reduceAdd, Nat.reduceLeDiff, resB]
          rw [hab] at hvj
          refine hK' _ _ (j + 1, out) ⟨by simp only []; omega, hvj⟩ (by simp only []; omega) ?_
          exact (by (try dsimp only); (try simp only [ hwj]); first | exact ghL (hs1 out.length) | exact ghL0 (hs1 out.length))
        | some c =>
          have hc : out.map encC ++ [[AV.slice .unk (c.map encLit)]] = (out ++ [c]).map encC := by simp [encC]
          have hbig : bigLen (out.length + 1) 24 := big_ok (by omega) (by omega)
          simp only [go_sem, Int.reduceToNat, Int.reduceLE, Int.reduceLT, Nat.reduceBEq, Nat.reduceLT, Nat.reduceAdd, Nat.reduceLeDiff, resB, hc, hbig]
          rw [hab] at hvj
          refine hK' _ _ (j + 1, out ++ [c]) ⟨by simp only []; omega, by rw [hvj]; simp⟩ (by simp only []; omega) ?_
          simp only [List.length_append, List.length_cons, List.length_nil, Nat.reduceAdd]
          exact (by (try dsimp only); (try simp only [ hwj]); first | exact ghL (hs1 (out.length + 1)) | exact ghL0 (hs1 (out.length + 1)))
      · have hltj : ¬ ((j : Int) < (g'.length : Int)) := by omega
        rw [drop_len hj, List.filterMap_nil, List.append_nil] at hvj
        simp only [go_sem, Int.reduceToNat, Int.reduceLE, Int.reduceLT, Nat.reduceBEq, Nat.reduceLT, Nat.reduceAdd, Nat.reduceLeDiff, hltj, hE']
        refine hK _ _ ((i + 1, out)) (⟨by simp only []; omega, hvj⟩) (by first | omega | (simp only []; omega) | (simp; omega)) ?_; (try dsimp only); (try simp only [ hw]); first | exact ghL (hs1 out.length) | exact ghL0 (hs1 out.length)
    · have hlt : ¬ ((i : Int) < (f'.length : Int)) := by omega
      rw [drop_len h] at hv
      have hv : prodL f' g' = out := by rw [hv]; simp [prodL]
      simp only [go_sem, Int.reduceToNat, Int.reduceLE, Int.reduceLT, Nat.reduceBEq, Nat.reduceLT, Nat.reduceAdd, Nat.reduceLeDiff, hlt, hE]
      refine (reduced_specF out _ _ ⟨by omega, fun l hl => by rw [← hv] at hl; exact (prodL_V vf' vg' l hl).ok hn⟩).mono ?_
      rintro _ _ ⟨rfl, rfl⟩
      rw [hv]
      by_cases h4 : ((reducedL out).length : Int) ≤ 400
      · simp only [go_sem, Int.reduceToNat, Int.reduceLE, Int.reduceLT, Nat.reduceBEq, Nat.reduceLT, Nat.reduceAdd, Nat.reduceLeDiff, h4]
        refine ret_tok (fun x _ => ids_encCf x) 1 1 (reducedL out).length (reducedL out) (.bool true) hσ rfl rfl rfl rfl (.bool _) ?_
        exact ⟨by rw [decide_eq_true (by omega : (reducedL out).length ≤ 400)], rfl⟩
      · simp only [go_sem, Int.reduceToNat, Int.reduceLE, Int.reduceLT, Nat.reduceBEq, Nat.reduceLT, Nat.reduceAdd, Nat.reduceLeDiff, h4]
        refine ret_tok (fun x _ => ids_encCf x) 1 1 (reducedL out).length (reducedL out) (.bool false) hσ rfl rfl rfl rfl (.bool _) ?_
        exact ⟨by rw [decide_eq_false (by omega : ¬ (reducedL out).length ≤ 400)], rfl⟩
  · have hbg : bigL f g = (f, g) := by unfold bigL; rw [if_neg (by omega)]
    unfold bothF
    rw [hbg]
    dsimp only
    rw [if_neg (by omega)]
    simp only [go_sem, Int.reduceToNat, Int.reduceLE, Int.reduceLT, Nat.reduceBEq, Nat.reduceLT, Nat.reduceAdd, Nat.reduceLeDiff, hw1, h1]
    have vf' := vf
    have vg' := vg
    have hif' := hif
    generalize f = f' at *
    generalize g = g' at *
    have hp1 : f'.length ≤ 1073741824 := by omega
    have hs1 : ∀ n, IdsS (σ ++ [AObj.grow 1 n]).length (σ ++ [AObj.grow 1 n]) := fun n => idsS_push hσ trivial
    have hpl := prodL_len f' g'
    refine wpc_while (fun (q : Nat × List (List FLit)) => [(6, .slice (.grow σ.length) (q.2.map encC)), (1, .slice .unk (g'.map encC)), (29, .slice .unk (f'.map encC)), (30, .int .i64 f'.length), (31, .int .i64 q.1)]) (fun q => σ ++ [.grow 1 q.2.length])
      (fun q => q.1 ≤ f'.length ∧ prodL f' g' = q.2 ++ prodL (f'.drop q.1) g') (fun q => f'.length - q.1) (0, []) ⟨Nat.zero_le _, rfl⟩ (by first | exact .begin0 6 1 _ (Nat.le_refl _) tellT hσ | exact .begin 6 1 _ (Nat.le_refl _) tellT hσ) ?_
    rintro ⟨i, out⟩ ⟨hi, hv⟩ K hK hE hR
    dsimp only at hi hv ⊢
    have hol : out.length ≤ 40000 := by have := congrArg List.length hv; rw [List.length_append] at this; omega
    by_cases h : i < f'.length
    · obtain ⟨a, hx⟩ := get_ex h; have hlt : ((i : Int) < (f'.length : Int)) := (by omega); have hw : IntKind.i64.wrap ((i : Int) + 1) = ((i + 1 : Nat) : Int) := (by rw [wrap_ok (by omega)]; omega)
      have ha := vf' a (List.mem_of_getElem? hx)
      rw [drop_cons hx, prodL_cons, ← List.append_assoc] at hv
      simp only [go_sem, Int.reduceToNat, Int.reduceLE, Int.reduceLT, Nat.reduceBEq, Nat.reduceLT, Nat.reduceAdd, Nat.reduceLeDiff, hlt, hx, encC]
      refine wpc_while (fun (q : Nat × List (List FLit)) => [(6, .slice (.grow σ.length) (q.2.map encC)), (1, .slice .unk (g'.map encC)), (8, .slice .unk (a.map encLit)), (29, .slice .unk (f'.map encC)), (30, .int .i64 f'.length), (31, .int .i64 i), (35, .slice .unk (g'.map encC)), (36, .int .i64 g'.length), (37, .int .i64 q.1)]) (fun q => σ ++ [.grow 1 q.2.length])
        (fun q => q.1 ≤ g'.length ∧ prodL f' g' = (q.2 ++ (g'.drop q.1).filterMap fun b => bothL a b) ++ prodL (f'.drop (i + 1)) g') (fun q => g'.length - q.1) (0, out) ⟨Nat.zero_le _, hv⟩ (by (try dsimp only); first | exact ghL (hs1 out.length) | exact ghL0 (hs1 out.length)) ?_
      rintro ⟨j, out⟩ ⟨hj', hvj⟩ K' hK' hE' hR'
      dsimp only at hj' hvj ⊢
      have hol : out.length ≤ 40000 := by have := congrArg List.length hvj; rw [List.length_append, List.length_append] at this; omega
      by_cases hj : j < g'.length
      · obtain ⟨b, hxj⟩ := get_ex hj; have hltj : ((j : Int) < (g'.length : Int)) := (by omega); have hwj : IntKind.i64.wrap ((j : Int) + 1) = ((j + 1 : Nat) : Int) := (by rw [wrap_ok (by omega)]; omega)
        have hb := vg' b (List.mem_of_getElem? hxj)
        rw [drop_cons hxj, List.filterMap_cons] at hvj
        simp only [go_sem, Int.reduceToNat, Int.reduceLE, Int.reduceLT, Nat.reduceBEq, Nat.reduceLT, Nat.reduceAdd, Nat.reduceLeDiff, hltj, hxj, encC]
        refine (both_spec a b .unk .unk _ (ha.ok hn).1 (hb.ok hn).1 (ha.ok hn).2 (hb.ok hn).2).is ?_
        cases hab : bothL a b with
        | none =>
          simp only [go_sem, Int.reduceToNat, Int.reduceLE, Int.reduceLT, Nat.reduceBEq, Nat.reduceLT, Nat.reduceAdd, Nat.reduceLeDiff, resB]
          rw [hab] at hvj
          refine hK' _ _ (j + 1, out) ⟨by simp only []; omega, hvj⟩ (by simp only []; omega) ?_
          exact (by (try dsimp only); (try simp only [ hwj]); first | exact ghL (hs1 out.length) | exact ghL0 (hs1 out.length))
        | some c =>
          have hc : out.map encC ++ [[AV.slice .unk (c.map encLit)]] = (out ++ [c]).map encC := by simp [encC]
          have hbig : bigLen (out.length + 1) 24 := big_ok (by omega) (by omega)
          simp only [go_sem, Int.reduceToNat, Int.reduceLE, Int.reduceLT, Nat.reduceBEq, Nat.reduceLT, Nat.reduceAdd, Nat.reduceLeDiff, resB, hc, hbig]
          rw [hab] at hvj
          refine hK' _ _ (j + 1, out ++ [c]) ⟨by simp only []; omega, by rw [hvj]; simp⟩ (by simp only []; omega) ?_
          simp only [List.length_append, List.length_cons, List.length_nil, Nat.reduceAdd]
          exact (by (try dsimp only); (try simp only [ hwj]); first | exact ghL (hs1 (out.length + 1)) | exact ghL0 (hs1 (out.length + 1)))
      · have hltj : ¬ ((j : Int) < (g'.length : Int)) := by omega
        rw [drop_len hj, List.filterMap_nil, List.append_nil] at hvj
        simp only [go_sem, Int.reduceToNat, Int.reduceLE, Int.reduceLT, Nat.reduceBEq, Nat.reduceLT, Nat.reduceAdd, Nat.reduceLeDiff, hltj, hE']
        refine hK _ _ ((i + 1, out)) (⟨by simp only []; omega, hvj⟩) (by first | omega | (simp only []; omega) | (simp; omega)) ?_; (try dsimp only); (try simp only [ hw]); first | exact ghL (hs1 out.length) | exact ghL0 (hs1 out.length)
    · have hlt : ¬ ((i : Int) < (f'.length : Int)) := by omega
      rw [drop_len h] at hv
      have hv : prodL f' g' = out := by rw [hv]; simp [prodL]
      simp only [go_sem, Int.reduceToNat, Int.reduceLE, Int.reduceLT, Nat.reduceBEq, Nat.reduceLT, Nat.reduceAdd, Nat.reduceLeDiff, hlt, hE]
      refine (reduced_specF out _ _ ⟨by omega, fun l hl => by rw [← hv] at hl; exact (prodL_V vf' vg' l hl).ok hn⟩).mono ?_
      rintro _ _ ⟨rfl, rfl⟩
      rw [hv]
      by_cases h4 : ((reducedL out).length : Int) ≤ 400
      · simp only [go_sem, Int.reduceToNat, Int.reduceLE, Int.reduceLT, Nat.reduceBEq, Nat.reduceLT, Nat.reduceAdd, Nat.reduceLeDiff, h4]
        refine ret_tok (fun x _ => ids_encCf x) 1 1 (reducedL out).length (reducedL out) (.bool true) hσ rfl rfl rfl rfl (.bool _) ?_
        exact ⟨by rw [decide_eq_true (by omega : (reducedL out).length ≤ 400)], rfl⟩
      · simp only [go_sem, Int.reduceToNat, Int.reduceLE, Int.reduceLT, Nat.reduceBEq, Nat.reduceLT, Nat.reduceAdd, Nat.reduceLeDiff, h4]
        refine ret_tok (fun x _ => ids_encCf x) 1 1 (reducedL out).length (reducedL out) (.bool false) hσ rfl rfl rfl rfl (.bool _) ?_
        exact ⟨by rw [decide_eq_false (by omega : ¬ (reducedL out).length ≤ 400)], rfl⟩
theorem Both_spec (n : Int) (hn : n ≤ 1000000) (f g : List (List FLit)) (tok tok' : Tok) (σ : Store) (hf : f.length ≤ 1000000) (hg : g.length ≤ 1000000) (vf : vF n f) (vg : vF n g) :
    ACalls Try.prog 45 [.slice tok (f.map encC), .slice tok' (g.map encC)] σ (retB σ (bothF f g)) := (Both_specF n hn f g tok tok' σ hf hg vf vg).wkC (retBf_wk σ _)
end Go.Proofs.Ytbnhijapbnfohaa
namespace Go.Proofs.Ytbnhijapbnfohaa
open Go.Ahl
def c_cloneT : CCode := .seq (.ops [⟨some 2, .move (.lit (.slice .nil [])), none, []⟩]) (.seq (.seq (.ops [⟨some 3, .move (.tmp 0), none, []⟩, ⟨some 4, .bin .eql .slice (.tmp 3) (.lit (.slice .nil [])), none, []⟩]) (.cond (.tmp 4) (.seq (.ops [⟨some 2, .move (.lit (.slice .nil [])), none, []⟩]) .ret) .skip)) (.seq (.ops [⟨some 5, .bslice 1 [] false, none, []⟩, ⟨some 6, .move (.tmp 0), none, []⟩, ⟨some 7, .bappend 1 24 (.tmp 5) (.tmp 6) false, none, []⟩, ⟨some 2, .move (.tmp 7), none, []⟩]) .ret))
set_option maxRecDepth 20000 in
theorem cloneT_spec (f : List (List FLit)) (tok : Tok) (σ : Store) (hf : f.length ≤ 1073741824) :
    ACalls Try.prog 47 [.slice tok (f.map encC)] σ (fun r σ' => r = .slice (.grow σ.length) (f.map encC) ∧ σ' = σ ++ [.grow 1 f.length]) := by
  refine ACalls.intro (rs := [(.tmp 2)]) (by kernel_rfl) { own := [], ghosts := [] } Try.func47 (c := Try.f47.body.getD .skip) (by kernel_rfl) (by decide) (by rw [show Try.f47.ntmps = 8 by kernel_rfl]; exact Nat.le_of_ble_eq_true rfl) (by kernel_rfl) ?_
  intro hσ hids
  rw [show comp Try.prog { own := [], ghosts := [] } (Try.f47.body.getD .skip) = c_cloneT by kernel_rfl, show Try.f47.ntmps = 8 by kernel_rfl]
  unfold c_cloneT
  have hbig : bigLen f.length 24 := big_ok (by omega) (by omega)
  have hσ1 : ∀ n, IdsS (σ ++ [AObj.grow 1 n]).length (σ ++ [AObj.grow 1 n]) := fun n => idsS_push hσ trivial
  simp only [go_sem, Int.reduceToNat, Int.reduceLE, Int.reduceLT, Nat.reduceBEq, Nat.reduceLT, Nat.reduceAdd, Nat.reduceLeDiff]
  intro b hb
  cases b
  · have hall : ∀ x ∈ f, (encC x).length = 1 ∧ (encC x).all AV.one = true := fun x _ => ⟨rfl, rfl⟩
    simp only [go_sem, Int.reduceToNat, Int.reduceLE, Int.reduceLT, Nat.reduceBEq, Nat.reduceLT, Nat.reduceAdd, Nat.reduceLeDiff, hbig]
    refine ⟨hall, ?_⟩
    refine ret_gh (v := .slice (.grow σ.length) (f.map encC)) (σ' := σ ++ [.grow 1 f.length]) ?_ (by simp) (hσ1 _) (ids_grow_map ids_encC (by simp)) ⟨rfl, rfl⟩
    exact (by (try dsimp only); first | exact ghL (hσ1 f.length) | exact ghL0 (hσ1 f.length))
  · have hl0 : f = [] := by
      cases f with
      | nil => rfl
      | cons x l => exact absurd (hb (by simp)) (by simp)
    subst hl0
    simp only [go_sem, Int.reduceToNat, Int.reduceLE, Int.reduceLT, Nat.reduceBEq, Nat.reduceLT, Nat.reduceAdd, Nat.reduceLeDiff]
    refine ret_gh (v := .slice (.grow σ.length) []) (σ' := σ ++ [.grow 1 0]) ?_ (by simp) (hσ1 _) (ids_nil _ (fun id e => by injection e with e; simp; omega)) ⟨rfl, rfl⟩
    exact .begin0 2 1 [] (Nat.le_refl _) tellT hσ
/-! ### Negation -/
def negL (l : List FLit) : List (List FLit) := l.map fun x => [⟨x.fact, !x.neg⟩]
def negFrom (out : List (List FLit)) : List (List FLit) → Option (List (List FLit))
  | [] => some out
  | l :: f => match bothF out (negL l) with
    | none => none
    | some o => if o.length ≤ 400 then negFrom o f else none
/-- The negation of a formula; none: too many terms. -/
def negF (f : List (List FLit)) : Option (List (List FLit)) := negFrom [[]] f
theorem negL_V {n : Int} {l : List FLit} (h : cV n l) : vF n (negL l) := by
  intro c hc
  obtain ⟨x, hx, rfl⟩ := List.mem_map.1 hc
  have := condB_mem h x hx
  exact condB_mk this.1 this.2 rfl
theorem cV_len {n : Int} (hn : n ≤ 1000000) {l : List FLit} (h : cV n l) : l.length ≤ 1000000 := by
  rcases condB_len h with rfl | h
  · simp
  · omega
theorem negFrom_V {n : Int} : ∀ {f out r : List (List FLit)}, vF n f → vF n out → negFrom out f = some r → vF n r
  | [], out, r, _, ho, h => by simp [negFrom] at h; subst h; exact ho
  | l :: f, out, r, hf, ho, h => by
    rw [negFrom] at h
    cases hb : bothF out (negL l) with
    | none => rw [hb] at h; simp at h
    | some o =>
      rw [hb] at h
      simp only at h
      split at h
      · exact negFrom_V (fun l hl => hf l (List.mem_cons_of_mem _ hl)) (bothF_V hb ho (negL_V (hf l List.mem_cons_self))) h
      · simp at h
theorem nil_V (n : Int) : vF n [[]] := by intro l hl; rw [List.mem_singleton.1 hl]; rfl
theorem negF_V {n : Int} {f r : List (List FLit)} (hf : vF n f) (h : negF f = some r) : vF n r := negFrom_V hf (nil_V n) h
theorem negFrom_len : ∀ {f out r : List (List FLit)}, out.length ≤ 400 → negFrom out f = some r → r.length ≤ 400
  | [], out, r, ho, h => by simp [negFrom] at h; subst h; exact ho
  | l :: f, out, r, ho, h => by
    rw [negFrom] at h
    cases hb : bothF out (negL l) with
    | none => rw [hb] at h; simp at h
    | some o =>
      rw [hb] at h
      simp only at h
      split at h
      · exact negFrom_len ‹_› h
      · simp at h
theorem negF_len {f r : List (List FLit)} (h : negF f = some r) : r.length ≤ 400 := negFrom_len (by simp) h
/-- What a negation comes back as. -/
def retN (σ : Store) : Option (List (List FLit)) → Cont
  | none => fun r σ' => r = .tuple [.slice .nil [], .bool false] ∧ σ' = σ
  | some l => fun r σ' => r = .tuple [.slice (.grow σ.length) (l.map encC), .bool true] ∧ σ' = σ ++ [.grow 1 l.length]
def retNf (σ : Store) : Option (List (List FLit)) → Cont
  | none => fun r σ' => r = .tuple [.slice .nil [], .bool false] ∧ σ' = σ
  | some l => fun r σ' => r = .tuple [.slice (.grow σ.length) (l.map encCf), .bool true] ∧ σ' = σ ++ [.grow 1 l.length]
theorem retNf_wk (σ : Store) (o : Option (List (List FLit))) (r : AV) (σ' : Store) (h : retNf σ o r σ') : ∃ r', Wk r r' ∧ retN σ o r' σ' := by
  cases o with
  | none => exact ⟨r, .refl _, h⟩
  | some l => obtain ⟨rfl, rfl⟩ := h; exact ⟨_, Wk.tuple (.cons (Wk.cf _ _) (WkL.one (.refl _))), rfl, rfl⟩
def c_negated : CCode := .seq (.ops [⟨some 2, .move (.lit (.slice .nil [])), none, []⟩, ⟨some 3, .move (.lit (.bool false)), none, []⟩]) (.seq (.ops [⟨some 11, .bslice 1 [.lit (.slice .nil [])] false, none, []⟩, ⟨some 4, .move (.tmp 11), none, []⟩]) (.seq (.seq (.ops [⟨some 12, .move (.tmp 0), none, []⟩, ⟨some 13, .blen 1 (.tmp 12), none, []⟩, ⟨some 14, .move (.lit (.int .i64 0)), none, []⟩]) (.block 0 (.loop (.seq (.ops [⟨some 15, .bin .lss .none (.tmp 14) (.tmp 13), none, []⟩]) (.seq (.cond (.tmp 15) .skip (.exit 0)) (.seq (.block 1 (.seq (.ops [⟨some 16, .iaddr 1 (.tmp 12) (.tmp 14), none, []⟩, ⟨some 17, .load none (.tmp 16), none, []⟩, ⟨some 6, .move (.tmp 17), none, []⟩]) (.seq (.ops [⟨some 7, .move (.lit (.slice .nil [])), none, []⟩]) (.seq (.seq (.ops [⟨some 18, .move (.tmp 6), none, []⟩, ⟨some 19, .blen 1 (.tmp 18), none, []⟩, ⟨some 20, .move (.lit (.int .i64 0)), none, []⟩]) (.block 2 (.loop (.seq (.ops [⟨some 21, .bin .lss .none (.tmp 20) (.tmp 19), none, []⟩]) (.seq (.cond (.tmp 21) .skip (.exit 2)) (.seq (.block 3 (.seq (.ops [⟨some 22, .iaddr 2 (.tmp 18) (.tmp 20), none, []⟩, ⟨some 23, .load (some 2) (.tmp 22), none, []⟩, ⟨some 9, .alloc (.agg [.int .i64 0, .bool false]), none, []⟩, ⟨none, .store 2 (.tmp 9) (.tmp 23), none, []⟩]) (.ops [⟨some 24, .move (.tmp 7), none, []⟩, ⟨some 25, .faddr 0 (.tmp 9), none, []⟩, ⟨some 26, .load none (.tmp 25), none, []⟩, ⟨some 27, .faddr 1 (.tmp 9), none, []⟩, ⟨some 28, .load none (.tmp 27), none, []⟩, ⟨some 29, .un .not (.tmp 28), none, []⟩, ⟨some 30, .build [.int .i64 0, .bool false] [(0, 1, .tmp 26), (1, 1, .tmp 29)], none, []⟩, ⟨some 31, .bslice 2 [.tmp 30] false, none, []⟩, ⟨some 32, .bslice 1 [.tmp 31] false, none, []⟩, ⟨some 33, .bappend 1 24 (.tmp 24) (.tmp 32) false, none, []⟩, ⟨some 7, .move (.tmp 33), none, []⟩]))) (.ops [⟨some 34, .bin .add .none (.tmp 20) (.lit (.int .i64 1)), none, []⟩, ⟨some 20, .move (.tmp 34), none, []⟩]))))))) (.seq (.ops [⟨some 10, .move (.lit (.bool false)), none, []⟩]) (.seq (.ops [⟨some 36, .move (.tmp 4), none, []⟩, ⟨some 37, .move (.tmp 7), none, []⟩, ⟨some 38, .call (.lit (.func 45 [])) [.tmp 36, .tmp 37], none, []⟩, ⟨some 35, .move (.tmp 38), none, []⟩, ⟨some 39, .extract (.tmp 35) 0, none, []⟩, ⟨some 40, .extract (.tmp 35) 1, none, []⟩, ⟨some 4, .move (.tmp 39), none, []⟩, ⟨some 10, .move (.tmp 40), none, []⟩]) (.seq (.ops [⟨some 41, .move (.tmp 10), none, []⟩, ⟨some 42, .un .not (.tmp 41), none, []⟩]) (.cond (.tmp 42) (.seq (.ops [⟨some 2, .move (.lit (.slice .nil [])), none, []⟩, ⟨some 3, .move (.lit (.bool false)), none, []⟩]) .ret) .skip)))))))) (.ops [⟨some 43, .bin .add .none (.tmp 14) (.lit (.int .i64 1)), none, []⟩, ⟨some 14, .move (.tmp 43), none, []⟩]))))))) (.seq (.ops [⟨some 44, .move (.tmp 4), none, []⟩, ⟨some 2, .move (.tmp 44), none, []⟩, ⟨some 3, .move (.lit (.bool true)), none, []⟩]) .ret)))
set_option maxRecDepth 20000 in
theorem negated_specF (n : Int) (hn : n ≤ 1000000) (f : List (List FLit)) (tok : Tok) (σ : Store) (hf : f.length ≤ 1000000) (vf : vF n f) :
    ACalls Try.prog 48 [.slice tok (f.map encC)] σ (retNf σ (negF f)) := by
  refine ACalls.intro (rs := [(.tmp 2), (.tmp 3)]) (by kernel_rfl) { own := [], ghosts := [] } Try.func48 (c := Try.f48.body.getD .skip) (by kernel_rfl) (by decide) (by rw [show Try.f48.ntmps = 45 by kernel_rfl]; exact Nat.le_of_ble_eq_true rfl) (by kernel_rfl) ?_
  intro hσ hids
  rw [show comp Try.prog { own := [], ghosts := [] } (Try.f48.body.getD .skip) = c_negated by kernel_rfl, show Try.f48.ntmps = 45 by kernel_rfl]
  unfold c_negated
  have hif : Ids σ.length (.slice tok (f.map encC)) := hids _ (by simp)
  have hs1 : ∀ k, IdsS (σ ++ [AObj.grow 1 k]).length (σ ++ [AObj.grow 1 k]) := fun k => idsS_push hσ trivial
  have hs2 : ∀ k j, IdsS (σ ++ [AObj.grow 1 k, AObj.grow 1 j]).length (σ ++ [AObj.grow 1 k, AObj.grow 1 j]) := fun k j => idsS_app _ hσ (all_cons' trivial (all_cons' trivial all_nil'))
  simp only [go_sem, Int.reduceToNat, Int.reduceLE, Int.reduceLT, Nat.reduceBEq, Nat.reduceLT, Nat.reduceAdd, Nat.reduceLeDiff]
  refine wpc_while (fun (q : Nat × List (List FLit)) => [(4, .slice (.grow σ.length) (q.2.map encCf)), (12, .slice tok (f.map encC)), (13, .int .i64 f.length), (14, .int .i64 q.1)]) (fun q => σ ++ [.grow 1 q.2.length])
    (fun q => q.1 ≤ f.length ∧ q.2.length ≤ 400 ∧ vF n q.2 ∧ negF f = negFrom q.2 (f.drop q.1)) (fun q => f.length - q.1) (0, [[]]) ⟨Nat.zero_le _, by simp, nil_V n, rfl⟩ ?_ ?_
  · refine (Ghost.weak 4 (.slice (.grow σ.length) ([([] : List FLit)].map encCf)) (by exact Wk.slice _ (WkLL.one (WkL.one (Wk.fresh0 _))))).trans ?_
    exact (by (try dsimp only); first | exact ghL (hs1 1) | exact ghL0 (hs1 1))
  rintro ⟨i, out⟩ ⟨hi, ho, hvo, hv⟩ K hK hE hR
  dsimp only at hi ho hvo hv ⊢
  by_cases h : i < f.length
  · obtain ⟨l, hx⟩ := get_ex h; have hlt : ((i : Int) < (f.length : Int)) := (by omega); have hw : IntKind.i64.wrap ((i : Int) + 1) = ((i + 1 : Nat) : Int) := (by rw [wrap_ok (by omega)]; omega)
    have hl := vf l (List.mem_of_getElem? hx)
    have hll := cV_len hn hl
    rw [drop_cons hx, negFrom] at hv
    simp only [go_sem, Int.reduceToNat, Int.reduceLE, Int.reduceLT, Nat.reduceBEq, Nat.reduceLT, Nat.reduceAdd, Nat.reduceLeDiff, hlt, hx, encC]
    refine wpc_while (fun j => [(7, .slice (.grow (σ.length + 1)) ((negL (l.take j)).map encC)), (4, .slice (.grow σ.length) (out.map encCf)), (12, .slice tok (f.map encC)), (13, .int .i64 f.length), (14, .int .i64 i), (18, .slice .unk (l.map encLit)), (19, .int .i64 l.length), (20, .int .i64 (j : Nat))]) (fun j => σ ++ [.grow 1 out.length, .grow 1 j])
      (fun j => j ≤ l.length) (fun j => l.length - j) 0 (Nat.zero_le _) (.begin1 7 1 _ (Nat.le_refl _) tellT (hs1 _)) ?_
    intro j hj' K' hK' hE' hR'
    by_cases hj : j < l.length
    · obtain ⟨x, hxj⟩ := get_ex hj; have hltj : ((j : Int) < (l.length : Int)) := (by omega); have hwj : IntKind.i64.wrap ((j : Int) + 1) = ((j + 1 : Nat) : Int) := (by rw [wrap_ok (by omega)]; omega)
      have hc : (negL (l.take (j + 1))).map encC = (negL (l.take j)).map encC ++ [[.slice .unk [[.int .i64 x.fact, .bool (!x.neg)]]]] := by rw [take_succ' hxj]; simp [negL, encC, encLit]
      have hjl : ((negL (l.take j)).map encC).length = j := by rw [List.length_map, negL, List.length_map, List.length_take_of_le (by omega)]
      have hbig : bigLen (j + 1) 24 := big_ok (by omega) (by omega)
      have hjl' : (negL (l.take j)).length = j := by rw [negL, List.length_map, List.length_take_of_le (by omega)]
      simp only [go_sem, Int.reduceToNat, Int.reduceLE, Int.reduceLT, Nat.reduceBEq, Nat.reduceLT, Nat.reduceAdd, Nat.reduceLeDiff, hltj, hxj, encLit, hjl', hbig]
      refine hK' _ _ (j + 1) (by omega) (by omega) ?_
      refine (Ghost.weak 7 (.slice (.grow (σ.length + 1)) ((negL (l.take (j + 1))).map encC)) (by rw [hc]; exact Wk.slice _ (.append (.refl _) (WkLL.one (WkL.one (Wk.unk _ _)))))).trans ?_
      exact (by (try dsimp only); (try simp only [ hwj]); first | exact ghL (hs2 out.length (j + 1)) | exact ghL0 (hs2 out.length (j + 1)))
    · have hltj : ¬ ((j : Int) < (l.length : Int)) := by omega
      have ht : l.take j = l := List.take_of_length_le (by omega)
      rw [ht]
      simp only [go_sem, Int.reduceToNat, Int.reduceLE, Int.reduceLT, Nat.reduceBEq, Nat.reduceLT, Nat.reduceAdd, Nat.reduceLeDiff, hltj, hE']
      refine (ACalls.wk (Both_specF n hn out (negL l) _ _ _ (by omega) (by rw [negL, List.length_map]; omega) hvo (negL_V hl)) (.cons (Wk.cf _ _) (WkL.refl _))).mono ?_
      cases hb : bothF out (negL l) with
      | none =>
        rintro _ _ ⟨rfl, rfl⟩
        rw [hb] at hv
        simp only [go_sem, Int.reduceToNat, Int.reduceLE, Int.reduceLT, Nat.reduceBEq, Nat.reduceLT, Nat.reduceAdd, Nat.reduceLeDiff, hR]
        rw [show negF f = none from hv]
        first | exact rtl (.slice .nil []) (.bool false) ⟨rfl, rfl⟩ | exact rtl0 (.slice .nil []) (.bool false) ⟨rfl, rfl⟩
      | some o =>
        rintro _ _ ⟨rfl, rfl⟩
        rw [hb] at hv
        simp only at hv
        by_cases h4 : o.length ≤ 400
        · rw [if_pos h4] at hv
          simp only [go_sem, Int.reduceToNat, Int.reduceLE, Int.reduceLT, Nat.reduceBEq, Nat.reduceLT, Nat.reduceAdd, Nat.reduceLeDiff, decide_eq_true h4]
          refine hK _ _ (i + 1, o) ⟨by simp only []; omega, h4, bothF_V hb hvo (negL_V hl), hv⟩ (by simp only []; omega) ?_
          exact (by (try dsimp only); (try simp only [ hw]); exact ghM (2))
        · rw [if_neg h4] at hv
          simp only [go_sem, Int.reduceToNat, Int.reduceLE, Int.reduceLT, Nat.reduceBEq, Nat.reduceLT, Nat.reduceAdd, Nat.reduceLeDiff, decide_eq_false h4, hR]
          rw [show negF f = none from hv]
          first | exact rtl (.slice .nil []) (.bool false) ⟨rfl, rfl⟩ | exact rtl0 (.slice .nil []) (.bool false) ⟨rfl, rfl⟩
  · have hlt : ¬ ((i : Int) < (f.length : Int)) := by omega
    rw [drop_len h, negFrom] at hv
    simp only [go_sem, Int.reduceToNat, Int.reduceLE, Int.reduceLT, Nat.reduceBEq, Nat.reduceLT, Nat.reduceAdd, Nat.reduceLeDiff, hlt, hE]
    refine ret_tok (fun x _ => ids_encCf x) 0 1 out.length out (.bool true) hσ rfl rfl rfl rfl (.bool _) ?_
    rw [hv]; exact ⟨rfl, rfl⟩
theorem negated_spec (n : Int) (hn : n ≤ 1000000) (f : List (List FLit)) (tok : Tok) (σ : Store) (hf : f.length ≤ 1000000) (vf : vF n f) :
    ACalls Try.prog 48 [.slice tok (f.map encC)] σ (retN σ (negF f)) := (negated_specF n hn f tok σ hf vf).wkC (retNf_wk σ _)
end Go.Proofs.Ytbnhijapbnfohaa
