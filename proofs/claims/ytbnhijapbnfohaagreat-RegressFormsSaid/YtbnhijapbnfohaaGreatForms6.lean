/- RegressForms: the given statement about Check, Holds and Reduce of regress; no condition. -/
import Derived.Test.YtbnhijapbnfohaaGreatBase5
set_option linter.unusedVariables false
set_option linter.unusedSimpArgs false
namespace Go.Proofs.YtbnhijapbnfohaaGreat
open Go.Ahl
def c_cNaN : CCode := .seq (.ops [⟨some 2, .move (.lit (.bool false)), none, []⟩]) (.seq (.ops [⟨some 3, .move (.tmp 0), none, []⟩, ⟨some 4, .move (.tmp 0), none, []⟩, ⟨some 5, .bin .neq .none (.tmp 3) (.tmp 4), none, []⟩, ⟨some 2, .move (.tmp 5), none, []⟩]) .ret)
theorem cNaN_spec (x : Int) (σ : Store) : ACalls Tryz.prog 120 [.int .i64 x] σ (isR (.bool false) σ) := by
  refine ACalls.intro (rs := [(.tmp 2)]) (by kernel_rfl) { own := [], ghosts := [] } Tryz.func120 (c := Tryz.f120.body.getD .skip) (by kernel_rfl) (by decide) (by rw [show Tryz.f120.ntmps = 6 by kernel_rfl]; exact Nat.le_of_ble_eq_true rfl) (by kernel_rfl) ?_
  intro hσ hids
  rw [show comp Tryz.prog { own := [], ghosts := [] } (Tryz.f120.body.getD .skip) = c_cNaN by kernel_rfl, show Tryz.f120.ntmps = 6 by kernel_rfl]
  unfold c_cNaN
  have hx : (x != x) = false := by simp
  simp only [go_sem, Int.reduceToNat, Int.reduceLE, Int.reduceLT, Nat.reduceBEq, Nat.reduceLT, Nat.reduceAdd, Nat.reduceLeDiff, hx]
  first | exact rtk (.bool false) ⟨rfl, rfl⟩ | exact rtk0 (.bool false) ⟨rfl, rfl⟩
def c_sNaN : CCode := .seq (.ops [⟨some 2, .move (.lit (.bool false)), none, []⟩]) (.seq (.ops [⟨some 3, .move (.tmp 0), none, []⟩, ⟨some 4, .move (.tmp 0), none, []⟩, ⟨some 5, .bin .neq .none (.tmp 3) (.tmp 4), none, []⟩, ⟨some 2, .move (.tmp 5), none, []⟩]) .ret)
theorem sNaN_spec (x : Int) (σ : Store) : ACalls Tryz.prog 112 [.int .i64 x] σ (isR (.bool false) σ) := by
  refine ACalls.intro (rs := [(.tmp 2)]) (by kernel_rfl) { own := [], ghosts := [] } Tryz.func112 (c := Tryz.f112.body.getD .skip) (by kernel_rfl) (by decide) (by rw [show Tryz.f112.ntmps = 6 by kernel_rfl]; exact Nat.le_of_ble_eq_true rfl) (by kernel_rfl) ?_
  intro hσ hids
  rw [show comp Tryz.prog { own := [], ghosts := [] } (Tryz.f112.body.getD .skip) = c_sNaN by kernel_rfl, show Tryz.f112.ntmps = 6 by kernel_rfl]
  unfold c_sNaN
  have hx : (x != x) = false := by simp
  simp only [go_sem, Int.reduceToNat, Int.reduceLE, Int.reduceLT, Nat.reduceBEq, Nat.reduceLT, Nat.reduceAdd, Nat.reduceLeDiff, hx]
  first | exact rtk (.bool false) ⟨rfl, rfl⟩ | exact rtk0 (.bool false) ⟨rfl, rfl⟩
def c_cLess : CCode := .seq (.ops [⟨some 4, .move (.lit (.bool false)), none, []⟩]) (.seq (.ops [⟨some 5, .move (.tmp 0), none, []⟩, ⟨some 6, .call (.lit (.func 120 [])) [.tmp 5], none, []⟩, ⟨some 7, .move (.tmp 6), none, []⟩, ⟨some 8, .move (.tmp 1), some (some 7, true), []⟩, ⟨some 9, .call (.lit (.func 120 [])) [.tmp 8], some (some 7, true), []⟩, ⟨some 10, .un .not (.tmp 9), some (some 7, true), []⟩, ⟨some 11, .pick (.tmp 7) (.tmp 10) (.lit (.bool false)), none, []⟩, ⟨some 12, .move (.tmp 11), none, []⟩, ⟨some 13, .move (.tmp 0), some (some 12, false), []⟩, ⟨some 14, .move (.tmp 1), some (some 12, false), []⟩, ⟨some 15, .bin .lss .none (.tmp 13) (.tmp 14), some (some 12, false), []⟩, ⟨some 16, .pick (.tmp 12) (.lit (.bool true)) (.tmp 15), none, []⟩, ⟨some 4, .move (.tmp 16), none, []⟩]) .ret)
theorem cLess_spec (x y : Int) (σ : Store) : ACalls Tryz.prog 111 [.int .i64 x, .int .i64 y] σ (isR (.bool (decide (x < y))) σ) := by
  refine ACalls.intro (rs := [(.tmp 4)]) (by kernel_rfl) { own := [], ghosts := [] } Tryz.func111 (c := Tryz.f111.body.getD .skip) (by kernel_rfl) (by decide) (by rw [show Tryz.f111.ntmps = 17 by kernel_rfl]; exact Nat.le_of_ble_eq_true rfl) (by kernel_rfl) ?_
  intro hσ hids
  rw [show comp Tryz.prog { own := [], ghosts := [] } (Tryz.f111.body.getD .skip) = c_cLess by kernel_rfl, show Tryz.f111.ntmps = 17 by kernel_rfl]
  unfold c_cLess
  simp only [go_sem, Int.reduceToNat, Int.reduceLE, Int.reduceLT, Nat.reduceBEq, Nat.reduceLT, Nat.reduceAdd, Nat.reduceLeDiff]
  refine (cNaN_spec x σ).is ?_
  simp only [go_sem, Int.reduceToNat, Int.reduceLE, Int.reduceLT, Nat.reduceBEq, Nat.reduceLT, Nat.reduceAdd, Nat.reduceLeDiff]
  first | exact rtw (v := .bool _) wkS ⟨rfl, rfl⟩ | exact rtw0 (v := .bool _) wkS ⟨rfl, rfl⟩
theorem wrap_u64 {x : Int} (h : 0 ≤ x) (h2 : x < 18446744073709551616) : IntKind.u64.wrap x = x := by
  unfold IntKind.wrap
  simp only [IntKind.bits, IntKind.signed, Bool.false_and, Bool.false_eq_true, if_false]
  exact Int.emod_eq_of_lt h h2
/-- The two ends of a search among rising numbers. -/
def BsInv (l : List Int) (x : Int) (p : Nat × Nat) : Prop :=
  p.1 ≤ p.2 ∧ p.2 ≤ l.length ∧ (∀ k, k < p.1 → ∀ y, l[k]? = some y → y < x) ∧ (∀ k, p.2 ≤ k → ∀ y, l[k]? = some y → x ≤ y)
theorem pw_get {l : List Int} (h : l.Pairwise (· < ·)) {i j : Nat} {a b : Int} (hi : l[i]? = some a) (hj : l[j]? = some b) (hij : i < j) : a < b := by
  obtain ⟨h1, rfl⟩ := List.getElem?_eq_some_iff.1 hi
  obtain ⟨h2, rfl⟩ := List.getElem?_eq_some_iff.1 hj
  exact List.pairwise_iff_getElem.1 h i j h1 h2 hij
theorem bs_lo {l : List Int} {x y : Int} {a b m : Nat} (hs : l.Pairwise (· < ·)) (h : BsInv l x (a, b)) (hm : l[m]? = some y) (hma : a ≤ m) (hmb : m < b) (hy : y < x) : BsInv l x (m + 1, b) := by
  obtain ⟨h1, h2, h3, h4⟩ := h
  refine ⟨by simp only; omega, h2, fun k hk z hz => ?_, h4⟩
  by_cases hkm : k = m
  · subst hkm; rw [hm] at hz; injection hz with hz; omega
  · have := pw_get hs hz hm (by simp only at hk; omega); omega
theorem bs_hi {l : List Int} {x y : Int} {a b m : Nat} (hs : l.Pairwise (· < ·)) (h : BsInv l x (a, b)) (hm : l[m]? = some y) (hma : a ≤ m) (hmb : m < b) (hy : ¬ y < x) : BsInv l x (a, m) := by
  obtain ⟨h1, h2, h3, h4⟩ := h
  refine ⟨hma, by have := lt_of_get hm; simp only; omega, h3, fun k hk z hz => ?_⟩
  by_cases hkm : k = m
  · subst hkm; rw [hm] at hz; injection hz with hz; omega
  · have := pw_get hs hm hz (by simp only at hk; omega); omega
theorem bs_end {l : List Int} {x y : Int} {a : Nat} (hs : l.Pairwise (· < ·)) (h : BsInv l x (a, a)) (hy : l[a]? = some y) : l.contains x = decide (y = x) := by
  obtain ⟨h1, h2, h3, h4⟩ := h
  by_cases hyx : y = x
  · subst hyx; rw [decide_eq_true rfl]; exact List.contains_iff_mem.2 (List.mem_of_getElem? hy)
  · rw [decide_eq_false hyx]
    cases hc : l.contains x with
    | false => rfl
    | true =>
      obtain ⟨k, hk⟩ := List.mem_iff_getElem?.1 (List.contains_iff_mem.1 hc)
      have hxy := h4 a (Nat.le_refl _) y hy
      rcases Nat.lt_trichotomy k a with hka | hka | hka
      · have := h3 k hka x hk; omega
      · subst hka; rw [hy] at hk; injection hk with hk; omega
      · have := pw_get hs hy hk hka; omega
theorem bs_out {l : List Int} {x : Int} (h : BsInv l x (l.length, l.length)) : l.contains x = false := by
  obtain ⟨h1, h2, h3, h4⟩ := h
  cases hc : l.contains x with
  | false => rfl
  | true =>
    obtain ⟨k, hk⟩ := List.mem_iff_getElem?.1 (List.contains_iff_mem.1 hc)
    have := h3 k (lt_of_get hk) x hk; omega
theorem rising_pw {n : Int} : ∀ {s : List Int} {p : Int}, risingB n p s = true → s.Pairwise (· < ·) ∧ ∀ x ∈ s, p < x ∧ x < n
  | [], _, _ => ⟨.nil, by simp⟩
  | x :: s, p, h => by
    simp only [risingB, Bool.and_eq_true, decide_eq_true_eq] at h
    obtain ⟨h1, h2⟩ := rising_pw (s := s) (p := x) (by simpa using h.2)
    refine ⟨List.pairwise_cons.2 ⟨fun y hy => (h2 y hy).1, h1⟩, ?_⟩
    intro y hy
    rcases List.mem_cons.1 hy with rfl | hy
    · omega
    · have := h2 y hy; omega
def c_bsearch : CCode := .seq (.ops [⟨some 4, .move (.lit (.int .i64 0)), none, []⟩, ⟨some 5, .move (.lit (.bool false)), none, []⟩]) (.seq (.ops [⟨some 10, .move (.tmp 0), none, []⟩, ⟨some 11, .blen 1 (.tmp 10), none, []⟩, ⟨some 6, .move (.tmp 11), none, []⟩]) (.seq (.ops [⟨some 12, .move (.tmp 6), none, []⟩, ⟨some 7, .move (.lit (.int .i64 0)), none, []⟩, ⟨some 8, .move (.tmp 12), none, []⟩]) (.seq (.block 0 (.loop (.seq (.seq (.ops [⟨some 13, .move (.tmp 7), none, []⟩, ⟨some 14, .move (.tmp 8), none, []⟩, ⟨some 15, .bin .lss .none (.tmp 13) (.tmp 14), none, []⟩]) (.cond (.tmp 15) .skip (.exit 0))) (.block 1 (.seq (.ops [⟨some 16, .move (.tmp 7), none, []⟩, ⟨some 17, .move (.tmp 8), none, []⟩, ⟨some 18, .bin .add .none (.tmp 16) (.tmp 17), none, []⟩, ⟨some 19, .conv .u64 (.tmp 18), none, []⟩, ⟨some 20, .bin .shr .none (.tmp 19) (.lit (.int .u64 1)), none, []⟩, ⟨some 21, .conv .i64 (.tmp 20), none, []⟩, ⟨some 9, .move (.tmp 21), none, []⟩]) (.seq (.ops [⟨some 22, .move (.tmp 0), none, []⟩, ⟨some 23, .move (.tmp 9), none, []⟩, ⟨some 24, .iaddr 1 (.tmp 22) (.tmp 23), none, []⟩, ⟨some 25, .load none (.tmp 24), none, []⟩, ⟨some 26, .move (.tmp 1), none, []⟩, ⟨some 27, .call (.lit (.func 111 [])) [.tmp 25, .tmp 26], none, []⟩]) (.cond (.tmp 27) (.ops [⟨some 28, .move (.tmp 9), none, []⟩, ⟨some 29, .bin .add .none (.tmp 28) (.lit (.int .i64 1)), none, []⟩, ⟨some 7, .move (.tmp 29), none, []⟩]) (.ops [⟨some 30, .move (.tmp 9), none, []⟩, ⟨some 8, .move (.tmp 30), none, []⟩])))))))) (.seq (.ops [⟨some 31, .move (.tmp 7), none, []⟩, ⟨some 32, .move (.tmp 7), none, []⟩, ⟨some 33, .move (.tmp 6), none, []⟩, ⟨some 34, .bin .lss .none (.tmp 32) (.tmp 33), none, []⟩, ⟨some 35, .move (.tmp 34), none, []⟩, ⟨some 36, .move (.tmp 0), some (some 35, true), []⟩, ⟨some 37, .move (.tmp 7), some (some 35, true), []⟩, ⟨some 38, .iaddr 1 (.tmp 36) (.tmp 37), some (some 35, true), []⟩, ⟨some 39, .load none (.tmp 38), some (some 35, true), []⟩, ⟨some 40, .move (.tmp 1), some (some 35, true), []⟩, ⟨some 41, .bin .eql .none (.tmp 39) (.tmp 40), some (some 35, true), []⟩, ⟨some 42, .move (.tmp 41), some (some 35, true), []⟩, ⟨some 43, .move (.tmp 0), some (some 42, false), []⟩, ⟨some 44, .move (.tmp 7), some (some 42, false), []⟩, ⟨some 45, .iaddr 1 (.tmp 43) (.tmp 44), some (some 42, false), []⟩, ⟨some 46, .load none (.tmp 45), some (some 42, false), []⟩, ⟨some 47, .call (.lit (.func 112 [])) [.tmp 46], some (some 42, false), []⟩, ⟨some 48, .move (.tmp 47), some (some 42, false), []⟩, ⟨some 49, .move (.tmp 1), some (some 48, true), []⟩, ⟨some 50, .call (.lit (.func 112 [])) [.tmp 49], some (some 48, true), []⟩, ⟨some 51, .pick (.tmp 48) (.tmp 50) (.lit (.bool false)), some (some 42, false), []⟩, ⟨some 52, .pick (.tmp 42) (.lit (.bool true)) (.tmp 51), some (some 35, true), []⟩, ⟨some 53, .pick (.tmp 35) (.tmp 52) (.lit (.bool false)), none, []⟩, ⟨some 4, .move (.tmp 31), none, []⟩, ⟨some 5, .move (.tmp 53), none, []⟩]) .ret))))
set_option maxRecDepth 20000 in
set_option maxHeartbeats 1000000 in
theorem bsearch_spec (l : List Int) (x : Int) (tok : Tok) (σ : Store) (hl : l.length ≤ 140737488355328) (hs : l.Pairwise (· < ·)) :
    ACalls Tryz.prog 91 [.slice tok (l.map Ahl.encI), .int .i64 x] σ (isR (.tuple [.any, .bool (l.contains x)]) σ) := by
  refine ACalls.intro (rs := [(.tmp 4), (.tmp 5)]) (by kernel_rfl) { own := [], ghosts := [] } Tryz.func91 (c := Tryz.f91.body.getD .skip) (by kernel_rfl) (by decide) (by rw [show Tryz.f91.ntmps = 54 by kernel_rfl]; exact Nat.le_of_ble_eq_true rfl) (by kernel_rfl) ?_
  intro hσ hids
  rw [show comp Tryz.prog { own := [], ghosts := [] } (Tryz.f91.body.getD .skip) = c_bsearch by kernel_rfl, show Tryz.f91.ntmps = 54 by kernel_rfl]
  unfold c_bsearch
  have hil : Ids σ.length (.slice tok (l.map Ahl.encI)) := hids _ (by simp)
  simp only [go_sem, Int.reduceToNat, Int.reduceLE, Int.reduceLT, Nat.reduceBEq, Nat.reduceLT, Nat.reduceAdd, Nat.reduceLeDiff]
  refine wpc_while (fun p => [(0, .slice tok (l.map Ahl.encI)), (1, .int .i64 x), (6, .int .i64 l.length), (7, .int .i64 (p.1 : Nat)), (8, .int .i64 (p.2 : Nat))]) (fun _ => σ) (BsInv l x) (fun p => p.2 - p.1) (0, l.length) ⟨Nat.zero_le _, Nat.le_refl _, fun k hk => absurd hk (Nat.not_lt_zero _), fun k hk y hy => by have := lt_of_get hy; simp only at hk; omega⟩ (by (try dsimp only); first | exact ghk | exact ghk0) ?_
  rintro ⟨a, b⟩ hv K hK hE hR
  have hab := hv.1
  have hbl := hv.2.1
  simp only at hab hbl
  by_cases h : a < b
  · obtain ⟨y, hx⟩ := get_ex (show (a + b) / 2 < l.length by omega)
    have hlt : ((a : Int) < (b : Int)) := by omega
    have hm : IntKind.i64.wrap ((IntKind.u64.wrap (IntKind.i64.wrap ((a : Int) + b))).fdiv (2 ^ min 1 64)) = (((a + b) / 2 : Nat) : Int) := by
      have h1 : IntKind.i64.wrap ((a : Int) + b) = ((a + b : Nat) : Int) := by rw [wrap_ok (by omega)]; omega
      rw [h1, wrap_u64 (by omega) (by omega), show (2 : Int) ^ min 1 64 = 2 from rfl, show ((a + b : Nat) : Int).fdiv 2 = (((a + b) / 2 : Nat) : Int) by rw [Int.fdiv_eq_ediv_of_nonneg _ (by omega)]; omega, wrap_ok (by omega)]
    have hw : IntKind.i64.wrap ((((a + b) / 2 : Nat) : Int) + 1) = (((a + b) / 2 + 1 : Nat) : Int) := by rw [wrap_ok (by omega)]; omega
    simp only [go_sem, Int.reduceToNat, Int.reduceLE, Int.reduceLT, Nat.reduceBEq, Nat.reduceLT, Nat.reduceAdd, Nat.reduceLeDiff, hlt, hm, hx, Ahl.encI]
    refine (cLess_spec y x σ).is ?_
    by_cases hy : y < x
    · simp only [go_sem, Int.reduceToNat, Int.reduceLE, Int.reduceLT, Nat.reduceBEq, Nat.reduceLT, Nat.reduceAdd, Nat.reduceLeDiff, hy]
      refine hK _ _ (((a + b) / 2 + 1, b)) (bs_lo hs hv hx (by omega) (by omega) hy) (by first | omega | (simp only []; omega) | (simp; omega)) ?_; (try dsimp only); (try simp only [ hw]); first | exact ghk | exact ghk0
    · simp only [go_sem, Int.reduceToNat, Int.reduceLE, Int.reduceLT, Nat.reduceBEq, Nat.reduceLT, Nat.reduceAdd, Nat.reduceLeDiff, hy]
      refine hK _ _ ((a, (a + b) / 2)) (bs_hi hs hv hx (by omega) (by omega) hy) (by first | omega | (simp only []; omega) | (simp; omega)) ?_; (try dsimp only); (try simp only [ hw]); first | exact ghk | exact ghk0
  · have hlt : ¬ ((a : Int) < (b : Int)) := by omega
    obtain rfl : a = b := by omega
    by_cases hb : a < l.length
    · obtain ⟨y, hx⟩ := get_ex hb
      have hb' : ((a : Int) < (l.length : Int)) := by omega
      have hc := bs_end hs hv hx
      by_cases hy : y = x
      · have hy' : (y == x) = true := by simpa using hy
        simp only [go_sem, Int.reduceToNat, Int.reduceLE, Int.reduceLT, Nat.reduceBEq, Nat.reduceLT, Nat.reduceAdd, Nat.reduceLeDiff, hlt, hE, hb', hx, Ahl.encI, hy']
        first | exact rtl (.any) (.bool true) ⟨by rw [hc, decide_eq_true hy], rfl⟩ | exact rtl0 (.any) (.bool true) ⟨by rw [hc, decide_eq_true hy], rfl⟩
      · have hy' : (y == x) = false := by simpa using hy
        simp only [go_sem, Int.reduceToNat, Int.reduceLE, Int.reduceLT, Nat.reduceBEq, Nat.reduceLT, Nat.reduceAdd, Nat.reduceLeDiff, hlt, hE, hb', hx, Ahl.encI, hy']
        refine (sNaN_spec y σ).is ?_
        simp only [go_sem, Int.reduceToNat, Int.reduceLE, Int.reduceLT, Nat.reduceBEq, Nat.reduceLT, Nat.reduceAdd, Nat.reduceLeDiff]
        first | exact rtl (.any) (.bool false) ⟨by rw [hc, decide_eq_false hy], rfl⟩ | exact rtl0 (.any) (.bool false) ⟨by rw [hc, decide_eq_false hy], rfl⟩
    · obtain rfl : a = l.length := by omega
      simp only [go_sem, Int.reduceToNat, Int.reduceLE, Int.reduceLT, Nat.reduceBEq, Nat.reduceLT, Nat.reduceAdd, Nat.reduceLeDiff, hlt, hE]
      first | exact rtl (.any) (.bool false) ⟨by rw [bs_out hv], rfl⟩ | exact rtl0 (.any) (.bool false) ⟨by rw [bs_out hv], rfl⟩
def c_shas : CCode := .seq (.ops [⟨some 4, .move (.lit (.bool false)), none, []⟩]) (.seq (.ops [⟨some 8, .move (.tmp 0), none, []⟩, ⟨some 9, .move (.tmp 1), none, []⟩, ⟨some 10, .call (.lit (.func 91 [])) [.tmp 8, .tmp 9], none, []⟩, ⟨some 7, .move (.tmp 10), none, []⟩, ⟨some 11, .extract (.tmp 7) 0, none, []⟩, ⟨some 12, .extract (.tmp 7) 1, none, []⟩, ⟨some 5, .move (.tmp 11), none, []⟩, ⟨some 6, .move (.tmp 12), none, []⟩]) (.seq (.ops [⟨some 13, .move (.tmp 6), none, []⟩, ⟨some 4, .move (.tmp 13), none, []⟩]) .ret))
set_option maxRecDepth 20000 in
theorem shas_spec (l : List Int) (x : Int) (tok : Tok) (σ : Store) (hl : l.length ≤ 140737488355328) (hs : l.Pairwise (· < ·)) :
    ACalls Tryz.prog 76 [.slice tok (l.map Ahl.encI), .int .i64 x] σ (isR (.bool (l.contains x)) σ) := by
  refine ACalls.intro (rs := [(.tmp 4)]) (by kernel_rfl) { own := [], ghosts := [] } Tryz.func76 (c := Tryz.f76.body.getD .skip) (by kernel_rfl) (by decide) (by rw [show Tryz.f76.ntmps = 14 by kernel_rfl]; exact Nat.le_of_ble_eq_true rfl) (by kernel_rfl) ?_
  intro hσ hids
  rw [show comp Tryz.prog { own := [], ghosts := [] } (Tryz.f76.body.getD .skip) = c_shas by kernel_rfl, show Tryz.f76.ntmps = 14 by kernel_rfl]
  unfold c_shas
  simp only [go_sem, Int.reduceToNat, Int.reduceLE, Int.reduceLT, Nat.reduceBEq, Nat.reduceLT, Nat.reduceAdd, Nat.reduceLeDiff]
  refine (bsearch_spec l x tok σ hl hs).is ?_
  simp only [go_sem, Int.reduceToNat, Int.reduceLE, Int.reduceLT, Nat.reduceBEq, Nat.reduceLT, Nat.reduceAdd, Nat.reduceLeDiff]
  first | exact rtw (v := .bool _) wkS ⟨rfl, rfl⟩ | exact rtw0 (v := .bool _) wkS ⟨rfl, rfl⟩
def d_sTrue1_0 : List COp := [⟨some 4, .load none (.tmp 1), none, []⟩, ⟨some 5, .faddr 0 (.tmp 2), none, []⟩, ⟨some 6, .load none (.tmp 5), none, [1]⟩, ⟨some 7, .call (.lit (.func 76 [])) [.tmp 4, .tmp 6], none, [0, 2]⟩, ⟨some 8, .faddr 1 (.tmp 2), none, []⟩, ⟨some 9, .load none (.tmp 8), none, [4]⟩, ⟨some 10, .bin .eql .bool (.tmp 7) (.tmp 9), none, [3, 5]⟩, ⟨some 3, .move (.tmp 10), none, [6, 3, 0, 1, 2, 3, 4, 5, 6]⟩]
theorem dr_sTrue1_0 (P : Program) (nt n0 : Nat) (Q : Post) (s : Slots) (σ : Store) : wpc P nt n0 (.draw d_sTrue1_0) Q s σ = aOpsD P nt [⟨some 4, .load none (.tmp 1), none, []⟩, ⟨some 5, .faddr 0 (.tmp 2), none, []⟩, ⟨some 6, .load none (.tmp 5), none, [1]⟩, ⟨some 7, .call (.lit (.func 76 [])) [.tmp 4, .tmp 6], none, [0, 2]⟩, ⟨some 8, .faddr 1 (.tmp 2), none, []⟩, ⟨some 9, .load none (.tmp 8), none, [4]⟩, ⟨some 10, .bin .eql .bool (.tmp 7) (.tmp 9), none, [3, 5]⟩, ⟨some 3, .move (.tmp 10), none, [6, 3, 0, 1, 2, 3, 4, 5, 6]⟩] (Q .normal) s σ := wpc_draw _ (by decide)
def c_sTrue1 : CCode := .seq (.ops [⟨some 2, .box (.tmp 0), none, []⟩, ⟨some 3, .move (.lit (.bool false)), none, []⟩]) (.seq (.draw d_sTrue1_0) .ret)
set_option maxRecDepth 20000 in
theorem sTrue1_spec (s : List Int) (x : FLit) (tok : Tok) (V : Nat) (σ : Store) (hl : s.length ≤ 140737488355328) (hs : s.Pairwise (· < ·)) (hV : σ[V]? = some (.row [.slice tok (s.map Ahl.encI)])) :
    ACalls Tryz.prog 75 [.agg (encLit x), .ptr V 0] σ (isR (.bool (s.contains x.fact == x.neg)) σ) := by
  refine ACalls.intro (rs := [(.tmp 3)]) (by kernel_rfl) { own := [], ghosts := [] } Tryz.func75 (c := Tryz.f75.body.getD .skip) (by kernel_rfl) (by decide) (by rw [show Tryz.f75.ntmps = 11 by kernel_rfl]; exact Nat.le_of_ble_eq_true rfl) (by kernel_rfl) ?_
  intro hσ hids
  rw [show comp Tryz.prog { own := [], ghosts := [] } (Tryz.f75.body.getD .skip) = c_sTrue1 by kernel_rfl, show Tryz.f75.ntmps = 11 by kernel_rfl]
  unfold c_sTrue1
  have hV' : ∀ l, (σ ++ l)[V]? = some (.row [.slice tok (s.map Ahl.encI)]) := fun l => by rw [List.getElem?_append_left (lt_of_get hV)]; exact hV
  simp only [go_sem, Int.reduceToNat, Int.reduceLE, Int.reduceLT, Nat.reduceBEq, Nat.reduceLT, Nat.reduceAdd, Nat.reduceLeDiff, dr_sTrue1_0, encLit, hV']
  refine ⟨_, shas_spec s x.fact tok _ hl hs, ?_⟩
  simp only [go_sem, Int.reduceToNat, Int.reduceLE, Int.reduceLT, Nat.reduceBEq, Nat.reduceLT, Nat.reduceAdd, Nat.reduceLeDiff, dr_sTrue1_0, encLit]
  first | exact rtw (v := .bool _) wkS ⟨rfl, rfl⟩ | exact rtw0 (v := .bool _) wkS ⟨rfl, rfl⟩
theorem condHolds_any (s : List Int) (l : List FLit) : (!(l.any fun x => s.contains x.fact == x.neg)) = condHolds s l := by
  unfold condHolds
  induction l with
  | nil => rfl
  | cons x l ih => rw [List.any_cons, List.all_cons, ← ih, Bool.not_or]; rfl
def c_sTrue : CCode := .seq (.ops [⟨some 2, .box (.tmp 0), none, []⟩, ⟨some 4, .move (.lit (.bool false)), none, []⟩]) (.seq (.ops [⟨some 5, .move (.tmp 1), none, []⟩, ⟨some 6, .mkfunc 75 [.tmp 2], none, []⟩, ⟨some 7, .call (.lit (.func 73 [])) [.tmp 5, .tmp 6], none, []⟩, ⟨some 8, .un .not (.tmp 7), none, []⟩, ⟨some 4, .move (.tmp 8), none, []⟩]) .ret)
set_option maxRecDepth 20000 in
theorem sTrue_spec (s : List Int) (l : List FLit) (tok tok' : Tok) (σ : Store) (hl : s.length ≤ 140737488355328) (hs : s.Pairwise (· < ·)) (hll : l.length ≤ 140737488355328) :
    ACalls Tryz.prog 53 [.slice tok (s.map Ahl.encI), .slice tok' (l.map encLit)] σ (isR (.bool (condHolds s l)) σ) := by
  refine ACalls.intro (rs := [(.tmp 4)]) (by kernel_rfl) { own := [], ghosts := [] } Tryz.func53 (c := Tryz.f53.body.getD .skip) (by kernel_rfl) (by decide) (by rw [show Tryz.f53.ntmps = 9 by kernel_rfl]; exact Nat.le_of_ble_eq_true rfl) (by kernel_rfl) ?_
  intro hσ hids
  rw [show comp Tryz.prog { own := [], ghosts := [] } (Tryz.f53.body.getD .skip) = c_sTrue by kernel_rfl, show Tryz.f53.ntmps = 9 by kernel_rfl]
  unfold c_sTrue
  simp only [go_sem, Int.reduceToNat, Int.reduceLE, Int.reduceLT, Nat.reduceBEq, Nat.reduceLT, Nat.reduceAdd, Nat.reduceLeDiff]
  refine (containsFuncL_spec l _ _ (fun x => s.contains x.fact == x.neg) tok' _ hll (fun x _ => sTrue1_spec s x tok _ _ hl hs (by simp))).is ?_
  simp only [go_sem, Int.reduceToNat, Int.reduceLE, Int.reduceLT, Nat.reduceBEq, Nat.reduceLT, Nat.reduceAdd, Nat.reduceLeDiff]
  first | exact rtw (v := .bool _) wkS ⟨by rw [condHolds_any], rfl⟩ | exact rtw0 (v := .bool _) wkS ⟨by rw [condHolds_any], rfl⟩
def c_rTrue1 : CCode := .seq (.ops [⟨some 3, .move (.lit (.bool false)), none, []⟩]) (.seq (.ops [⟨some 4, .load none (.tmp 1), none, []⟩, ⟨some 5, .move (.tmp 0), none, []⟩, ⟨some 6, .call (.lit (.func 53 [])) [.tmp 4, .tmp 5], none, []⟩, ⟨some 3, .move (.tmp 6), none, []⟩]) .ret)
set_option maxRecDepth 20000 in
theorem rTrue1_spec (s : List Int) (l : List FLit) (tok : Tok) (V : Nat) (σ : Store) (hl : s.length ≤ 140737488355328) (hs : s.Pairwise (· < ·)) (hll : l.length ≤ 140737488355328) (hV : σ[V]? = some (.row [.slice tok (s.map Ahl.encI)])) :
    ACalls Tryz.prog 52 [.slice .unk (l.map encLit), .ptr V 0] σ (isR (.bool (condHolds s l)) σ) := by
  refine ACalls.intro (rs := [(.tmp 3)]) (by kernel_rfl) { own := [], ghosts := [] } Tryz.func52 (c := Tryz.f52.body.getD .skip) (by kernel_rfl) (by decide) (by rw [show Tryz.f52.ntmps = 7 by kernel_rfl]; exact Nat.le_of_ble_eq_true rfl) (by kernel_rfl) ?_
  intro hσ hids
  rw [show comp Tryz.prog { own := [], ghosts := [] } (Tryz.f52.body.getD .skip) = c_rTrue1 by kernel_rfl, show Tryz.f52.ntmps = 7 by kernel_rfl]
  unfold c_rTrue1
  simp only [go_sem, Int.reduceToNat, Int.reduceLE, Int.reduceLT, Nat.reduceBEq, Nat.reduceLT, Nat.reduceAdd, Nat.reduceLeDiff, hV]
  refine (sTrue_spec s l tok .unk _ hl hs hll).is ?_
  simp only [go_sem, Int.reduceToNat, Int.reduceLE, Int.reduceLT, Nat.reduceBEq, Nat.reduceLT, Nat.reduceAdd, Nat.reduceLeDiff]
  first | exact rtw (v := .bool _) wkS ⟨rfl, rfl⟩ | exact rtw0 (v := .bool _) wkS ⟨rfl, rfl⟩
def c_rTrue : CCode := .seq (.ops [⟨some 2, .box (.tmp 0), none, []⟩, ⟨some 4, .move (.lit (.bool false)), none, []⟩]) (.seq (.ops [⟨some 5, .move (.tmp 1), none, []⟩, ⟨some 6, .mkfunc 52 [.tmp 2], none, []⟩, ⟨some 7, .call (.lit (.func 49 [])) [.tmp 5, .tmp 6], none, []⟩, ⟨some 4, .move (.tmp 7), none, []⟩]) .ret)
set_option maxRecDepth 20000 in
theorem rTrue_spec (s : List Int) (f : List (List FLit)) (tok tok' : Tok) (σ : Store) (hl : s.length ≤ 140737488355328) (hs : s.Pairwise (· < ·)) (hf : FB f) :
    ACalls Tryz.prog 27 [.slice tok (s.map Ahl.encI), .slice tok' (f.map encC)] σ (isR (.bool (formHolds s f)) σ) := by
  refine ACalls.intro (rs := [(.tmp 4)]) (by kernel_rfl) { own := [], ghosts := [] } Tryz.func27 (c := Tryz.f27.body.getD .skip) (by kernel_rfl) (by decide) (by rw [show Tryz.f27.ntmps = 8 by kernel_rfl]; exact Nat.le_of_ble_eq_true rfl) (by kernel_rfl) ?_
  intro hσ hids
  rw [show comp Tryz.prog { own := [], ghosts := [] } (Tryz.f27.body.getD .skip) = c_rTrue by kernel_rfl, show Tryz.f27.ntmps = 8 by kernel_rfl]
  unfold c_rTrue
  simp only [go_sem, Int.reduceToNat, Int.reduceLE, Int.reduceLT, Nat.reduceBEq, Nat.reduceLT, Nat.reduceAdd, Nat.reduceLeDiff]
  refine (containsFuncC_spec (fun l => .slice .unk (l.map encLit)) f _ [.ptr σ.length 0] (condHolds s) tok' (σ ++ [.row [.slice tok (s.map Ahl.encI)]]) hf.1 (fun l hm => rTrue1_spec s l tok σ.length _ hl hs (hf.2 l hm) (by rw [List.getElem?_append_right (Nat.le_refl _), Nat.sub_self]; rfl))).is ?_
  simp only [go_sem, Int.reduceToNat, Int.reduceLE, Int.reduceLT, Nat.reduceBEq, Nat.reduceLT, Nat.reduceAdd, Nat.reduceLeDiff]
  first | exact rtw (v := .bool _) wkS ⟨rfl, rfl⟩ | exact rtw0 (v := .bool _) wkS ⟨rfl, rfl⟩
/-- The error of a task and a state. -/
def stE (t : FTask) (s : List Int) : Int := if validB t then (if risingB t.facts.length (-1) s then 0 else 20) else 10
def c_sFine : CCode := .seq (.ops [⟨some 2, .box (.tmp 0), none, []⟩, ⟨some 4, .move (.lit (.int .i64 0)), none, []⟩]) (.seq (.seq (.ops [⟨some 5, .load (some 4) (.tmp 2), none, []⟩, ⟨some 6, .call (.lit (.func 35 [])) [.tmp 5], none, []⟩, ⟨some 7, .un .not (.tmp 6), none, []⟩]) (.cond (.tmp 7) (.seq (.ops [⟨some 4, .move (.lit (.int .i64 10)), none, []⟩]) .ret) .skip)) (.seq (.seq (.ops [⟨some 8, .faddr 0 (.tmp 2), none, []⟩, ⟨some 9, .load none (.tmp 8), none, []⟩, ⟨some 10, .blen 1 (.tmp 9), none, []⟩, ⟨some 11, .move (.tmp 1), none, []⟩, ⟨some 12, .call (.lit (.func 48 [])) [.tmp 10, .tmp 11], none, []⟩, ⟨some 13, .un .not (.tmp 12), none, []⟩]) (.cond (.tmp 13) (.seq (.ops [⟨some 4, .move (.lit (.int .i64 20)), none, []⟩]) .ret) .skip)) (.seq (.ops [⟨some 4, .move (.lit (.int .i64 0)), none, []⟩]) .ret)))
set_option maxRecDepth 20000 in
theorem sFine_spec (t : FTask) (s : List Int) (tok : Tok) (σ : Store) (ht : TB t) (hl : s.length ≤ 140737488355328) :
    ACalls Tryz.prog 25 [.agg (encTask t), .slice tok (s.map Ahl.encI)] σ (isR (.int .i64 (stE t s)) σ) := by
  refine ACalls.intro (rs := [(.tmp 4)]) (by kernel_rfl) { own := [], ghosts := [] } Tryz.func25 (c := Tryz.f25.body.getD .skip) (by kernel_rfl) (by decide) (by rw [show Tryz.f25.ntmps = 14 by kernel_rfl]; exact Nat.le_of_ble_eq_true rfl) (by kernel_rfl) ?_
  intro hσ hids
  rw [show comp Tryz.prog { own := [], ghosts := [] } (Tryz.f25.body.getD .skip) = c_sFine by kernel_rfl, show Tryz.f25.ntmps = 14 by kernel_rfl]
  unfold c_sFine
  simp only [go_sem, Int.reduceToNat, Int.reduceLE, Int.reduceLT, Nat.reduceBEq, Nat.reduceLT, Nat.reduceAdd, Nat.reduceLeDiff, encTask]
  refine (valid_spec t _ ht).is ?_
  cases h1 : validB t
  · simp only [go_sem, Int.reduceToNat, Int.reduceLE, Int.reduceLT, Nat.reduceBEq, Nat.reduceLT, Nat.reduceAdd, Nat.reduceLeDiff]
    first | exact rtk (.int .i64 10) ⟨by rw [stE, h1]; rfl, rfl⟩ | exact rtk0 (.int .i64 10) ⟨by rw [stE, h1]; rfl, rfl⟩
  simp only [go_sem, Int.reduceToNat, Int.reduceLE, Int.reduceLT, Nat.reduceBEq, Nat.reduceLT, Nat.reduceAdd, Nat.reduceLeDiff, encTask]
  refine (rising_spec s t.facts.length tok _ hl).is ?_
  cases h2 : risingB t.facts.length (-1) s
  · simp only [go_sem, Int.reduceToNat, Int.reduceLE, Int.reduceLT, Nat.reduceBEq, Nat.reduceLT, Nat.reduceAdd, Nat.reduceLeDiff]
    first | exact rtk (.int .i64 20) ⟨by rw [stE, h1, h2]; rfl, rfl⟩ | exact rtk0 (.int .i64 20) ⟨by rw [stE, h1, h2]; rfl, rfl⟩
  simp only [go_sem, Int.reduceToNat, Int.reduceLE, Int.reduceLT, Nat.reduceBEq, Nat.reduceLT, Nat.reduceAdd, Nat.reduceLeDiff]
  first | exact rtk (.int .i64 0) ⟨by rw [stE, h1, h2]; rfl, rfl⟩ | exact rtk0 (.int .i64 0) ⟨by rw [stE, h1, h2]; rfl, rfl⟩
/-- Whether a formula holds, and the error. -/
def rhR (t : FTask) (s : List Int) (f : List (List FLit)) : AV :=
  if stE t s = 0 then (if isForm t.facts.length f then .tuple [.bool (formHolds s f), .int .i64 0] else .tuple [.bool false, .int .i64 70]) else .tuple [.bool false, .int .i64 (stE t s)]
def c_rHolds : CCode := .seq (.ops [⟨some 3, .box (.tmp 0), none, []⟩, ⟨some 6, .move (.lit (.bool false)), none, []⟩, ⟨some 7, .move (.lit (.int .i64 0)), none, []⟩]) (.seq (.seq (.ops [⟨some 9, .load (some 4) (.tmp 3), none, []⟩, ⟨some 10, .move (.tmp 1), none, []⟩, ⟨some 11, .call (.lit (.func 25 [])) [.tmp 9, .tmp 10], none, []⟩, ⟨some 8, .move (.tmp 11), none, []⟩]) (.seq (.ops [⟨some 12, .move (.tmp 8), none, []⟩, ⟨some 13, .bin .neq .none (.tmp 12) (.lit (.int .i64 0)), none, []⟩]) (.cond (.tmp 13) (.seq (.ops [⟨some 14, .move (.tmp 8), none, []⟩, ⟨some 6, .move (.lit (.bool false)), none, []⟩, ⟨some 7, .move (.tmp 14), none, []⟩]) .ret) .skip))) (.seq (.seq (.ops [⟨some 15, .load (some 4) (.tmp 3), none, []⟩, ⟨some 16, .move (.tmp 2), none, []⟩, ⟨some 17, .call (.lit (.func 26 [])) [.tmp 15, .tmp 16], none, []⟩, ⟨some 18, .un .not (.tmp 17), none, []⟩]) (.cond (.tmp 18) (.seq (.ops [⟨some 6, .move (.lit (.bool false)), none, []⟩, ⟨some 7, .move (.lit (.int .i64 70)), none, []⟩]) .ret) .skip)) (.seq (.ops [⟨some 19, .move (.tmp 1), none, []⟩, ⟨some 20, .move (.tmp 2), none, []⟩, ⟨some 21, .call (.lit (.func 27 [])) [.tmp 19, .tmp 20], none, []⟩, ⟨some 6, .move (.tmp 21), none, []⟩, ⟨some 7, .move (.lit (.int .i64 0)), none, []⟩]) .ret)))
set_option maxRecDepth 20000 in
theorem rHolds_spec (t : FTask) (s : List Int) (f : List (List FLit)) (tok tok' : Tok) (σ : Store) (ht : TB t) (hl : s.length ≤ 140737488355328) (hf : FB f) :
    ACalls Tryz.prog 7 [.agg (encTask t), .slice tok (s.map Ahl.encI), .slice tok' (f.map encC)] σ (isR (rhR t s f) σ) := by
  refine ACalls.intro (rs := [(.tmp 6), (.tmp 7)]) (by kernel_rfl) { own := [], ghosts := [] } Tryz.func7 (c := Tryz.f7.body.getD .skip) (by kernel_rfl) (by decide) (by rw [show Tryz.f7.ntmps = 22 by kernel_rfl]; exact Nat.le_of_ble_eq_true rfl) (by kernel_rfl) ?_
  intro hσ hids
  rw [show comp Tryz.prog { own := [], ghosts := [] } (Tryz.f7.body.getD .skip) = c_rHolds by kernel_rfl, show Tryz.f7.ntmps = 22 by kernel_rfl]
  unfold c_rHolds
  simp only [go_sem, Int.reduceToNat, Int.reduceLE, Int.reduceLT, Nat.reduceBEq, Nat.reduceLT, Nat.reduceAdd, Nat.reduceLeDiff, encTask]
  refine (sFine_spec t s tok _ ht hl).is ?_
  by_cases h1 : stE t s = 0
  · rw [h1]
    simp only [go_sem, Int.reduceToNat, Int.reduceLE, Int.reduceLT, Nat.reduceBEq, Nat.reduceLT, Nat.reduceAdd, Nat.reduceLeDiff, encTask]
    refine (formula_spec t f tok' _ hf.1 hf.2).is ?_
    have hr : risingB t.facts.length (-1) s = true := by
      unfold stE at h1
      split at h1
      · split at h1
        · assumption
        · simp at h1
      · simp at h1
    cases h2 : isForm t.facts.length f
    · simp only [go_sem, Int.reduceToNat, Int.reduceLE, Int.reduceLT, Nat.reduceBEq, Nat.reduceLT, Nat.reduceAdd, Nat.reduceLeDiff]
      first | exact rtl (.bool false) (.int .i64 70) ⟨by rw [rhR, if_pos h1, h2]; rfl, rfl⟩ | exact rtl0 (.bool false) (.int .i64 70) ⟨by rw [rhR, if_pos h1, h2]; rfl, rfl⟩
    · simp only [go_sem, Int.reduceToNat, Int.reduceLE, Int.reduceLT, Nat.reduceBEq, Nat.reduceLT, Nat.reduceAdd, Nat.reduceLeDiff]
      refine (rTrue_spec s f tok tok' _ hl (rising_pw hr).1 hf).is ?_
      simp only [go_sem, Int.reduceToNat, Int.reduceLE, Int.reduceLT, Nat.reduceBEq, Nat.reduceLT, Nat.reduceAdd, Nat.reduceLeDiff]
      first | exact rtx (v := .bool _) (x := .int .i64 0) wkS wkS ⟨by rw [rhR, if_pos h1, h2, if_pos rfl], rfl⟩ | exact rtx0 (v := .bool _) (x := .int .i64 0) wkS wkS ⟨by rw [rhR, if_pos h1, h2, if_pos rfl], rfl⟩
  · have h1' : (stE t s != 0) = true := by simpa using h1
    simp only [go_sem, Int.reduceToNat, Int.reduceLE, Int.reduceLT, Nat.reduceBEq, Nat.reduceLT, Nat.reduceAdd, Nat.reduceLeDiff, h1']
    first | exact rtl (.bool false) (.int .i64 (stE t s)) ⟨by rw [rhR, if_neg h1], rfl⟩ | exact rtl0 (.bool false) (.int .i64 (stE t s)) ⟨by rw [rhR, if_neg h1], rfl⟩
end Go.Proofs.YtbnhijapbnfohaaGreat
namespace Go.Proofs.YtbnhijapbnfohaaGreat
open Go.Ahl Go.ChangeShapes Go.WideShapes Go.ChangeAt Go.RowKit
theorem fewB_one {t : FTask} {f : List (List FLit)} (h : fewB t [f] = true) : taskSize t ≤ 400 ∧ formSize f ≤ 2400 := by
  unfold fewB fewT at h
  simp only [Bool.and_eq_true, decide_eq_true_eq] at h
  obtain ⟨⟨h1, _⟩, h2⟩ := h
  exact ⟨h1, by simpa using h2⟩
theorem le_sum_mem : ∀ (l : List Nat) (x : Nat), x ∈ l → x ≤ l.sum
  | y :: l, x, h => by
    rcases List.mem_cons.1 h with rfl | h
    · simp
    · have := le_sum_mem l x h; simp; omega
theorem form_small {f : List (List FLit)} (h : formSize f ≤ 2400) : f.length ≤ 2400 ∧ ∀ l ∈ f, l.length ≤ 2400 := by
  unfold formSize at h
  refine ⟨by omega, fun l hl => ?_⟩
  have : l.length ≤ (f.map List.length).sum := le_sum_mem _ _ (List.mem_map_of_mem hl)
  omega
def c_law : CCode := .seq (.ops [⟨some 3, .box (.tmp 0), none, []⟩, ⟨some 6, .move (.lit (.bool false)), none, []⟩]) (.seq (.seq (.ops [⟨some 13, .load (some 4) (.tmp 3), none, []⟩, ⟨some 14, .move (.tmp 1), none, []⟩, ⟨some 15, .bslice 1 [.tmp 14] false, none, []⟩, ⟨some 16, .call (.lit (.func 5 [])) [.tmp 13, .tmp 15], none, []⟩, ⟨some 17, .un .not (.tmp 16), none, []⟩, ⟨some 18, .move (.tmp 17), none, []⟩, ⟨some 19, .move (.tmp 2), some (some 18, false), []⟩, ⟨some 20, .blen 1 (.tmp 19), some (some 18, false), []⟩, ⟨some 21, .bin .gtr .none (.tmp 20) (.lit (.int .i64 400)), some (some 18, false), []⟩, ⟨some 22, .pick (.tmp 18) (.lit (.bool true)) (.tmp 21), none, []⟩]) (.cond (.tmp 22) (.seq (.ops [⟨some 23, .call (.lit (.func 6 [])) [], none, []⟩, ⟨some 6, .move (.tmp 23), none, []⟩]) .ret) .skip)) (.seq (.ops [⟨some 25, .load (some 4) (.tmp 3), none, []⟩, ⟨some 26, .move (.tmp 2), none, []⟩, ⟨some 27, .move (.tmp 1), none, []⟩, ⟨some 28, .call (.lit (.func 7 [])) [.tmp 25, .tmp 26, .tmp 27], none, []⟩, ⟨some 24, .move (.tmp 28), none, []⟩, ⟨some 29, .extract (.tmp 24) 0, none, []⟩, ⟨some 30, .extract (.tmp 24) 1, none, []⟩, ⟨some 7, .move (.tmp 29), none, []⟩, ⟨some 8, .move (.tmp 30), none, []⟩]) (.seq (.ops [⟨some 32, .load (some 4) (.tmp 3), none, []⟩, ⟨some 33, .move (.tmp 1), none, []⟩, ⟨some 34, .call (.lit (.func 8 [])) [.tmp 32, .tmp 33], none, []⟩, ⟨some 31, .move (.tmp 34), none, []⟩, ⟨some 35, .extract (.tmp 31) 0, none, []⟩, ⟨some 36, .extract (.tmp 31) 1, none, []⟩, ⟨some 9, .move (.tmp 35), none, []⟩, ⟨some 10, .move (.tmp 36), none, []⟩]) (.seq (.ops [⟨some 37, .load (some 4) (.tmp 3), none, []⟩, ⟨some 38, .move (.tmp 1), none, []⟩, ⟨some 39, .bslice 1 [.tmp 38] false, none, []⟩, ⟨some 40, .call (.lit (.func 9 [])) [.tmp 37, .tmp 39], none, []⟩, ⟨some 11, .move (.tmp 40), none, []⟩]) (.seq (.ops [⟨some 12, .move (.lit (.slice .nil [])), none, []⟩]) (.seq (.seq (.ops [⟨some 41, .move (.tmp 11), none, []⟩, ⟨some 42, .bin .eql .none (.tmp 41) (.lit (.int .i64 0)), none, []⟩]) (.cond (.tmp 42) (.ops [⟨some 43, .move (.tmp 1), none, []⟩, ⟨some 44, .call (.lit (.func 10 [])) [.tmp 43], none, []⟩, ⟨some 12, .move (.tmp 44), none, []⟩]) .skip)) (.seq (.seq (.ops [⟨some 45, .load (some 4) (.tmp 3), none, []⟩, ⟨some 46, .move (.tmp 1), none, []⟩, ⟨some 47, .call (.lit (.func 11 [])) [.tmp 45, .tmp 46], none, []⟩, ⟨some 48, .move (.tmp 11), none, []⟩, ⟨some 49, .bin .neq .none (.tmp 47) (.tmp 48), none, []⟩, ⟨some 50, .move (.tmp 49), none, []⟩, ⟨some 51, .move (.tmp 10), some (some 50, false), []⟩, ⟨some 52, .move (.tmp 11), some (some 50, false), []⟩, ⟨some 53, .bin .neq .none (.tmp 51) (.tmp 52), some (some 50, false), []⟩, ⟨some 54, .pick (.tmp 50) (.lit (.bool true)) (.tmp 53), none, []⟩, ⟨some 55, .move (.tmp 54), none, []⟩, ⟨some 56, .move (.tmp 9), some (some 55, false), []⟩, ⟨some 57, .move (.tmp 12), some (some 55, false), []⟩, ⟨some 58, .call (.lit (.func 12 [])) [.tmp 56, .tmp 57], some (some 55, false), []⟩, ⟨some 59, .un .not (.tmp 58), some (some 55, false), []⟩, ⟨some 60, .pick (.tmp 55) (.lit (.bool true)) (.tmp 59), none, []⟩]) (.cond (.tmp 60) (.seq (.ops [⟨some 6, .move (.lit (.bool false)), none, []⟩]) .ret) .skip)) (.seq (.seq (.ops [⟨some 61, .move (.tmp 11), none, []⟩, ⟨some 62, .bin .neq .none (.tmp 61) (.lit (.int .i64 10)), none, []⟩, ⟨some 63, .move (.tmp 62), none, []⟩, ⟨some 64, .load (some 4) (.tmp 3), some (some 63, true), []⟩, ⟨some 65, .move (.tmp 2), some (some 63, true), []⟩, ⟨some 66, .call (.lit (.func 13 [])) [.tmp 64, .tmp 65], some (some 63, true), []⟩, ⟨some 67, .un .not (.tmp 66), some (some 63, true), []⟩, ⟨some 68, .pick (.tmp 63) (.tmp 67) (.lit (.bool false)), none, []⟩]) (.cond (.tmp 68) (.seq (.ops [⟨some 69, .move (.tmp 8), none, []⟩, ⟨some 70, .bin .eql .none (.tmp 69) (.lit (.int .i64 20)), none, []⟩, ⟨some 71, .move (.tmp 70), none, []⟩, ⟨some 72, .move (.tmp 7), some (some 71, true), []⟩, ⟨some 73, .un .not (.tmp 72), some (some 71, true), []⟩, ⟨some 74, .pick (.tmp 71) (.tmp 73) (.lit (.bool false)), none, []⟩, ⟨some 75, .move (.tmp 74), none, []⟩, ⟨some 76, .call (.lit (.func 6 [])) [], some (some 75, true), []⟩, ⟨some 77, .pick (.tmp 75) (.tmp 76) (.lit (.bool false)), none, []⟩, ⟨some 6, .move (.tmp 77), none, []⟩]) .ret) .skip)) (.seq (.ops [⟨some 78, .move (.tmp 8), none, []⟩, ⟨some 79, .move (.tmp 11), none, []⟩, ⟨some 80, .bin .eql .none (.tmp 78) (.tmp 79), none, []⟩, ⟨some 81, .move (.tmp 80), none, []⟩, ⟨some 82, .move (.tmp 7), some (some 81, true), []⟩, ⟨some 83, .move (.tmp 11), some (some 81, true), []⟩, ⟨some 84, .bin .eql .none (.tmp 83) (.lit (.int .i64 0)), some (some 81, true), []⟩, ⟨some 85, .move (.tmp 84), some (some 81, true), []⟩, ⟨some 86, .move (.tmp 2), some (some 85, true), []⟩, ⟨some 87, .move (.tmp 1), some (some 85, true), []⟩, ⟨some 88, .call (.lit (.func 14 [])) [.tmp 86, .tmp 87], some (some 85, true), []⟩, ⟨some 89, .pick (.tmp 85) (.tmp 88) (.lit (.bool false)), some (some 81, true), []⟩, ⟨some 90, .bin .eql .bool (.tmp 82) (.tmp 89), some (some 81, true), []⟩, ⟨some 91, .pick (.tmp 81) (.tmp 90) (.lit (.bool false)), none, []⟩, ⟨some 92, .move (.tmp 91), none, []⟩, ⟨some 93, .call (.lit (.func 6 [])) [], some (some 92, true), []⟩, ⟨some 94, .pick (.tmp 92) (.tmp 93) (.lit (.bool false)), none, []⟩, ⟨some 6, .move (.tmp 94), none, []⟩]) .ret)))))))))
set_option maxRecDepth 20000 in
set_option maxHeartbeats 1000000 in
theorem law_spec (t : FTask) (f : List (List FLit)) (s : List Int) (ht : TB t) (hf : FB f) (hs : okL okI s) (σ : Store) :
    ACalls Tryz.prog 3 [.agg (encTask t), .slice .unk (f.map encC), .slice .unk (s.map Ahl.encI)] σ (isR (.bool true) σ) := by
  refine ACalls.intro (rs := [(.tmp 6)]) (by kernel_rfl) { own := [], ghosts := [] } Tryz.func3 (c := Tryz.f3.body.getD .skip) (by kernel_rfl) (by decide) (by rw [show Tryz.f3.ntmps = 95 by kernel_rfl]; exact Nat.le_of_ble_eq_true rfl) (by kernel_rfl) ?_
  intro hσ hids
  rw [show comp Tryz.prog { own := [], ghosts := [] } (Tryz.f3.body.getD .skip) = c_law by kernel_rfl, show Tryz.f3.ntmps = 95 by kernel_rfl]
  unfold c_law
  have hfs : ∀ x ∈ [f], FB x := by intro x hx; simp at hx; subst hx; exact hf
  have hsl := hs.1
  simp only [go_sem, Int.reduceToNat, Int.reduceLE, Int.reduceLT, Nat.reduceBEq, Nat.reduceLT, Nat.reduceAdd, Nat.reduceLeDiff, encTask]
  refine ACalls.is (few_spec t [f] _ _ ht (by simp) hfs) ?_
  cases hfew : fewB t [f]
  · simp only [go_sem, Int.reduceToNat, Int.reduceLE, Int.reduceLT, Nat.reduceBEq, Nat.reduceLT, Nat.reduceAdd, Nat.reduceLeDiff]
    refine (awake_spec _).is ?_
    simp only [go_sem, Int.reduceToNat, Int.reduceLE, Int.reduceLT, Nat.reduceBEq, Nat.reduceLT, Nat.reduceAdd, Nat.reduceLeDiff]
    first | exact rtk (.bool true) ⟨rfl, rfl⟩ | exact rtk0 (.bool true) ⟨rfl, rfl⟩
  obtain ⟨hsz, hfz⟩ := fewB_one hfew
  obtain ⟨hf1, hf2⟩ := form_small hfz
  by_cases h60 : (s.length : Int) > 400
  · simp only [go_sem, Int.reduceToNat, Int.reduceLE, Int.reduceLT, Nat.reduceBEq, Nat.reduceLT, Nat.reduceAdd, Nat.reduceLeDiff, h60]
    refine (awake_spec _).is ?_
    simp only [go_sem, Int.reduceToNat, Int.reduceLE, Int.reduceLT, Nat.reduceBEq, Nat.reduceLT, Nat.reduceAdd, Nat.reduceLeDiff]
    first | exact rtk (.bool true) ⟨rfl, rfl⟩ | exact rtk0 (.bool true) ⟨rfl, rfl⟩
  simp only [go_sem, Int.reduceToNat, Int.reduceLE, Int.reduceLT, Nat.reduceBEq, Nat.reduceLT, Nat.reduceAdd, Nat.reduceLeDiff, h60, encTask]
  have hc : fineE t [f] = checkE t f := by
    simp only [fineE]; split <;> simp_all
  have hck : checkE t f = if validB t then (if isForm t.facts.length f then 0 else 70) else 10 := rfl
  have hflt := fault_spec t [f]
  rw [show (if validB t then (if [f].all (isForm t.facts.length) then (0 : Int) else 70) else 10) = checkE t f by rw [hck]; simp only [List.all_cons, List.all_nil, Bool.and_true]] at hflt
  cases h1 : validB t
  · have hw : checkE t f = 10 := by rw [hck, h1]; rfl
    have hst : stE t s = 10 := by rw [stE, h1]; rfl
    have hr : rhR t s f = .tuple [.bool false, .int .i64 10] := by rw [rhR, hst]; rfl
    refine (rHolds_spec t s f .unk .unk _ ht hsl hf).is ?_
    rw [hr]
    simp only [go_sem, Int.reduceToNat, Int.reduceLE, Int.reduceLT, Nat.reduceBEq, Nat.reduceLT, Nat.reduceAdd, Nat.reduceLeDiff, encTask]
    refine (Reduce_spec t f .unk _ ht hf).is ?_
    rw [hc, hw, retF_ne (by decide)]
    simp only [go_sem, Int.reduceToNat, Int.reduceLE, Int.reduceLT, Nat.reduceBEq, Nat.reduceLT, Nat.reduceAdd, Nat.reduceLeDiff, encTask]
    refine (hflt _ _ ht (by simp) hfs).is ?_
    rw [hw]
    simp only [go_sem, Int.reduceToNat, Int.reduceLE, Int.reduceLT, Nat.reduceBEq, Nat.reduceLT, Nat.reduceAdd, Nat.reduceLeDiff, encTask]
    refine (check07_spec t f .unk _ ht hf.1 hf.2).is ?_
    rw [hw]
    simp only [go_sem, Int.reduceToNat, Int.reduceLE, Int.reduceLT, Nat.reduceBEq, Nat.reduceLT, Nat.reduceAdd, Nat.reduceLeDiff]
    refine (same07_spec [] [] .nil .nil _ ⟨by simp, by simp⟩ ⟨by simp, by simp⟩).is ?_
    simp only [go_sem, Int.reduceToNat, Int.reduceLE, Int.reduceLT, Nat.reduceBEq, Nat.reduceLT, Nat.reduceAdd, Nat.reduceLeDiff, Int.reduceBEq, Int.reduceBNe]
    refine (awake_spec _).is ?_
    simp only [go_sem, Int.reduceToNat, Int.reduceLE, Int.reduceLT, Nat.reduceBEq, Nat.reduceLT, Nat.reduceAdd, Nat.reduceLeDiff]
    first | exact rtk (.bool true) ⟨rfl, rfl⟩ | exact rtk0 (.bool true) ⟨rfl, rfl⟩
  cases h2 : isForm t.facts.length f
  · have hw : checkE t f = 70 := by rw [hck, h1, h2]; rfl
    cases h3 : risingB t.facts.length (-1) s
    · have hst : stE t s = 20 := by rw [stE, h1, h3]; rfl
      have hr : rhR t s f = .tuple [.bool false, .int .i64 20] := by rw [rhR, hst]; rfl
      refine (rHolds_spec t s f .unk .unk _ ht hsl hf).is ?_
      rw [hr]
      simp only [go_sem, Int.reduceToNat, Int.reduceLE, Int.reduceLT, Nat.reduceBEq, Nat.reduceLT, Nat.reduceAdd, Nat.reduceLeDiff, encTask]
      refine (Reduce_spec t f .unk _ ht hf).is ?_
      rw [hc, hw, retF_ne (by decide)]
      simp only [go_sem, Int.reduceToNat, Int.reduceLE, Int.reduceLT, Nat.reduceBEq, Nat.reduceLT, Nat.reduceAdd, Nat.reduceLeDiff, encTask]
      refine (hflt _ _ ht (by simp) hfs).is ?_
      rw [hw]
      simp only [go_sem, Int.reduceToNat, Int.reduceLE, Int.reduceLT, Nat.reduceBEq, Nat.reduceLT, Nat.reduceAdd, Nat.reduceLeDiff, encTask]
      refine (check07_spec t f .unk _ ht hf.1 hf.2).is ?_
      rw [hw]
      simp only [go_sem, Int.reduceToNat, Int.reduceLE, Int.reduceLT, Nat.reduceBEq, Nat.reduceLT, Nat.reduceAdd, Nat.reduceLeDiff]
      refine (same07_spec [] [] .nil .nil _ ⟨by simp, by simp⟩ ⟨by simp, by simp⟩).is ?_
      simp only [go_sem, Int.reduceToNat, Int.reduceLE, Int.reduceLT, Nat.reduceBEq, Nat.reduceLT, Nat.reduceAdd, Nat.reduceLeDiff, encTask, Int.reduceBEq, Int.reduceBNe]
      refine (state02_spec t s .unk _ hsl).is ?_
      rw [h3]
      simp only [go_sem, Int.reduceToNat, Int.reduceLE, Int.reduceLT, Nat.reduceBEq, Nat.reduceLT, Nat.reduceAdd, Nat.reduceLeDiff, Int.reduceBEq, Int.reduceBNe]
      refine (awake_spec _).is ?_
      simp only [go_sem, Int.reduceToNat, Int.reduceLE, Int.reduceLT, Nat.reduceBEq, Nat.reduceLT, Nat.reduceAdd, Nat.reduceLeDiff]
      first | exact rtk (.bool true) ⟨rfl, rfl⟩ | exact rtk0 (.bool true) ⟨rfl, rfl⟩
    · have hst : stE t s = 0 := by rw [stE, h1, h3]; rfl
      have hr : rhR t s f = .tuple [.bool false, .int .i64 70] := by rw [rhR, hst, h2]; rfl
      refine (rHolds_spec t s f .unk .unk _ ht hsl hf).is ?_
      rw [hr]
      simp only [go_sem, Int.reduceToNat, Int.reduceLE, Int.reduceLT, Nat.reduceBEq, Nat.reduceLT, Nat.reduceAdd, Nat.reduceLeDiff, encTask]
      refine (Reduce_spec t f .unk _ ht hf).is ?_
      rw [hc, hw, retF_ne (by decide)]
      simp only [go_sem, Int.reduceToNat, Int.reduceLE, Int.reduceLT, Nat.reduceBEq, Nat.reduceLT, Nat.reduceAdd, Nat.reduceLeDiff, encTask]
      refine (hflt _ _ ht (by simp) hfs).is ?_
      rw [hw]
      simp only [go_sem, Int.reduceToNat, Int.reduceLE, Int.reduceLT, Nat.reduceBEq, Nat.reduceLT, Nat.reduceAdd, Nat.reduceLeDiff, encTask]
      refine (check07_spec t f .unk _ ht hf.1 hf.2).is ?_
      rw [hw]
      simp only [go_sem, Int.reduceToNat, Int.reduceLE, Int.reduceLT, Nat.reduceBEq, Nat.reduceLT, Nat.reduceAdd, Nat.reduceLeDiff]
      refine (same07_spec [] [] .nil .nil _ ⟨by simp, by simp⟩ ⟨by simp, by simp⟩).is ?_
      simp only [go_sem, Int.reduceToNat, Int.reduceLE, Int.reduceLT, Nat.reduceBEq, Nat.reduceLT, Nat.reduceAdd, Nat.reduceLeDiff, encTask, Int.reduceBEq, Int.reduceBNe]
      refine (state02_spec t s .unk _ hsl).is ?_
      rw [h3]
      simp only [go_sem, Int.reduceToNat, Int.reduceLE, Int.reduceLT, Nat.reduceBEq, Nat.reduceLT, Nat.reduceAdd, Nat.reduceLeDiff, Int.reduceBEq, Int.reduceBNe]
      refine (awake_spec _).is ?_
      simp only [go_sem, Int.reduceToNat, Int.reduceLE, Int.reduceLT, Nat.reduceBEq, Nat.reduceLT, Nat.reduceAdd, Nat.reduceLeDiff]
      first | exact rtk (.bool true) ⟨rfl, rfl⟩ | exact rtk0 (.bool true) ⟨rfl, rfl⟩
  · have hw : checkE t f = 0 := by rw [hck, h1, h2]; rfl
    have hv : vF t.facts.length f := by
      unfold isForm at h2
      simp only [Bool.and_eq_true] at h2
      exact fun l hl => List.all_eq_true.1 h2.2 l hl
    have hFB : FB (reducedL f) := by
      have hlen := reducedL_len f
      refine ⟨by omega, fun l hl => ?_⟩
      rcases condB_len (reducedL_V hv l hl) with rfl | h
      · simp
      · unfold taskSize at hsz; omega
    cases h3 : risingB t.facts.length (-1) s
    · have hst : stE t s = 20 := by rw [stE, h1, h3]; rfl
      have hr : rhR t s f = .tuple [.bool false, .int .i64 20] := by rw [rhR, hst]; rfl
      refine (rHolds_spec t s f .unk .unk _ ht hsl hf).is ?_
      rw [hr]
      simp only [go_sem, Int.reduceToNat, Int.reduceLE, Int.reduceLT, Nat.reduceBEq, Nat.reduceLT, Nat.reduceAdd, Nat.reduceLeDiff, encTask]
      refine (Reduce_spec t f .unk _ ht hf).is ?_
      rw [hc, hw, show retF 0 (some (reducedL f)) = .tuple [.slice .unk ((reducedL f).map encC), .int .i64 0] from rfl]
      simp only [go_sem, Int.reduceToNat, Int.reduceLE, Int.reduceLT, Nat.reduceBEq, Nat.reduceLT, Nat.reduceAdd, Nat.reduceLeDiff, encTask]
      refine (hflt _ _ ht (by simp) hfs).is ?_
      rw [hw]
      simp only [go_sem, Int.reduceToNat, Int.reduceLE, Int.reduceLT, Nat.reduceBEq, Nat.reduceLT, Nat.reduceAdd, Nat.reduceLeDiff, encTask]
      refine (reduce07_spec f .unk _ (by omega) (fun l hl => by have := hf2 l hl; omega)).is ?_
      rw [refRed_eq hv]
      simp only [go_sem, Int.reduceToNat, Int.reduceLE, Int.reduceLT, Nat.reduceBEq, Nat.reduceLT, Nat.reduceAdd, Nat.reduceLeDiff, encTask]
      refine (check07_spec t f .unk _ ht hf.1 hf.2).is ?_
      rw [hw]
      simp only [go_sem, Int.reduceToNat, Int.reduceLE, Int.reduceLT, Nat.reduceBEq, Nat.reduceLT, Nat.reduceAdd, Nat.reduceLeDiff]
      refine (same07_spec (reducedL f) (reducedL f) .unk .unk _ hFB hFB).is ?_
      simp only [go_sem, Int.reduceToNat, Int.reduceLE, Int.reduceLT, Nat.reduceBEq, Nat.reduceLT, Nat.reduceAdd, Nat.reduceLeDiff, encTask, Int.reduceBEq, Int.reduceBNe]
      refine (state02_spec t s .unk _ hsl).is ?_
      rw [h3]
      simp only [go_sem, Int.reduceToNat, Int.reduceLE, Int.reduceLT, Nat.reduceBEq, Nat.reduceLT, Nat.reduceAdd, Nat.reduceLeDiff, Int.reduceBEq, Int.reduceBNe]
      refine (awake_spec _).is ?_
      simp only [go_sem, Int.reduceToNat, Int.reduceLE, Int.reduceLT, Nat.reduceBEq, Nat.reduceLT, Nat.reduceAdd, Nat.reduceLeDiff]
      first | exact rtk (.bool true) ⟨rfl, rfl⟩ | exact rtk0 (.bool true) ⟨rfl, rfl⟩
    · have hst : stE t s = 0 := by rw [stE, h1, h3]; rfl
      have hr : rhR t s f = .tuple [.bool (formHolds s f), .int .i64 0] := by rw [rhR, hst, h2]; rfl
      refine (rHolds_spec t s f .unk .unk _ ht hsl hf).is ?_
      rw [hr]
      simp only [go_sem, Int.reduceToNat, Int.reduceLE, Int.reduceLT, Nat.reduceBEq, Nat.reduceLT, Nat.reduceAdd, Nat.reduceLeDiff, encTask]
      refine (Reduce_spec t f .unk _ ht hf).is ?_
      rw [hc, hw, show retF 0 (some (reducedL f)) = .tuple [.slice .unk ((reducedL f).map encC), .int .i64 0] from rfl]
      simp only [go_sem, Int.reduceToNat, Int.reduceLE, Int.reduceLT, Nat.reduceBEq, Nat.reduceLT, Nat.reduceAdd, Nat.reduceLeDiff, encTask]
      refine (hflt _ _ ht (by simp) hfs).is ?_
      rw [hw]
      simp only [go_sem, Int.reduceToNat, Int.reduceLE, Int.reduceLT, Nat.reduceBEq, Nat.reduceLT, Nat.reduceAdd, Nat.reduceLeDiff, encTask]
      refine (reduce07_spec f .unk _ (by omega) (fun l hl => by have := hf2 l hl; omega)).is ?_
      rw [refRed_eq hv]
      simp only [go_sem, Int.reduceToNat, Int.reduceLE, Int.reduceLT, Nat.reduceBEq, Nat.reduceLT, Nat.reduceAdd, Nat.reduceLeDiff, encTask]
      refine (check07_spec t f .unk _ ht hf.1 hf.2).is ?_
      rw [hw]
      simp only [go_sem, Int.reduceToNat, Int.reduceLE, Int.reduceLT, Nat.reduceBEq, Nat.reduceLT, Nat.reduceAdd, Nat.reduceLeDiff]
      refine (same07_spec (reducedL f) (reducedL f) .unk .unk _ hFB hFB).is ?_
      simp only [go_sem, Int.reduceToNat, Int.reduceLE, Int.reduceLT, Nat.reduceBEq, Nat.reduceLT, Nat.reduceAdd, Nat.reduceLeDiff, encTask, Int.reduceBEq, Int.reduceBNe]
      refine (state02_spec t s .unk _ hsl).is ?_
      rw [h3]
      simp only [go_sem, Int.reduceToNat, Int.reduceLE, Int.reduceLT, Nat.reduceBEq, Nat.reduceLT, Nat.reduceAdd, Nat.reduceLeDiff, Int.reduceBEq, Int.reduceBNe]
      refine (holds07_spec s f .unk .unk _ hsl hf.1 hf.2).is ?_
      have hh : (formHolds s f == formHolds s f) = true := beq_self_eq_true _
      simp only [go_sem, Int.reduceToNat, Int.reduceLE, Int.reduceLT, Nat.reduceBEq, Nat.reduceLT, Nat.reduceAdd, Nat.reduceLeDiff, hh]
      refine (awake_spec _).is ?_
      simp only [go_sem, Int.reduceToNat, Int.reduceLE, Int.reduceLT, Nat.reduceBEq, Nat.reduceLT, Nat.reduceAdd, Nat.reduceLeDiff]
      first | exact rtk (.bool true) ⟨rfl, rfl⟩ | exact rtk0 (.bool true) ⟨rfl, rfl⟩
theorem law_reads : ReadsAll Tryz.prog Tryz.f3.params.toList (fun avs => ACalls Tryz.prog 3 avs [] (isR (.bool true) [])) := by
  rw [show Tryz.f3.params.toList = [27, 28, 23] by kernel_rfl]
  exact .cons ra_task fun t ht => .cons ra_form fun f hf => .cons ra_ints fun l hl => .nil (law_spec t f l ht hf hl [])
set_option maxRecDepth 100000 in
theorem lifted (os : Os) (started : os.Started) (H : Type) (enc : TypeId × Value → H) :
    ReturnsInHanded {} Tryz.checked os 3 .any (Rows.regressFormsSpec.pre6 enc Tryz.prog Tryz.f3 Rows.regressFormsRow.domain false) (Rows.regressFormsSpec.post enc Tryz.prog Tryz.f3 false true false false) := by
  refine returnsInHanded_of_change_sized (C := Tryz.checked) own started (by kernel_rfl) Tryz.func3
    (ChangeSpec.witness6 (enc := enc) (C := Tryz.checked) false ⟨#[], #[.agg #[.slice none 0 0, .slice none 0 0, .slice none 0 0, .slice none 0 0], .slice none 0 0, .slice none 0 0], []⟩ 8 (by kernel_rfl) (by kernel_rfl) (by kernel_rfl) (by kernel_rfl)) ?_
  intro W base args ds gs before hval hW _ hsz _
  refine law_post (P := Tryz.prog) Tryz.func3 (by kernel_rfl) (by decide) rfl ?_ laidOut (rdble (by kernel_rfl)) (by kernel_rfl) Tryz.underlying4 law_reads hval hW hsz
  intro ds h
  rw [show Tryz.f3.params.size = 3 by kernel_rfl] at h
  match ds, h with
  | [a, b, c], _ => rfl
theorem holds : Rows.RegressFormsSaid :=
  OpenClaim.holds_of_wide 3 Tryz.f3 rfl rfl rfl rfl rfl rfl rfl ⟨rfl, rfl, rfl, rfl, rfl⟩ rfl rfl rfl rfl rfl (by kernel_rfl) Tryz.func3 (by kernel_rfl)
    (of_decide_eq_true (by kernel_rfl)) (by unfold Func.isWrapper; first | (rw [if_pos (by decide +kernel)]; kernel_rfl) | (rw [if_neg (by decide +kernel)]; exact ⟨rfl, rfl⟩))
    (fun os started H enc _ => lifted os started H enc)
end Go.Proofs.YtbnhijapbnfohaaGreat
