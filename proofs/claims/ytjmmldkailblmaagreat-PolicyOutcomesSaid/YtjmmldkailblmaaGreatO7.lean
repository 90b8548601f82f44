/- For any task, groups, state and number, the law PolicyOutcomes answers true. -/
import Derived.Test.YtjmmldkailblmaaGreatBase6
set_option linter.unusedVariables false
set_option linter.unusedSimpArgs false
namespace Go.Proofs.YtjmmldkailblmaaGreat
open Go.Ahl Go.ChangeShapes Go.WideShapes Go.ChangeAt Go.RowKit
def d_law_0 : List COp := [⟨some 78, .load (some 4) (.tmp 4), none, []⟩, ⟨some 79, .move (.tmp 1), none, []⟩, ⟨some 80, .move (.tmp 3), none, []⟩, ⟨some 81, .iaddr 1 (.tmp 79) (.tmp 80), none, [1, 2]⟩, ⟨some 82, .load none (.tmp 81), none, [3]⟩, ⟨some 83, .move (.tmp 2), none, []⟩, ⟨some 84, .call (.lit (.func 28 [])) [.tmp 78, .tmp 82, .tmp 83], none, [0, 4, 5]⟩, ⟨some 85, .un .not (.tmp 84), none, [6]⟩]
theorem dr_law_0 (P : Program) (nt n0 : Nat) (Q : Post) (s : Slots) (σ : Store) : wpc P nt n0 (.draw d_law_0) Q s σ = aOpsD P nt [⟨some 78, .load (some 4) (.tmp 4), none, []⟩, ⟨some 79, .move (.tmp 1), none, []⟩, ⟨some 80, .move (.tmp 3), none, []⟩, ⟨some 81, .iaddr 1 (.tmp 79) (.tmp 80), none, [1, 2]⟩, ⟨some 82, .load none (.tmp 81), none, [3]⟩, ⟨some 83, .move (.tmp 2), none, []⟩, ⟨some 84, .call (.lit (.func 28 [])) [.tmp 78, .tmp 82, .tmp 83], none, [0, 4, 5]⟩, ⟨some 85, .un .not (.tmp 84), none, [6]⟩] (Q .normal) s σ := wpc_draw _ (by decide)
def d_law_1 : List COp := [⟨some 100, .move (.tmp 11), none, []⟩, ⟨some 101, .bin .eql .none (.tmp 100) (.lit (.int .i64 0)), none, [0]⟩, ⟨some 102, .move (.tmp 101), none, [1]⟩, ⟨some 103, .move (.tmp 10), some (some 102, true), [2]⟩, ⟨some 104, .pick (.tmp 102) (.tmp 103) (.lit (.bool false)), none, [2, 3]⟩, ⟨some 105, .move (.tmp 104), none, [4, 2]⟩, ⟨some 106, .move (.tmp 9), some (some 105, true), [5]⟩, ⟨some 107, .load (some 4) (.tmp 4), some (some 105, true), [5]⟩, ⟨some 108, .move (.tmp 1), some (some 105, true), [5]⟩, ⟨some 109, .move (.tmp 3), some (some 105, true), [5]⟩, ⟨some 110, .iaddr 1 (.tmp 108) (.tmp 109), some (some 105, true), [8, 9, 5]⟩, ⟨some 111, .load none (.tmp 110), some (some 105, true), [10, 5]⟩, ⟨some 112, .move (.tmp 2), some (some 105, true), [5]⟩, ⟨some 113, .call (.lit (.func 29 [])) [.tmp 107, .tmp 111, .tmp 112], some (some 105, true), [7, 11, 12, 5, 5]⟩, ⟨some 114, .call (.lit (.func 22 [])) [.tmp 106, .tmp 113], some (some 105, true), [6, 13, 13, 5]⟩, ⟨some 115, .pick (.tmp 105) (.tmp 114) (.lit (.bool false)), none, [5, 14]⟩, ⟨some 116, .move (.tmp 115), none, [15, 14]⟩, ⟨some 117, .call (.lit (.func 10 [])) [], some (some 116, true), [16, 16]⟩, ⟨some 118, .pick (.tmp 116) (.tmp 117) (.lit (.bool false)), none, [16, 17]⟩, ⟨some 8, .move (.tmp 118), none, [18, 17, 0, 1, 2, 3, 4, 5, 6, 7, 8, 9, 10, 11, 12, 13, 14, 15, 16, 17, 18]⟩]
theorem dr_law_1 (P : Program) (nt n0 : Nat) (Q : Post) (s : Slots) (σ : Store) : wpc P nt n0 (.draw d_law_1) Q s σ = aOpsD P nt [⟨some 100, .move (.tmp 11), none, []⟩, ⟨some 101, .bin .eql .none (.tmp 100) (.lit (.int .i64 0)), none, [0]⟩, ⟨some 102, .move (.tmp 101), none, [1]⟩, ⟨some 103, .move (.tmp 10), some (some 102, true), [2]⟩, ⟨some 104, .pick (.tmp 102) (.tmp 103) (.lit (.bool false)), none, [2, 3]⟩, ⟨some 105, .move (.tmp 104), none, [4, 2]⟩, ⟨some 106, .move (.tmp 9), some (some 105, true), [5]⟩, ⟨some 107, .load (some 4) (.tmp 4), some (some 105, true), [5]⟩, ⟨some 108, .move (.tmp 1), some (some 105, true), [5]⟩, ⟨some 109, .move (.tmp 3), some (some 105, true), [5]⟩, ⟨some 110, .iaddr 1 (.tmp 108) (.tmp 109), some (some 105, true), [8, 9, 5]⟩, ⟨some 111, .load none (.tmp 110), some (some 105, true), [10, 5]⟩, ⟨some 112, .move (.tmp 2), some (some 105, true), [5]⟩, ⟨some 113, .call (.lit (.func 29 [])) [.tmp 107, .tmp 111, .tmp 112], some (some 105, true), [7, 11, 12, 5, 5]⟩, ⟨some 114, .call (.lit (.func 22 [])) [.tmp 106, .tmp 113], some (some 105, true), [6, 13, 13, 5]⟩, ⟨some 115, .pick (.tmp 105) (.tmp 114) (.lit (.bool false)), none, [5, 14]⟩, ⟨some 116, .move (.tmp 115), none, [15, 14]⟩, ⟨some 117, .call (.lit (.func 10 [])) [], some (some 116, true), [16, 16]⟩, ⟨some 118, .pick (.tmp 116) (.tmp 117) (.lit (.bool false)), none, [16, 17]⟩, ⟨some 8, .move (.tmp 118), none, [18, 17, 0, 1, 2, 3, 4, 5, 6, 7, 8, 9, 10, 11, 12, 13, 14, 15, 16, 17, 18]⟩] (Q .normal) s σ := wpc_draw _ (by decide)
attribute [local go_sem] dr_law_0 dr_law_1
def c_law : CCode := .seq (.ops [⟨some 4, .box (.tmp 0), none, []⟩, ⟨some 8, .move (.lit (.bool false)), none, []⟩]) (.seq (.seq (.ops [⟨some 14, .load (some 4) (.tmp 4), none, []⟩, ⟨some 15, .move (.tmp 1), none, []⟩, ⟨some 16, .call (.lit (.func 8 [])) [.tmp 14, .tmp 15], none, []⟩, ⟨some 17, .un .not (.tmp 16), none, []⟩, ⟨some 18, .move (.tmp 17), none, []⟩, ⟨some 19, .move (.tmp 2), some (some 18, false), []⟩, ⟨some 20, .blen 1 (.tmp 19), some (some 18, false), []⟩, ⟨some 21, .bin .gtr .none (.tmp 20) (.lit (.int .i64 300)), some (some 18, false), []⟩, ⟨some 22, .pick (.tmp 18) (.lit (.bool true)) (.tmp 21), none, []⟩]) (.cond (.tmp 22) (.seq (.ops [⟨some 23, .call (.lit (.func 10 [])) [], none, []⟩, ⟨some 8, .move (.tmp 23), none, []⟩]) .ret) .skip)) (.seq (.ops [⟨some 25, .load (some 4) (.tmp 4), none, []⟩, ⟨some 26, .move (.tmp 1), none, []⟩, ⟨some 27, .move (.tmp 2), none, []⟩, ⟨some 28, .move (.tmp 3), none, []⟩, ⟨some 29, .call (.lit (.func 26 [])) [.tmp 25, .tmp 26, .tmp 27, .tmp 28], none, []⟩, ⟨some 24, .move (.tmp 29), none, []⟩, ⟨some 30, .extract (.tmp 24) 0, none, []⟩, ⟨some 31, .extract (.tmp 24) 1, none, []⟩, ⟨some 32, .extract (.tmp 24) 2, none, []⟩, ⟨some 9, .move (.tmp 30), none, []⟩, ⟨some 10, .move (.tmp 31), none, []⟩, ⟨some 11, .move (.tmp 32), none, []⟩]) (.seq (.ops [⟨some 33, .load (some 4) (.tmp 4), none, []⟩, ⟨some 34, .move (.tmp 1), none, []⟩, ⟨some 35, .move (.tmp 2), none, []⟩, ⟨some 36, .call (.lit (.func 13 [])) [.tmp 33, .tmp 34, .tmp 35], none, []⟩, ⟨some 12, .move (.tmp 36), none, []⟩]) (.seq (.ops [⟨some 13, .move (.lit (.int .i64 10)), none, []⟩]) (.seq (.seq (.ops [⟨some 37, .move (.tmp 12), none, []⟩, ⟨some 38, .bin .neq .none (.tmp 37) (.lit (.int .i64 10)), none, []⟩]) (.cond (.tmp 38) (.ops [⟨some 39, .load (some 4) (.tmp 4), none, []⟩, ⟨some 40, .move (.tmp 1), none, []⟩, ⟨some 41, .faddr 1 (.tmp 4), none, []⟩, ⟨some 42, .load none (.tmp 41), none, []⟩, ⟨some 43, .call (.lit (.func 13 [])) [.tmp 39, .tmp 40, .tmp 42], none, []⟩, ⟨some 13, .move (.tmp 43), none, []⟩]) .skip)) (.seq (.seq (.ops [⟨some 44, .load (some 4) (.tmp 4), none, []⟩, ⟨some 45, .move (.tmp 1), none, []⟩, ⟨some 46, .call (.lit (.func 27 [])) [.tmp 44, .tmp 45], none, []⟩, ⟨some 47, .move (.tmp 13), none, []⟩, ⟨some 48, .bin .neq .none (.tmp 46) (.tmp 47), none, []⟩]) (.cond (.tmp 48) (.seq (.ops [⟨some 8, .move (.lit (.bool false)), none, []⟩]) .ret) .skip)) (.seq (.seq (.ops [⟨some 49, .move (.tmp 12), none, []⟩, ⟨some 50, .bin .eql .none (.tmp 49) (.lit (.int .i64 0)), none, []⟩, ⟨some 51, .move (.tmp 50), none, []⟩, ⟨some 52, .move (.tmp 3), some (some 51, true), []⟩, ⟨some 53, .bin .lss .none (.tmp 52) (.lit (.int .i64 0)), some (some 51, true), []⟩, ⟨some 54, .move (.tmp 53), some (some 51, true), []⟩, ⟨some 55, .move (.tmp 3), some (some 54, false), []⟩, ⟨some 56, .move (.tmp 1), some (some 54, false), []⟩, ⟨some 57, .blen 1 (.tmp 56), some (some 54, false), []⟩, ⟨some 58, .bin .geq .none (.tmp 55) (.tmp 57), some (some 54, false), []⟩, ⟨some 59, .pick (.tmp 54) (.lit (.bool true)) (.tmp 58), some (some 51, true), []⟩, ⟨some 60, .pick (.tmp 51) (.tmp 59) (.lit (.bool false)), none, []⟩]) (.cond (.tmp 60) (.ops [⟨some 12, .move (.lit (.int .i64 1)), none, []⟩]) .skip)) (.seq (.seq (.ops [⟨some 61, .move (.tmp 12), none, []⟩, ⟨some 62, .bin .neq .none (.tmp 61) (.lit (.int .i64 0)), none, []⟩]) (.cond (.tmp 62) (.seq (.ops [⟨some 63, .move (.tmp 11), none, []⟩, ⟨some 64, .move (.tmp 12), none, []⟩, ⟨some 65, .bin .eql .none (.tmp 63) (.tmp 64), none, []⟩, ⟨some 66, .move (.tmp 65), none, []⟩, ⟨some 67, .move (.tmp 10), some (some 66, true), []⟩, ⟨some 68, .un .not (.tmp 67), some (some 66, true), []⟩, ⟨some 69, .pick (.tmp 66) (.tmp 68) (.lit (.bool false)), none, []⟩, ⟨some 70, .move (.tmp 69), none, []⟩, ⟨some 71, .move (.tmp 9), some (some 70, true), []⟩, ⟨some 72, .blen 1 (.tmp 71), some (some 70, true), []⟩, ⟨some 73, .bin .eql .none (.tmp 72) (.lit (.int .i64 0)), some (some 70, true), []⟩, ⟨some 74, .pick (.tmp 70) (.tmp 73) (.lit (.bool false)), none, []⟩, ⟨some 75, .move (.tmp 74), none, []⟩, ⟨some 76, .call (.lit (.func 10 [])) [], some (some 75, true), []⟩, ⟨some 77, .pick (.tmp 75) (.tmp 76) (.lit (.bool false)), none, []⟩, ⟨some 8, .move (.tmp 77), none, []⟩]) .ret) .skip)) (.seq (.seq (.draw d_law_0) (.cond (.tmp 85) (.seq (.ops [⟨some 86, .move (.tmp 11), none, []⟩, ⟨some 87, .bin .eql .none (.tmp 86) (.lit (.int .i64 0)), none, []⟩, ⟨some 88, .move (.tmp 87), none, []⟩, ⟨some 89, .move (.tmp 10), some (some 88, true), []⟩, ⟨some 90, .un .not (.tmp 89), some (some 88, true), []⟩, ⟨some 91, .pick (.tmp 88) (.tmp 90) (.lit (.bool false)), none, []⟩, ⟨some 92, .move (.tmp 91), none, []⟩, ⟨some 93, .move (.tmp 9), some (some 92, true), []⟩, ⟨some 94, .blen 1 (.tmp 93), some (some 92, true), []⟩, ⟨some 95, .bin .eql .none (.tmp 94) (.lit (.int .i64 0)), some (some 92, true), []⟩, ⟨some 96, .pick (.tmp 92) (.tmp 95) (.lit (.bool false)), none, []⟩, ⟨some 97, .move (.tmp 96), none, []⟩, ⟨some 98, .call (.lit (.func 10 [])) [], some (some 97, true), []⟩, ⟨some 99, .pick (.tmp 97) (.tmp 98) (.lit (.bool false)), none, []⟩, ⟨some 8, .move (.tmp 99), none, []⟩]) .ret) .skip)) (.seq (.draw d_law_1) .ret))))))))))
set_option maxRecDepth 20000 in
set_option maxHeartbeats 1000000 in
theorem law_spec (t : FTask) (g : List (List Int)) (s : List Int) (k : Int) (ht : TB t) (hg : okL (okL okI) g) (hs : okL okI s) (σ : Store) :
    ACalls Tryz.prog 6 [.agg (encTask t), .slice .unk (g.map encL), .slice .unk (s.map Ahl.encI), .int .i64 k] σ (isR (.bool true) σ) := by
  refine ACalls.intro (rs := [(.tmp 8)]) (by kernel_rfl) { own := [], ghosts := [] } Tryz.func6 (c := Tryz.f6.body.getD .skip) (by kernel_rfl) (by decide) (by rw [show Tryz.f6.ntmps = 119 by kernel_rfl]; exact Nat.le_of_ble_eq_true rfl) (by kernel_rfl) ?_
  intro hσ hids
  rw [show comp Tryz.prog { own := [], ghosts := [] } (Tryz.f6.body.getD .skip) = c_law by kernel_rfl, show Tryz.f6.ntmps = 119 by kernel_rfl]
  unfold c_law
  have hs1 := hs.1
  simp only [go_sem, simprocAttr, encTask]
  refine ACalls.is (few16_spec t g _ _ ht ⟨hg.1, fun l hl => (hg.2 l hl).1⟩) ?_
  cases hfew : few16B t g
  · simp only [go_sem, simprocAttr]
    refine (awake16_spec _).is ?_
    simp only [go_sem, simprocAttr]
    first | exact rtk (.bool true) ⟨rfl, rfl⟩ | exact rtk0 (.bool true) ⟨rfl, rfl⟩
  obtain ⟨hsz, hgz, h7⟩ := few16_facts hfew
  have hLB := few16_LB hgz
  have hPB := few16_PB ht hsz
  by_cases hsl : ((s.length : Int) > 300)
  · simp only [go_sem, simprocAttr, hsl]
    refine (awake16_spec _).is ?_
    simp only [go_sem, simprocAttr]
    first | exact rtk (.bool true) ⟨rfl, rfl⟩ | exact rtk0 (.bool true) ⟨rfl, rfl⟩
  simp only [go_sem, simprocAttr, hsl, encTask]
  refine (pOutcomes_spec t g s k .unk .unk _ hPB hLB (by omega)).is ?_
  have e00 : ((0 : Int) == 0) = true := rfl
  have e11 : ((1 : Int) == 1) = true := rfl
  by_cases hgv : givE t g s = 0
  · obtain ⟨hv, hri, hch⟩ := givE_zero hgv
    obtain ⟨hSB, hEO, hfl⟩ := valid_SB hPB hv
    have hi := give_init g hv
    have hne : ((0 : Int) != 10) = true := rfl
    have hck : (askE t g != askE t g) = false := by simp
    have n10 : ((1 : Int) != 0) = true := rfl
    have n00 : ((0 : Int) != 0) = false := rfl
    by_cases hk0 : k < 0
    · rw [OutR, if_pos hgv, if_neg (by omega)]
      simp only [go_sem, simprocAttr, encTask]
      refine ACalls.is (fault16_spec t g s .unk .unk _ ht hLB (by omega)) ?_
      rw [hgv]
      simp only [go_sem, simprocAttr, encTask, hne]
      refine ACalls.is (fault16_spec t g t.init .unk .unk _ ht hLB (by have := ht.init; omega)) ?_
      rw [hi]
      simp only [go_sem, simprocAttr, encTask]
      refine ACalls.is (pcheck_spec t g .unk _ ht hLB) ?_
      simp only [go_sem, simprocAttr, hck, hk0, e00, e11, n10]
      refine (awake16_spec _).is ?_
      simp only [go_sem, simprocAttr]
      first | exact rtk (.bool true) ⟨rfl, rfl⟩ | exact rtk0 (.bool true) ⟨rfl, rfl⟩
    by_cases hk1 : k ≥ (g.length : Int)
    · rw [OutR, if_pos hgv, if_neg (by omega)]
      simp only [go_sem, simprocAttr, encTask]
      refine ACalls.is (fault16_spec t g s .unk .unk _ ht hLB (by omega)) ?_
      rw [hgv]
      simp only [go_sem, simprocAttr, encTask, hne]
      refine ACalls.is (fault16_spec t g t.init .unk .unk _ ht hLB (by have := ht.init; omega)) ?_
      rw [hi]
      simp only [go_sem, simprocAttr, encTask]
      refine ACalls.is (pcheck_spec t g .unk _ ht hLB) ?_
      simp only [go_sem, simprocAttr, hck, hk0, hk1, e00, e11, n10]
      refine (awake16_spec _).is ?_
      simp only [go_sem, simprocAttr]
      first | exact rtk (.bool true) ⟨rfl, rfl⟩ | exact rtk0 (.bool true) ⟨rfl, rfl⟩
    have hk2 : 0 ≤ k := by omega
    obtain ⟨l, hx⟩ := get_ex (show k.toNat < g.length by omega)
    have hlm := List.mem_of_getElem? hx
    obtain ⟨c1, c2, c3⟩ := choices_group hch hlm
    have hgd : g.getD k.toNat [] = l := by rw [List.getD_eq_getElem?_getD, hx]; rfl
    rw [OutR, if_pos hgv, if_pos ⟨by omega, by omega⟩, hgd]
    cases hap : appB t l s
    · rw [if_neg (by simp)]
      simp only [go_sem, simprocAttr, encTask]
      refine ACalls.is (fault16_spec t g s .unk .unk _ ht hLB (by omega)) ?_
      rw [hgv]
      simp only [go_sem, simprocAttr, encTask, hne]
      refine ACalls.is (fault16_spec t g t.init .unk .unk _ ht hLB (by have := ht.init; omega)) ?_
      rw [hi]
      simp only [go_sem, simprocAttr, encTask]
      refine ACalls.is (pcheck_spec t g .unk _ ht hLB) ?_
      simp only [go_sem, simprocAttr, hck, hk0, hk1, hk2, hx, encL, encTask, e00, n00]
      refine ⟨_, app16_spec t l s .unk .unk _ ht c1 c2 (by omega), ?_⟩
      rw [hap]
      simp only [go_sem, simprocAttr, e00]
      refine (awake16_spec _).is ?_
      simp only [go_sem, simprocAttr]
      first | exact rtk (.bool true) ⟨rfl, rfl⟩ | exact rtk0 (.bool true) ⟨rfl, rfl⟩
    · rw [if_pos rfl]
      have hOl : LB (outsL t l s) := by
        have hrs := outs_rising hEO hri c2
        have hnd : (outsL t l s).Nodup := (outs_strict t l s).imp fun {a b} q e => by subst e; exact absurd q (by unfold ltL; rw [cmpInts_refl]; omega)
        have h1 := nodup_sub_len hnd (m := statesL t.facts.length) (fun y hy => by
          obtain ⟨h1, h2⟩ := rising_pw (hrs y hy)
          exact statesL_all _ y h1 fun v hv => by have := h2 v hv; omega)
        rw [statesL_len] at h1
        have h2n : 2 ^ t.facts.length ≤ 128 := Nat.pow_le_pow_right (n := 2) (by omega) (h7 hv)
        refine ⟨by omega, fun y hy => ?_⟩
        rcases rising_len (hrs y hy) (by omega) with q | q
        · omega
        · rw [q]; simp
      simp only [go_sem, simprocAttr, encTask]
      refine ACalls.is (fault16_spec t g s .unk .unk _ ht hLB (by omega)) ?_
      rw [hgv]
      simp only [go_sem, simprocAttr, encTask, hne]
      refine ACalls.is (fault16_spec t g t.init .unk .unk _ ht hLB (by have := ht.init; omega)) ?_
      rw [hi]
      simp only [go_sem, simprocAttr, encTask]
      refine ACalls.is (pcheck_spec t g .unk _ ht hLB) ?_
      simp only [go_sem, simprocAttr, hck, hk0, hk1, hk2, hx, encL, encTask, e00, n00]
      refine ⟨_, app16_spec t l s .unk .unk _ ht c1 c2 (by omega), ?_⟩
      rw [hap]
      simp only [go_sem, simprocAttr, e00, hx, hk2, encL, encTask]
      refine ⟨_, outs16_spec t l s .unk .unk _ ht hSB hEO (by omega) (by have := hgz.2 l hlm; omega) c2 (whens16 hsz) hri, ?_⟩
      simp only [go_sem, simprocAttr]
      refine ⟨_, ACalls.wk (same16_spec (outsL t l s) (outsL t l s) .fresh .unk _ hOl hOl) (.cons (Wk.lf _ _) (.cons (.refl _) .nil)), ?_⟩
      rw [decide_eq_true rfl]
      simp only [go_sem, simprocAttr]
      refine ⟨_, awake16_spec _, ?_⟩
      simp only [go_sem, simprocAttr]
      first | exact rtk (.bool true) ⟨rfl, rfl⟩ | exact rtk0 (.bool true) ⟨rfl, rfl⟩
  · have hgf : (givE t g s == givE t g s) = true := beq_self_eq_true _
    have hg0 : (givE t g s == 0) = false := by simpa using hgv
    have hg0' : (givE t g s != 0) = true := by simpa using hgv
    rw [OutR, if_neg hgv]
    simp only [go_sem, simprocAttr, encTask]
    refine ACalls.is (fault16_spec t g s .unk .unk _ ht hLB (by omega)) ?_
    cases hv : validB t
    · have h10 : givE t g s = 10 := give_ten.2 hv
      have hne : (givE t g s != 10) = false := by rw [h10]; rfl
      have hk10 : (askE t g != 10) = false := by unfold askE; rw [hv]; rfl
      have e00 : ((0 : Int) == 0) = true := rfl
      simp only [go_sem, simprocAttr, hne, encTask]
      refine ACalls.is (pcheck_spec t g .unk _ ht hLB) ?_
      simp only [go_sem, simprocAttr, hk10, hg0, hg0', hgf, e00]
      refine (awake16_spec _).is ?_
      simp only [go_sem, simprocAttr]
      first | exact rtk (.bool true) ⟨rfl, rfl⟩ | exact rtk0 (.bool true) ⟨rfl, rfl⟩
    · have hne : (givE t g s != 10) = true := by
        have : givE t g s ≠ 10 := fun q => by rw [give_ten.1 q] at hv; simp at hv
        simpa using this
      have hck : (askE t g != askE t g) = false := by simp
      have e00 : ((0 : Int) == 0) = true := rfl
      simp only [go_sem, simprocAttr, hne, encTask]
      refine ACalls.is (fault16_spec t g t.init .unk .unk _ ht hLB (by have := ht.init; omega)) ?_
      rw [give_init g hv]
      simp only [go_sem, simprocAttr, encTask]
      refine ACalls.is (pcheck_spec t g .unk _ ht hLB) ?_
      simp only [go_sem, simprocAttr, hck, hg0, hg0', hgf, e00]
      refine (awake16_spec _).is ?_
      simp only [go_sem, simprocAttr]
      first | exact rtk (.bool true) ⟨rfl, rfl⟩ | exact rtk0 (.bool true) ⟨rfl, rfl⟩
theorem law_reads : ReadsAll Tryz.prog Tryz.f6.params.toList (fun avs => ACalls Tryz.prog 6 avs [] (isR (.bool true) [])) := by
  rw [show Tryz.f6.params.toList = [27, 28, 23, 3] by kernel_rfl]
  exact .cons ra_task fun t ht => .cons ra_intss fun g hg => .cons ra_ints fun s hs => .cons ra_int fun k hk => .nil (law_spec t g s k ht hg hs [])
set_option maxRecDepth 100000 in
theorem lifted (os : Os) (started : os.Started) (H : Type) (enc : TypeId × Value → H) :
    ReturnsInHanded {} Tryz.checked os 6 .any (Rows.policyOutcomesSpec.pre6 enc Tryz.prog Tryz.f6 Rows.policyOutcomesRow.domain false) (Rows.policyOutcomesSpec.post enc Tryz.prog Tryz.f6 false true false false) := by
  refine returnsInHanded_of_change_sized (C := Tryz.checked) own started (by kernel_rfl) Tryz.func6
    (ChangeSpec.witness6 (enc := enc) (C := Tryz.checked) false ⟨#[], #[.agg #[.slice none 0 0, .slice none 0 0, .slice none 0 0, .slice none 0 0], .slice none 0 0, .slice none 0 0, .int .i64 0], []⟩ 8 (by kernel_rfl) (by kernel_rfl) (by kernel_rfl) (by kernel_rfl)) ?_
  intro W base args ds gs before hval hW _ hsz _
  refine law_post (P := Tryz.prog) Tryz.func6 (by kernel_rfl) (by decide) rfl ?_ laidOut (rdble (by kernel_rfl)) (by kernel_rfl) Tryz.underlying4 law_reads hval hW hsz
  intro ds h
  rw [show Tryz.f6.params.size = 4 by kernel_rfl] at h
  match ds, h with
  | [a, b, c, d], _ => rfl
theorem holds : Rows.PolicyOutcomesSaid :=
  OpenClaim.holds_of_wide 6 Tryz.f6 rfl rfl rfl rfl rfl rfl rfl ⟨rfl, rfl, rfl, rfl, rfl⟩ rfl rfl rfl rfl rfl (by kernel_rfl) Tryz.func6 (by kernel_rfl)
    (of_decide_eq_true (by kernel_rfl)) (by unfold Func.isWrapper; first | (rw [if_pos (by decide +kernel)]; kernel_rfl) | (rw [if_neg (by decide +kernel)]; exact ⟨rfl, rfl⟩))
    (fun os started H enc _ => lifted os started H enc)
end Go.Proofs.YtjmmldkailblmaaGreat
