/- For any task, groups and state, the law PolicyOwn answers true. -/
import Derived.Test.YtjmmldkailblmaaGreatBase6
set_option linter.unusedVariables false
set_option linter.unusedSimpArgs false
namespace Go.Proofs.YtjmmldkailblmaaGreat
open Go.Ahl Go.ChangeShapes Go.WideShapes Go.ChangeAt Go.RowKit
theorem le_sum_of_mem {l : List Nat} {x : Nat} (h : x ∈ l) : x ≤ l.sum := le_sum16 h
theorem CB_of {t : FTask} (h : taskSize t ≤ 400) : CB t := by
 unfold taskSize at h
 refine ⟨by omega, by omega, by omega, by omega, fun a ha => ?_⟩
 have h1 := le_sum_of_mem (List.mem_map_of_mem (f := actSize) ha)
 have h2 : actSize a ≤ 400 := by omega
 unfold actSize whenSize at h2
 refine ⟨by omega, by omega, fun e he => ?_⟩
 have := le_sum_of_mem (List.mem_map_of_mem (f := fun e : FEff => e.when_.length) he)
 omega
theorem wk_ents (tok : Tok) (E : List FEnt) : Wk (.slice tok (E.map vE)) (.slice tok (E.map encEn)) := by
 refine Wk.slice tok ?_
 induction E with
 | nil => exact .nil
 | cons e E ih => exact .cons (.cons (Wk.unk _ _) (.cons (.refl _) .nil)) ih
theorem outR_wkn (t : FTask) (g : List (List Int)) (s : List Int) (hE : EOk t) (h7 : t.facts.length ≤ 7) (hs : risingB t.facts.length (-1) s = true) (hch : choicesB t g = true) (b : Bool) (e : Int) :
  ∀ l ∈ g, (outsL t l s).length ≤ 256 ∧ ∀ x ∈ outsL t l s, x.length ≤ 256 := fun l hl => by
 obtain ⟨c1, c2, c3⟩ := choices_group hch hl
 have hrs := outs_rising hE hs c2
 have hnd : (outsL t l s).Nodup := (outs_strict t l s).imp fun {a b} q e => by subst e; exact absurd q (by unfold ltL; rw [cmpInts_refl]; omega)
 have h1 := nodup_sub_len hnd (m := statesL t.facts.length) (fun y hy => by
  obtain ⟨h1, h2⟩ := rising_pw (hrs y hy)
  exact statesL_all _ y h1 fun v hv => by have := h2 v hv; omega)
 rw [statesL_len] at h1
 have h2n : 2 ^ t.facts.length ≤ 128 := Nat.pow_le_pow_right (n := 2) (by omega) h7
 refine ⟨by omega, fun y hy => ?_⟩
 rcases rising_len (hrs y hy) (by omega) with q | q
 ·omega
 ·rw [q]; simp
theorem outR_weak (t : FTask) (g : List (List Int)) (s : List Int) (hb : PB t) (h7 : validB t = true → t.facts.length ≤ 7) :
  ∃ b, WknT (OutR t g s 0) b ∧ ∃ (ls : List (List Int)) (k : Bool) (e : Int), (ls.length ≤ 256 ∧ ∀ x ∈ ls, x.length ≤ 256) ∧ b = .tuple [.wslice (ls.map wL), .bool k, .int .i64 e] := by
 have hnil : ∀ k e, ∃ b, WknT (.tuple [.slice .nil [], .bool k, .int .i64 e]) b ∧ ∃ (ls : List (List Int)) (k : Bool) (e : Int), (ls.length ≤ 256 ∧ ∀ x ∈ ls, x.length ≤ 256) ∧ b = .tuple [.wslice (ls.map wL), .bool k, .int .i64 e] := fun k e =>
  ⟨_, .three (.inl .nil) (.flat rfl) (.flat rfl), [], k, e, ⟨by simp, by simp⟩, rfl⟩
 unfold OutR
 by_cases hgv : givE t g s = 0
 ·rw [if_pos hgv]
  obtain ⟨hv, hri, hch⟩ := givE_zero hgv
  obtain ⟨hSB, hEO, hfl⟩ := valid_SB hb hv
  split
  ·rename_i hk
   split
   ·have hgm : g.getD (0 : Int).toNat [] ∈ g := by
     rw [List.getD_eq_getElem?_getD, List.getElem?_eq_getElem (by omega)]; exact List.getElem_mem _
    have := outR_wkn t g s hEO (h7 hv) hri hch true 0 _ hgm
    exact ⟨_, .three (.inl (wkn_lists _)) (.flat rfl) (.flat rfl), _, _, _, this, rfl⟩
   ·exact hnil _ _
  ·exact hnil _ _
 ·rw [if_neg hgv]; exact hnil _ _
def d_law_0 : List COp := [⟨some 114, .move (.tmp 25), none, []⟩, ⟨some 115, .move (.tmp 27), none, []⟩, ⟨some 116, .bin .sub .none (.tmp 115) (.lit (.int .i64 1)), none, [1]⟩, ⟨some 117, .iaddr 1 (.tmp 114) (.tmp 116), none, [0, 2]⟩, ⟨some 118, .load none (.tmp 117), none, [3]⟩, ⟨some 119, .move (.tmp 25), none, []⟩, ⟨some 120, .move (.tmp 27), none, []⟩, ⟨some 121, .iaddr 1 (.tmp 119) (.tmp 120), none, [5, 6]⟩, ⟨some 122, .load none (.tmp 121), none, [7]⟩, ⟨some 123, .call (.lit (.func 33 [])) [.tmp 118, .tmp 122], none, [4, 8]⟩, ⟨some 124, .un .not (.tmp 123), none, [9]⟩]
theorem dr_law_0 (P : Program) (nt n0 : Nat) (Q : Post) (s : Slots) (σ : Store) : wpc P nt n0 (.draw d_law_0) Q s σ = aOpsD P nt [⟨some 114, .move (.tmp 25), none, []⟩, ⟨some 115, .move (.tmp 27), none, []⟩, ⟨some 116, .bin .sub .none (.tmp 115) (.lit (.int .i64 1)), none, [1]⟩, ⟨some 117, .iaddr 1 (.tmp 114) (.tmp 116), none, [0, 2]⟩, ⟨some 118, .load none (.tmp 117), none, [3]⟩, ⟨some 119, .move (.tmp 25), none, []⟩, ⟨some 120, .move (.tmp 27), none, []⟩, ⟨some 121, .iaddr 1 (.tmp 119) (.tmp 120), none, [5, 6]⟩, ⟨some 122, .load none (.tmp 121), none, [7]⟩, ⟨some 123, .call (.lit (.func 33 [])) [.tmp 118, .tmp 122], none, [4, 8]⟩, ⟨some 124, .un .not (.tmp 123), none, [9]⟩] (Q .normal) s σ := wpc_draw _ (by decide)
attribute [local go_sem] dr_law_0
def c_law : CCode := .seq (.ops [⟨some 3, .box (.tmp 0), none, []⟩, ⟨some 6, .move (.lit (.bool false)), none, []⟩]) (.seq (.seq (.ops [⟨some 28, .load (some 4) (.tmp 3), none, []⟩, ⟨some 29, .move (.tmp 1), none, []⟩, ⟨some 30, .call (.lit (.func 8 [])) [.tmp 28, .tmp 29], none, []⟩, ⟨some 31, .un .not (.tmp 30), none, []⟩, ⟨some 32, .move (.tmp 31), none, []⟩, ⟨some 33, .move (.tmp 2), some (some 32, false), []⟩, ⟨some 34, .blen 1 (.tmp 33), some (some 32, false), []⟩, ⟨some 35, .bin .gtr .none (.tmp 34) (.lit (.int .i64 300)), some (some 32, false), []⟩, ⟨some 36, .pick (.tmp 32) (.lit (.bool true)) (.tmp 35), none, []⟩]) (.cond (.tmp 36) (.seq (.ops [⟨some 37, .call (.lit (.func 10 [])) [], none, []⟩, ⟨some 6, .move (.tmp 37), none, []⟩]) .ret) .skip)) (.seq (.ops [⟨some 38, .load (some 4) (.tmp 3), none, []⟩, ⟨some 39, .call (.lit (.func 30 [])) [.tmp 38], none, []⟩, ⟨some 40, .move (.tmp 2), none, []⟩, ⟨some 41, .bappend 1 8 (.lit (.slice .nil [])) (.tmp 40) false, none, []⟩, ⟨some 42, .move (.tmp 1), none, []⟩, ⟨some 43, .call (.lit (.func 31 [])) [.tmp 42], none, []⟩, ⟨some 7, .alloc (.agg [.slice .nil [], .slice .nil [], .slice .nil [], .slice .nil []]), none, []⟩, ⟨none, .store 4 (.tmp 7) (.tmp 39), none, []⟩, ⟨some 8, .move (.tmp 41), none, []⟩, ⟨some 9, .move (.tmp 43), none, []⟩]) (.seq (.ops [⟨some 45, .load (some 4) (.tmp 3), none, []⟩, ⟨some 46, .move (.tmp 1), none, []⟩, ⟨some 47, .move (.tmp 2), none, []⟩, ⟨some 48, .call (.lit (.func 26 [])) [.tmp 45, .tmp 46, .tmp 47, .lit (.int .i64 0)], none, []⟩, ⟨some 44, .move (.tmp 48), none, []⟩, ⟨some 49, .extract (.tmp 44) 0, none, []⟩, ⟨some 50, .extract (.tmp 44) 1, none, []⟩, ⟨some 51, .extract (.tmp 44) 2, none, []⟩, ⟨some 10, .move (.tmp 49), none, []⟩, ⟨some 11, .move (.tmp 50), none, []⟩, ⟨some 12, .move (.tmp 51), none, []⟩]) (.seq (.seq (.ops [⟨some 52, .move (.tmp 10), none, []⟩, ⟨some 53, .blen 1 (.tmp 52), none, []⟩, ⟨some 54, .move (.lit (.int .i64 0)), none, []⟩]) (.block 0 (.loop (.seq (.ops [⟨some 55, .bin .lss .none (.tmp 54) (.tmp 53), none, []⟩]) (.seq (.cond (.tmp 55) .skip (.exit 0)) (.seq (.block 1 (.seq (.ops [⟨some 56, .iaddr 1 (.tmp 52) (.tmp 54), none, []⟩, ⟨some 57, .load none (.tmp 56), none, []⟩, ⟨some 14, .move (.tmp 57), none, []⟩]) (.ops [⟨some 58, .move (.tmp 14), none, []⟩, ⟨some 59, .call (.lit (.func 32 [])) [.tmp 58], none, []⟩]))) (.ops [⟨some 60, .bin .add .none (.tmp 54) (.lit (.int .i64 1)), none, []⟩, ⟨some 54, .move (.tmp 60), none, []⟩]))))))) (.seq (.ops [⟨some 62, .load (some 4) (.tmp 3), none, []⟩, ⟨some 63, .move (.tmp 1), none, []⟩, ⟨some 64, .call (.lit (.func 18 [])) [.tmp 62, .tmp 63], none, []⟩, ⟨some 61, .move (.tmp 64), none, []⟩, ⟨some 65, .extract (.tmp 61) 0, none, []⟩, ⟨some 66, .extract (.tmp 61) 1, none, []⟩, ⟨some 15, .move (.tmp 65), none, []⟩, ⟨some 16, .move (.tmp 66), none, []⟩]) (.seq (.seq (.ops [⟨some 67, .move (.tmp 15), none, []⟩, ⟨some 68, .blen 1 (.tmp 67), none, []⟩, ⟨some 69, .move (.lit (.int .i64 0)), none, []⟩]) (.block 2 (.loop (.seq (.ops [⟨some 70, .bin .lss .none (.tmp 69) (.tmp 68), none, []⟩]) (.seq (.cond (.tmp 70) .skip (.exit 2)) (.seq (.block 3 (.seq (.ops [⟨some 71, .iaddr 2 (.tmp 67) (.tmp 69), none, []⟩, ⟨some 72, .load (some 2) (.tmp 71), none, []⟩, ⟨some 18, .alloc (.agg [.slice .nil [], .int .i64 0]), none, []⟩, ⟨none, .store 2 (.tmp 18) (.tmp 72), none, []⟩]) (.ops [⟨some 73, .faddr 0 (.tmp 18), none, []⟩, ⟨some 74, .load none (.tmp 73), none, []⟩, ⟨some 75, .call (.lit (.func 32 [])) [.tmp 74], none, []⟩]))) (.ops [⟨some 76, .bin .add .none (.tmp 69) (.lit (.int .i64 1)), none, []⟩, ⟨some 69, .move (.tmp 76), none, []⟩]))))))) (.seq (.ops [⟨some 78, .load (some 4) (.tmp 3), none, []⟩, ⟨some 79, .move (.tmp 1), none, []⟩, ⟨some 80, .call (.lit (.func 24 [])) [.tmp 78, .tmp 79], none, []⟩, ⟨some 77, .move (.tmp 80), none, []⟩, ⟨some 81, .extract (.tmp 77) 0, none, []⟩, ⟨some 82, .extract (.tmp 77) 1, none, []⟩, ⟨some 19, .move (.tmp 81), none, []⟩, ⟨some 20, .move (.tmp 82), none, []⟩]) (.seq (.seq (.ops [⟨some 83, .move (.tmp 19), none, []⟩, ⟨some 84, .blen 1 (.tmp 83), none, []⟩, ⟨some 85, .move (.lit (.int .i64 0)), none, []⟩]) (.block 4 (.loop (.seq (.ops [⟨some 86, .bin .lss .none (.tmp 85) (.tmp 84), none, []⟩]) (.seq (.cond (.tmp 86) .skip (.exit 4)) (.seq (.block 5 (.seq (.ops [⟨some 87, .iaddr 2 (.tmp 83) (.tmp 85), none, []⟩, ⟨some 88, .load (some 2) (.tmp 87), none, []⟩, ⟨some 22, .alloc (.agg [.slice .nil [], .int .i64 0]), none, []⟩, ⟨none, .store 2 (.tmp 22) (.tmp 88), none, []⟩]) (.ops [⟨some 89, .faddr 0 (.tmp 22), none, []⟩, ⟨some 90, .load none (.tmp 89), none, []⟩, ⟨some 91, .call (.lit (.func 32 [])) [.tmp 90], none, []⟩]))) (.ops [⟨some 92, .bin .add .none (.tmp 85) (.lit (.int .i64 1)), none, []⟩, ⟨some 85, .move (.tmp 92), none, []⟩]))))))) (.seq (.ops [⟨some 93, .load (some 4) (.tmp 3), none, []⟩, ⟨some 94, .move (.tmp 1), none, []⟩, ⟨some 95, .move (.tmp 2), none, []⟩, ⟨some 96, .call (.lit (.func 17 [])) [.tmp 93, .tmp 94, .tmp 95], none, []⟩]) (.seq (.ops [⟨some 98, .load (some 4) (.tmp 3), none, []⟩, ⟨some 99, .move (.tmp 1), none, []⟩, ⟨some 100, .call (.lit (.func 18 [])) [.tmp 98, .tmp 99], none, []⟩, ⟨some 97, .move (.tmp 100), none, []⟩, ⟨some 101, .extract (.tmp 97) 0, none, []⟩, ⟨some 102, .extract (.tmp 97) 1, none, []⟩, ⟨some 23, .move (.tmp 101), none, []⟩, ⟨some 24, .move (.tmp 102), none, []⟩]) (.seq (.ops [⟨some 104, .move (.tmp 23), none, []⟩, ⟨some 105, .call (.lit (.func 14 [])) [.tmp 104], none, []⟩, ⟨some 103, .move (.tmp 105), none, []⟩, ⟨some 106, .extract (.tmp 103) 0, none, []⟩, ⟨some 107, .extract (.tmp 103) 1, none, []⟩, ⟨some 25, .move (.tmp 106), none, []⟩, ⟨some 26, .move (.tmp 107), none, []⟩]) (.seq (.seq (.ops [⟨some 27, .move (.lit (.int .i64 1)), none, []⟩]) (.block 6 (.loop (.seq (.seq (.ops [⟨some 108, .move (.tmp 27), none, []⟩, ⟨some 109, .move (.tmp 25), none, []⟩, ⟨some 110, .blen 1 (.tmp 109), none, []⟩, ⟨some 111, .bin .lss .none (.tmp 108) (.tmp 110), none, []⟩]) (.cond (.tmp 111) .skip (.exit 6))) (.seq (.block 7 (.seq (.draw d_law_0) (.cond (.tmp 124) (.seq (.ops [⟨some 6, .move (.lit (.bool false)), none, []⟩]) .ret) .skip))) (.ops [⟨some 112, .move (.tmp 27), none, []⟩, ⟨some 113, .bin .add .none (.tmp 112) (.lit (.int .i64 1)), none, []⟩, ⟨some 27, .move (.tmp 113), none, []⟩])))))) (.seq (.ops [⟨some 125, .load (some 4) (.tmp 7), none, []⟩, ⟨some 126, .load (some 4) (.tmp 3), none, []⟩, ⟨some 127, .call (.lit (.func 34 [])) [.tmp 125, .tmp 126], none, []⟩, ⟨some 128, .move (.tmp 127), none, []⟩, ⟨some 129, .move (.tmp 8), some (some 128, true), []⟩, ⟨some 130, .move (.tmp 2), some (some 128, true), []⟩, ⟨some 131, .call (.lit (.func 23 [])) [.tmp 129, .tmp 130], some (some 128, true), []⟩, ⟨some 132, .pick (.tmp 128) (.tmp 131) (.lit (.bool false)), none, []⟩, ⟨some 133, .move (.tmp 132), none, []⟩, ⟨some 134, .move (.tmp 9), some (some 133, true), []⟩, ⟨some 135, .move (.tmp 1), some (some 133, true), []⟩, ⟨some 136, .call (.lit (.func 22 [])) [.tmp 134, .tmp 135], some (some 133, true), []⟩, ⟨some 137, .pick (.tmp 133) (.tmp 136) (.lit (.bool false)), none, []⟩, ⟨some 138, .move (.tmp 137), none, []⟩, ⟨some 139, .move (.tmp 16), some (some 138, true), []⟩, ⟨some 140, .move (.tmp 24), some (some 138, true), []⟩, ⟨some 141, .bin .eql .none (.tmp 139) (.tmp 140), some (some 138, true), []⟩, ⟨some 142, .pick (.tmp 138) (.tmp 141) (.lit (.bool false)), none, []⟩, ⟨some 143, .move (.tmp 142), none, []⟩, ⟨some 144, .move (.tmp 15), some (some 143, true), []⟩, ⟨some 145, .blen 1 (.tmp 144), some (some 143, true), []⟩, ⟨some 146, .move (.tmp 23), some (some 143, true), []⟩, ⟨some 147, .blen 1 (.tmp 146), some (some 143, true), []⟩, ⟨some 148, .bin .eql .none (.tmp 145) (.tmp 147), some (some 143, true), []⟩, ⟨some 149, .pick (.tmp 143) (.tmp 148) (.lit (.bool false)), none, []⟩, ⟨some 150, .move (.tmp 149), none, []⟩, ⟨some 151, .call (.lit (.func 10 [])) [], some (some 150, true), []⟩, ⟨some 152, .pick (.tmp 150) (.tmp 151) (.lit (.bool false)), none, []⟩, ⟨some 6, .move (.tmp 152), none, []⟩]) .ret)))))))))))))
set_option maxRecDepth 20000 in
set_option maxHeartbeats 4000000 in
theorem law_spec (t : FTask) (g : List (List Int)) (s : List Int) (ht : TB t) (hg : okL (okL okI) g) (hs : okL okI s) (σ : Store) :
  ACalls Tryz.prog 7 [.agg (encTask t), .slice .unk (g.map encL), .slice .unk (s.map Ahl.encI)] σ (isR (.bool true) σ) := by
 refine ACalls.intro (rs := [(.tmp 6)]) (by kernel_rfl) { own := [], ghosts := [] } Tryz.func7 (c := Tryz.f7.body.getD .skip) (by kernel_rfl) (by decide) (by rw [show Tryz.f7.ntmps = 153 by kernel_rfl]; exact Nat.le_of_ble_eq_true rfl) (by kernel_rfl) ?_
 intro hσ hids
 rw [show comp Tryz.prog { own := [], ghosts := [] } (Tryz.f7.body.getD .skip) = c_law by kernel_rfl, show Tryz.f7.ntmps = 153 by kernel_rfl]
 unfold c_law
 have hs1 := hs.1
 simp only [go_sem, simprocAttr, encTask]
 refine ACalls.is (few16_spec t g _ _ ht ⟨hg.1, fun l hl => (hg.2 l hl).1⟩) ?_
 cases hfew : few16B t g
 ·simp only [go_sem, simprocAttr]
  refine (awake16_spec _).is ?_
  simp only [go_sem, simprocAttr]
  first | exact rtk (.bool true) ⟨rfl, rfl⟩ | exact rtk0 (.bool true) ⟨rfl, rfl⟩
 obtain ⟨hsz, hgz, h7⟩ := few16_facts hfew
 have hLB := few16_LB hgz
 have hPB := few16_PB ht hsz
 have h8 : validB t = true → t.facts.length ≤ 8 := fun hv => by have := h7 hv; omega
 by_cases hsl : ((s.length : Int) > 300)
 ·simp only [go_sem, simprocAttr, hsl]
  refine (awake16_spec _).is ?_
  simp only [go_sem, simprocAttr]
  first | exact rtk (.bool true) ⟨rfl, rfl⟩ | exact rtk0 (.bool true) ⟨rfl, rfl⟩
 have hcb := CB_of (t := t) (by omega)
 have it : Ids 0 (.agg (encTask t)) := ids_agg (ids_encTask t)
 have ig : Ids 0 (.slice .unk (g.map encL)) := ids_map ids_encL g
 have is' : Ids 0 (.slice .unk (s.map Ahl.encI)) := ids_map ids_encI s
 have ut := unf_task t
 have ug : Unf (.slice .unk (g.map encL)) := .map unf_encL g
 have us : Unf (.slice .unk (s.map Ahl.encI)) := .map unf_encI s
 have a2 : ∀ x ∈ [AV.agg (encTask t), .slice .unk (g.map encL)], Ids 0 x := by intro x hx; simp at hx; rcases hx with rfl | rfl <;> assumption
 have a4 : ∀ x ∈ [AV.agg (encTask t), .slice .unk (g.map encL), .slice .unk (s.map Ahl.encI), .int .i64 0], Ids 0 x := by intro x hx; simp at hx; rcases hx with rfl | rfl | rfl | rfl <;> first | assumption | exact .int _ _
 have u2 : UnfL [AV.agg (encTask t), .slice .unk (g.map encL)] := .cons ut (.cons ug .nil)
 have u4 : UnfL [AV.agg (encTask t), .slice .unk (g.map encL), .slice .unk (s.map Ahl.encI), .int .i64 0] := .cons ut (.cons ug (.cons us (.cons (.int _ _) .nil)))
 have wOut := fun σ => (pOutcomes_spec t g s 0 .unk .unk [] hPB hLB (by omega)).weak (Q := fun r => ∃ (ls : List (List Int)) (k : Bool) (e : Int), (ls.length ≤ 256 ∧ ∀ x ∈ ls, x.length ≤ 256) ∧ r = .tuple [.wslice (ls.map wL), .bool k, .int .i64 e])
  (fun r σ' hr => by obtain ⟨rfl, _⟩ := hr; exact outR_weak t g s hPB h7) a4 u4 σ
 have wStr := fun σ => (pStrong_spec t g .unk [] hPB hLB h8).weak (Q := fun r => ∃ E : List FEnt, r = .tuple [.wslice (E.map wE), .int .i64 (strE t g)] ∧ E.length = strN t g ∧ E.length ≤ 256 ∧ ∀ x ∈ E, x.1.length ≤ 256)
  (fun r σ' hr => entR_wkn (strongP_facts hPB h7 hr.2)) a2 u2 σ
 have wCyc := fun σ => (pCyc_spec t g .unk [] hPB hLB h8).weak (Q := fun r => ∃ e n, ∃ E : List FEnt, r = .tuple [.wslice (E.map wE), .int .i64 e] ∧ E.length = n ∧ E.length ≤ 256 ∧ ∀ x ∈ E, x.1.length ≤ 256)
  (fun r σ' hr => by
   obtain ⟨e, n, h⟩ := cycP_facts hPB h7 hr.2
   obtain ⟨b, h1, h2⟩ := entR_wkn h
   exact ⟨b, h1, e, n, h2⟩) a2 u2 σ
 have hcp := copyTask_spec t
 have hst := same01_self t
 have hdi := fun σ => pDist_spec t g s .unk σ hPB hLB (by omega) h8
 have hsq := fun σ => pStrong_spec t g .unk σ hPB hLB h8
 simp only [encTask] at wOut wStr wCyc hcp hst hdi hsq
 have hbs : bigLen s.length 8 := big_ok (by omega) (by omega)
 have hall : ∀ e ∈ s, (Ahl.encI e).length = 1 ∧ (Ahl.encI e).all AV.one = true := fun _ _ => ⟨rfl, rfl⟩
 simp only [go_sem, simprocAttr, hsl, encTask]
 refine (hcp _ hcb).is ?_
 simp only [go_sem, simprocAttr, hbs]
 refine ⟨hall, ?_⟩
 refine (copied16_spec g .unk _ hLB).is ?_
 simp only [go_sem, simprocAttr, encTask]
 refine (wOut _).mono ?_
 rintro _ _ ⟨⟨ls, k1, e1, hls, rfl⟩, rfl⟩
 simp only [go_sem, simprocAttr]
 have hLd : ∀ k, IdsS (σ ++ ([AObj.row (encTask t), .grow 1 s.length, .row (encTask t)] ++ List.replicate k AObj.dead)).length (σ ++ ([AObj.row (encTask t), .grow 1 s.length, .row (encTask t)] ++ List.replicate k AObj.dead)) := fun k => idsS_app _ hσ (by
  intro o ho
  simp only [List.cons_append, List.nil_append, List.mem_cons] at ho
  rcases ho with rfl | rfl | rfl | ho
  ·exact idsO_row (ids_encTask t)
  ·trivial
  ·exact idsO_row (ids_encTask t)
  ·rw [List.eq_of_mem_replicate ho]; trivial)
 have hL1 := hLd 1
 have hL2 := hLd 2
 have hL3 := hLd 3
 simp only [List.replicate, List.cons_append, List.nil_append, encTask] at hL1 hL2 hL3
 have hls1 := hls.1
 have hig : Ids (σ.length + 4) (.wslice (ls.map wL)) := ids_wLs (by omega) ls
 refine wpc_while (fun (i : Nat) => [(1, .slice .unk (g.map encL)), (2, .slice .unk (s.map Ahl.encI)), (3, .ptr σ.length 0), (7, .ptr (σ.length + 2) 0), (8, .slice (.grow (σ.length + 1)) (s.map Ahl.encI)), (9, .slice .unk (g.map encL)), (52, .wslice (ls.map wL)), (53, .int .i64 ls.length), (54, .int .i64 (i : Nat))])
  (fun _ => σ ++ [.row (encTask t), .grow 1 s.length, .row (encTask t), .dead]) (fun i => i ≤ ls.length) (fun i => ls.length - i) 0 (Nat.zero_le _) (by simp only [encTask]; exact (by (try dsimp only); first | exact ghL (hL1) | exact ghL0 (hL1))) ?_
 intro i hi K hK hE hR
 by_cases h : i < ls.length
 ·obtain ⟨l, hx⟩ := get_ex h; have hlt : ((i : Int) < (ls.length : Int)) := (by omega); have hw : IntKind.i64.wrap ((i : Int) + 1) = ((i + 1 : Nat) : Int) := (by rw [wrap_ok (by omega)]; omega)
  have hl := hls.2 l (List.mem_of_getElem? hx)
  have hil : Ids (σ.length + 4) (.wslice (l.map wI)) := ids_wI (by omega) l
  simp only [go_sem, simprocAttr, hlt, hx, wL, encTask]
  refine (spoil16_spec l _ (by omega)).is ?_
  simp only [go_sem, simprocAttr]
  refine hK _ _ (i + 1) (by omega) (by omega) ?_
  simp only [encTask]
  exact (by (try dsimp only); (try simp only [ hw]); first | exact ghL (hL1) | exact ghL0 (hL1))
 have hlt : ¬ ((i : Int) < (ls.length : Int)) := by omega
 simp only [go_sem, simprocAttr, hlt, hE, encTask]
 clear hK hE hR hlt h hi
 refine (wStr _).mono ?_
 rintro _ _ ⟨⟨E, rfl, hEn, hEl, hEs⟩, rfl⟩
 simp only [go_sem, simprocAttr]
 have hig2 : Ids (σ.length + 5) (.wslice (E.map wE)) := ids_wEs (by omega) E
 refine wpc_while (fun (i : Nat) => [(1, .slice .unk (g.map encL)), (2, .slice .unk (s.map Ahl.encI)), (3, .ptr σ.length 0), (7, .ptr (σ.length + 2) 0), (8, .slice (.grow (σ.length + 1)) (s.map Ahl.encI)), (9, .slice .unk (g.map encL)), (15, .wslice (E.map wE)), (16, .int .i64 (strE t g)), (67, .wslice (E.map wE)), (68, .int .i64 E.length), (69, .int .i64 (i : Nat))])
  (fun _ => σ ++ [.row (encTask t), .grow 1 s.length, .row (encTask t), .dead, .dead]) (fun i => i ≤ E.length) (fun i => E.length - i) 0 (Nat.zero_le _) (by simp only [encTask]; exact (by (try dsimp only); first | exact ghL (hL2) | exact ghL0 (hL2))) ?_
 intro i hi K hK hE hR
 by_cases h : i < E.length
 ·obtain ⟨x, hx⟩ := get_ex h; have hlt : ((i : Int) < (E.length : Int)) := (by omega); have hw : IntKind.i64.wrap ((i : Int) + 1) = ((i + 1 : Nat) : Int) := (by rw [wrap_ok (by omega)]; omega)
  have hl := hEs x (List.mem_of_getElem? hx)
  have hil : Ids (σ.length + 5) (.wslice (x.1.map wI)) := ids_wI (by omega) x.1
  simp only [go_sem, simprocAttr, hlt, hx, wE, encTask]
  refine (spoil16_spec x.1 _ (by omega)).is ?_
  simp only [go_sem, simprocAttr]
  refine hK _ _ (i + 1) (by omega) (by omega) ?_
  simp only [encTask]
  exact (by (try dsimp only); (try simp only [ hw]); first | exact ghL (hL2) | exact ghL0 (hL2))
 have hlt : ¬ ((i : Int) < (E.length : Int)) := by omega
 simp only [go_sem, simprocAttr, hlt, hE, encTask]
 clear hK hE hR hlt h hi
 refine (wCyc _).mono ?_
 rintro _ _ ⟨⟨e3, n3, C, rfl, hCn, hCl, hCs⟩, rfl⟩
 simp only [go_sem, simprocAttr]
 have hig3 : Ids (σ.length + 6) (.wslice (C.map wE)) := ids_wEs (by omega) C
 have hig4 : Ids (σ.length + 6) (.wslice (E.map wE)) := ids_wEs (by omega) E
 refine wpc_while (fun (i : Nat) => [(1, .slice .unk (g.map encL)), (2, .slice .unk (s.map Ahl.encI)), (3, .ptr σ.length 0), (7, .ptr (σ.length + 2) 0), (8, .slice (.grow (σ.length + 1)) (s.map Ahl.encI)), (9, .slice .unk (g.map encL)), (15, .wslice (E.map wE)), (16, .int .i64 (strE t g)), (83, .wslice (C.map wE)), (84, .int .i64 C.length), (85, .int .i64 (i : Nat))])
  (fun _ => σ ++ [.row (encTask t), .grow 1 s.length, .row (encTask t), .dead, .dead, .dead]) (fun i => i ≤ C.length) (fun i => C.length - i) 0 (Nat.zero_le _) (by simp only [encTask]; exact (by (try dsimp only); first | exact ghL (hL3) | exact ghL0 (hL3))) ?_
 intro i hi K hK hE hR
 by_cases h : i < C.length
 ·obtain ⟨x, hx⟩ := get_ex h; have hlt : ((i : Int) < (C.length : Int)) := (by omega); have hw : IntKind.i64.wrap ((i : Int) + 1) = ((i + 1 : Nat) : Int) := (by rw [wrap_ok (by omega)]; omega)
  have hl := hCs x (List.mem_of_getElem? hx)
  have hil : Ids (σ.length + 6) (.wslice (x.1.map wI)) := ids_wI (by omega) x.1
  simp only [go_sem, simprocAttr, hlt, hx, wE, encTask]
  refine (spoil16_spec x.1 _ (by omega)).is ?_
  simp only [go_sem, simprocAttr]
  refine hK _ _ (i + 1) (by omega) (by omega) ?_
  simp only [encTask]
  exact (by (try dsimp only); (try simp only [ hw]); first | exact ghL (hL3) | exact ghL0 (hL3))
 have hlt : ¬ ((i : Int) < (C.length : Int)) := by omega
 simp only [go_sem, simprocAttr, hlt, hE, encTask]
 clear hK hE hR hlt h hi
 refine (hdi _).is ?_
 have hdr : ∃ a b, DistR t g s = .tuple [.int .i64 a, .int .i64 b] := by
  unfold DistR; split
  ·split <;> exact ⟨_, _, rfl⟩
  ·exact ⟨_, _, rfl⟩
 obtain ⟨da, db, hdr⟩ := hdr
 rw [hdr]
 simp only [go_sem, simprocAttr, encTask]
 refine (hsq _).mono ?_
 rintro _ _ ⟨rfl, hq⟩
 obtain ⟨F, tok, rfl, hF, htok, hF1, hF2⟩ := strongP_facts hPB h7 hq
 clear hq
 have hFB : EB F := ⟨by omega, fun x hx => by have := hF2 x hx; omega⟩
 simp only [go_sem, simprocAttr]
 refine (ACalls.wk (parts16_spec F tok _ hFB (by omega)) (.cons (wk_ents tok F) .nil)).is ?_
 simp only [go_sem, simprocAttr]
 have hSl : (F.map (·.1)).length = F.length := by simp
 have hSs : ∀ x ∈ F.map (·.1), x.length ≤ 256 := fun x hx => by obtain ⟨e, he, rfl⟩ := List.mem_map.1 hx; exact hF2 e he
 have hstr := hF.strict
 have hlenF := hF.len
 generalize F.map (·.1) = S at hSl hSs hstr
 have hiF : Ids (σ.length + 6) (.slice tok (F.map vE)) := by
  rcases htok with rfl | ⟨rfl, rfl⟩
  ·exact ids_mapf (fun e => ids_vE e) _
  ·exact ids_nil _ (by simp)
 refine wpc_while (fun (i : Nat) => [(1, .slice .unk (g.map encL)), (2, .slice .unk (s.map Ahl.encI)), (3, .ptr σ.length 0), (7, .ptr (σ.length + 2) 0), (8, .slice (.grow (σ.length + 1)) (s.map Ahl.encI)), (9, .slice .unk (g.map encL)), (15, .wslice (E.map wE)), (16, .int .i64 (strE t g)), (23, .slice tok (F.map vE)), (24, .int .i64 (strE t g)), (25, .slice .unk (S.map encL)), (27, .int .i64 (i : Nat))])
  (fun _ => σ ++ [.row (encTask t), .grow 1 s.length, .row (encTask t), .dead, .dead, .dead]) (fun i => 1 ≤ i ∧ i ≤ S.length + 1) (fun i => S.length + 1 - i) 1 ⟨by omega, by omega⟩ (by simp only [encTask]; exact (by (try dsimp only); first | exact ghL (hL3) | exact ghL0 (hL3))) ?_
 rintro i ⟨hi1, hi⟩ K hK hE hR
 by_cases h : i < S.length
 ·obtain ⟨y, hy⟩ := get_ex h
  obtain ⟨x, hx⟩ := get_ex (show i - 1 < S.length by omega)
  have hlt : ((i : Int) < (S.length : Int)) := by omega
  have hw : IntKind.i64.wrap ((i : Int) + 1) = ((i + 1 : Nat) : Int) := by rw [wrap_ok (by omega)]; omega
  have hw2 : IntKind.i64.wrap ((i : Int) - 1) = ((i - 1 : Nat) : Int) := by rw [wrap_ok (by omega)]; omega
  have hxl := hSs x (List.mem_of_getElem? hx)
  have hyl := hSs y (List.mem_of_getElem? hy)
  have hxy : cmpInts x y < 0 := by
   have h1 := List.pairwise_iff_getElem.1 hstr (i - 1) i (by omega) h (by omega)
   rw [List.getElem?_eq_getElem h] at hy
   rw [List.getElem?_eq_getElem (by omega)] at hx
   injection hy with hy; injection hx with hx
   rw [hx, hy] at h1; exact h1
  simp only [go_sem, simprocAttr, hlt, hw2, hx, hy, encL]
  refine ⟨_, before13_spec x y .unk .unk _ (by omega) (by omega), ?_⟩
  rw [decide_eq_true hxy]
  simp only [go_sem, simprocAttr]
  refine hK _ _ (i + 1) ⟨by omega, by omega⟩ (by omega) ?_
  simp only [encTask]
  exact (by (try dsimp only); (try simp only [ hw]); first | exact ghL (hL3) | exact ghL0 (hL3))
 have hlt : ¬ ((i : Int) < (S.length : Int)) := by omega
 simp only [go_sem, simprocAttr, hlt, hE, encTask]
 clear hK hE hR hlt h hi
 refine (hst _ hcb).is ?_
 simp only [go_sem, simprocAttr]
 refine (sameInts_spec s s _ _ _ (by omega) (by omega)).is ?_
 rw [decide_eq_true rfl]
 simp only [go_sem, simprocAttr]
 refine (same16_spec g g _ _ _ hLB hLB).is ?_
 rw [decide_eq_true rfl]
 have hff : ((E.length : Int) == (F.length : Int)) = true := by rw [hEn, hlenF]; simp
 simp only [go_sem, simprocAttr, beq_self_eq_true, hff]
 refine (awake16_spec _).is ?_
 simp only [go_sem, simprocAttr]
 first | exact rtk (.bool true) ⟨rfl, rfl⟩ | exact rtk0 (.bool true) ⟨rfl, rfl⟩
theorem law_reads : ReadsAll Tryz.prog Tryz.f7.params.toList (fun avs => ACalls Tryz.prog 7 avs [] (isR (.bool true) [])) := by
 rw [show Tryz.f7.params.toList = [27, 28, 23] by kernel_rfl]
 exact .cons ra_task fun t ht => .cons ra_intss fun g hg => .cons ra_ints fun s hs => .nil (law_spec t g s ht hg hs [])
set_option maxRecDepth 100000 in
theorem lifted (os : Os) (started : os.Started) (H : Type) (enc : TypeId × Value → H) :
  ReturnsInHanded {} Tryz.checked os 7 .any (Rows.policyOwnSpec.pre6 enc Tryz.prog Tryz.f7 Rows.policyOwnRow.domain false) (Rows.policyOwnSpec.post enc Tryz.prog Tryz.f7 false true false false) := by
 refine returnsInHanded_of_change_sized (C := Tryz.checked) own started (by kernel_rfl) Tryz.func7
  (ChangeSpec.witness6 (enc := enc) (C := Tryz.checked) false ⟨#[], #[.agg #[.slice none 0 0, .slice none 0 0, .slice none 0 0, .slice none 0 0], .slice none 0 0, .slice none 0 0], []⟩ 8 (by kernel_rfl) (by kernel_rfl) (by kernel_rfl) (by kernel_rfl)) ?_
 intro W base args ds gs before hval hW _ hsz _
 refine law_post (P := Tryz.prog) Tryz.func7 (by kernel_rfl) (by decide) rfl ?_ laidOut (rdble (by kernel_rfl)) (by kernel_rfl) Tryz.underlying4 law_reads hval hW hsz
 intro ds h
 rw [show Tryz.f7.params.size = 3 by kernel_rfl] at h
 match ds, h with
 | [a, b, c], _ => rfl
theorem holds : Rows.PolicyOwnSaid :=
 OpenClaim.holds_of_wide 7 Tryz.f7 rfl rfl rfl rfl rfl rfl rfl ⟨rfl, rfl, rfl, rfl, rfl⟩ rfl rfl rfl rfl rfl (by kernel_rfl) Tryz.func7 (by kernel_rfl)
  (of_decide_eq_true (by kernel_rfl)) (by unfold Func.isWrapper; first | (rw [if_pos (by decide +kernel)]; kernel_rfl) | (rw [if_neg (by decide +kernel)]; exact ⟨rfl, rfl⟩))
  (fun os started H enc _ => lifted os started H enc)
end Go.Proofs.YtjmmldkailblmaaGreat
