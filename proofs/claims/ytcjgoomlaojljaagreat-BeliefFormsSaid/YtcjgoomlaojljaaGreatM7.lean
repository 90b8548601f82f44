/- For any task, states, literals and fact, Check, Make, Known and Reveal return what the document defines, or the error, at every input of the form that the statement asks for. -/
import Derived.Test.YtcjgoomlaojljaaGreatBase6
set_option maxRecDepth 20000
set_option linter.unusedVariables false
set_option linter.unusedSimpArgs false
namespace Go.Proofs.YtcjgoomlaojljaaGreat
open Go.Ahl Go.ChangeShapes Go.WideShapes Go.ChangeAt Go.RowKit
theorem okLT3 {b : List (List Int)} (h : okL (okL okI) b) : LT b := ⟨h.1, fun s hs => (h.2 s hs).1⟩
theorem bErr_ten {t : FTask} {b : List (List Int)} (h : validB t = false) : bErr t b = 10 := by unfold bErr; rw [h]; rfl
theorem bErr_two {t : FTask} {b : List (List Int)} (h : validB t = true) (hb : bErr t b ≠ 0) : bErr t b = 170 := by
 unfold bErr at hb ⊢
 rw [h] at hb ⊢
 cases hq : belB t.facts.length b
 ·rfl
 ·rw [hq] at hb; exact absurd rfl hb
theorem makeB_LB {n : Nat} {k : List FLit} (hn : n ≤ 200) (hk : condB n (-1) k = true) (h6 : (openL n k).length ≤ 6) : LB (makeB n k) := by
 refine ⟨?_, fun s hs => ?_⟩
 ·have h1 := merge_len (makeAll n k)
  have h2 : (makeAll n k).length ≤ 2 ^ 6 := by
   unfold makeAll; rw [List.length_map, List.length_range]; exact Nat.pow_le_pow_right (by omega) h6
  unfold makeB
  have h3 : (2 : Nat) ^ 6 = 64 := rfl
  omega
 ·obtain ⟨⟨h1, h2⟩, _⟩ := (makeAll_iff hk).1 (merge_mem.1 hs)
  have := rising_200 hn (rising_mk (n := n) (p := -1) h1 (fun x hx => by have := h2 x hx; omega))
  omega
def c_law : CCode := .seq (.ops [oS 4 (.box (.tmp 0)), oS 8 (.move (.lit (.bool false)))]) (.seq (.seq (.ops [oS 23 (.load (some 4) (.tmp 4)), oS 24 (.move (.tmp 1)), oS 25 (.call (.lit (.func 7 [])) [.tmp 23, .tmp 24]), oS 26 (.un .not (.tmp 25)), oS 27 (.move (.tmp 26)), oG 28 27 false (.move (.tmp 2)), oG 29 27 false (.blen 1 (.tmp 28)), oG 30 27 false (.bin .gtr .none (.tmp 29) (.lit (.int .i64 300))), oS 31 (.pick (.tmp 27) (.lit (.bool true)) (.tmp 30))]) (.cond (.tmp 31) (.seq (.ops [oS 32 (.call (.lit (.func 8 [])) []), oS 8 (.move (.tmp 32))]) .ret) .skip)) (.seq (.ops [oS 34 (.load (some 4) (.tmp 4)), oS 35 (.move (.tmp 2)), oS 36 (.call (.lit (.func 9 [])) [.tmp 34, .tmp 35]), oS 33 (.move (.tmp 36)), oS 37 (.extract (.tmp 33) 0), oS 38 (.extract (.tmp 33) 1), oS 9 (.move (.tmp 37)), oS 10 (.move (.tmp 38))]) (.seq (.ops [oS 40 (.load (some 4) (.tmp 4)), oS 41 (.move (.tmp 1)), oS 42 (.call (.lit (.func 10 [])) [.tmp 40, .tmp 41]), oS 39 (.move (.tmp 42)), oS 43 (.extract (.tmp 39) 0), oS 44 (.extract (.tmp 39) 1), oS 11 (.move (.tmp 43)), oS 12 (.move (.tmp 44))]) (.seq (.ops [oS 46 (.load (some 4) (.tmp 4)), oS 47 (.move (.tmp 1)), oS 48 (.move (.tmp 3)), oS 49 (.call (.lit (.func 11 [])) [.tmp 46, .tmp 47, .tmp 48]), oS 45 (.move (.tmp 49)), oS 50 (.extract (.tmp 45) 0), oS 51 (.extract (.tmp 45) 1), oS 52 (.extract (.tmp 45) 2), oS 13 (.move (.tmp 50)), oS 14 (.move (.tmp 51)), oS 15 (.move (.tmp 52))]) (.seq (.ops [oS 53 (.load (some 4) (.tmp 4)), oS 54 (.move (.tmp 1)), oS 55 (.call (.lit (.func 12 [])) [.tmp 53, .tmp 54]), oS 16 (.move (.tmp 55))]) (.seq (.seq (.ops [oS 56 (.load (some 4) (.tmp 4)), oS 57 (.move (.tmp 1)), oS 58 (.call (.lit (.func 13 [])) [.tmp 56, .tmp 57]), oS 59 (.move (.tmp 16)), oS 60 (.bin .neq .none (.tmp 58) (.tmp 59))]) (.cond (.tmp 60) (.seq (.ops [oS 8 (.move (.lit (.bool false)))]) .ret) .skip)) (.seq (.ops [oS 17 (.move (.lit (.int .i64 0)))]) (.seq (.ops [oS 18 (.move (.lit (.slice .nil [])))]) (.seq (.block 0 (.seq (.ops [oS 71 (.move (.tmp 16)), oS 72 (.bin .eql .none (.tmp 71) (.lit (.int .i64 10))), oS 70 (.move (.tmp 72))]) (.cond (.tmp 70) (.ops [oS 73 (.move (.tmp 16)), oS 17 (.move (.tmp 73))]) (.seq (.ops [oS 75 (.move (.tmp 2)), oS 76 (.faddr 0 (.tmp 4)), oS 77 (.load none (.tmp 76)), oS 78 (.blen 1 (.tmp 77)), oS 79 (.call (.lit (.func 14 [])) [.tmp 75, .tmp 78]), oS 80 (.un .not (.tmp 79)), oS 74 (.move (.tmp 80))]) (.cond (.tmp 74) (.ops [oS 17 (.move (.lit (.int .i64 1)))]) (.seq (.ops [oS 62 (.load (some 4) (.tmp 4)), oS 63 (.move (.tmp 2)), oS 64 (.call (.lit (.func 15 [])) [.tmp 62, .tmp 63]), oS 61 (.move (.tmp 64)), oS 65 (.extract (.tmp 61) 0), oS 66 (.extract (.tmp 61) 1), oS 19 (.move (.tmp 65)), oS 20 (.move (.tmp 66))]) (.seq (.ops [oS 67 (.move (.tmp 19)), oS 18 (.move (.tmp 67))]) (.seq (.ops [oS 68 (.move (.tmp 20)), oS 69 (.un .not (.tmp 68))]) (.cond (.tmp 69) (.ops [oS 17 (.move (.lit (.int .i64 2)))]) .skip))))))))) (.seq (.seq (.ops [oS 81 (.move (.tmp 10)), oS 82 (.move (.tmp 17)), oS 83 (.bin .neq .none (.tmp 81) (.tmp 82)), oS 84 (.move (.tmp 83)), oG 85 84 false (.move (.tmp 9)), oG 86 84 false (.move (.tmp 18)), oG 87 84 false (.call (.lit (.func 16 [])) [.tmp 85, .tmp 86]), oG 88 84 false (.un .not (.tmp 87)), oS 89 (.pick (.tmp 84) (.lit (.bool true)) (.tmp 88))]) (.cond (.tmp 89) (.seq (.ops [oS 8 (.move (.lit (.bool false)))]) .ret) .skip)) (.seq (.seq (.ops [oS 90 (.move (.tmp 16)), oS 91 (.bin .neq .none (.tmp 90) (.lit (.int .i64 0)))]) (.cond (.tmp 91) (.seq (.ops [oS 92 (.move (.tmp 12)), oS 93 (.move (.tmp 16)), oS 94 (.bin .eql .none (.tmp 92) (.tmp 93)), oS 95 (.move (.tmp 94)), oG 96 95 true (.move (.tmp 15)), oG 97 95 true (.move (.tmp 16)), oG 98 95 true (.bin .eql .none (.tmp 96) (.tmp 97)), oS 99 (.pick (.tmp 95) (.tmp 98) (.lit (.bool false))), oS 100 (.move (.tmp 99)), oG 101 100 true (.move (.tmp 11)), oG 102 100 true (.blen 1 (.tmp 101)), oG 103 100 true (.move (.tmp 13)), oG 104 100 true (.blen 1 (.tmp 103)), oG 105 100 true (.bin .add .none (.tmp 102) (.tmp 104)), oG 106 100 true (.move (.tmp 14)), oG 107 100 true (.blen 1 (.tmp 106)), oG 108 100 true (.bin .add .none (.tmp 105) (.tmp 107)), oG 109 100 true (.bin .eql .none (.tmp 108) (.lit (.int .i64 0))), oS 110 (.pick (.tmp 100) (.tmp 109) (.lit (.bool false))), oS 111 (.move (.tmp 110)), oG 112 111 true (.call (.lit (.func 8 [])) []), oS 113 (.pick (.tmp 111) (.tmp 112) (.lit (.bool false))), oS 8 (.move (.tmp 113))]) .ret) .skip)) (.seq (.seq (.ops [oS 114 (.move (.tmp 12)), oS 115 (.bin .neq .none (.tmp 114) (.lit (.int .i64 0))), oS 116 (.move (.tmp 115)), oG 117 116 false (.move (.tmp 11)), oG 118 116 false (.load (some 4) (.tmp 4)), oG 119 116 false (.move (.tmp 1)), oG 120 116 false (.call (.lit (.func 18 [])) [.tmp 118, .tmp 119]), oG 121 116 false (.call (.lit (.func 17 [])) [.tmp 117, .tmp 120]), oG 122 116 false (.un .not (.tmp 121)), oS 123 (.pick (.tmp 116) (.lit (.bool true)) (.tmp 122))]) (.cond (.tmp 123) (.seq (.ops [oS 8 (.move (.lit (.bool false)))]) .ret) .skip)) (.seq (.seq (.ops [oS 124 (.move (.tmp 3)), oS 125 (.bin .lss .none (.tmp 124) (.lit (.int .i64 0))), oS 126 (.move (.tmp 125)), oG 127 126 false (.move (.tmp 3)), oG 128 126 false (.faddr 0 (.tmp 4)), oG 129 126 false (.load none (.tmp 128)), oG 130 126 false (.blen 1 (.tmp 129)), oG 131 126 false (.bin .geq .none (.tmp 127) (.tmp 130)), oS 132 (.pick (.tmp 126) (.lit (.bool true)) (.tmp 131))]) (.cond (.tmp 132) (.seq (.ops [oS 133 (.move (.tmp 15)), oS 134 (.bin .eql .none (.tmp 133) (.lit (.int .i64 1))), oS 135 (.move (.tmp 134)), oG 136 135 true (.move (.tmp 13)), oG 137 135 true (.blen 1 (.tmp 136)), oG 138 135 true (.move (.tmp 14)), oG 139 135 true (.blen 1 (.tmp 138)), oG 140 135 true (.bin .add .none (.tmp 137) (.tmp 139)), oG 141 135 true (.bin .eql .none (.tmp 140) (.lit (.int .i64 0))), oS 142 (.pick (.tmp 135) (.tmp 141) (.lit (.bool false))), oS 143 (.move (.tmp 142)), oG 144 143 true (.call (.lit (.func 8 [])) []), oS 145 (.pick (.tmp 143) (.tmp 144) (.lit (.bool false))), oS 8 (.move (.tmp 145))]) .ret) .skip)) (.seq (.ops [oS 147 (.move (.tmp 1)), oS 148 (.move (.tmp 3)), oS 149 (.call (.lit (.func 19 [])) [.tmp 147, .tmp 148]), oS 146 (.move (.tmp 149)), oS 150 (.extract (.tmp 146) 0), oS 151 (.extract (.tmp 146) 1), oS 21 (.move (.tmp 150)), oS 22 (.move (.tmp 151))]) (.seq (.ops [oS 152 (.move (.tmp 15)), oS 153 (.bin .eql .none (.tmp 152) (.lit (.int .i64 0))), oS 154 (.move (.tmp 153)), oG 155 154 true (.move (.tmp 13)), oG 156 154 true (.move (.tmp 21)), oG 157 154 true (.call (.lit (.func 16 [])) [.tmp 155, .tmp 156]), oS 158 (.pick (.tmp 154) (.tmp 157) (.lit (.bool false))), oS 159 (.move (.tmp 158)), oG 160 159 true (.move (.tmp 14)), oG 161 159 true (.move (.tmp 22)), oG 162 159 true (.call (.lit (.func 16 [])) [.tmp 160, .tmp 161]), oS 163 (.pick (.tmp 159) (.tmp 162) (.lit (.bool false))), oS 164 (.move (.tmp 163)), oG 165 164 true (.call (.lit (.func 8 [])) []), oS 166 (.pick (.tmp 164) (.tmp 165) (.lit (.bool false))), oS 8 (.move (.tmp 166))]) .ret)))))))))))))))
set_option maxHeartbeats 2000000 in
theorem law_spec (t : FTask) (b : List (List Int)) (l : List FLit) (f : Int) (ht : TB t) (hb : okL (okL okI) b) (hl : l.length ≤ 140737488355328) (σ : Store) :
  ACalls Tryz.prog 3 [.agg (encTask t), .slice .unk (b.map encL), .slice .unk (l.map encLit), .int .i64 f] σ (isR (.bool true) σ) := by
 refine ACalls.intro (rs := [(.tmp 8)]) (by kernel_rfl) { own := [], ghosts := [] } Tryz.func3 (c := Tryz.f3.body.getD .skip) (by kernel_rfl) (by decide) (by rw [show Tryz.f3.ntmps = 167 by kernel_rfl]; exact Nat.le_of_ble_eq_true rfl) (by kernel_rfl) ?_
 intro hσ hids
 rw [show comp Tryz.prog { own := [], ghosts := [] } (Tryz.f3.body.getD .skip) = c_law by kernel_rfl, show Tryz.f3.ntmps = 167 by kernel_rfl]
 unfold c_law
 have hLT := okLT3 hb
 simp only [go_sem, simprocAttr, encTask]
 refine ACalls.is (few17_spec t b _ _ ht hLT) ?_
 cases hfew : few17B t b
 ·simp only [go_sem, simprocAttr]
  refine (awake17_spec _).is ?_
  simp only [go_sem, simprocAttr]
  exact rt (.bool true) ⟨rfl, rfl⟩
 by_cases hpl : ((l.length : Int) > 300)
 ·simp only [go_sem, simprocAttr, hpl]
  refine (awake17_spec _).is ?_
  simp only [go_sem, simprocAttr]
  exact rt (.bool true) ⟨rfl, rfl⟩
 have hmk := fun σ => bmake_specF t l .unk σ ht (by omega)
 have hkw := fun σ => known_specF t b .unk σ ht hLT
 have hrv := fun σ => reveal_specF t b f .unk σ ht hLT
 have hfa := fun σ => fault17_spec t b .unk σ ht hLT
 have hck := fun σ => bcheck_spec t b .unk σ ht hLT
 simp only [encTask] at hmk hkw hrv hfa hck
 have hLn : LB [] := ⟨by simp, by simp⟩
 have hsn : ∀ σ, ACalls Tryz.prog 16 [.slice .nil [], .slice .nil []] σ (isR (.bool true) σ) := fun σ => same17_spec [] [] .nil .nil σ hLn hLn
 have hz : IntKind.i64.wrap ((((0 : Nat) : Int)) + ((0 : Nat) : Int)) = 0 := rfl
 have z00 : IntKind.i64.wrap 0 = 0 := rfl
 have e00 : ((0 : Int) == 0) = true := rfl
 have n00 : ((0 : Int) != 0) = false := rfl
 have e11 : ((1 : Int) == 1) = true := rfl
 cases hv : validB t
 ·have he := bErr_ten (b := b) hv
  have hne : ¬ bErr t b = 0 := by rw [he]; decide
  have hmv : makeR t l = .tuple [.slice .nil [], .int .i64 10] := by rw [makeR, show makeE t l = 10 by rw [makeE, hv]; rfl]; rfl
  have hkv : knownRes t b = .tuple [.slice .nil [], .int .i64 10] := by rw [knownRes, if_neg hne, he]
  have hrw : revealRes t b f = .tuple [.slice .nil [], .slice .nil [], .int .i64 10] := by rw [revealRes, if_neg hne, he]
  have nww : ((10 : Int) != 10) = false := rfl
  have e10 : ((10 : Int) == 10) = true := rfl
  have hnn : ((10 : Int) != 10) = false := rfl
  have nw0 : ((10 : Int) != 0) = true := rfl
  have eww : ((10 : Int) == 10) = true := rfl
  simp only [go_sem, simprocAttr, hpl, encTask]
  refine ACalls.is (hmk _) ?_
  rw [hmv]
  simp only [go_sem, simprocAttr, encTask]
  refine ACalls.is (hkw _) ?_
  rw [hkv]
  simp only [go_sem, simprocAttr, encTask]
  refine ACalls.is (hrv _) ?_
  rw [hrw]
  simp only [go_sem, simprocAttr, encTask]
  refine ACalls.is (hfa _) ?_
  rw [he]
  simp only [go_sem, simprocAttr, encTask]
  refine ACalls.is (hck _) ?_
  rw [he]
  simp only [go_sem, simprocAttr, nww, e10, hnn]
  refine ACalls.is (hsn _) ?_
  simp only [go_sem, simprocAttr, nw0, eww, hz, z00, e00]
  refine (awake17_spec _).is ?_
  simp only [go_sem, simprocAttr]
  exact rt (.bool true) ⟨rfl, rfl⟩
 have hVT := valid_VT ht hv
 have hnf := hVT.nf
 cases hc : condB t.facts.length (-1) l
 ·have hmv : makeR t l = .tuple [.slice .nil [], .int .i64 1] := by rw [makeR, show makeE t l = 1 by rw [makeE, hv, hc]; rfl]; rfl
  have hnn : ((1 : Int) != 1) = false := rfl
  by_cases he : bErr t b = 0
  ·obtain ⟨_, hbel⟩ := bErr_zero he
   have hlb := bel_lb hVT.nf hbel
   have hbl := bel_len hbel
   have nww : ((0 : Int) != 0) = false := rfl
   have n10 : ((0 : Int) == 10) = false := rfl
   have hyl : LB (yesL b f) := ⟨by have := yesL_len b f; omega, fun s hs => hlb.2 s (List.mem_filter.1 hs).1⟩
   have hnl : LB (noL b f) := ⟨by have := noL_len b f; omega, fun s hs => hlb.2 s (List.mem_filter.1 hs).1⟩
   have hkl : (knownL t.facts.length b).length ≤ 140737488355328 := by have := knownU_len b t.facts.length 0; unfold knownL; omega
   have hkn := fun σ => known17_spec t b .unk σ (by omega) hlb
   simp only [encTask] at hkn
   have hkv : knownRes t b = .tuple [.slice .fresh ((knownL t.facts.length b).map encLit), .int .i64 0] := by rw [knownRes, if_pos he]
   by_cases hfr : 0 ≤ f ∧ f < t.facts.length
   ·have hf0 : ¬ f < 0 := by omega
    have hf1 : ¬ f ≥ (t.facts.length : Int) := by omega
    have hrw : revealRes t b f = .tuple [.slice .fresh ((yesL b f).map encLf), .slice .fresh ((noL b f).map encLf), .int .i64 0] := by rw [revealRes, if_pos he, if_pos hfr]
    simp only [go_sem, simprocAttr, hpl, encTask]
    refine ACalls.is (hmk _) ?_
    rw [hmv]
    simp only [go_sem, simprocAttr, encTask]
    refine ACalls.is (hkw _) ?_
    rw [hkv]
    simp only [go_sem, simprocAttr, encTask]
    refine ACalls.is (hrv _) ?_
    rw [hrw]
    simp only [go_sem, simprocAttr, encTask]
    refine ACalls.is (hfa _) ?_
    rw [he]
    simp only [go_sem, simprocAttr, encTask]
    refine ACalls.is (hck _) ?_
    rw [he]
    simp only [go_sem, simprocAttr, nww, n10, encTask]
    refine ACalls.is (cond01_spec l t.facts.length .unk _ (by omega)) ?_
    rw [hc]
    simp only [go_sem, simprocAttr, hnn]
    refine ACalls.is (hsn _) ?_
    simp only [go_sem, simprocAttr, n00, encTask]
    refine ACalls.is (hkn _) ?_
    simp only [go_sem, simprocAttr, encTask]
    refine ACalls.is (sameLits_spec (knownL t.facts.length b) (knownL t.facts.length b) .fresh .unk _ hkl hkl) ?_
    rw [decide_eq_true rfl]
    simp only [go_sem, simprocAttr, hf0, hf1, encTask]
    refine ACalls.is (split17_spec b f .unk _ hlb (by omega)) ?_
    simp only [go_sem, simprocAttr, e00]
    refine ACalls.is (ACalls.wk (same17_spec (yesL b f) (yesL b f) .fresh .unk _ hyl hyl) (.cons (Wk.lf _ _) (.cons (.refl _) .nil))) ?_
    rw [decide_eq_true rfl]
    simp only [go_sem, simprocAttr]
    refine ACalls.is (ACalls.wk (same17_spec (noL b f) (noL b f) .fresh .unk _ hnl hnl) (.cons (Wk.lf _ _) (.cons (.refl _) .nil))) ?_
    rw [decide_eq_true rfl]
    simp only [go_sem, simprocAttr]
    refine (awake17_spec _).is ?_
    simp only [go_sem, simprocAttr]
    exact rt (.bool true) ⟨rfl, rfl⟩
   have hrw : revealRes t b f = .tuple [.slice .nil [], .slice .nil [], .int .i64 1] := by rw [revealRes, if_pos he, if_neg hfr]
   by_cases hf0 : f < 0
   ·simp only [go_sem, simprocAttr, hpl, encTask]
    refine ACalls.is (hmk _) ?_
    rw [hmv]
    simp only [go_sem, simprocAttr, encTask]
    refine ACalls.is (hkw _) ?_
    rw [hkv]
    simp only [go_sem, simprocAttr, encTask]
    refine ACalls.is (hrv _) ?_
    rw [hrw]
    simp only [go_sem, simprocAttr, encTask]
    refine ACalls.is (hfa _) ?_
    rw [he]
    simp only [go_sem, simprocAttr, encTask]
    refine ACalls.is (hck _) ?_
    rw [he]
    simp only [go_sem, simprocAttr, nww, n10, encTask]
    refine ACalls.is (cond01_spec l t.facts.length .unk _ (by omega)) ?_
    rw [hc]
    simp only [go_sem, simprocAttr, hnn]
    refine ACalls.is (hsn _) ?_
    simp only [go_sem, simprocAttr, n00, encTask]
    refine ACalls.is (hkn _) ?_
    simp only [go_sem, simprocAttr, encTask]
    refine ACalls.is (sameLits_spec (knownL t.facts.length b) (knownL t.facts.length b) .fresh .unk _ hkl hkl) ?_
    rw [decide_eq_true rfl]
    simp only [go_sem, simprocAttr, hf0, encTask, hz, e11, e00, z00]
    refine (awake17_spec _).is ?_
    simp only [go_sem, simprocAttr]
    exact rt (.bool true) ⟨rfl, rfl⟩
   ·have hf1 : f ≥ (t.facts.length : Int) := by omega
    simp only [go_sem, simprocAttr, hpl, encTask]
    refine ACalls.is (hmk _) ?_
    rw [hmv]
    simp only [go_sem, simprocAttr, encTask]
    refine ACalls.is (hkw _) ?_
    rw [hkv]
    simp only [go_sem, simprocAttr, encTask]
    refine ACalls.is (hrv _) ?_
    rw [hrw]
    simp only [go_sem, simprocAttr, encTask]
    refine ACalls.is (hfa _) ?_
    rw [he]
    simp only [go_sem, simprocAttr, encTask]
    refine ACalls.is (hck _) ?_
    rw [he]
    simp only [go_sem, simprocAttr, nww, n10, encTask]
    refine ACalls.is (cond01_spec l t.facts.length .unk _ (by omega)) ?_
    rw [hc]
    simp only [go_sem, simprocAttr, hnn]
    refine ACalls.is (hsn _) ?_
    simp only [go_sem, simprocAttr, n00, encTask]
    refine ACalls.is (hkn _) ?_
    simp only [go_sem, simprocAttr, encTask]
    refine ACalls.is (sameLits_spec (knownL t.facts.length b) (knownL t.facts.length b) .fresh .unk _ hkl hkl) ?_
    rw [decide_eq_true rfl]
    simp only [go_sem, simprocAttr, hf0, hf1, encTask, hz, e11, e00, z00]
    refine (awake17_spec _).is ?_
    simp only [go_sem, simprocAttr]
    exact rt (.bool true) ⟨rfl, rfl⟩
  ·have hne := he
   have he := bErr_two hv hne
   have hkv : knownRes t b = .tuple [.slice .nil [], .int .i64 170] := by rw [knownRes, if_neg hne, he]
   have hrw : revealRes t b f = .tuple [.slice .nil [], .slice .nil [], .int .i64 170] := by rw [revealRes, if_neg hne, he]
   have nww : ((170 : Int) != 170) = false := rfl
   have n10 : ((170 : Int) == 10) = false := rfl
   have nw0 : ((170 : Int) != 0) = true := rfl
   have eww : ((170 : Int) == 170) = true := rfl
   simp only [go_sem, simprocAttr, hpl, encTask]
   refine ACalls.is (hmk _) ?_
   rw [hmv]
   simp only [go_sem, simprocAttr, encTask]
   refine ACalls.is (hkw _) ?_
   rw [hkv]
   simp only [go_sem, simprocAttr, encTask]
   refine ACalls.is (hrv _) ?_
   rw [hrw]
   simp only [go_sem, simprocAttr, encTask]
   refine ACalls.is (hfa _) ?_
   rw [he]
   simp only [go_sem, simprocAttr, encTask]
   refine ACalls.is (hck _) ?_
   rw [he]
   simp only [go_sem, simprocAttr, nww, n10, encTask]
   refine ACalls.is (cond01_spec l t.facts.length .unk _ (by omega)) ?_
   rw [hc]
   simp only [go_sem, simprocAttr, hnn]
   refine ACalls.is (hsn _) ?_
   simp only [go_sem, simprocAttr, nw0, eww, hz, z00, e00]
   refine (awake17_spec _).is ?_
   simp only [go_sem, simprocAttr]
   exact rt (.bool true) ⟨rfl, rfl⟩
 have hm17 := fun σ => make17_spec t l .unk σ hnf hc
 simp only [encTask] at hm17
 by_cases h6 : (openL t.facts.length l).length ≤ 6
 ·have hmv : makeR t l = .tuple [.slice .fresh ((makeB t.facts.length l).map encLf), .int .i64 0] := by rw [makeR, show makeE t l = 0 by rw [makeE, hv, hc, if_pos rfl, if_pos rfl, if_pos h6]]; rfl
  have hmlb := makeB_LB hnf hc h6
  have hnn : ((0 : Int) != 0) = false := rfl
  by_cases he : bErr t b = 0
  ·obtain ⟨_, hbel⟩ := bErr_zero he
   have hlb := bel_lb hVT.nf hbel
   have hbl := bel_len hbel
   have nww : ((0 : Int) != 0) = false := rfl
   have n10 : ((0 : Int) == 10) = false := rfl
   have hyl : LB (yesL b f) := ⟨by have := yesL_len b f; omega, fun s hs => hlb.2 s (List.mem_filter.1 hs).1⟩
   have hnl : LB (noL b f) := ⟨by have := noL_len b f; omega, fun s hs => hlb.2 s (List.mem_filter.1 hs).1⟩
   have hkl : (knownL t.facts.length b).length ≤ 140737488355328 := by have := knownU_len b t.facts.length 0; unfold knownL; omega
   have hkn := fun σ => known17_spec t b .unk σ (by omega) hlb
   simp only [encTask] at hkn
   have hkv : knownRes t b = .tuple [.slice .fresh ((knownL t.facts.length b).map encLit), .int .i64 0] := by rw [knownRes, if_pos he]
   by_cases hfr : 0 ≤ f ∧ f < t.facts.length
   ·have hf0 : ¬ f < 0 := by omega
    have hf1 : ¬ f ≥ (t.facts.length : Int) := by omega
    have hrw : revealRes t b f = .tuple [.slice .fresh ((yesL b f).map encLf), .slice .fresh ((noL b f).map encLf), .int .i64 0] := by rw [revealRes, if_pos he, if_pos hfr]
    simp only [go_sem, simprocAttr, hpl, encTask]
    refine ACalls.is (hmk _) ?_
    rw [hmv]
    simp only [go_sem, simprocAttr, encTask]
    refine ACalls.is (hkw _) ?_
    rw [hkv]
    simp only [go_sem, simprocAttr, encTask]
    refine ACalls.is (hrv _) ?_
    rw [hrw]
    simp only [go_sem, simprocAttr, encTask]
    refine ACalls.is (hfa _) ?_
    rw [he]
    simp only [go_sem, simprocAttr, encTask]
    refine ACalls.is (hck _) ?_
    rw [he]
    simp only [go_sem, simprocAttr, nww, n10, encTask]
    refine ACalls.is (cond01_spec l t.facts.length .unk _ (by omega)) ?_
    rw [hc]
    simp only [go_sem, simprocAttr, encTask]
    refine ACalls.is (hm17 _) ?_
    rw [make17R, if_pos h6]
    simp only [go_sem, simprocAttr, hnn]
    refine ACalls.is (ACalls.wk (same17_spec (makeB t.facts.length l) (makeB t.facts.length l) .fresh .unk _ hmlb hmlb) (.cons (Wk.lf _ _) (.cons (.refl _) .nil))) ?_
    rw [decide_eq_true rfl]
    simp only [go_sem, simprocAttr, n00, encTask]
    refine ACalls.is (hkn _) ?_
    simp only [go_sem, simprocAttr, encTask]
    refine ACalls.is (sameLits_spec (knownL t.facts.length b) (knownL t.facts.length b) .fresh .unk _ hkl hkl) ?_
    rw [decide_eq_true rfl]
    simp only [go_sem, simprocAttr, hf0, hf1, encTask]
    refine ACalls.is (split17_spec b f .unk _ hlb (by omega)) ?_
    simp only [go_sem, simprocAttr, e00]
    refine ACalls.is (ACalls.wk (same17_spec (yesL b f) (yesL b f) .fresh .unk _ hyl hyl) (.cons (Wk.lf _ _) (.cons (.refl _) .nil))) ?_
    rw [decide_eq_true rfl]
    simp only [go_sem, simprocAttr]
    refine ACalls.is (ACalls.wk (same17_spec (noL b f) (noL b f) .fresh .unk _ hnl hnl) (.cons (Wk.lf _ _) (.cons (.refl _) .nil))) ?_
    rw [decide_eq_true rfl]
    simp only [go_sem, simprocAttr]
    refine (awake17_spec _).is ?_
    simp only [go_sem, simprocAttr]
    exact rt (.bool true) ⟨rfl, rfl⟩
   have hrw : revealRes t b f = .tuple [.slice .nil [], .slice .nil [], .int .i64 1] := by rw [revealRes, if_pos he, if_neg hfr]
   by_cases hf0 : f < 0
   ·simp only [go_sem, simprocAttr, hpl, encTask]
    refine ACalls.is (hmk _) ?_
    rw [hmv]
    simp only [go_sem, simprocAttr, encTask]
    refine ACalls.is (hkw _) ?_
    rw [hkv]
    simp only [go_sem, simprocAttr, encTask]
    refine ACalls.is (hrv _) ?_
    rw [hrw]
    simp only [go_sem, simprocAttr, encTask]
    refine ACalls.is (hfa _) ?_
    rw [he]
    simp only [go_sem, simprocAttr, encTask]
    refine ACalls.is (hck _) ?_
    rw [he]
    simp only [go_sem, simprocAttr, nww, n10, encTask]
    refine ACalls.is (cond01_spec l t.facts.length .unk _ (by omega)) ?_
    rw [hc]
    simp only [go_sem, simprocAttr, encTask]
    refine ACalls.is (hm17 _) ?_
    rw [make17R, if_pos h6]
    simp only [go_sem, simprocAttr, hnn]
    refine ACalls.is (ACalls.wk (same17_spec (makeB t.facts.length l) (makeB t.facts.length l) .fresh .unk _ hmlb hmlb) (.cons (Wk.lf _ _) (.cons (.refl _) .nil))) ?_
    rw [decide_eq_true rfl]
    simp only [go_sem, simprocAttr, n00, encTask]
    refine ACalls.is (hkn _) ?_
    simp only [go_sem, simprocAttr, encTask]
    refine ACalls.is (sameLits_spec (knownL t.facts.length b) (knownL t.facts.length b) .fresh .unk _ hkl hkl) ?_
    rw [decide_eq_true rfl]
    simp only [go_sem, simprocAttr, hf0, encTask, hz, e11, e00, z00]
    refine (awake17_spec _).is ?_
    simp only [go_sem, simprocAttr]
    exact rt (.bool true) ⟨rfl, rfl⟩
   ·have hf1 : f ≥ (t.facts.length : Int) := by omega
    simp only [go_sem, simprocAttr, hpl, encTask]
    refine ACalls.is (hmk _) ?_
    rw [hmv]
    simp only [go_sem, simprocAttr, encTask]
    refine ACalls.is (hkw _) ?_
    rw [hkv]
    simp only [go_sem, simprocAttr, encTask]
    refine ACalls.is (hrv _) ?_
    rw [hrw]
    simp only [go_sem, simprocAttr, encTask]
    refine ACalls.is (hfa _) ?_
    rw [he]
    simp only [go_sem, simprocAttr, encTask]
    refine ACalls.is (hck _) ?_
    rw [he]
    simp only [go_sem, simprocAttr, nww, n10, encTask]
    refine ACalls.is (cond01_spec l t.facts.length .unk _ (by omega)) ?_
    rw [hc]
    simp only [go_sem, simprocAttr, encTask]
    refine ACalls.is (hm17 _) ?_
    rw [make17R, if_pos h6]
    simp only [go_sem, simprocAttr, hnn]
    refine ACalls.is (ACalls.wk (same17_spec (makeB t.facts.length l) (makeB t.facts.length l) .fresh .unk _ hmlb hmlb) (.cons (Wk.lf _ _) (.cons (.refl _) .nil))) ?_
    rw [decide_eq_true rfl]
    simp only [go_sem, simprocAttr, n00, encTask]
    refine ACalls.is (hkn _) ?_
    simp only [go_sem, simprocAttr, encTask]
    refine ACalls.is (sameLits_spec (knownL t.facts.length b) (knownL t.facts.length b) .fresh .unk _ hkl hkl) ?_
    rw [decide_eq_true rfl]
    simp only [go_sem, simprocAttr, hf0, hf1, encTask, hz, e11, e00, z00]
    refine (awake17_spec _).is ?_
    simp only [go_sem, simprocAttr]
    exact rt (.bool true) ⟨rfl, rfl⟩
  ·have hne := he
   have he := bErr_two hv hne
   have hkv : knownRes t b = .tuple [.slice .nil [], .int .i64 170] := by rw [knownRes, if_neg hne, he]
   have hrw : revealRes t b f = .tuple [.slice .nil [], .slice .nil [], .int .i64 170] := by rw [revealRes, if_neg hne, he]
   have nww : ((170 : Int) != 170) = false := rfl
   have n10 : ((170 : Int) == 10) = false := rfl
   have nw0 : ((170 : Int) != 0) = true := rfl
   have eww : ((170 : Int) == 170) = true := rfl
   simp only [go_sem, simprocAttr, hpl, encTask]
   refine ACalls.is (hmk _) ?_
   rw [hmv]
   simp only [go_sem, simprocAttr, encTask]
   refine ACalls.is (hkw _) ?_
   rw [hkv]
   simp only [go_sem, simprocAttr, encTask]
   refine ACalls.is (hrv _) ?_
   rw [hrw]
   simp only [go_sem, simprocAttr, encTask]
   refine ACalls.is (hfa _) ?_
   rw [he]
   simp only [go_sem, simprocAttr, encTask]
   refine ACalls.is (hck _) ?_
   rw [he]
   simp only [go_sem, simprocAttr, nww, n10, encTask]
   refine ACalls.is (cond01_spec l t.facts.length .unk _ (by omega)) ?_
   rw [hc]
   simp only [go_sem, simprocAttr, encTask]
   refine ACalls.is (hm17 _) ?_
   rw [make17R, if_pos h6]
   simp only [go_sem, simprocAttr, hnn]
   refine ACalls.is (ACalls.wk (same17_spec (makeB t.facts.length l) (makeB t.facts.length l) .fresh .unk _ hmlb hmlb) (.cons (Wk.lf _ _) (.cons (.refl _) .nil))) ?_
   rw [decide_eq_true rfl]
   simp only [go_sem, simprocAttr, nw0, eww, hz, z00, e00]
   refine (awake17_spec _).is ?_
   simp only [go_sem, simprocAttr]
   exact rt (.bool true) ⟨rfl, rfl⟩
 ·have hmv : makeR t l = .tuple [.slice .nil [], .int .i64 2] := by rw [makeR, show makeE t l = 2 by rw [makeE, hv, hc, if_pos rfl, if_pos rfl, if_neg h6]]; rfl
  have hnn : ((2 : Int) != 2) = false := rfl
  by_cases he : bErr t b = 0
  ·obtain ⟨_, hbel⟩ := bErr_zero he
   have hlb := bel_lb hVT.nf hbel
   have hbl := bel_len hbel
   have nww : ((0 : Int) != 0) = false := rfl
   have n10 : ((0 : Int) == 10) = false := rfl
   have hyl : LB (yesL b f) := ⟨by have := yesL_len b f; omega, fun s hs => hlb.2 s (List.mem_filter.1 hs).1⟩
   have hnl : LB (noL b f) := ⟨by have := noL_len b f; omega, fun s hs => hlb.2 s (List.mem_filter.1 hs).1⟩
   have hkl : (knownL t.facts.length b).length ≤ 140737488355328 := by have := knownU_len b t.facts.length 0; unfold knownL; omega
   have hkn := fun σ => known17_spec t b .unk σ (by omega) hlb
   simp only [encTask] at hkn
   have hkv : knownRes t b = .tuple [.slice .fresh ((knownL t.facts.length b).map encLit), .int .i64 0] := by rw [knownRes, if_pos he]
   by_cases hfr : 0 ≤ f ∧ f < t.facts.length
   ·have hf0 : ¬ f < 0 := by omega
    have hf1 : ¬ f ≥ (t.facts.length : Int) := by omega
    have hrw : revealRes t b f = .tuple [.slice .fresh ((yesL b f).map encLf), .slice .fresh ((noL b f).map encLf), .int .i64 0] := by rw [revealRes, if_pos he, if_pos hfr]
    simp only [go_sem, simprocAttr, hpl, encTask]
    refine ACalls.is (hmk _) ?_
    rw [hmv]
    simp only [go_sem, simprocAttr, encTask]
    refine ACalls.is (hkw _) ?_
    rw [hkv]
    simp only [go_sem, simprocAttr, encTask]
    refine ACalls.is (hrv _) ?_
    rw [hrw]
    simp only [go_sem, simprocAttr, encTask]
    refine ACalls.is (hfa _) ?_
    rw [he]
    simp only [go_sem, simprocAttr, encTask]
    refine ACalls.is (hck _) ?_
    rw [he]
    simp only [go_sem, simprocAttr, nww, n10, encTask]
    refine ACalls.is (cond01_spec l t.facts.length .unk _ (by omega)) ?_
    rw [hc]
    simp only [go_sem, simprocAttr, encTask]
    refine ACalls.is (hm17 _) ?_
    rw [make17R, if_neg h6]
    simp only [go_sem, simprocAttr, hnn]
    refine ACalls.is (hsn _) ?_
    simp only [go_sem, simprocAttr, n00, encTask]
    refine ACalls.is (hkn _) ?_
    simp only [go_sem, simprocAttr, encTask]
    refine ACalls.is (sameLits_spec (knownL t.facts.length b) (knownL t.facts.length b) .fresh .unk _ hkl hkl) ?_
    rw [decide_eq_true rfl]
    simp only [go_sem, simprocAttr, hf0, hf1, encTask]
    refine ACalls.is (split17_spec b f .unk _ hlb (by omega)) ?_
    simp only [go_sem, simprocAttr, e00]
    refine ACalls.is (ACalls.wk (same17_spec (yesL b f) (yesL b f) .fresh .unk _ hyl hyl) (.cons (Wk.lf _ _) (.cons (.refl _) .nil))) ?_
    rw [decide_eq_true rfl]
    simp only [go_sem, simprocAttr]
    refine ACalls.is (ACalls.wk (same17_spec (noL b f) (noL b f) .fresh .unk _ hnl hnl) (.cons (Wk.lf _ _) (.cons (.refl _) .nil))) ?_
    rw [decide_eq_true rfl]
    simp only [go_sem, simprocAttr]
    refine (awake17_spec _).is ?_
    simp only [go_sem, simprocAttr]
    exact rt (.bool true) ⟨rfl, rfl⟩
   have hrw : revealRes t b f = .tuple [.slice .nil [], .slice .nil [], .int .i64 1] := by rw [revealRes, if_pos he, if_neg hfr]
   by_cases hf0 : f < 0
   ·simp only [go_sem, simprocAttr, hpl, encTask]
    refine ACalls.is (hmk _) ?_
    rw [hmv]
    simp only [go_sem, simprocAttr, encTask]
    refine ACalls.is (hkw _) ?_
    rw [hkv]
    simp only [go_sem, simprocAttr, encTask]
    refine ACalls.is (hrv _) ?_
    rw [hrw]
    simp only [go_sem, simprocAttr, encTask]
    refine ACalls.is (hfa _) ?_
    rw [he]
    simp only [go_sem, simprocAttr, encTask]
    refine ACalls.is (hck _) ?_
    rw [he]
    simp only [go_sem, simprocAttr, nww, n10, encTask]
    refine ACalls.is (cond01_spec l t.facts.length .unk _ (by omega)) ?_
    rw [hc]
    simp only [go_sem, simprocAttr, encTask]
    refine ACalls.is (hm17 _) ?_
    rw [make17R, if_neg h6]
    simp only [go_sem, simprocAttr, hnn]
    refine ACalls.is (hsn _) ?_
    simp only [go_sem, simprocAttr, n00, encTask]
    refine ACalls.is (hkn _) ?_
    simp only [go_sem, simprocAttr, encTask]
    refine ACalls.is (sameLits_spec (knownL t.facts.length b) (knownL t.facts.length b) .fresh .unk _ hkl hkl) ?_
    rw [decide_eq_true rfl]
    simp only [go_sem, simprocAttr, hf0, encTask, hz, e11, e00, z00]
    refine (awake17_spec _).is ?_
    simp only [go_sem, simprocAttr]
    exact rt (.bool true) ⟨rfl, rfl⟩
   ·have hf1 : f ≥ (t.facts.length : Int) := by omega
    simp only [go_sem, simprocAttr, hpl, encTask]
    refine ACalls.is (hmk _) ?_
    rw [hmv]
    simp only [go_sem, simprocAttr, encTask]
    refine ACalls.is (hkw _) ?_
    rw [hkv]
    simp only [go_sem, simprocAttr, encTask]
    refine ACalls.is (hrv _) ?_
    rw [hrw]
    simp only [go_sem, simprocAttr, encTask]
    refine ACalls.is (hfa _) ?_
    rw [he]
    simp only [go_sem, simprocAttr, encTask]
    refine ACalls.is (hck _) ?_
    rw [he]
    simp only [go_sem, simprocAttr, nww, n10, encTask]
    refine ACalls.is (cond01_spec l t.facts.length .unk _ (by omega)) ?_
    rw [hc]
    simp only [go_sem, simprocAttr, encTask]
    refine ACalls.is (hm17 _) ?_
    rw [make17R, if_neg h6]
    simp only [go_sem, simprocAttr, hnn]
    refine ACalls.is (hsn _) ?_
    simp only [go_sem, simprocAttr, n00, encTask]
    refine ACalls.is (hkn _) ?_
    simp only [go_sem, simprocAttr, encTask]
    refine ACalls.is (sameLits_spec (knownL t.facts.length b) (knownL t.facts.length b) .fresh .unk _ hkl hkl) ?_
    rw [decide_eq_true rfl]
    simp only [go_sem, simprocAttr, hf0, hf1, encTask, hz, e11, e00, z00]
    refine (awake17_spec _).is ?_
    simp only [go_sem, simprocAttr]
    exact rt (.bool true) ⟨rfl, rfl⟩
  ·have hne := he
   have he := bErr_two hv hne
   have hkv : knownRes t b = .tuple [.slice .nil [], .int .i64 170] := by rw [knownRes, if_neg hne, he]
   have hrw : revealRes t b f = .tuple [.slice .nil [], .slice .nil [], .int .i64 170] := by rw [revealRes, if_neg hne, he]
   have nww : ((170 : Int) != 170) = false := rfl
   have n10 : ((170 : Int) == 10) = false := rfl
   have nw0 : ((170 : Int) != 0) = true := rfl
   have eww : ((170 : Int) == 170) = true := rfl
   simp only [go_sem, simprocAttr, hpl, encTask]
   refine ACalls.is (hmk _) ?_
   rw [hmv]
   simp only [go_sem, simprocAttr, encTask]
   refine ACalls.is (hkw _) ?_
   rw [hkv]
   simp only [go_sem, simprocAttr, encTask]
   refine ACalls.is (hrv _) ?_
   rw [hrw]
   simp only [go_sem, simprocAttr, encTask]
   refine ACalls.is (hfa _) ?_
   rw [he]
   simp only [go_sem, simprocAttr, encTask]
   refine ACalls.is (hck _) ?_
   rw [he]
   simp only [go_sem, simprocAttr, nww, n10, encTask]
   refine ACalls.is (cond01_spec l t.facts.length .unk _ (by omega)) ?_
   rw [hc]
   simp only [go_sem, simprocAttr, encTask]
   refine ACalls.is (hm17 _) ?_
   rw [make17R, if_neg h6]
   simp only [go_sem, simprocAttr, hnn]
   refine ACalls.is (hsn _) ?_
   simp only [go_sem, simprocAttr, nw0, eww, hz, z00, e00]
   refine (awake17_spec _).is ?_
   simp only [go_sem, simprocAttr]
   exact rt (.bool true) ⟨rfl, rfl⟩
theorem ra_lits : RArg Tryz.prog 24 (fun l : List FLit => .slice .unk (l.map encLit)) (okL fun _ => True) := .one rd_lits (by intro d h; rw [Tryz.underlying24] at h; injection h with h; subst h; rfl)
theorem law_reads : ReadsAll Tryz.prog Tryz.f3.params.toList (fun avs => ACalls Tryz.prog 3 avs [] (isR (.bool true) [])) := by
 rw [show Tryz.f3.params.toList = [27, 28, 24, 3] by kernel_rfl]
 exact .cons ra_task fun t ht => .cons ra_intss fun b hb => .cons ra_lits fun l hl => .cons ra_int fun f _ => .nil (law_spec t b l f ht hb hl.1 [])
set_option maxRecDepth 100000 in
theorem lifted (os : Os) (started : os.Started) (H : Type) (enc : TypeId × Value → H) :
  ReturnsInHanded {} Tryz.checked os 3 .any (Rows.beliefFormsSpec.pre6 enc Tryz.prog Tryz.f3 Rows.beliefFormsRow.domain false) (Rows.beliefFormsSpec.post enc Tryz.prog Tryz.f3 false true false false) := by
 refine returnsInHanded_of_change_sized (C := Tryz.checked) own started (by kernel_rfl) Tryz.func3
  (ChangeSpec.witness6 (enc := enc) (C := Tryz.checked) false ⟨#[], #[.agg #[.slice none 0 0, .slice none 0 0, .slice none 0 0, .slice none 0 0], .slice none 0 0, .slice none 0 0, .int .i64 0], []⟩ 8 (by kernel_rfl) (by kernel_rfl) (by kernel_rfl) (by kernel_rfl)) ?_
 intro W base args ds gs before hval hW _ hsz _
 refine law_post (P := Tryz.prog) Tryz.func3 (by kernel_rfl) (by decide) rfl ?_ laidOut (rdble (by kernel_rfl)) (by kernel_rfl) Tryz.underlying4 law_reads hval hW hsz
 intro ds h
 rw [show Tryz.f3.params.size = 4 by kernel_rfl] at h
 match ds, h with
 | [a, b, c, d], _ => rfl
theorem holds : Rows.BeliefFormsSaid :=
 OpenClaim.holds_of_wide 3 Tryz.f3 rfl rfl rfl rfl rfl rfl rfl ⟨rfl, rfl, rfl, rfl, rfl⟩ rfl rfl rfl rfl rfl (by kernel_rfl) Tryz.func3 (by kernel_rfl)
  (of_decide_eq_true (by kernel_rfl)) (by unfold Func.isWrapper; first | (rw [if_pos (by decide +kernel)]; kernel_rfl) | (rw [if_neg (by decide +kernel)]; exact ⟨rfl, rfl⟩))
  (fun os started H enc _ => lifted os started H enc)
end Go.Proofs.YtcjgoomlaojljaaGreat
