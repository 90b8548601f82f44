/- Contracts of the given program's functions, and an abstract layer over the model; no condition. -/
import Derived.Test.YtjmmldkailblmaaGreatBase4
set_option maxRecDepth 20000
set_option linter.unusedVariables false
set_option linter.unusedSimpArgs false
namespace Go.Proofs.YtjmmldkailblmaaGreat
open Go.Ahl
def encNt (j : Nat) : List AV := [.int .i64 (j : Nat)]
def encCo (c : Nat × List Nat) : List AV := [.int .i64 (c.1 : Nat), .slice .unk (c.2.map encNt)]
def encCh (l : List (Nat × List Nat)) : List AV := [.slice .unk (l.map encCo)]
theorem ids_encNt {n : Nat} (x : Nat) : IdsL n (encNt x) := idsL_cons (.int _ _) idsL_nil
theorem ids_encCo {n : Nat} (x : Nat × List Nat) : IdsL n (encCo x) := idsL_cons (.int _ _) (idsL_cons (ids_map ids_encNt _) idsL_nil)
theorem ids_encCh {n : Nat} (x : List (Nat × List Nat)) : IdsL n (encCh x) := idsL_cons (ids_map ids_encCo _) idsL_nil
instance : IdE encNt := ⟨fun _ => ids_encNt⟩
instance : IdE encCo := ⟨fun _ => ids_encCo⟩
instance : IdE encCh := ⟨fun _ => ids_encCh⟩
def c_every : CCode := .seq (.ops [oS 4 (.move (.lit (.bool false)))]) (.seq (.ops [oS 4 (.move (.lit (.bool true)))]) .ret)
theorem every_spec (s : AV) (i : Int) (σ : Store) : ACalls Tryz.prog 56 [s, .int .i64 i] σ (isR (.bool true) σ) := by
 refine ACalls.intro (rs := [(.tmp 4)]) (by kernel_rfl) { own := [], ghosts := [] } Tryz.func56 (c := Tryz.f56.body.getD .skip) (by kernel_rfl) (by decide) (by rw [show Tryz.f56.ntmps = 5 by kernel_rfl]; exact Nat.le_of_ble_eq_true rfl) (by kernel_rfl) ?_
 intro hσ hids
 rw [show comp Tryz.prog { own := [], ghosts := [] } (Tryz.f56.body.getD .skip) = c_every by kernel_rfl, show Tryz.f56.ntmps = 5 by kernel_rfl]
 unfold c_every
 simp only [go_sem, simprocAttr]
 show bodyK _ _ _ _ .ret _ _
 exact rt (.bool true) ⟨rfl, rfl⟩
theorem ofW (t : FTask) (ss : List (List Int)) (ch : List (List (Nat × List Nat))) (gl : List Bool) (x : List Int) (σ r : Store) (hx : x.length ≤ 1000000) (hap : Apart ss x) (hl : ss.length ≤ 1000000) :
  ACalls Tryz.prog 42 [.ptr (σ.length + 2) 0, .slice .unk (x.map Ahl.encI)] (σ ++ (([AObj.row (encTask t), AObj.map (encW ss), AObj.row [AV.map (σ.length + 1), AV.slice (.grow (σ.length + 3)) (List.map encL ss), AV.slice (.grow (σ.length + 4)) (List.map encCh ch), AV.slice (.grow (σ.length + 5)) (List.map encB gl)], AObj.grow 1 (List.length ss), AObj.grow 1 (List.length ch), AObj.grow 1 (List.length gl)]) ++ r)) (isR (.int .i64 (((addS ss x).idxOf x : Nat) : Int)) (σ ++ (([AObj.row (encTask t), AObj.map (encW (addS ss x)), AObj.row [AV.map (σ.length + 1), AV.slice (.grow (σ.length + 3)) (List.map encL (addS ss x)), AV.slice (.grow (σ.length + 4)) (List.map encCh ch), AV.slice (.grow (σ.length + 5)) (List.map encB gl)], AObj.grow 1 (List.length (addS ss x)), AObj.grow 1 (List.length ch), AObj.grow 1 (List.length gl)]) ++ r))) := by
 have h := ofN_spec ss x (σ.length + 1) (σ.length + 3) (σ.length + 2) [.slice (.grow (σ.length + 4)) (ch.map encCh), .slice (.grow (σ.length + 5)) (gl.map encB)] (σ ++ (([AObj.row (encTask t), AObj.map (encW ss), AObj.row [AV.map (σ.length + 1), AV.slice (.grow (σ.length + 3)) (List.map encL ss), AV.slice (.grow (σ.length + 4)) (List.map encCh ch), AV.slice (.grow (σ.length + 5)) (List.map encB gl)], AObj.grow 1 (List.length ss), AObj.grow 1 (List.length ch), AObj.grow 1 (List.length gl)]) ++ r)) hx hap hl (by simp) (by simp) (by simp) (by omega) (by omega) (by omega)
 have e : (if x ∈ ss then σ ++ (([AObj.row (encTask t), AObj.map (encW ss), AObj.row [AV.map (σ.length + 1), AV.slice (.grow (σ.length + 3)) (List.map encL ss), AV.slice (.grow (σ.length + 4)) (List.map encCh ch), AV.slice (.grow (σ.length + 5)) (List.map encB gl)], AObj.grow 1 (List.length ss), AObj.grow 1 (List.length ch), AObj.grow 1 (List.length gl)]) ++ r) else (((σ ++ (([AObj.row (encTask t), AObj.map (encW ss), AObj.row [AV.map (σ.length + 1), AV.slice (.grow (σ.length + 3)) (List.map encL ss), AV.slice (.grow (σ.length + 4)) (List.map encCh ch), AV.slice (.grow (σ.length + 5)) (List.map encB gl)], AObj.grow 1 (List.length ss), AObj.grow 1 (List.length ch), AObj.grow 1 (List.length gl)]) ++ r)).set (σ.length + 1) (.map (encW (ss ++ [x])))).set (σ.length + 3) (.grow 1 (ss.length + 1))).set (σ.length + 2) (.row (.map (σ.length + 1) :: .slice (.grow (σ.length + 3)) ((ss ++ [x]).map encL) :: [.slice (.grow (σ.length + 4)) (ch.map encCh), .slice (.grow (σ.length + 5)) (gl.map encB)]))) = σ ++ (([AObj.row (encTask t), AObj.map (encW (addS ss x)), AObj.row [AV.map (σ.length + 1), AV.slice (.grow (σ.length + 3)) (List.map encL (addS ss x)), AV.slice (.grow (σ.length + 4)) (List.map encCh ch), AV.slice (.grow (σ.length + 5)) (List.map encB gl)], AObj.grow 1 (List.length (addS ss x)), AObj.grow 1 (List.length ch), AObj.grow 1 (List.length gl)]) ++ r) := by
  by_cases hm : x ∈ ss
  ·rw [if_pos hm, addS_in hm]
  ·rw [if_neg hm, addS_out hm]
   simp
 rwa [e] at h
theorem pre_take (ss xs : List (List Int)) (j : Nat) : Pre (addAll ss (xs.take j)) (addAll ss xs) := by
 have e : addAll ss xs = addAll (addAll ss (xs.take j)) (xs.drop j) := by
  unfold addAll; rw [← List.foldl_append, List.take_append_drop]
 rw [e]; exact pre_addAll _ _
theorem tok3 {n0 nt : Nat} {s : Slots} (t : FTask) (σ : Store) : Ghost n0 nt s (σ ++ [.row (encTask t), .map [], .row [.map (σ.length + 1), .slice .nil [], .slice .nil [], .slice .nil []]]) s (σ ++ [AObj.row (encTask t), AObj.map (encW []), AObj.row [AV.map (σ.length + 1), AV.slice (.grow (σ.length + 3)) (List.map encL []), AV.slice (.grow (σ.length + 4)) (List.map encCh []), AV.slice (.grow (σ.length + 5)) (List.map encB [])], AObj.grow 1 (@List.length (List Int) []), AObj.grow 1 (@List.length (List (Nat × List Nat)) []), AObj.grow 1 (@List.length Bool [])]) := by
 have g1 := Ghost.tokRow (n0 := n0) (nt := nt) (s := s) (σ := σ ++ [.row (encTask t), .map [], .row [.map (σ.length + 1), .slice .nil [], .slice .nil [], .slice .nil []]]) (σ.length + 2) 1 1 (by simp; rfl) rfl
 have g2 := Ghost.tokRow (n0 := n0) (nt := nt) (s := s) (σ := σ ++ [.row (encTask t), .map [], .row [.map (σ.length + 1), .slice (.grow (σ.length + 3)) [], .slice .nil [], .slice .nil []], .grow 1 0]) (σ.length + 2) 2 1 (by simp; rfl) rfl
 have g3 := Ghost.tokRow (n0 := n0) (nt := nt) (s := s) (σ := σ ++ [.row (encTask t), .map [], .row [.map (σ.length + 1), .slice (.grow (σ.length + 3)) [], .slice (.grow (σ.length + 4)) [], .slice .nil []], .grow 1 0, .grow 1 0]) (σ.length + 2) 3 1 (by simp; rfl) rfl
 simp only [List.length_append, List.length_cons, List.length_nil, Nat.zero_add, Nat.reduceAdd, List.append_assoc, List.cons_append, List.nil_append, g_set, List.set_cons_succ, List.set_cons_zero] at g1 g2 g3
 exact (g1.trans g2).trans g3
structure Wld where
 ss : List (List Int)
 ch : List (List (Nat × List Nat))
 gl : List Bool
def encWorld (w : Wld) : List AV := [.any, .slice .unk (w.ss.map encL), .slice .unk (w.ch.map encCh), .slice .unk (w.gl.map encB)]
def wldF (t : FTask) (g : List (List Int)) (s0 : List Int) : Wld :=
 ⟨ssF t g s0, (ssF t g s0).map (chOf t g (ssF t g s0)), (ssF t g s0).map fun s => condHolds s t.goal⟩
def e_reach_0 : List COp := [oS 55 (.move (.tmp 10)), oS 56 (.move (.tmp 10)), oA 57 (.nilck (.tmp 56)) [1], oA 58 (.faddr 3 (.tmp 57)) [2], oA 59 (.load none (.tmp 58)) [3], oS 60 (.move (.tmp 12)), oS 61 (.faddr 2 (.tmp 4)), oA 62 (.load none (.tmp 61)) [6], oA 63 (.call (.lit (.func 40 [])) [.tmp 60, .tmp 62]) [5, 7], oA 64 (.bsliceC 1 [.tmp 63]) [8], oA 65 (.bappend 1 1 (.tmp 59) (.tmp 64) false) [4, 9, 8], oA 66 (.nilck (.tmp 55)) [0, 0, 1, 2, 3, 4, 5, 6, 7, 8, 9, 10], oA 67 (.faddr 3 (.tmp 66)) [11, 0, 1, 2, 3, 4, 5, 6, 7, 8, 9, 10], ⟨none, .store 1 (.tmp 67) (.tmp 65), none, [12, 10, 10, 0, 1, 2, 3, 4, 5, 6, 7, 8, 9, 10]⟩]
def d_reach_0 : List COp := e_reach_0
theorem dr_reach_0 (P : Program) (nt n0 : Nat) (Q : Post) (s : Slots) (σ : Store) : wpc P nt n0 (.draw d_reach_0) Q s σ = aOpsD P nt e_reach_0 (Q .normal) s σ := wpc_draw _ (by decide)
def e_reach_1 : List COp := [oS 96 (.faddr 1 (.tmp 18)), oA 97 (.load none (.tmp 96)) [0], oS 98 (.move (.tmp 10)), oA 99 (.nilck (.tmp 98)) [2], oA 100 (.faddr 0 (.tmp 99)) [3], oS 101 (.move (.tmp 20)), oA 102 (.callE (.lit (.func 42 [])) [.tmp 100, .tmp 101]) [4, 5], oA 103 (.bsliceC 1 [.tmp 102]) [6], oA 104 (.bappend 1 8 (.tmp 97) (.tmp 103) false) [1, 7, 6], oA 105 (.faddr 1 (.tmp 18)) [0, 1, 2, 3, 4, 5, 6, 7, 8], ⟨none, .store 1 (.tmp 105) (.tmp 104), none, [9, 8, 8, 0, 1, 2, 3, 4, 5, 6, 7, 8]⟩]
def d_reach_1 : List COp := e_reach_1
theorem dr_reach_1 (P : Program) (nt n0 : Nat) (Q : Post) (s : Slots) (σ : Store) : wpc P nt n0 (.drawU d_reach_1 [[], [6], [], [], [], [], [1], [], [], [], []]) Q s σ = aOpsU P nt e_reach_1 [[], [6], [], [], [], [], [1], [], [], [], []] 0 [] [] (Q .normal) s σ := wpc_drawU _ _ (by decide)
attribute [local go_sem] dr_reach_0 e_reach_0 dr_reach_1 e_reach_1
def c_reach : CCode := .seq (.ops [oS 4 (.box (.tmp 0)), oS 8 (.move (.lit (.conc (Value.pointer none)))), oS 9 (.move (.lit (.bool false)))]) (.seq (.ops [oS 21 .mkmap, oS 22 (.build [.mapnil, .slice .nil []] [(0, 1, .tmp 21)]), oS 23 (.build [.mapnil, .slice .nil [], .slice .nil [], .slice .nil []] [(0, 2, .tmp 22)]), oS 24 (.box (.tmp 23)), oS 10 (.move (.tmp 24))]) (.seq (.ghost (.ops [oS 25 (.move (.tmp 10)), oS 26 (.nilck (.tmp 25)), oS 27 (.faddr 0 (.tmp 26)), oS 28 (.move (.tmp 2)), oS 29 (.callE (.lit (.func 42 [])) [.tmp 27, .tmp 28])])) (.seq (.seq (.ops [oS 11 (.move (.lit (.int .i64 0)))]) (.block 0 (.loop (.seq (.seq (.ops [oS 30 (.move (.tmp 11)), oS 31 (.move (.tmp 10)), oS 32 (.nilck (.tmp 31)), oS 33 (.faddr 0 (.tmp 32)), oS 34 (.faddr 1 (.tmp 33)), oS 35 (.load none (.tmp 34)), oS 36 (.blen 1 (.tmp 35)), oS 37 (.bin .lss .none (.tmp 30) (.tmp 36))]) (.cond (.tmp 37) .skip (.exit 0))) (.seq (.block 1 (.seq (.seq (.ops [oS 40 (.move (.tmp 10)), oS 41 (.nilck (.tmp 40)), oS 42 (.faddr 0 (.tmp 41)), oS 43 (.faddr 1 (.tmp 42)), oS 44 (.load none (.tmp 43)), oS 45 (.blen 1 (.tmp 44)), oS 46 (.bin .gtr .none (.tmp 45) (.lit (.int .i64 20000)))]) (.cond (.tmp 46) (.seq (.ops [oS 8 (.move (.lit (.conc (Value.pointer none)))), oS 9 (.move (.lit (.bool false)))]) .ret) .skip)) (.seq (.ops [oS 47 (.move (.tmp 10)), oS 48 (.nilck (.tmp 47)), oS 49 (.faddr 0 (.tmp 48)), oS 50 (.faddr 1 (.tmp 49)), oS 51 (.load none (.tmp 50)), oS 52 (.move (.tmp 11)), oS 53 (.iaddr 1 (.tmp 51) (.tmp 52)), oS 54 (.load none (.tmp 53)), oS 12 (.move (.tmp 54))]) (.seq (.draw d_reach_0) (.seq (.ops [oS 13 (.move (.lit (.slice .nil [])))]) (.seq (.seq (.ops [oS 68 (.move (.tmp 1)), oS 69 (.blen 1 (.tmp 68)), oS 70 (.move (.lit (.int .i64 0)))]) (.block 2 (.loop (.seq (.ops [oS 71 (.bin .lss .none (.tmp 70) (.tmp 69))]) (.seq (.cond (.tmp 71) .skip (.exit 2)) (.seq (.block 3 (.seq (.ops [oS 72 (.move (.tmp 70)), oS 73 (.iaddr 1 (.tmp 68) (.tmp 70)), oS 74 (.load none (.tmp 73)), oS 14 (.move (.tmp 72)), oS 15 (.move (.tmp 74))]) (.seq (.seq (.ops [oS 75 (.move (.tmp 3)), oS 76 (.move (.tmp 12)), oS 77 (.move (.tmp 14)), oS 78 (.call (.tmp 75) [.tmp 76, .tmp 77]), oS 79 (.un .not (.tmp 78))]) (.cond (.tmp 79) (.exit 3) .skip)) (.seq (.ops [oS 81 (.load (some 4) (.tmp 4)), oS 82 (.move (.tmp 15)), oS 83 (.move (.tmp 12)), oS 84 (.call (.lit (.func 39 [])) [.tmp 81, .tmp 82, .tmp 83]), oS 80 (.move (.tmp 84)), oS 85 (.extract (.tmp 80) 0), oS 86 (.extract (.tmp 80) 1), oS 16 (.move (.tmp 85)), oS 17 (.move (.tmp 86))]) (.seq (.ops [oS 87 (.move (.tmp 17))]) (.cond (.tmp 87) (.seq (.ops [oS 88 (.move (.tmp 14)), oS 89 (.build [.int .i64 0, .slice .nil []] [(0, 1, .tmp 88)]), oS 18 (.alloc (.agg [.int .i64 0, .slice .nil []])), oN (.store 2 (.tmp 18) (.tmp 89))]) (.seq (.seq (.ops [oS 90 (.move (.tmp 16)), oS 91 (.blen 1 (.tmp 90)), oS 92 (.move (.lit (.int .i64 0)))]) (.block 4 (.loop (.seq (.ops [oS 93 (.bin .lss .none (.tmp 92) (.tmp 91))]) (.seq (.cond (.tmp 93) .skip (.exit 4)) (.seq (.block 5 (.seq (.ops [oS 94 (.iaddr 1 (.tmp 90) (.tmp 92)), oS 95 (.load none (.tmp 94)), oS 20 (.move (.tmp 95))]) (.drawU d_reach_1 [[], [6], [], [], [], [], [1], [], [], [], []]))) (.ops [oS 106 (.bin .add .none (.tmp 92) (.lit (.int .i64 1))), oS 92 (.move (.tmp 106))]))))))) (.ghost (.ops [oS 107 (.move (.tmp 13)), oS 108 (.load (some 2) (.tmp 18)), oS 109 (.bsliceC 2 [.tmp 108]), oS 110 (.bappend 2 32 (.tmp 107) (.tmp 109) false), oS 13 (.move (.tmp 110))])))) .skip)))))) (.ops [oS 111 (.bin .add .none (.tmp 70) (.lit (.int .i64 1))), oS 70 (.move (.tmp 111))]))))))) (.ghost (.ops [oS 112 (.move (.tmp 10)), oS 113 (.move (.tmp 10)), oS 114 (.nilck (.tmp 113)), oS 115 (.faddr 2 (.tmp 114)), oS 116 (.load none (.tmp 115)), oS 117 (.move (.tmp 13)), oS 118 (.bsliceC 1 [.tmp 117]), oS 119 (.bappend 1 24 (.tmp 116) (.tmp 118) false), oS 120 (.nilck (.tmp 112)), oS 121 (.faddr 2 (.tmp 120)), oN (.store 1 (.tmp 121) (.tmp 119))])))))))) (.ops [oS 38 (.move (.tmp 11)), oS 39 (.bin .add .none (.tmp 38) (.lit (.int .i64 1))), oS 11 (.move (.tmp 39))])))))) (.seq (.ops [oS 122 (.move (.tmp 10)), oS 8 (.move (.tmp 122)), oS 9 (.move (.lit (.bool true)))]) .ret))))
set_option maxHeartbeats 4000000 in
theorem reach_spec (t : FTask) (g : List (List Int)) (s0 : List Int) (tok : Tok) (σ : Store) (ht : TB t) (hb : SB t) (he : EOk t) (h8 : t.facts.length ≤ 8) (hc : choicesB t g = true) (hs : risingB t.facts.length (-1) s0 = true) :
  ACalls Tryz.prog 55 [.agg (encTask t), .slice tok (g.map encL), .slice .unk (s0.map Ahl.encI), .func 56 []] σ (isR (.tuple [.ptr σ.length 0, .bool true]) (σ ++ [.row (encWorld (wldF t g s0))])) := by
 refine ACalls.intro (rs := [(.tmp 8), (.tmp 9)]) (by kernel_rfl) { own := [], ghosts := [2, 23, 25], cold := [(9, 9), (21, 7), (23, 2), (25, 6)], loud := [(2, 4), (21, 6)], free := [(21, [[], [6], [], [], [], [], [1], [], [], [], []])] } Tryz.func55 (c := Tryz.f55.body.getD .skip) (by kernel_rfl) (by decide) (by rw [show Tryz.f55.ntmps = 123 by kernel_rfl]; exact Nat.le_of_ble_eq_true rfl) (by kernel_rfl) ?_
 intro hσ hids
 rw [show comp Tryz.prog { own := [], ghosts := [2, 23, 25], cold := [(9, 9), (21, 7), (23, 2), (25, 6)], loud := [(2, 4), (21, 6)], free := [(21, [[], [6], [], [], [], [], [1], [], [], [], []])] } (Tryz.f55.body.getD .skip) = c_reach by kernel_rfl, show Tryz.f55.ntmps = 123 by kernel_rfl]
 unfold c_reach
 have hig : Ids σ.length (.slice tok (g.map encL)) := hids _ (by simp)
 simp only [go_sem, simprocAttr]
 refine Gh.of (tok3 t σ) ?_
 simp only [go_sem, simprocAttr]
 have h2n : 2 ^ t.facts.length ≤ 256 := Nat.pow_le_pow_right (n := 2) (by omega) h8
 have hn8 : ∀ y, risingB t.facts.length (-1) y = true → y.length ≤ 8 := fun y hy => by
  rcases rising_len hy (by omega) with q | q
  ·omega
  ·rw [q]; simp
 refine (ofW t [] [] [] s0 σ [] (by have := hn8 s0 hs; omega) (by intro y hy; simp at hy) (by simp)).to ?_
 have e1 : addS [] s0 = ssK t g s0 0 := rfl
 rw [e1]
 simp only [go_sem, simprocAttr]
 have hgl : ∀ (ss : List (List Int)), IdsO 0 (.map (encW ss)) := fun ss => idsO_encW 0 ss
 have hwI : ∀ (n : Nat) ss ch gl, σ.length + 6 ≤ n → ∀ o ∈ ([AObj.row (encTask t), AObj.map (encW ss), AObj.row [AV.map (σ.length + 1), AV.slice (.grow (σ.length + 3)) (List.map encL ss), AV.slice (.grow (σ.length + 4)) (List.map encCh ch), AV.slice (.grow (σ.length + 5)) (List.map encB gl)], AObj.grow 1 (List.length ss), AObj.grow 1 (List.length ch), AObj.grow 1 (List.length gl)]), IdsO n o := by
  intro n ss ch gl hn o ho
  simp only [List.mem_cons, List.not_mem_nil, or_false] at ho
  rcases ho with rfl | rfl | rfl | rfl | rfl | rfl
  ·exact idsO_row (ids_encTask t)
  ·exact idsO_encW _ _
  ·intro j x hj
   match j, hj with
   | 0, hj => simp at hj; subst hj; exact .map _ (by omega)
   | 1, hj => simp only [List.getElem?_cons_succ, List.getElem?_cons_zero, Option.some.injEq] at hj; subst hj; exact ids_grow_map ids_encL (by omega)
   | 2, hj => simp only [List.getElem?_cons_succ, List.getElem?_cons_zero, Option.some.injEq] at hj; subst hj; exact ids_grow_map ids_encCh (by omega)
   | 3, hj => simp only [List.getElem?_cons_succ, List.getElem?_cons_zero, Option.some.injEq] at hj; subst hj; exact ids_grow_map ids_encB (by omega)
  all_goals trivial
 have hW : ∀ ss ch gl, IdsS (σ ++ [AObj.row (encTask t), AObj.map (encW ss), AObj.row [AV.map (σ.length + 1), AV.slice (.grow (σ.length + 3)) (List.map encL ss), AV.slice (.grow (σ.length + 4)) (List.map encCh ch), AV.slice (.grow (σ.length + 5)) (List.map encB gl)], AObj.grow 1 (List.length ss), AObj.grow 1 (List.length ch), AObj.grow 1 (List.length gl)]).length (σ ++ [AObj.row (encTask t), AObj.map (encW ss), AObj.row [AV.map (σ.length + 1), AV.slice (.grow (σ.length + 3)) (List.map encL ss), AV.slice (.grow (σ.length + 4)) (List.map encCh ch), AV.slice (.grow (σ.length + 5)) (List.map encB gl)], AObj.grow 1 (List.length ss), AObj.grow 1 (List.length ch), AObj.grow 1 (List.length gl)]) := fun ss ch gl => idsS_app _ hσ (hwI _ ss ch gl (by simp))
 refine wpc_while (fun (k : Nat) => [(1, .slice tok (g.map encL)), (3, .func 56 []), (4, .ptr σ.length 0), (10, .ptr (σ.length + 2) 0), (11, .int .i64 (k : Nat))])
  (fun k => σ ++ [AObj.row (encTask t), AObj.map (encW (ssK t g s0 k)), AObj.row [AV.map (σ.length + 1), AV.slice (.grow (σ.length + 3)) (List.map encL (ssK t g s0 k)), AV.slice (.grow (σ.length + 4)) (List.map encCh (CH t g (ssK t g s0 k) k)), AV.slice (.grow (σ.length + 5)) (List.map encB (GL t (ssK t g s0 k) k))], AObj.grow 1 (List.length (ssK t g s0 k)), AObj.grow 1 (List.length (CH t g (ssK t g s0 k) k)), AObj.grow 1 (List.length (GL t (ssK t g s0 k) k))])
  (fun k => k ≤ (ssK t g s0 k).length) (fun k => 256 - k) 0 (Nat.zero_le _) ?_ ?_
 ·exact ghL0 (hW (ssK t g s0 0) [] [])
 intro k hk K hK hE hR
 have hrs := rising_ssK he hc hs k
 have hll := ssK_len he hc hs k
 have hCHl : ∀ ss k, (CH t g ss k).length = k := fun ss k => by simp [CH]
 have hGLl : ∀ ss k, (GL t ss k).length = k := fun ss k => by simp [GL]
 by_cases h : k < (ssK t g s0 k).length
 ·obtain ⟨s, hx⟩ := get_ex h
  have hsr := hrs s (List.mem_of_getElem? hx)
  have hs8 := hn8 s hsr
  have hlt : ((k : Int) < ((ssK t g s0 k).length : Int)) := by omega
  have hw0 := wrapS (i := k) (by omega)
  have hno : ¬ (((ssK t g s0 k).length : Int) > 20000) := by omega
  have hbig : bigLen (k + 1) 1 := big_ok (by omega) (by omega)
  have hssu := ssK_succ hx
  have hCHs := CH_step hx
  have hGLs := GL_step hx
  generalize hss : ssK t g s0 k = ss at hk hrs hll h hx hlt hno hssu hCHs hGLs
  have hnd : ss.Nodup := by rw [← hss]; exact nodup_ssK s0 k
  have hC := hCHl ss k
  have hG := hGLl ss k
  generalize CH t g ss k = C at hC hCHs
  have hG1l : (GL t ss k ++ [condHolds s t.goal]).length = k + 1 := by simp [hG]
  generalize hG1 : GL t ss k ++ [condHolds s t.goal] = G1 at hG1l hGLs
  have hGf : List.map encB (GL t ss k) ++ [[AV.bool (condHolds s t.goal)]] = List.map encB G1 := by rw [← hG1, List.map_append]; rfl
  generalize hN : ssK t g s0 (k + 1) = N at hssu hCHs hGLs
  have hNr := rising_ssK he hc hs (k + 1)
  rw [hN] at hNr
  have hNl := ssK_len he hc hs (k + 1)
  rw [hN] at hNl
  simp only [go_sem, simprocAttr, hlt, hno, hx, encL, encTask]
  refine ⟨_, sTrue_spec s t.goal .unk .unk _ (by omega) (rising_pw hsr).1 ht.goal, ?_⟩
  simp only [go_sem, simprocAttr, hGLl, hbig, hGf]
  rw [← hG1l]
  have hgl8 : g.length ≤ 1000000 := by unfold choicesB at hc; rw [Bool.and_eq_true, decide_eq_true_eq] at hc; omega
  have hWr : ∀ ss' (l : Store), (∀ o ∈ l, IdsO (σ.length + 6 + l.length) o) → IdsS (σ ++ (([AObj.row (encTask t), AObj.map (encW ss'), AObj.row [AV.map (σ.length + 1), AV.slice (.grow (σ.length + 3)) (List.map encL ss'), AV.slice (.grow (σ.length + 4)) (List.map encCh C), AV.slice (.grow (σ.length + 5)) (List.map encB G1)], AObj.grow 1 (List.length ss'), AObj.grow 1 (List.length C), AObj.grow 1 (List.length G1)]) ++ l)).length (σ ++ (([AObj.row (encTask t), AObj.map (encW ss'), AObj.row [AV.map (σ.length + 1), AV.slice (.grow (σ.length + 3)) (List.map encL ss'), AV.slice (.grow (σ.length + 4)) (List.map encCh C), AV.slice (.grow (σ.length + 5)) (List.map encB G1)], AObj.grow 1 (List.length ss'), AObj.grow 1 (List.length C), AObj.grow 1 (List.length G1)]) ++ l)) := fun ss' l hl => idsS_app _ hσ fun o ho => by
   rcases List.mem_append.1 ho with ho | ho
   ·exact hwI _ ss' C G1 (by simp) o ho
   ·have := hl o ho
    simpa [Nat.add_assoc, Nat.add_comm, Nat.add_left_comm] using this
  refine wpc_while (fun (i : Nat) => [(1, .slice tok (g.map encL)), (3, .func 56 []), (4, .ptr σ.length 0), (10, .ptr (σ.length + 2) 0), (11, .int .i64 (k : Nat)), (12, .slice .unk (s.map Ahl.encI)), (13, .slice (.grow (σ.length + 6)) ((chG t g s N i).map encCo)), (68, .slice tok (g.map encL)), (69, .int .i64 g.length), (70, .int .i64 (i : Nat))])
   (fun i => σ ++ (([AObj.row (encTask t), AObj.map (encW (growG t g s ss i)), AObj.row [AV.map (σ.length + 1), AV.slice (.grow (σ.length + 3)) (List.map encL (growG t g s ss i)), AV.slice (.grow (σ.length + 4)) (List.map encCh C), AV.slice (.grow (σ.length + 5)) (List.map encB G1)], AObj.grow 1 (List.length (growG t g s ss i)), AObj.grow 1 (List.length C), AObj.grow 1 (List.length G1)]) ++ [.grow 2 (chG t g s N i).length]))
   (fun i => i ≤ g.length) (fun i => g.length - i) 0 (Nat.zero_le _) ?_ ?_
  ·refine Ghost.trans (Ghost.beginT ([AObj.row (encTask t), AObj.map (encW ss), AObj.row [AV.map (σ.length + 1), AV.slice (.grow (σ.length + 3)) (List.map encL ss), AV.slice (.grow (σ.length + 4)) (List.map encCh C), AV.slice (.grow (σ.length + 5)) (List.map encB G1)], AObj.grow 1 (List.length ss), AObj.grow 1 (List.length C), AObj.grow 1 (List.length G1)]) 13 2 [(1, .slice tok (g.map encL)), (3, .func 56 []), (4, .ptr σ.length 0), (10, .ptr (σ.length + 2) 0), (11, .int .i64 (k : Nat)), (12, .slice .unk (s.map Ahl.encI)), (68, .slice tok (g.map encL)), (69, .int .i64 g.length), (70, .int .i64 0)] tellT (by simpa using hWr ss [] (by simp))) ?_
   exact Ghost.same fun i => by
    simp only [lk]
    by_cases h13 : 13 = i
    ·subst h13; rfl
    ·have : (13 == i) = false := by simpa using h13
     rw [this]; rfl
  intro i hi K2 hK2 hE2 hR2
  by_cases h : i < g.length
  ·obtain ⟨l, hx⟩ := get_ex h
   have hlt : ((i : Int) < (g.length : Int)) := by omega
   have hw := wrapS (i := i) (by omega)
   have hgi : grp g i = l := by unfold grp; rw [List.getD_eq_getElem?_getD, hx]; rfl
   obtain ⟨-, c1, c2, c3⟩ := grp_ok hc h
   rw [hgi] at c1 c2 c3
   simp only [go_sem, simprocAttr, hlt, hx, encL]
   refine (every_spec _ _ _).to ?_
   simp only [go_sem, simprocAttr, encTask]
   refine (pouts_spec t l s .unk .unk _ ht hb he (by omega) c1 (by have := hb.acts; omega) c2 hsr).is ?_
   have hgs : growG t g s ss (i + 1) = addAll (growG t g s ss i) (outsAt t g s i) := growG_succ s ss i
   have hcs : chG t g s N (i + 1) = _ := chG_succ s N i
   unfold outsAt at hgs
   rw [hgi] at hgs hcs
   unfold outR
   cases hap : appB t l s
   ·rw [hap] at hgs hcs
    simp only [Bool.false_eq_true, if_false, List.append_nil] at hgs hcs
    have hgs : growG t g s ss (i + 1) = growG t g s ss i := hgs
    rw [if_neg (by simp)]
    simp only [go_sem, simprocAttr, encTask, hw]
    refine hK2 _ _ (i + 1) (by omega) (by omega) ?_
    rw [hgs, hcs]
    exact ghL0 (hWr _ _ (by simp; trivial))
   ·rw [hap] at hgs hcs
    simp only [if_true] at hgs hcs
    rw [if_pos rfl]
    simp only [go_sem, simprocAttr, encTask, hw]
    have hpE : Pre (addAll (growG t g s ss i) (outsL t l s)) N := by
     rw [← hgs, hssu]
     have := pre_growGG (t := t) (g := g) s ss (i + 1) (g.length - (i + 1))
     rwa [show i + 1 + (g.length - (i + 1)) = g.length by omega] at this
    have hol : (outsL t l s).length ≤ 256 := by
     have h1 : (outsL t l s).Nodup := (outs_strict t l s).imp fun {a b} q e => by subst e; exact absurd q (by unfold ltL; rw [cmpInts_refl]; omega)
     have := nodup_sub_len h1 (m := N) fun y hy => hpE.mem (mem_addAll.2 (.inr hy))
     omega
    have hor : ∀ y ∈ outsL t l s, risingB t.facts.length (-1) y = true := outs_rising he hsr c2
    generalize outsL t l s = O at hpE hol hor hcs hgs
    generalize growG t g s ss i = G0 at hpE hgs
    have hIr : ∀ (x : AV) (ys : List (List AV)), Ids (σ.length + 9) (.slice (.grow (σ.length + 8)) ys) → IdsO (σ.length + 9) (.row [.int .i64 (i : Nat), .slice (.grow (σ.length + 8)) ys]) := fun x ys hy => idsO_row (idsL_cons (.int _ _) (idsL_cons hy idsL_nil))
    have hWj : ∀ ss' c (ys : List Nat) j, IdsS (σ ++ (([AObj.row (encTask t), AObj.map (encW ss'), AObj.row [AV.map (σ.length + 1), AV.slice (.grow (σ.length + 3)) (List.map encL ss'), AV.slice (.grow (σ.length + 4)) (List.map encCh C), AV.slice (.grow (σ.length + 5)) (List.map encB G1)], AObj.grow 1 (List.length ss'), AObj.grow 1 (List.length C), AObj.grow 1 (List.length G1)]) ++ [AObj.grow 2 c, .row [.int .i64 (i : Nat), .slice (.grow (σ.length + 8)) (ys.map encNt)], .grow 1 j])).length (σ ++ (([AObj.row (encTask t), AObj.map (encW ss'), AObj.row [AV.map (σ.length + 1), AV.slice (.grow (σ.length + 3)) (List.map encL ss'), AV.slice (.grow (σ.length + 4)) (List.map encCh C), AV.slice (.grow (σ.length + 5)) (List.map encB G1)], AObj.grow 1 (List.length ss'), AObj.grow 1 (List.length C), AObj.grow 1 (List.length G1)]) ++ [AObj.grow 2 c, .row [.int .i64 (i : Nat), .slice (.grow (σ.length + 8)) (ys.map encNt)], .grow 1 j])) := fun ss' c ys j => hWr _ _ (by
     intro o ho
     simp only [List.mem_cons, List.not_mem_nil, or_false] at ho
     rcases ho with rfl | rfl | rfl
     ·trivial
     ·exact hIr .any _ (ids_grow_map ids_encNt (by omega))
     ·trivial)
    refine wpc_while (fun (j : Nat) => [(1, .slice tok (g.map encL)), (3, .func 56 []), (4, .ptr σ.length 0), (10, .ptr (σ.length + 2) 0), (11, .int .i64 (k : Nat)), (12, .slice .unk (s.map Ahl.encI)), (13, .slice (.grow (σ.length + 6)) ((chG t g s N i).map encCo)), (18, .ptr (σ.length + 7) 0), (68, .slice tok (g.map encL)), (69, .int .i64 g.length), (70, .int .i64 (i : Nat)), (90, .slice .unk (O.map encL)), (91, .int .i64 O.length), (92, .int .i64 (j : Nat))])
     (fun j => σ ++ (([AObj.row (encTask t), AObj.map (encW (addAll G0 (O.take j))), AObj.row [AV.map (σ.length + 1), AV.slice (.grow (σ.length + 3)) (List.map encL (addAll G0 (O.take j))), AV.slice (.grow (σ.length + 4)) (List.map encCh C), AV.slice (.grow (σ.length + 5)) (List.map encB G1)], AObj.grow 1 (List.length (addAll G0 (O.take j))), AObj.grow 1 (List.length C), AObj.grow 1 (List.length G1)]) ++ [.grow 2 (chG t g s N i).length, .row [.int .i64 (i : Nat), .slice (.grow (σ.length + 8)) (((O.take j).map N.idxOf).map encNt)], .grow 1 j]))
     (fun j => j ≤ O.length) (fun j => O.length - j) 0 (Nat.zero_le _) ?_ ?_
    ·refine Ghost.trans (Ghost.tokRow (σ.length + 7) 1 1 (cells := [.int .i64 (i : Nat), .slice .nil []]) (by simp) rfl) ?_
     simp only [List.length_append, List.length_cons, List.length_nil, Nat.zero_add, Nat.reduceAdd, List.append_assoc, List.cons_append, List.nil_append, g_set, List.set_cons_succ, List.set_cons_zero]
     refine Ghost.trans (Ghost.weak 90 (.slice .unk (O.map encL)) (by simpa [lk] using Wk.lfu .fresh O)) ?_
     exact ghL0 (hWj _ _ [] _)
    intro j hj K3 hK3 hE3 hR3
    by_cases h : j < O.length
    ·obtain ⟨x, hx⟩ := get_ex h
     have hlt : ((j : Int) < (O.length : Int)) := by omega
     have hw2 := wrapS (i := j) (by omega)
     have hbig2 : bigLen (j + 1) 8 := big_ok (by omega) (by omega)
     have hxr := hor x (List.mem_of_getElem? hx)
     have hpj : Pre (addAll G0 (O.take j)) N := (pre_take G0 O j).trans hpE
     have hpj1 : Pre (addAll G0 (O.take (j + 1))) N := (pre_take G0 O (j + 1)).trans hpE
     have hjl := hpj.len
     rw [addAll_take hx] at hpj1
     have hidx : (addS (addAll G0 (O.take j)) x).idxOf x = N.idxOf x := (hpj1.idx (mem_addS.2 (.inr rfl))).symm
     have hlj : (((O.take j).map N.idxOf).map encNt).length = j := by simp; omega
     have hfj : ((O.take j).map N.idxOf).map encNt ++ [[AV.int .i64 ((N.idxOf x : Nat) : Int)]] = ((O.take (j + 1)).map N.idxOf).map encNt := by
      rw [take_succ' hx, List.map_append, List.map_append]; rfl
     simp only [go_sem, simprocAttr, hlt, hx, encL]
     refine ⟨_, _, ofW t (addAll G0 (O.take j)) C G1 x σ [.grow 2 (chG t g s N i).length, .row [.int .i64 (i : Nat), .slice (.grow (σ.length + 8)) (((O.take j).map N.idxOf).map encNt)], .grow 1 j] (by have := hn8 x hxr; omega) (key_apart (n := t.facts.length) (by omega) (fun y hy => hNr y (hpj.mem hy)) hxr) (by omega), ?_⟩
     rw [hidx]
     simp only [go_sem, simprocAttr, hlj, hbig2, hfj, hw2]
     refine hK3 _ _ (j + 1) (by omega) (by omega) ?_
     rw [addAll_take hx]
     exact ghL0 (hWj _ _ _ _)
    ·have hje : j = O.length := by omega
     have hlt : ¬ ((j : Int) < (O.length : Int)) := by omega
     rw [List.take_of_length_le (by omega), ← hgs]
     simp only [go_sem, simprocAttr, hlt, hE3]
     refine Gh.of (Ghost.rewk (σ.length + 7) (ys := [.int .i64 (i : Nat), .slice .unk ((O.map N.idxOf).map encNt)]) (by simp; rfl) (.cons (.refl _) (.cons (Wk.unk _ _) .nil))) ?_
     have hcf : (chG t g s N i).map encCo ++ [[AV.int .i64 (i : Nat), AV.slice .unk ((O.map N.idxOf).map encNt)]] = (chG t g s N (i + 1)).map encCo := by
      rw [hcs, List.map_append]; rfl
     have hcl : (chG t g s N (i + 1)).length = (chG t g s N i).length + 1 := by rw [hcs]; simp
     have hci : (chG t g s N i).length ≤ i := by
      unfold chG; rw [List.length_map]; exact Nat.le_trans (List.length_filter_le _ _) (by simp)
     have hbig3 : bigLen ((chG t g s N i).length + 1) 32 := big_ok (by omega) (by omega)
     simp only [go_sem, simprocAttr, hbig3, hcf, hw]
     refine hK2 _ _ (i + 1) (by omega) (by omega) ?_
     rw [← hcl]
     exact Ghost.keepL (k := 7) (([AObj.row (encTask t), AObj.map (encW (growG t g s ss (i + 1))), AObj.row [AV.map (σ.length + 1), AV.slice (.grow (σ.length + 3)) (List.map encL (growG t g s ss (i + 1))), AV.slice (.grow (σ.length + 4)) (List.map encCh C), AV.slice (.grow (σ.length + 5)) (List.map encB G1)], AObj.grow 1 (List.length (growG t g s ss (i + 1))), AObj.grow 1 (List.length C), AObj.grow 1 (List.length G1)]) ++ [AObj.grow 2 (chG t g s N (i + 1)).length]) rfl (Nat.le_refl _) tellT (hWr _ _ (by simp; trivial))
  ·have hig' : i = g.length := by omega
   have hlt : ¬ ((i : Int) < (g.length : Int)) := by omega
   subst hig'
   rw [← hssu]
   simp only [go_sem, simprocAttr, hlt, hE2]
   refine Gh.of (Ghost.weak 13 (.slice .unk ((chG t g s N g.length).map encCo)) (Wk.unk _ _)) ?_
   have hCf : C.map encCh ++ [[AV.slice .unk ((chG t g s N g.length).map encCo)]] = (CH t g N (k + 1)).map encCh := by rw [hCHs, List.map_append]; rfl
   have hCl : (CH t g N (k + 1)).length = k + 1 := hCHl _ _
   have hbig4 : bigLen (k + 1) 24 := big_ok (by omega) (by omega)
   simp only [go_sem, simprocAttr, hC, hbig4, hCf, hw0]
   refine hK _ _ (k + 1) ?_ (by omega) ?_
   ·rw [hN]
    have := (pre_growS (t := t) (g := g) ss k).len
    have e : growS t g ss k = N := by rw [← hN, ← hss]; rfl
    rw [e] at this; omega
   ·rw [hN]
    rw [← hGLs, show AObj.grow 1 (k + 1) = AObj.grow 1 (CH t g N (k + 1)).length by rw [hCl]]
    have hGk : (GL t N (k + 1)).length = k + 1 := hGLl _ _
    refine Ghost.keepL (g := [AObj.grow 2 (chG t g s N g.length).length]) (k := 6) ([AObj.row (encTask t), AObj.map (encW N), AObj.row [AV.map (σ.length + 1), AV.slice (.grow (σ.length + 3)) (List.map encL N), AV.slice (.grow (σ.length + 4)) (List.map encCh (CH t g N (k + 1))), AV.slice (.grow (σ.length + 5)) (List.map encB (GL t N (k + 1)))], AObj.grow 1 (List.length N), AObj.grow 1 (List.length (CH t g N (k + 1))), AObj.grow 1 (List.length (GL t N (k + 1)))]) rfl (Nat.le_refl _) ?_ (hW _ _ _)
    exact tellT
 ·have hke : k = (ssK t g s0 k).length := by omega
  have hlt : ¬ ((k : Int) < ((ssK t g s0 k).length : Int)) := by omega
  simp only [go_sem, simprocAttr, hlt, hE]
  have hkl : k ≤ 2 ^ t.facts.length := by have := ssK_len he hc hs k; omega
  have hF : ssF t g s0 = ssK t g s0 k := ssF_of he hc hs (by omega) hkl
  have e1 : encWorld (wldF t g s0) = [.any, .slice .unk ((ssK t g s0 k).map encL), .slice .unk ((CH t g (ssK t g s0 k) k).map encCh), .slice .unk ((GL t (ssK t g s0 k) k).map encB)] := by
   have c := CH_end (t := t) (g := g) (ss := ssK t g s0 k)
   have d := GL_end (t := t) (ss := ssK t g s0 k)
   rw [← hke] at c d
   rw [c, d]; unfold encWorld wldF; rw [hF]
  rw [e1]
  generalize ssK t g s0 k = ss
  generalize CH t g ss k = C
  generalize GL t ss k = G1
  have hio : ∀ n, IdsO n (.row [.any, .slice .unk (ss.map encL), .slice .unk (C.map encCh), .slice .unk (G1.map encB)])   := fun n => idsO_row (idsL_cons .any (idsL_cons (ids_map ids_encL _) (idsL_cons (ids_map ids_encCh _) (idsL_cons (ids_map ids_encB _) idsL_nil))))
  refine ret_gh2 (v := .ptr σ.length 0) (x := .bool true) (σ' := σ ++ [.row [.any, .slice .unk (ss.map encL), .slice .unk (C.map encCh), .slice .unk (G1.map encB)]]) ?_ rfl (by simp) (idsS_push hσ (hio _)) (.ptr _ _ (by simp)) (.bool _) ⟨rfl, rfl⟩
  refine Ghost.trans (Ghost.rewk (σ.length + 2) (xs := [.map (σ.length + 1), .slice (.grow (σ.length + 3)) (ss.map encL), .slice (.grow (σ.length + 4)) (C.map encCh), .slice (.grow (σ.length + 5)) (G1.map encB)]) (ys := [.any, .slice .unk (ss.map encL), .slice .unk (C.map encCh), .slice .unk (G1.map encB)]) (by simp) (.cons (.any _) (.cons (Wk.unk _ _) (.cons (Wk.unk _ _) (.cons (Wk.unk _ _) .nil))))) ?_
  simp only [g_set, List.set_cons_succ, List.set_cons_zero]
  exact Ghost.moved _ 2 _ (Nat.le_refl _) rfl hσ (hio _) ⟨.ptr _, ⟨.keep (.refl _) (.bool _), trivial⟩⟩
theorem contN_spec (l : List Nat) (g : FuncId) (cap : List AV) (p : Nat → Bool) (tok : Tok) (σ : Store) (hl : l.length ≤ 140737488355328)
  (hp : ∀ x ∈ l, ACalls Tryz.prog g (.int .i64 (x : Nat) :: cap) σ (isR (.bool (p x)) σ)) :
  ACalls Tryz.prog 59 [.slice tok (l.map encNt), .func g cap] σ (isR (.bool (l.any p)) σ) := by
 have h := contS_spec (l.map (fun k : Nat => (k : Int))) g cap (fun x => p x.toNat) tok σ (by simpa using hl) (by
  intro x hx
  obtain ⟨k, hk, rfl⟩ := List.mem_map.1 hx
  exact hp k hk)
 rw [List.map_map, List.any_map] at h
 exact h
structure WOk (w : Wld) : Prop where
 len : w.ss.length ≤ 1000000
 ch : w.ch.length = w.ss.length
 gl : w.gl.length = w.ss.length
 many : ∀ l ∈ w.ch, l.length ≤ 1000000
 some : ∀ l ∈ w.ch, ∀ c ∈ l, c.2.length ≤ 1000000 ∧ c.2 ≠ [] ∧ ∀ k ∈ c.2, k < w.ss.length
def negB (far : List Int) (k : Nat) : Bool := decide (far.getD k 0 < 0)
def okCo (far : List Int) (c : Nat × List Nat) : Bool := !(c.2.any (negB far))
def nowB (w : Wld) (far : List Int) (i : Nat) : Bool := negB far i && (w.ch.getD i []).any (okCo far)
def nowL (w : Wld) (far : List Int) : List Nat := (List.range w.ss.length).filter (nowB w far)
def setL (far : List Int) (l : List Nat) (d : Int) : List Int := l.foldl (fun f i => f.set i d) far
def dRound (w : Wld) (far : List Int) (d : Nat) : List Int := setL far (nowL w far) (d : Nat)
def far0 (w : Wld) : List Int := w.gl.map fun b => if b then 0 else -1
def dIter (w : Wld) : Nat → List Int
 | 0 => far0 w
 | k + 1 => dRound w (dIter w k) (k + 1)
theorem len_setL (d : Int) : ∀ (l : List Nat) (far : List Int), (setL far l d).length = far.length
 | [], far => rfl
 | i :: l, far => by
  show (setL (far.set i d) l d).length = _
  rw [len_setL d l, List.length_set]
theorem get_setL (d : Int) : ∀ (l : List Nat) (far : List Int) (i : Nat), (setL far l d).getD i 0 = if i ∈ l ∧ i < far.length then d else far.getD i 0
 | [], far, i => by simp [setL]
 | j :: l, far, i => by
  show (setL (far.set j d) l d).getD i 0 = _
  rw [get_setL d l, List.length_set]
  by_cases h1 : i ∈ l ∧ i < far.length
  ·rw [if_pos h1, if_pos ⟨List.mem_cons_of_mem _ h1.1, h1.2⟩]
  ·rw [if_neg h1]
   by_cases h2 : i = j
   ·subst h2
    by_cases h3 : i < far.length
    ·rw [if_pos ⟨List.mem_cons_self, h3⟩, List.getD_eq_getElem?_getD, List.getElem?_set_self h3]; rfl
    ·rw [if_neg (fun q => h3 q.2), List.getD_eq_getElem?_getD, List.getD_eq_getElem?_getD, List.getElem?_eq_none (by simpa using h3), List.getElem?_eq_none (by omega)]
   ·rw [if_neg (fun q => h1 ⟨(List.mem_cons.1 q.1).resolve_left h2, q.2⟩), List.getD_eq_getElem?_getD, List.getD_eq_getElem?_getD, List.getElem?_set_ne (fun e => h2 e.symm)]
def nonneg (far : List Int) : Nat := far.countP fun x => decide (0 ≤ x)
theorem dIter_len (w : Wld) (hw : WOk w) : ∀ k, (dIter w k).length = w.ss.length
 | 0 => by rw [dIter, far0, List.length_map, hw.gl]
 | k + 1 => by rw [dIter, dRound, len_setL, dIter_len w hw k]
theorem nonneg_len (far : List Int) : nonneg far ≤ far.length := List.countP_le_length
theorem nonneg_set {far : List Int} {i : Nat} {v : Int} (hv : 0 ≤ v) : nonneg far ≤ nonneg (far.set i v) := by
 rcases Nat.lt_or_ge i far.length with h | h
 ·unfold nonneg
  rw [List.countP_set h, if_pos (decide_eq_true hv)]
  split <;> omega
 ·rw [List.set_eq_of_length_le h]; exact Nat.le_refl _
theorem nonneg_set1 {far : List Int} {i : Nat} {v : Int} (hv : 0 ≤ v) (h : i < far.length) (hn : negB far i = true) : nonneg far + 1 ≤ nonneg (far.set i v) := by
 unfold nonneg
 have : decide (0 ≤ far[i]) = false := by
  unfold negB at hn
  rw [List.getD_eq_getElem?_getD, List.getElem?_eq_getElem h] at hn
  have := of_decide_eq_true hn
  simp only [Option.getD_some] at this
  exact decide_eq_false (by omega)
 rw [List.countP_set h, if_pos (decide_eq_true hv), this]
 simp
theorem nonneg_setL {v : Int} (hv : 0 ≤ v) : ∀ (l : List Nat) (far : List Int), nonneg far ≤ nonneg (setL far l v)
 | [], far => Nat.le_refl _
 | i :: l, far => Nat.le_trans (nonneg_set hv) (nonneg_setL hv l (far.set i v))
theorem nowL_mem {w : Wld} {far : List Int} {i : Nat} : i ∈ nowL w far ↔ i < w.ss.length ∧ nowB w far i = true := by
 unfold nowL; rw [List.mem_filter, List.mem_range]
theorem nonneg_round {w : Wld} {far : List Int} {d : Nat} (hl : far.length = w.ss.length) (h : nowL w far ≠ []) : nonneg far + 1 ≤ nonneg (dRound w far d) := by
 unfold dRound
 cases hn : nowL w far with
 | nil => exact absurd hn h
 | cons i l =>
  have hi := nowL_mem.1 (show i ∈ nowL w far by rw [hn]; exact List.mem_cons_self)
  have hb := hi.2
  unfold nowB at hb
  rw [Bool.and_eq_true] at hb
  exact Nat.le_trans (nonneg_set1 (v := (d : Int)) (by omega) (by omega) hb.1) (nonneg_setL (by omega) l _)
theorem dIter_stop {w : Wld} {d : Nat} (h : nowL w (dIter w d) = []) : ∀ k, dIter w (d + k) = dIter w d
 | 0 => rfl
 | k + 1 => by
  show dRound w (dIter w (d + k)) _ = _
  rw [dIter_stop h k]; unfold dRound; rw [h]; rfl
theorem rep_ai16 (n : Nat) : (List.replicate n [AV.int .i64 0]).flatten = (List.replicate n 0).map ai := by
 induction n with
 | zero => rfl
 | succ n ih => rw [List.replicate_succ, List.flatten_cons, ih, List.replicate_succ]; rfl
theorem set_ai (F : List Int) (i : Nat) (v : Int) : (F.map ai).set i (.int .i64 v) = (F.set i v).map ai := List.map_set.symm
theorem fill_set {α : Type} {l : List α} {i N : Nat} {v z : α} (h : l[i]? = some v) (hl : l.length = N) : (l.take i ++ List.replicate (N - i) z).set i v = l.take (i + 1) ++ List.replicate (N - (i + 1)) z := by
 have hi := lt_of_get h
 rw [take_succ' h, List.set_append_right _ _ (by simp; omega), List.length_take, Nat.min_eq_left (by omega), Nat.sub_self, show N - i = (N - (i + 1)) + 1 by omega, List.replicate_succ, List.set_cons_zero, List.append_assoc]
 rfl
def c_dist1 : CCode := .seq (.ops [oS 3 (.move (.lit (.bool false)))]) (.seq (.ops [oS 4 (.load none (.tmp 1)), oS 5 (.move (.tmp 0)), oS 6 (.iaddr 1 (.tmp 4) (.tmp 5)), oS 7 (.load none (.tmp 6)), oS 8 (.bin .lss .none (.tmp 7) (.lit (.int .i64 0))), oS 3 (.move (.tmp 8))]) .ret)
theorem dist1_spec (far : List Int) (k c id : Nat) (σ : Store) (N : Nat) (hN : far.length = N) (hc : σ[c]? = some (.row [.ref id 1 0 N])) (hid : σ[id]? = some (.row (far.map ai))) (hk : k < far.length) :
  ACalls Tryz.prog 83 [.int .i64 (k : Nat), .ptr c 0] σ (isR (.bool (negB far k)) σ) := by
 refine ACalls.intro (rs := [(.tmp 3)]) (by kernel_rfl) { own := [], ghosts := [] } Tryz.func83 (c := Tryz.f83.body.getD .skip) (by kernel_rfl) (by decide) (by rw [show Tryz.f83.ntmps = 9 by kernel_rfl]; exact Nat.le_of_ble_eq_true rfl) (by kernel_rfl) ?_
 intro hσ hids
 rw [show comp Tryz.prog { own := [], ghosts := [] } (Tryz.f83.body.getD .skip) = c_dist1 by kernel_rfl, show Tryz.f83.ntmps = 9 by kernel_rfl]
 unfold c_dist1
 subst hN
 obtain ⟨x, hx⟩ := get_ex hk
 have hcl := lt_of_get hc
 have hil := lt_of_get hid
 have hk' : ((k : Int) < (far.length : Int)) := by omega
 have e : negB far k = decide (x < 0) := by unfold negB; rw [List.getD_eq_getElem?_getD, hx]; rfl
 rw [e]
 simp only [go_sem, simprocAttr, hc, hid, hx, hk', hk, ai]
 first | exact rtw (v := .bool _) wkS ⟨rfl, rfl⟩ | exact rtw0 (v := .bool _) wkS ⟨rfl, rfl⟩
def c_dist : CCode := .seq (.ops [oS 2 (.move (.lit (.slice .nil [])))]) (.seq (.ops [oS 12 (.move (.tmp 0)), oS 13 (.nilck (.tmp 12)), oS 14 (.faddr 0 (.tmp 13)), oS 15 (.faddr 1 (.tmp 14)), oS 16 (.load none (.tmp 15)), oS 17 (.blen 1 (.tmp 16)), oS 18 (.mkslice 1 8 [.int .i64 0] (.tmp 17) (.tmp 17) true), oS 3 (.alloc (.slice .nil [])), oN (.store 1 (.tmp 3) (.tmp 18))]) (.seq (.seq (.ops [oS 19 (.load none (.tmp 3)), oS 20 (.blen 1 (.tmp 19)), oS 21 (.move (.lit (.int .i64 0)))]) (.block 0 (.loop (.seq (.ops [oS 22 (.bin .lss .none (.tmp 21) (.tmp 20))]) (.seq (.cond (.tmp 22) .skip (.exit 0)) (.seq (.block 1 (.seq (.ops [oS 23 (.move (.tmp 21)), oS 4 (.move (.tmp 23))]) (.seq (.ops [oS 24 (.load none (.tmp 3)), oS 25 (.move (.tmp 4)), oS 26 (.iaddr 1 (.tmp 24) (.tmp 25)), oN (.store 1 (.tmp 26) (.lit (.int .i64 (-1))))]) (.seq (.ops [oS 27 (.move (.tmp 0)), oS 28 (.nilck (.tmp 27)), oS 29 (.faddr 3 (.tmp 28)), oS 30 (.load none (.tmp 29)), oS 31 (.move (.tmp 4)), oS 32 (.iaddr 1 (.tmp 30) (.tmp 31)), oS 33 (.load none (.tmp 32))]) (.cond (.tmp 33) (.ops [oS 34 (.load none (.tmp 3)), oS 35 (.move (.tmp 4)), oS 36 (.iaddr 1 (.tmp 34) (.tmp 35)), oN (.store 1 (.tmp 36) (.lit (.int .i64 0)))]) .skip))))) (.ops [oS 37 (.bin .add .none (.tmp 21) (.lit (.int .i64 1))), oS 21 (.move (.tmp 37))]))))))) (.seq (.ghost (.ops [oS 5 (.move (.lit (.int .i64 1)))])) (.block 2 (.loop (.seq (.block 3 (.scope (.seq (.ops [oS 6 (.move (.lit (.slice .nil [])))]) (.seq .skip (.seq (.seq (.ops [oS 40 (.load none (.tmp 3)), oS 41 (.blen 1 (.tmp 40)), oS 42 (.move (.lit (.int .i64 0)))]) (.block 4 (.loop (.seq (.ops [oS 43 (.bin .lss .none (.tmp 42) (.tmp 41))]) (.seq (.cond (.tmp 43) .skip (.exit 4)) (.seq (.block 5 (.seq (.ops [oS 44 (.move (.tmp 42)), oS 7 (.move (.tmp 44))]) (.seq (.seq (.ops [oS 45 (.load none (.tmp 3)), oS 46 (.move (.tmp 7)), oS 47 (.iaddr 1 (.tmp 45) (.tmp 46)), oS 48 (.load none (.tmp 47)), oS 49 (.bin .geq .none (.tmp 48) (.lit (.int .i64 0)))]) (.cond (.tmp 49) (.exit 5) .skip)) (.seq (.ops [oS 50 (.move (.tmp 0)), oS 51 (.nilck (.tmp 50)), oS 52 (.faddr 2 (.tmp 51)), oS 53 (.load none (.tmp 52)), oS 54 (.move (.tmp 7)), oS 55 (.iaddr 1 (.tmp 53) (.tmp 54)), oS 56 (.load none (.tmp 55)), oS 57 (.blen 1 (.tmp 56)), oS 58 (.move (.lit (.int .i64 0)))]) (.block 6 (.loop (.seq (.ops [oS 59 (.bin .lss .none (.tmp 58) (.tmp 57))]) (.seq (.cond (.tmp 59) .skip (.exit 6)) (.seq (.block 7 (.seq (.ops [oS 60 (.iaddr 2 (.tmp 56) (.tmp 58)), oS 61 (.load (some 2) (.tmp 60)), oS 9 (.alloc (.agg [.int .i64 0, .slice .nil []])), oN (.store 2 (.tmp 9) (.tmp 61))]) (.seq (.ops [oS 62 (.faddr 1 (.tmp 9)), oS 63 (.load none (.tmp 62)), oS 64 (.mkfunc 83 [.tmp 3]), oS 65 (.call (.lit (.func 59 [])) [.tmp 63, .tmp 64]), oS 66 (.un .not (.tmp 65))]) (.cond (.tmp 66) (.seq (.ops [oS 67 (.move (.tmp 6)), oS 68 (.move (.tmp 7)), oS 69 (.bsliceC 1 [.tmp 68]), oS 70 (.bappend 1 8 (.tmp 67) (.tmp 69) false), oS 6 (.move (.tmp 70))]) (.exit 5)) .skip)))) (.ops [oS 71 (.bin .add .none (.tmp 58) (.lit (.int .i64 1))), oS 58 (.move (.tmp 71))])))))))))) (.ops [oS 72 (.bin .add .none (.tmp 42) (.lit (.int .i64 1))), oS 42 (.move (.tmp 72))]))))))) (.seq (.seq (.ghost (.ops [oS 73 (.move (.tmp 6)), oS 74 (.blen 1 (.tmp 73)), oS 75 (.move (.lit (.int .i64 0)))])) (.block 8 (.loop (.seq (.ops [oS 76 (.bin .lss .none (.tmp 75) (.tmp 74))]) (.seq (.cond (.tmp 76) .skip (.exit 8)) (.seq (.block 9 (.seq (.ops [oS 77 (.iaddr 1 (.tmp 73) (.tmp 75)), oS 78 (.load none (.tmp 77)), oS 11 (.move (.tmp 78))]) (.ops [oS 79 (.load none (.tmp 3)), oS 80 (.move (.tmp 11)), oS 81 (.move (.tmp 5)), oS 82 (.iaddr 1 (.tmp 79) (.tmp 80)), oN (.store 1 (.tmp 82) (.tmp 81))]))) (.ops [oS 83 (.bin .add .none (.tmp 75) (.lit (.int .i64 1))), oS 75 (.move (.tmp 83))]))))))) (.seq (.ops [oS 84 (.move (.tmp 6)), oS 85 (.blen 1 (.tmp 84)), oS 86 (.bin .eql .none (.tmp 85) (.lit (.int .i64 0)))]) (.cond (.tmp 86) (.seq (.ops [oS 87 (.load none (.tmp 3)), oS 2 (.move (.tmp 87))]) .ret) .skip)))))))) (.ops [oS 38 (.move (.tmp 5)), oS 39 (.bin .add .none (.tmp 38) (.lit (.int .i64 1))), oS 5 (.move (.tmp 39))])))))))
set_option maxHeartbeats 4000000 in
theorem dist_spec (w : Wld) (W : Nat) (σ : Store) (hW : σ[W]? = some (.row (encWorld w))) (hw : WOk w) :
  ACalls Tryz.prog 44 [.ptr W 0] σ (isR (.slice .fresh ((dIter w w.ss.length).map Ahl.encI)) σ) := by
 refine ACalls.intro (rs := [(.tmp 2)]) (by kernel_rfl) { own := [(1, 6)], ghosts := [9, 23], cold := [(20, 2)] } Tryz.func44 (c := Tryz.f44.body.getD .skip) (by kernel_rfl) (by decide) (by rw [show Tryz.f44.ntmps = 88 by kernel_rfl]; exact Nat.le_of_ble_eq_true rfl) (by kernel_rfl) ?_
 intro hσ hids
 rw [show comp Tryz.prog { own := [(1, 6)], ghosts := [9, 23], cold := [(20, 2)] } (Tryz.f44.body.getD .skip) = c_dist by kernel_rfl, show Tryz.f44.ntmps = 88 by kernel_rfl]
 unfold c_dist
 have hWl := lt_of_get hW
 have hWg : ∀ r, (σ ++ r)[W]? = some (.row (encWorld w)) := fun r => by rw [List.getElem?_append_left hWl]; exact hW
 simp only [encWorld] at hWg
 simp only [go_sem, simprocAttr, hW, hWg, encWorld, aMkslice]
 have hwl := hw.len
 have hgl := hw.gl
 have hcl := hw.ch
 refine ⟨Int.le_refl _, by omega, by omega, ?_⟩
 have hS : ∀ (far : List Int) (r : Store), (∀ o ∈ r, IdsO (σ.length + 2 + r.length) o) → IdsS (σ ++ (([AObj.row (List.map ai far), AObj.row [AV.ref σ.length 1 0 w.ss.length]]) ++ r)).length (σ ++ (([AObj.row (List.map ai far), AObj.row [AV.ref σ.length 1 0 w.ss.length]]) ++ r)) := fun far r hr => idsS_app _ hσ fun o ho => by
  rcases List.mem_append.1 ho with ho | ho
  ·simp only [List.mem_cons, List.not_mem_nil, or_false] at ho
   rcases ho with rfl | rfl
   ·exact ids_ai _
   ·exact idsO_row (idsL_cons (.ref _ _ _ _ (by simp)) idsL_nil)
  ·have := hr o ho
   simpa [Nat.add_assoc, Nat.add_comm, Nat.add_left_comm] using this
 have hS0 : ∀ (far : List Int), IdsS (σ ++ ([AObj.row (List.map ai far), AObj.row [AV.ref σ.length 1 0 w.ss.length]])).length (σ ++ ([AObj.row (List.map ai far), AObj.row [AV.ref σ.length 1 0 w.ss.length]])) := fun far => by simpa using hS far [] (by simp)
 have hf1 : ∀ i, ((far0 w).take i ++ List.replicate (w.ss.length - i) 0).length = (min i w.ss.length) + (w.ss.length - i) := fun i => by simp [far0, hgl]
 refine wpc_while (fun (i : Nat) => [(0, .ptr W 0), (3, .ptr (σ.length + 1) 0), (20, .int .i64 w.ss.length), (21, .int .i64 (i : Nat))])
  (fun i => σ ++ ([AObj.row (List.map ai ((far0 w).take i ++ List.replicate (w.ss.length - i) 0)), AObj.row [AV.ref σ.length 1 0 w.ss.length]])) (fun i => i ≤ w.ss.length) (fun i => w.ss.length - i) 0 (Nat.zero_le _) ?_ ?_
 ·rw [rep_ai16]
  exact ghL0 (hS0 _)
 ·intro i hi K hK hE hR
  by_cases h : i < w.ss.length
  ·obtain ⟨b, hb⟩ := get_ex (show i < w.gl.length by omega)
   have hlt : ((i : Int) < (w.ss.length : Int)) := by omega
   have hw1 := wrapS (i := i) (by omega)
   have hfl := hf1 i
   have hfs := fun v (hv : (far0 w)[i]? = some v) => fill_set (z := (0 : Int)) hv (show (far0 w).length = w.ss.length by simp [far0, hgl])
   generalize (far0 w).take i ++ List.replicate (w.ss.length - i) 0 = F at hfl hfs
   have hF1 : i + 1 ≤ F.length := by omega
   have hF2 : i + 1 ≤ (F.set i (-1)).length := by rw [List.length_set]; omega
   cases b
   ·simp only [go_sem, simprocAttr, hW, hWg, encWorld, hlt, h, hb, hF1, set_ai, encB]
    refine hK _ _ (i + 1) (by omega) (by omega) ?_
    rw [hw1, hfs (-1) (by unfold far0; rw [List.getElem?_map, hb]; rfl)]
    exact ghL0 (hS0 _)
   ·simp only [go_sem, simprocAttr, hW, hWg, encWorld, hlt, h, hb, hF1, set_ai, encB, hF2, List.set_set]
    refine hK _ _ (i + 1) (by omega) (by omega) ?_
    rw [hw1, hfs 0 (by unfold far0; rw [List.getElem?_map, hb]; rfl)]
    exact ghL0 (hS0 _)
  ·have hlt : ¬ ((i : Int) < (w.ss.length : Int)) := by omega
   have e0 : (far0 w).take i ++ List.replicate (w.ss.length - i) 0 = dIter w 0 := by
    rw [List.take_of_length_le (by simp [far0, hgl]; omega), show w.ss.length - i = 0 by omega]; simp [dIter]
   rw [e0]
   simp only [go_sem, simprocAttr, hlt, hE]
   refine Gh.of (s' := [(0, .ptr W 0), (3, .ptr (σ.length + 1) 0)]) (σ' := σ ++ [AObj.row (List.map ai (dIter w 0)), AObj.row [AV.ref σ.length 1 0 w.ss.length]]) (ghL0 (hS0 _)) ?_
   simp only [go_sem, simprocAttr]
   refine wpc_while (fun (d : Nat) => [(0, .ptr W 0), (3, .ptr (σ.length + 1) 0), (5, .int .i64 ((d + 1 : Nat) : Int))])
    (fun d => σ ++ [AObj.row (List.map ai (dIter w d)), AObj.row [AV.ref σ.length 1 0 w.ss.length]]) (fun d => d ≤ nonneg (dIter w d)) (fun d => w.ss.length + 1 - d) 0 (Nat.zero_le _) (ghL0 (hS0 _)) ?_
   clear hK hE hR hi h hlt e0
   intro d hd K hK hE hR
   simp only [go_sem, simprocAttr]
   have hFl := dIter_len w hw d
   have hdN : d ≤ w.ss.length := by have := nonneg_len (dIter w d); omega
   have hsd : dIter w (d + 1) = dRound w (dIter w d) (d + 1) := rfl
   have hst := dIter_stop (w := w) (d := d)
   generalize dIter w d = F at hd hFl hsd hst
   refine wpc_while (fun (i : Nat) => [(6, .slice (.grow (σ.length + 2)) (((List.range i).filter (nowB w F)).map encNt)), (0, .ptr W 0), (3, .ptr (σ.length + 1) 0), (5, .int .i64 ((d + 1 : Nat) : Int)), (41, .int .i64 w.ss.length), (42, .int .i64 (i : Nat))])
    (fun i => σ ++ (([AObj.row (List.map ai F), AObj.row [AV.ref σ.length 1 0 w.ss.length]]) ++ [.grow 1 ((List.range i).filter (nowB w F)).length])) (fun i => i ≤ w.ss.length) (fun i => w.ss.length - i) 0 (Nat.zero_le _) ?_ ?_
   ·exact Ghost.beginT ([AObj.row (List.map ai F), AObj.row [AV.ref σ.length 1 0 w.ss.length]]) 6 1 _ tellT (hS0 _)
   ·intro i hi K2 hK2 hE2 hR2
    by_cases h : i < w.ss.length
    ·obtain ⟨x, hx⟩ := get_ex (show i < F.length by omega)
     obtain ⟨l, hl⟩ := get_ex (show i < w.ch.length by omega)
     have hlm := List.mem_of_getElem? hl
     have hll := hw.many l hlm
     have hlt : ((i : Int) < (w.ss.length : Int)) := by omega
     have hw1 := wrapS (i := i) (by omega)
     have hng : negB F i = decide (x < 0) := by unfold negB; rw [List.getD_eq_getElem?_getD, hx]; rfl
     have hgd : w.ch.getD i [] = l := by rw [List.getD_eq_getElem?_getD, hl]; rfl
     have hnb : nowB w F i = (decide (x < 0) && l.any (okCo F)) := by unfold nowB; rw [hng, hgd]
     have hN0 : nowB w F i = false → (List.range (i + 1)).filter (nowB w F) = (List.range i).filter (nowB w F) := fun q => by rw [List.range_succ, List.filter_append]; simp [q]
     have hN1 : nowB w F i = true → (List.range (i + 1)).filter (nowB w F) = (List.range i).filter (nowB w F) ++ [i] := fun q => by rw [List.range_succ, List.filter_append]; simp [q]
     have hNl : ((List.range i).filter (nowB w F)).length ≤ i := Nat.le_trans (List.length_filter_le _ _) (by simp)
     generalize (List.range i).filter (nowB w F) = NL at hN0 hN1 hNl
     by_cases hx0 : x ≥ 0
     ·simp only [go_sem, simprocAttr, hW, hWg, encWorld, hlt, h, hx, hx0, ai]
      refine hK2 _ _ (i + 1) (by omega) (by omega) ?_
      rw [hw1, hN0 (by rw [hnb, decide_eq_false (by omega)]; rfl)]
      exact ghL0 (hS _ _ (by simp; trivial))
     ·simp only [go_sem, simprocAttr, hW, hWg, encWorld, hlt, h, hx, hx0, hl, ai, encCh]
      refine wpc_while (fun (j : Nat) => [(6, .slice (.grow (σ.length + 2)) (NL.map encNt)), (0, .ptr W 0), (3, .ptr (σ.length + 1) 0), (5, .int .i64 ((d + 1 : Nat) : Int)), (7, .int .i64 (i : Nat)), (41, .int .i64 w.ss.length), (42, .int .i64 (i : Nat)), (56, .slice .unk (l.map encCo)), (57, .int .i64 l.length), (58, .int .i64 (j : Nat))])
       (fun j => σ ++ (([AObj.row (List.map ai F), AObj.row [AV.ref σ.length 1 0 w.ss.length]]) ++ [.grow 1 NL.length])) (fun j => j ≤ l.length ∧ ∀ c ∈ l.take j, okCo F c = false) (fun j => l.length - j) 0 ⟨Nat.zero_le _, by simp⟩ ?_ ?_
      ·exact ghL0 (hS _ _ (by simp; trivial))
      rintro j ⟨hj, hno⟩ K3 hK3 hE3 hR3
      by_cases hjl : j < l.length
      ·obtain ⟨c, hc⟩ := get_ex hjl
       obtain ⟨c1, c2, c3⟩ := hw.some l hlm c (List.mem_of_getElem? hc)
       have hltj : ((j : Int) < (l.length : Int)) := by omega
       have hwj := wrapS (i := j) (by omega)
       simp only [go_sem, simprocAttr, hltj, hc, encCo]
       refine (contN_spec c.2 83 [.ptr (σ.length + 1) 0] (negB F) .unk _ (by omega) (fun k hk => dist1_spec F k (σ.length + 1) σ.length _ w.ss.length hFl (by simp) (by simp) (by have := c3 k hk; omega))).is ?_
       cases hany : c.2.any (negB F)
       ·have hok : okCo F c = true := by unfold okCo; rw [hany]; rfl
        have hb : nowB w F i = true := by rw [hnb, decide_eq_true (by omega), Bool.true_and]; exact List.any_eq_true.2 ⟨c, List.mem_of_getElem? hc, hok⟩
        have hbig : bigLen (NL.length + 1) 8 := big_ok (by omega) (by omega)
        simp only [go_sem, simprocAttr, hbig, hE3]
        refine hK2 _ _ (i + 1) (by omega) (by omega) ?_
        rw [hw1, hN1 hb]
        simp only [List.map_append, List.length_append, List.length_singleton, List.map_singleton]
        refine Ghost.keepL (g := [AObj.row [.int .i64 c.1, .slice .unk (c.2.map encNt)]]) (k := 3) (([AObj.row (List.map ai F), AObj.row [AV.ref σ.length 1 0 w.ss.length]]) ++ [.grow 1 (NL.length + 1)]) rfl (Nat.le_refl _) ?_ (hS _ _ (by simp; trivial))
        have e : NL.map encNt ++ [encNt i] = (NL ++ [i]).map encNt := by rw [List.map_append]; rfl
        rw [e, show NL.map encNt ++ [[AV.int .i64 (i : Nat)]] = (NL ++ [i]).map encNt from e]
        exact tellT
       ·have hok : okCo F c = false := by unfold okCo; rw [hany]; rfl
        simp only [go_sem, simprocAttr, hwj]
        refine hK3 _ _ (j + 1) ⟨by omega, ?_⟩ (by omega) ?_
        ·intro c' hc'
         rw [take_succ' hc, List.mem_append, List.mem_singleton] at hc'
         rcases hc' with q | rfl
         ·exact hno _ q
         ·exact hok
        ·refine Ghost.keepL (g := [AObj.row [.int .i64 c.1, .slice .unk (c.2.map encNt)]]) (k := 3) (([AObj.row (List.map ai F), AObj.row [AV.ref σ.length 1 0 w.ss.length]]) ++ [.grow 1 NL.length]) rfl (Nat.le_refl _) ?_ (hS _ _ (by simp; trivial))
         exact tellT
      ·have hltj : ¬ ((j : Int) < (l.length : Int)) := by omega
       have hb : nowB w F i = false := by
        rw [hnb]
        have : l.any (okCo F) = false := by
         rw [Bool.eq_false_iff]; intro q
         obtain ⟨c, hc, hq⟩ := List.any_eq_true.1 q
         rw [hno c (by rw [List.take_of_length_le (by omega)]; exact hc)] at hq; simp at hq
        rw [this, Bool.and_false]
       simp only [go_sem, simprocAttr, hltj, hE3]
       refine hK2 _ _ (i + 1) (by omega) (by omega) ?_
       rw [hw1, hN0 hb]
       exact ghL0 (hS _ _ (by simp; trivial))
    ·have hlt : ¬ ((i : Int) < (w.ss.length : Int)) := by omega
     have hie : i = w.ss.length := by omega
     subst hie
     have hnw : (List.range w.ss.length).filter (nowB w F) = nowL w F := rfl
     rw [hnw]
     simp only [go_sem, simprocAttr, hlt, hE2]
     refine Gh.of (s' := [(6, .slice .unk ((nowL w F).map encNt)), (0, .ptr W 0), (3, .ptr (σ.length + 1) 0), (5, .int .i64 ((d + 1 : Nat) : Int))]) (σ' := σ ++ [AObj.row (List.map ai F), AObj.row [AV.ref σ.length 1 0 w.ss.length]]) ?_ ?_
     ·refine Ghost.keepL (g := [AObj.grow 1 (nowL w F).length]) (k := 2) ([AObj.row (List.map ai F), AObj.row [AV.ref σ.length 1 0 w.ss.length]]) rfl (Nat.le_refl _) ?_ (hS0 _)
      exact tellT
     simp only [go_sem, simprocAttr]
     have hnl : (nowL w F).length ≤ 1000000 := Nat.le_trans (List.length_filter_le _ _) (by simpa using hwl)
     have hdr : dRound w F (d + 1) = setL F (nowL w F) ((d + 1 : Nat) : Int) := rfl
     have hnr : nowL w F ≠ [] → _ := nonneg_round (w := w) (far := F) (d := d + 1) hFl
     have hnm : ∀ x ∈ nowL w F, x < w.ss.length := fun x hx => (nowL_mem.1 hx).1
     generalize nowL w F = NL at hnl hst hdr hnr hnm
     refine wpc_while (fun (j : Nat) => [(6, .slice .unk (NL.map encNt)), (0, .ptr W 0), (3, .ptr (σ.length + 1) 0), (5, .int .i64 ((d + 1 : Nat) : Int)), (73, .slice .unk (NL.map encNt)), (74, .int .i64 NL.length), (75, .int .i64 (j : Nat))])
      (fun j => σ ++ [AObj.row (List.map ai (setL F (NL.take j) ((d + 1 : Nat) : Int))), AObj.row [AV.ref σ.length 1 0 w.ss.length]]) (fun j => j ≤ NL.length) (fun j => NL.length - j) 0 (Nat.zero_le _) ?_ ?_
     ·exact ghL0 (hS0 _)
     intro j hj K3 hK3 hE3 hR3
     by_cases h : j < NL.length
     ·obtain ⟨x, hx⟩ := get_ex h
      have hlt : ((j : Int) < (NL.length : Int)) := by omega
      have hwj := wrapS (i := j) (by omega)
      have hxN := hnm x (List.mem_of_getElem? hx)
      have hx2 : x + 1 ≤ (setL F (NL.take j) ((d + 1 : Nat) : Int)).length := by rw [len_setL]; omega
      have hss : setL F (NL.take (j + 1)) ((d + 1 : Nat) : Int) = (setL F (NL.take j) ((d + 1 : Nat) : Int)).set x ((d + 1 : Nat) : Int) := by
       unfold setL; rw [take_succ' hx, List.foldl_append]; rfl
      simp only [go_sem, simprocAttr, hlt, hx, encNt, hxN, hx2, set_ai]
      refine hK3 _ _ (j + 1) (by omega) (by omega) ?_
      rw [hwj, hss]
      exact ghL0 (hS0 _)
     ·have hlt : ¬ ((j : Int) < (NL.length : Int)) := by omega
      rw [List.take_of_length_le (by omega), ← hdr]
      by_cases h0 : NL = []
      ·have hfin : dIter w w.ss.length = F := by
        have := hst h0 (w.ss.length - d)
        rwa [show d + (w.ss.length - d) = w.ss.length by omega] at this
       have hrF : dRound w F (d + 1) = F := by rw [hdr, h0]; rfl
       rw [hrF]
       subst h0
       obtain rfl : j = 0 := by simpa using hj
       simp only [go_sem, simprocAttr, hE3, List.length_nil, Int.lt_irrefl, hR]
       rw [hfin]
       refine retRowF (id := σ.length) (len := w.ss.length) List.take_left rfl (by simp) hFl (Nat.le_refl _) ⟨rfl, rfl⟩
      ·have h00 : ((NL.length : Int) == 0) = false := by
        have : NL.length ≠ 0 := fun q => h0 (List.length_eq_zero_iff.1 q)
        simpa using this
       have hn1 := hnr h0
       have hn2 := nonneg_len (dRound w F (d + 1))
       rw [← hsd, dIter_len w hw] at hn2
       rw [← hsd] at hn1
       simp only [go_sem, simprocAttr, hlt, hE3, h00]
       refine hK _ _ (d + 1) (by omega) (by omega) ?_
       have hwd : IntKind.i64.wrap (((d + 1 : Nat) : Int) + 1) = ((d + 1 + 1 : Nat) : Int) := by rw [wrap_ok (by omega)]; omega
       rw [hwd, ← hsd]
       exact ghL0 (hS0 _)
end Go.Proofs.YtjmmldkailblmaaGreat
namespace Go.Ahl
open Go.Sort Go.Shelf Go.RowKit Go.Lib Go.Proofs
theorem flatM_get {α : Type} (f : α → List AV) (k : Nat) (hk : ∀ x, (f x).length = k) : ∀ (l : List α) (i j : Nat), j < k → (l.map f).flatten[i * k + j]? = (l[i]?).bind fun x => (f x)[j]?
 | [], i, j, _ => by simp
 | x :: l, 0, j, hj => by
  simp only [List.map_cons, List.flatten_cons, Nat.zero_mul, Nat.zero_add, List.getElem?_cons_zero, Option.bind_some]
  rw [List.getElem?_append_left (by rw [hk]; exact hj)]
 | x :: l, i + 1, j, hj => by
  simp only [List.map_cons, List.flatten_cons, List.getElem?_cons_succ]
  rw [List.getElem?_append_right (by rw [hk]; rw [Nat.add_mul]; omega), hk, show (i + 1) * k + j - k = i * k + j by rw [Nat.add_mul]; omega]
  exact flatM_get f k hk l i j hj
theorem flatM_len {α : Type} (f : α → List AV) (k : Nat) (hk : ∀ x, (f x).length = k) : ∀ (l : List α), (l.map f).flatten.length = l.length * k
 | [] => by simp
 | x :: l => by rw [List.map_cons, List.flatten_cons, List.length_append, hk, flatM_len f k hk l, List.length_cons, Nat.add_mul, Nat.one_mul, Nat.add_comm]
section
variable {P : Program} {ρ : Ren} {β : Type}
theorem sortK (L : SlLaysF0.n6 P ρ) (k : Nat) (hk0 : 0 < k) (aE : ∀ w, (isAgg (ρ.t 24)).run P w = .ok true w) (zE : ∀ w, (Go.sizeOf (ρ.t 24)).run P w = .ok k w) {fn gn : Func} (hf : P.funcs[ρ.f 6]? = some fn) (hfb : fn.body.isSome = true) (hfn : fn.name ≠ "runtime.NumGoroutine") (av : β → List AV) (hk : ∀ x, (av x).length = k) (ok : β → Prop) (cf : β → β → Int)
  (hone : ∀ b, ∀ x ∈ av b, x.one = true) (hids : ∀ b, IdsL 0 (av b)) (b0 : β) (v0 : List Value) (hb0 : ok b0) (hl0 : v0.length = k) (hv0 : ∀ m (j : Nat) x v, (av b0)[j]? = some x → v0[j]? = some v → Rel m [] x v)
  (irr : ∀ x, ok x → ¬ cf x x < 0) (tr : ∀ x y z, ok x → ok y → ok z → cf x y < 0 → cf y z < 0 → cf x z < 0) (ntr : ∀ x y z, ok x → ok y → ok z → ¬ cf x y < 0 → ¬ cf y z < 0 → ¬ cf x z < 0)
  (g : FuncId) (hg : P.funcs[g]? = some gn) (hgb : gn.body.isSome = true) (hgn : (gn.name == "runtime.NumGoroutine") = false) (hcmp : ∀ x y, ok x → ok y → ACalls P g [.agg (av x), .agg (av y)] [] (isR (.int .i64 (cf x y)) []))
  (id : Nat) (l : List β) (hl : ∀ x ∈ l, ok x) (σ : Store) (hσ : σ[id]? = some (.row (l.map av).flatten)) (hlen : l.length < 4611686018427387904) :
  ACalls P (ρ.f 6) [.ref id k 0 l.length, .func g []] σ fun r σ' => r = .tuple [] ∧ ∃ l' : List β, l'.Perm l ∧ l'.Pairwise (fun x y => ¬ cf y x < 0) ∧ σ' = σ.set id (.row (l'.map av).flatten) := by
 intro m loc w vs hs ha
 refine .inl ⟨fn, hf, hfb, hfn, ?_⟩
 obtain ⟨v, u, rfl, h1, h2⟩ := ha.two
 cases h2 with
 | func _ _ us hlenu _ =>
 have hus : us = #[] := Array.size_eq_zero_iff.1 hlenu
 subst hus
 have hid := lt_of_get hσ
 have hloc : loc[id]? = some (loc[id]'(by rw [hs.len]; exact hid)) := List.getElem?_eq_getElem _
 by_cases hll : l.length = 0
 ·have hlnil : l = [] := List.length_eq_zero_iff.1 hll
  subst hlnil
  have key : ∀ a c, v = .slice a 0 c → Calls P (ρ.f 6) #[v, .func (.func g) #[] #[]] w fun e w' => ∃ v', e = .returned v' ∧ ARet loc m w (fun r σ' => r = .tuple [] ∧ ∃ l' : List β, l'.Perm [] ∧ l'.Pairwise (fun x y => ¬ cf y x < 0) ∧ σ' = σ.set id (.row (l'.map av).flatten)) v' w' := by
   rintro a c rfl
   refine (AnyF.slices_SortFunc_none (P := P) (ρ := ρ) L a c _ w).mono ?_
   rintro e w' ⟨rfl, rfl⟩
   refine ⟨_, rfl, .tuple [], σ, m, loc, ⟨rfl, [], .refl _, .nil, ?_⟩, .tuple [] #[] rfl (by simp), hs, .refl _ _ _ _⟩
   rw [← set_same hσ]; simp
  rcases rel_ref h1 with ⟨cap, b, n, q0, _⟩ | ⟨_, a, q0⟩
  ·exact key _ _ q0
  ·exact key _ _ q0
 ·rcases rel_ref h1 with ⟨cap, blk, n, q0, q1, q2, q3, q4⟩ | ⟨q0, _⟩
  rotate_left
  ·exact absurd q0 hll
  ·subst q0
   obtain ⟨arr, t, e1, e2, e3, e4, e5⟩ := hs.obj id _ _ q1 hσ
   have e3 : l.length * k ≤ arr.size := by rw [flatM_len av k hk] at e3; exact e3
   have hb : ∀ i j, i < l.length → j < k → i * k + j < l.length * k := fun i j hi hj => by
    have := Nat.mul_le_mul_right k (show i + 1 ≤ l.length from hi)
    rw [Nat.add_mul, Nat.one_mul] at this; omega
   let A := { p : β × List Value // ok p.1 ∧ p.2.length = k ∧ ∀ (j : Nat) x v, (av p.1)[j]? = some x → p.2[j]? = some v → Rel m [] x v }
   letI : Inhabited A := ⟨⟨(b0, v0), hb0, hl0, hv0 m⟩⟩
   let enc : A → List Value := fun x => x.1.2
   let cfA : A → A → Int := fun x y => cf x.1.1 y.1.1
   let cells : Nat → List Value := fun i => List.ofFn fun j : Fin k => arr[i * k + j.1]!
   have hcl : ∀ i, (cells i).length = k := fun i => by simp [cells]
   have hcg : ∀ i j v, i < l.length → (cells i)[j]? = some v → j < k ∧ arr[i * k + j]? = some v := by
    intro i j v hi hv
    have hj : j < k := by have := lt_of_get hv; rwa [hcl] at this
    refine ⟨hj, ?_⟩
    rw [List.getElem?_eq_getElem (by rw [hcl]; exact hj)] at hv
    simp only [cells, List.getElem_ofFn, Option.some.injEq] at hv
    have hlt : i * k + j < arr.size := Nat.lt_of_lt_of_le (hb i j hi hj) e3
    rw [getElem!_pos arr _ hlt] at hv
    rw [Array.getElem?_eq_getElem hlt, hv]
   have hrel : ∀ i (hi : i < l.length), ∀ (j : Nat) x v, (av l[i])[j]? = some x → (cells i)[j]? = some v → Rel m [] x v := by
    intro i hi j x v hx hv
    obtain ⟨hj, hv⟩ := hcg i j v hi hv
    have := e4 (i * k + j) x v (by rw [flatM_get av k hk l i j hj, List.getElem?_eq_getElem hi]; exact hx) hv
    have := this.take (n := 0) (hids _ x (List.mem_of_getElem? hx))
    simpa using this
   let d : Array A := Array.ofFn fun j : Fin l.length => ⟨(l[j.1], cells j.1), hl _ (List.getElem_mem _), hcl _, hrel j.1 j.2⟩
   have hds : d.size = l.length := by simp [d]
   have hdj : ∀ j (hj : j < l.length), (d[j]!).1 = (l[j], cells j) := by
    intro j hj
    rw [getElem!_pos d j (by rw [hds]; exact hj)]
    simp [d]
   have hdl : d.toList.map (·.1.1) = l := by
    apply List.ext_getElem (by simp [hds])
    intro j h1 h2
    simp [d]
   have hO : SWO (ltOf cfA) := by
    refine ⟨fun x => ?_, fun x y z a b => ?_, fun x y z a b => ?_⟩
    ·exact decide_eq_false (irr _ x.2.1)
    ·exact decide_eq_true (tr _ _ _ x.2.1 y.2.1 z.2.1 (of_decide_eq_true a) (of_decide_eq_true b))
    ·exact decide_eq_false (ntr _ _ _ x.2.1 y.2.1 z.2.1 (of_decide_eq_false a) (of_decide_eq_false b))
   have hgc : ∃ c, gn.body = some c := Option.isSome_iff_exists.1 hgb
   obtain ⟨gc, hgc⟩ := hgc
   have hH : HoldsK enc k w blk 0 d := by
    intro t ht
    rw [size_flatK, hds] at ht
    have hq : t / k < l.length := by rw [Nat.div_lt_iff_lt_mul hk0]; exact ht
    have hlt : t < arr.size := Nat.lt_of_lt_of_le ht e3
    have : (flatK enc k d)[t]! = arr[t] := by
     rw [get_flatK _ _ _ _ (by rw [hds]; exact ht)]
     show (d[t / k]!).1.2[t % k]! = _
     rw [hdj _ hq]
     have hm : t % k < k := Nat.mod_lt _ hk0
     show (cells (t / k))[t % k]! = _
     rw [getElem!_pos _ _ (by rw [hcl]; exact hm)]
     simp only [cells, List.getElem_ofFn]
     have e : t / k * k + t % k = t := by rw [Nat.mul_comm]; exact Nat.div_add_mod t k
     rw [getElem!_pos arr _ (by rw [e]; exact hlt)]
     simp only [e]
    rw [Nat.zero_add, _root_.id, this]
    refine ⟨by simp [World.cell?, e1, hlt], by simp [World.frozen?, e1]⟩
   have hblk : blk < w.heap.size := hs.lt blk ⟨id, .inl q1⟩
   have hbase := srel_base hs
   have hagg : ∀ x : A, Rel m.strip [] (.agg (av x.1.1)) (.agg (enc x).toArray) := fun x => .agg _ _ (by simp [enc, x.2.2.1, hk]) fun j a v ha hv => (x.2.2.2 j a v ha (by simpa using hv)).strip
   have hlays : CmpLays P g #[] enc k cfA blk 0 d.size w := by
    intro n' os dk hsz x y
    have hS := srel_sorted (m := m.strip) (α := Value) _root_.id blk 0 n' (flatK enc k dk) os (hbase.strip fun _ _ q => q.strip) e5 (hs.mpo id _ _ blk q1 hσ rfl) (fun _ _ => rfl)
    have hA : ArgsRel m.strip [] [.agg (av x.1.1), .agg (av y.1.1)] (#[.agg (enc x).toArray, .agg (enc y).toArray] ++ #[]) := by
     refine ⟨rfl, fun j a v => ?_⟩
     match j with
     | 0 => intro r1 r2; simp at r1 r2; subst r1; subst r2; exact hagg x
     | 1 => intro r1 r2; simp at r1 r2; subst r1; subst r2; exact hagg y
     | j + 2 => intro r1; simp at r1
    refine ((hcmp x.1.1 y.1.1 x.2.1 y.2.1).calls hg hgb (by simpa using hgn) hS hA).mono ?_
    rintro e w' ⟨v, rfl, r, σ', m', loc', ⟨rfl, rfl⟩, r1, r2, r3⟩
    cases r1
    exact ⟨rfl, world_of_ext r3 (fun _ _ => rfl)⟩
   have hmain := AnyQ.slices_SortFunc L k aE zE enc (fun x => x.2.2.1) (fun x v hv => by
    obtain ⟨j, hj, rfl⟩ := List.getElem_of_mem hv
    have hj' : j < (av x.1.1).length := by rw [hk]; rw [show (enc x).length = k from x.2.2.1] at hj; exact hj
    exact rel_one (x.2.2.2 j _ _ (List.getElem?_eq_getElem hj') (List.getElem?_eq_getElem hj)) (hone _ _ (List.getElem_mem hj'))) cfA hO g #[] blk 0 cap d w (enters_of hg hgn hgc) hlays hH hblk (by rw [hds]; exact hlen)
   rw [hds] at hmain
   refine hmain.mono ?_
   rintro e w' ⟨rfl, d', n', os, hperm, hsorted, rfl⟩
   obtain ⟨p1, _, p3⟩ := hperm
   have hd's : d'.size = l.length := p1.trans hds
   have ex : ∀ x : Array A, x.size = l.length → (x.extract 0 l.length).toList = x.toList := fun x hx => by rw [← hx]; simp
   rw [ex d' hd's, ex d hds] at p3
   let l' : List β := d'.toList.map (·.1.1)
   have hl's : l'.length = l.length := by simp [l', hd's]
   have hset : loc.set id (.blk blk) = loc := set_same q1
   have key := hs.turn loc.length (m' := m) (w' := sortWorld _root_.id w blk 0 n' (flatK enc k d') os) (l' := .blk blk) (.row (l'.map av).flatten) q1 hσ (.refl m) (.refl _)
    (fun b hk' hne => sortWorld_other _root_.id w blk 0 n' (flatK enc k d') os hk' (fun q => hne (by subst q; rfl))) (by rw [size_sortWorld]; omega) (fun _ _ _ _ => rfl) ?_ ?_ ?_ (fun b q => .inl q) ?_ rfl rfl rfl (by simp [sortWorldK, putRowK, sortWorld, grow, putRow, mapBlock, Sort.ahead])
   ·rw [hset] at key
    refine ⟨_, rfl, .tuple [], _, m, loc, ⟨rfl, l', ?_, ?_, rfl⟩, .tuple [] #[] rfl (by simp), key.1, key.2⟩
    ·have := p3.map (fun x : A => x.1.1); rw [hdl] at this; exact this
    ·rw [List.pairwise_iff_getElem]
     intro i j hi hj hij
     have := hsorted i j (Nat.zero_le _) hij (by rw [← hl's]; exact hj)
     rw [getElem!_pos d' j (by rw [hd's, ← hl's]; exact hj), getElem!_pos d' i (by rw [hd's, ← hl's]; exact hi)] at this
     have := of_decide_eq_false this
     simpa [l', cfA] using this
   ·intro b o v hb' e'
    rcases hb' with hb' | hb'
    ·simp [own] at hb'; subst hb'; rw [e5] at e'; simp at e'
    ·have := hs.im_lt e'; omega
   ·intro b z hz
    by_cases hb' : b = blk
    ·subst hb'
     refine .inr ⟨_, t, _, sortWorld_own _root_.id w b 0 n' (flatK enc k d') os e1, ?_⟩
     rw [size_putCells]
     rw [e2] at hz; injection hz
    ·exact .inl ⟨hz, by simp [own]; exact fun q => hb' q.symm⟩
   ·rintro b ⟨_, _, _, e, _⟩; simp at e
   ·refine ⟨_, t, sortWorld_own _root_.id w blk 0 n' (flatK enc k d') os e1, by rw [size_putCells]; exact e2, by rw [size_putCells, flatM_len av k hk, hl's]; exact e3, ?_, e5⟩
    rw [hset]
    intro q x v hq hv'
    have hql : q < l.length * k := by have := lt_of_get hq; rwa [flatM_len av k hk, hl's] at this
    have e : q / k * k + q % k = q := by rw [Nat.mul_comm]; exact Nat.div_add_mod q k
    have hqd : q / k < d'.size := by rw [hd's, Nat.div_lt_iff_lt_mul hk0]; exact hql
    have hm : q % k < k := Nat.mod_lt _ hk0
    rw [← e, flatM_get av k hk l' _ _ hm] at hq
    have hx : (av (d'[q / k]).1.1)[q % k]? = some x := by
     simpa only [l', List.getElem?_map, Array.getElem?_toList, Array.getElem?_eq_getElem hqd, Option.map_some, Option.bind_some] using hq
    have hlt : q < arr.size := Nat.lt_of_lt_of_le hql e3
    have hvv : (d'[q / k]).1.2[q % k]? = some v := by
     simp only [putCells, Array.getElem?_mapIdx, Array.getElem?_eq_getElem hlt, Option.map_some, Option.some.injEq] at hv'
     rw [if_pos (by rw [size_flatK, hd's]; omega), Nat.sub_zero, _root_.id, get_flatK _ _ _ _ (by rw [hd's]; exact hql), getElem!_pos d' _ hqd] at hv'
     have hl2 : q % k < (d'[q / k]).1.2.length := by rw [(d'[q / k]).2.2.1]; exact hm
     rw [List.getElem?_eq_getElem hl2, ← hv']
     show some _ = some (getElem! (enc (d'[q / k])) (q % k))
     rw [getElem!_pos (enc (d'[q / k])) (q % k) hl2]
    exact ((d'[q / k]).2.2.2 _ x v hx hvv).mono (.refl m) (fun i l hi => by simp at hi)
end
end Go.Ahl
namespace Go.Proofs
open Go.Shelf Go.RowKit Go.Lib Go.Sort
def YtjmmldkailblmaaGreat.laysEn_ren : Go.Shelf.Ren := ⟨fun | 6 => 94 | 15 => 106 | 14 => 112 | 28 => 124 | 29 => 125 | 20 => 128 | 21 => 129 | 22 => 130 | 23 => 131 | 24 => 132 | 25 => 133 | 26 => 134 | 27 => 135 | 46 => 150 | 47 => 146 | 48 => 147 | 49 => 151 | 50 => 152 | 57 => 158 | n => n, fun | 22 => 29 | 24 => 68 | 25 => 136 | 3 => 3 | 39 => 142 | 0 => 0 | 53 => 158 | 55 => 160 | 4 => 4 | 46 => 152 | 45 => 151 | 50 => 92 | 5 => 5 | 9 => 9 | 66 => 172 | 70 => 176 | 76 => 182 | 77 => 183 | n => n, fun | n => n⟩
theorem YtjmmldkailblmaaGreat.laysEn : Go.Proofs.SlLaysF0.n6 Tryz.prog YtjmmldkailblmaaGreat.laysEn_ren := {
 mixed := by kernel_rfl
 f6 := ⟨Tryz.f94.name, by decide, Tryz.func94.trans (congrArg some (by kernel_rfl))⟩
 f14 := ⟨Tryz.f112.name, by decide, Tryz.func112.trans (congrArg some (by kernel_rfl))⟩
 f15 := Tryz.func106.trans (congrArg some (by kernel_rfl))
 f20 := ⟨Tryz.f128.name, by decide, Tryz.func128.trans (congrArg some (by kernel_rfl))⟩
 f21 := ⟨Tryz.f129.name, by decide, Tryz.func129.trans (congrArg some (by kernel_rfl))⟩
 f22 := ⟨Tryz.f130.name, by decide, Tryz.func130.trans (congrArg some (by kernel_rfl))⟩
 f23 := ⟨Tryz.f131.name, by decide, Tryz.func131.trans (congrArg some (by kernel_rfl))⟩
 f24 := ⟨Tryz.f132.name, by decide, Tryz.func132.trans (congrArg some (by kernel_rfl))⟩
 f25 := ⟨Tryz.f133.name, by decide, Tryz.func133.trans (congrArg some (by kernel_rfl))⟩
 f26 := ⟨Tryz.f134.name, by decide, Tryz.func134.trans (congrArg some (by kernel_rfl))⟩
 f27 := ⟨Tryz.f135.name, by decide, Tryz.func135.trans (congrArg some (by kernel_rfl))⟩
 f28 := Tryz.func124.trans (congrArg some (by kernel_rfl))
 f29 := Tryz.func125.trans (congrArg some (by kernel_rfl))
 f46 := ⟨Tryz.f150.name, by decide, Tryz.func150.trans (congrArg some (by kernel_rfl))⟩
 f47 := Tryz.func146.trans (congrArg some (by kernel_rfl))
 f48 := Tryz.func147.trans (congrArg some (by kernel_rfl))
 f49 := ⟨Tryz.f151.name, by decide, Tryz.func151.trans (congrArg some (by kernel_rfl))⟩
 f50 := ⟨Tryz.f152.name, by decide, Tryz.func152.trans (congrArg some (by kernel_rfl))⟩
 f57 := ⟨Tryz.f158.name, by decide, Tryz.func158.trans (congrArg some (by kernel_rfl))⟩
 t0 := Tryz.underlying0
 a0 := Tryz.isAgg0
 z0 := Tryz.sizeOf0
 v0 := Tryz.zeroValue0
 t3 := Tryz.underlying3
 a3 := Tryz.isAgg3
 z3 := Tryz.sizeOf3
 v3 := Tryz.zeroValue3
 t4 := Tryz.underlying4
 a4 := Tryz.isAgg4
 z4 := Tryz.sizeOf4
 v4 := Tryz.zeroValue4
 t5 := Tryz.underlying5
 a5 := Tryz.isAgg5
 z5 := Tryz.sizeOf5
 v5 := Tryz.zeroValue5
 t9 := Tryz.underlying9
 a9 := Tryz.isAgg9
 z9 := Tryz.sizeOf9
 v9 := Tryz.zeroValue9
 t22 := Tryz.underlying29
 a22 := Tryz.isAgg29
 z22 := Tryz.sizeOf29
 v22 := Tryz.zeroValue29
 t25 := Tryz.underlying136
 a25 := Tryz.isAgg136
 z25 := Tryz.sizeOf136
 v25 := Tryz.zeroValue136
 t39 := Tryz.underlying142
 a39 := Tryz.isAgg142
 z39 := Tryz.sizeOf142
 v39 := Tryz.zeroValue142
 t45 := Tryz.underlying151
 a45 := Tryz.isAgg151
 z45 := Tryz.sizeOf151
 v45 := Tryz.zeroValue151
 t46 := Tryz.underlying152
 a46 := Tryz.isAgg152
 z46 := Tryz.sizeOf152
 v46 := Tryz.zeroValue152
 t50 := Tryz.underlying92
 a50 := Tryz.isAgg92
 z50 := Tryz.sizeOf92
 v50 := Tryz.zeroValue92
 t53 := Tryz.underlying158
 a53 := Tryz.isAgg158
 z53 := Tryz.sizeOf158
 v53 := Tryz.zeroValue158
 t55 := Tryz.underlying160
 a55 := Tryz.isAgg160
 z55 := Tryz.sizeOf160
 v55 := Tryz.zeroValue160
 t66 := Tryz.underlying172
 a66 := Tryz.isAgg172
 z66 := Tryz.sizeOf172
 v66 := Tryz.zeroValue172
 t70 := Tryz.underlying176
 a70 := Tryz.isAgg176
 z70 := Tryz.sizeOf176
 v70 := Tryz.zeroValue176
 t76 := Tryz.underlying182
 a76 := Tryz.isAgg182
 z76 := Tryz.sizeOf182
 v76 := Tryz.zeroValue182
 t77 := Tryz.underlying183
 a77 := Tryz.isAgg183
 z77 := Tryz.sizeOf183
 v77 := Tryz.zeroValue183 }
end Go.Proofs
namespace Go.Proofs.YtjmmldkailblmaaGreat
open Go.Ahl
abbrev FEnt := List Int × Int
def vE (e : FEnt) : List AV := [.slice .fresh (e.1.map Ahl.encI), .int .i64 e.2]
def encEn (e : FEnt) : List AV := [.slice .unk (e.1.map Ahl.encI), .int .i64 e.2]
theorem ids_vE {n : Nat} (e : FEnt) : IdsL n (vE e) := idsL_cons (ids_mapf ids_encI _) (idsL_cons (.int _ _) idsL_nil)
theorem ids_encEn {n : Nat} (e : FEnt) : IdsL n (encEn e) := idsL_cons (ids_map ids_encI _) (idsL_cons (.int _ _) idsL_nil)
instance : IdE encEn := ⟨fun _ => ids_encEn⟩
def c_ent1 : CCode := .seq (.ops [oS 2 (.box (.tmp 0)), oS 3 (.box (.tmp 1)), oS 4 (.move (.lit (.int .i64 0)))]) (.seq (.ops [oS 5 (.faddr 0 (.tmp 2)), oS 6 (.load none (.tmp 5)), oS 7 (.faddr 0 (.tmp 3)), oS 8 (.load none (.tmp 7)), oS 9 (.call (.lit (.func 38 [])) [.tmp 6, .tmp 8]), oS 4 (.move (.tmp 9))]) .ret)
theorem ent1_spec (x y : FEnt) (σ : Store) (hx : x.1.length ≤ 140737488355328) (hy : y.1.length ≤ 140737488355328) : ACalls Tryz.prog 95 [.agg (vE x), .agg (vE y)] σ (isR (.int .i64 (cmpInts x.1 y.1)) σ) := by
 refine ACalls.intro (rs := [(.tmp 4)]) (by kernel_rfl) { own := [], ghosts := [] } Tryz.func95 (c := Tryz.f95.body.getD .skip) (by kernel_rfl) (by decide) (by rw [show Tryz.f95.ntmps = 10 by kernel_rfl]; exact Nat.le_of_ble_eq_true rfl) (by kernel_rfl) ?_
 intro hσ hids
 rw [show comp Tryz.prog { own := [], ghosts := [] } (Tryz.f95.body.getD .skip) = c_ent1 by kernel_rfl, show Tryz.f95.ntmps = 10 by kernel_rfl]
 unfold c_ent1
 simp only [go_sem, simprocAttr, vE]
 refine (slCmp_spec x.1 y.1 .fresh .fresh _ hx hy).is ?_
 simp only [go_sem, simprocAttr, vE]
 first | exact rtw (v := .int .i64 _) wkS ⟨rfl, rfl⟩ | exact rtw0 (v := .int .i64 _) wkS ⟨rfl, rfl⟩
theorem sortEn_spec (id : Nat) (l : List FEnt) (hl : ∀ x ∈ l, x.1.length ≤ 140737488355328) (σ : Store) (hσ : σ[id]? = some (.row (l.map vE).flatten)) (hlen : l.length ≤ 1073741824) :
  ACalls Tryz.prog 94 [.ref id 2 0 l.length, .func 95 []] σ fun r σ' => r = .tuple [] ∧ ∃ l' : List FEnt, l'.Perm l ∧ l'.Pairwise (fun x y => ¬ cmpInts y.1 x.1 < 0) ∧ σ' = σ.set id (.row (l'.map vE).flatten) := by
 have h := sortK laysEn (fn := Tryz.f94) (gn := Tryz.f95) 2 (by decide) Tryz.isAgg68 Tryz.sizeOf68 Tryz.func94 (by kernel_rfl) (by decide) vE (fun _ => rfl) (fun x : FEnt => x.1.length ≤ 140737488355328) (fun x y => cmpInts x.1 y.1) (fun b x hx => by
   simp only [vE, List.mem_cons, List.not_mem_nil, or_false] at hx
   rcases hx with rfl | rfl <;> rfl) (fun b => ids_vE b) ([], 0) [.slice none 0 0, .int .i64 0] (by simp) rfl
  (fun m j x v hx hv => by
   match j, hx, hv with
   | 0, hx, hv =>
    simp [vE] at hx hv; subst hx; subst hv
    exact .slice .fresh [] none 0 0 0 0 (fun _ _ => undef) (Nat.le_refl _) (fun h => absurd h (by simp)) (by simp) (fun h => absurd rfl h) (fun i hi => absurd hi (by simp)) (by simp)
   | 1, hx, hv => simp [vE] at hx hv; subst hx; subst hv; exact .int _ _
   | j + 2, hx, hv => simp [vE] at hx)
  (fun x _ => by rw [cmpInts_refl]; omega) (fun x y z _ _ _ => cmpInts_trans)
  (fun x y z _ _ _ h k => by
   rcases cmpInts_total h with q | q
   ·rcases cmpInts_total k with q' | q'
    ·have := cmpInts_trans q' q
     intro hh; have := cmpInts_swap.1 hh; omega
    ·rw [← q']; exact h
   ·rw [q]; exact k)
  95 Tryz.func95 (by kernel_rfl) (by kernel_rfl) (fun x y hx hy => ent1_spec x y [] hx hy) id l hl σ hσ (by omega)
 refine h.mono ?_
 rintro r σ' ⟨rfl, l', hp, hs, rfl⟩
 exact ⟨rfl, l', hp, hs, rfl⟩
def stopB (w : Wld) (chosen : List Int) (i : Nat) : Bool := w.gl.getD i false || decide (chosen.getD i 0 < 0)
def takenC (w : Wld) (chosen : List Int) (i : Nat) : Nat × List Nat := (w.ch.getD i []).getD (chosen.getD i 0).toNat (0, [])
def addN (l : List Nat) (x : Nat) : List Nat := if x ∈ l then l else l ++ [x]
def addNs (l xs : List Nat) : List Nat := xs.foldl addN l
def bfs (w : Wld) (chosen : List Int) : Nat → List Nat
 | 0 => [0]
 | k + 1 => match (bfs w chosen k)[k]? with
  | some i => if stopB w chosen i then bfs w chosen k else addNs (bfs w chosen k) (takenC w chosen i).2
  | none => bfs w chosen k
def entOf (w : Wld) (chosen : List Int) (i : Nat) : FEnt := (w.ss.getD i [], ((takenC w chosen i).1 : Nat))
def outE (w : Wld) (chosen : List Int) (l : List Nat) : List FEnt := (l.filter fun i => !stopB w chosen i).map (entOf w chosen)
structure ChOk (w : Wld) (chosen : List Int) : Prop where
 len : chosen.length = w.ss.length
 ok : ∀ i, i < w.ss.length → 0 ≤ chosen.getD i 0 → (chosen.getD i 0).toNat < (w.ch.getD i []).length
theorem addN_pre (l : List Nat) (x : Nat) : ∃ r, addN l x = l ++ r := by
 unfold addN; split
 ·exact ⟨[], by simp⟩
 ·exact ⟨[x], rfl⟩
theorem addNs_pre : ∀ (xs l : List Nat), ∃ r, addNs l xs = l ++ r
 | [], l => ⟨[], by simp [addNs]⟩
 | x :: xs, l => by
  obtain ⟨r, hr⟩ := addN_pre l x
  obtain ⟨q, hq⟩ := addNs_pre xs (addN l x)
  exact ⟨r ++ q, by show addNs (addN l x) xs = _; rw [hq, hr, List.append_assoc]⟩
theorem addN_mem {l : List Nat} {x y : Nat} : y ∈ addN l x ↔ y ∈ l ∨ y = x := by
 unfold addN; split
 ·rename_i h
  exact ⟨.inl, fun q => q.elim id fun e => by subst e; exact h⟩
 ·simp
theorem addNs_mem : ∀ {xs l : List Nat} {y : Nat}, y ∈ addNs l xs ↔ y ∈ l ∨ y ∈ xs
 | [], l, y => by simp [addNs]
 | x :: xs, l, y => by
  show y ∈ addNs (addN l x) xs ↔ _
  rw [addNs_mem, addN_mem, List.mem_cons, or_assoc]
theorem addN_nodup {l : List Nat} (h : l.Nodup) (x : Nat) : (addN l x).Nodup := by
 unfold addN; split
 ·exact h
 ·rename_i hx
  rw [List.nodup_append]
  refine ⟨h, by simp, fun a ha b hb => ?_⟩
  rw [List.mem_singleton] at hb; subst hb; rintro rfl; exact hx ha
theorem addNs_nodup : ∀ (xs : List Nat) {l : List Nat}, l.Nodup → (addNs l xs).Nodup
 | [], l, h => h
 | x :: xs, l, h => addNs_nodup xs (addN_nodup h x)
theorem addNs_take {xs : List Nat} {j x : Nat} (h : xs[j]? = some x) (l : List Nat) : addNs l (xs.take (j + 1)) = addN (addNs l (xs.take j)) x := by
 unfold addNs; rw [take_succ' h, List.foldl_append]; rfl
theorem taken_get {w : Wld} {chosen : List Int} (hc : ChOk w chosen) {i : Nat} (hi : i < w.ss.length) (hs : stopB w chosen i = false) : ∃ l, w.ch.getD i [] = l ∧ 0 ≤ chosen.getD i 0 ∧ l[(chosen.getD i 0).toNat]? = some (takenC w chosen i) := by
 unfold stopB at hs
 rw [Bool.or_eq_false_iff] at hs
 have h0 := of_decide_eq_false hs.2
 have h1 := hc.ok i hi (by omega)
 refine ⟨_, rfl, by omega, ?_⟩
 unfold takenC
 generalize w.ch.getD i [] = l at h1
 generalize (chosen.getD i 0).toNat = n at h1
 rw [List.getD_eq_getElem?_getD, List.getElem?_eq_getElem h1]; rfl
theorem taken_ok {w : Wld} {chosen : List Int} (hw : WOk w) (hc : ChOk w chosen) {i : Nat} (hi : i < w.ss.length) (hs : stopB w chosen i = false) : (takenC w chosen i).2.length ≤ 1000000 ∧ (takenC w chosen i).2 ≠ [] ∧ ∀ k ∈ (takenC w chosen i).2, k < w.ss.length := by
 obtain ⟨l, hl, h0, hg⟩ := taken_get hc hi hs
 have hm : l ∈ w.ch := by
  rw [← hl, List.getD_eq_getElem?_getD, List.getElem?_eq_getElem (by rw [hw.ch]; exact hi)]
  exact List.getElem_mem _
 exact hw.some l hm _ (List.mem_of_getElem? hg)
theorem bfs_step {w : Wld} {chosen : List Int} {k i : Nat} (h : (bfs w chosen k)[k]? = some i) : bfs w chosen (k + 1) = if stopB w chosen i then bfs w chosen k else addNs (bfs w chosen k) (takenC w chosen i).2 := by
 rw [bfs, h]
theorem bfs_pre (w : Wld) (chosen : List Int) (k : Nat) : ∃ r, bfs w chosen (k + 1) = bfs w chosen k ++ r := by
 rw [bfs]; split
 ·split
  ·exact ⟨[], by simp⟩
  ·exact addNs_pre _ _
 ·exact ⟨[], by simp⟩
theorem bfs_ok {w : Wld} {chosen : List Int} (hw : WOk w) (hc : ChOk w chosen) (h0 : 0 < w.ss.length) : ∀ k, (bfs w chosen k).Nodup ∧ ∀ i ∈ bfs w chosen k, i < w.ss.length
 | 0 => ⟨by simp [bfs], fun i hi => by simp [bfs] at hi; omega⟩
 | k + 1 => by
  obtain ⟨h1, h2⟩ := bfs_ok hw hc h0 k
  rw [bfs]; split
  ·rename_i i hi
   split
   ·exact ⟨h1, h2⟩
   ·rename_i hs
    refine ⟨addNs_nodup _ h1, fun x hx => ?_⟩
    rcases addNs_mem.1 hx with q | q
    ·exact h2 x q
    ·exact (taken_ok hw hc (h2 i (List.mem_of_getElem? hi)) (by simpa using hs)).2.2 x q
  ·exact ⟨h1, h2⟩
theorem nodup_lt_len {l : List Nat} {n : Nat} (h : l.Nodup) (hl : ∀ i ∈ l, i < n) : l.length ≤ n := by
 have := nodup_sub_len h (m := List.range n) fun x hx => List.mem_range.2 (hl x hx)
 simpa using this
theorem bfs_len {w : Wld} {chosen : List Int} (hw : WOk w) (hc : ChOk w chosen) (h0 : 0 < w.ss.length) (k : Nat) : (bfs w chosen k).length ≤ w.ss.length := nodup_lt_len (bfs_ok hw hc h0 k).1 (bfs_ok hw hc h0 k).2
theorem bfs_stop {w : Wld} {chosen : List Int} {k : Nat} (h : (bfs w chosen k).length ≤ k) : ∀ j, bfs w chosen (k + j) = bfs w chosen k
 | 0 => rfl
 | j + 1 => by
  have ih := bfs_stop h j
  show bfs w chosen (k + j + 1) = _
  rw [bfs, ih, List.getElem?_eq_none (by omega)]
def seenE (i : Nat) : AV × AV := (.int .i64 (i : Nat), .bool true)
theorem find_seen (x : Nat) : ∀ (l : List Nat) (k : Nat), aFind (.int .i64 (x : Nat)) (l.map seenE) k = some (if x ∈ l then some (k + l.idxOf x, .bool true) else none)
 | [], k => by simp [aFind]
 | y :: l, k => by
  rw [List.map_cons, seenE, aFind]
  by_cases e : y = x
  ·subst e
   have : keyEq (.int .i64 (y : Nat)) (.int .i64 (y : Nat)) = some true := by simp [keyEq]
   rw [this]; simp
  ·have : keyEq (.int .i64 (x : Nat)) (.int .i64 (y : Nat)) = some false := by
    have : ¬ (x : Int) = y := by omega
    simp [keyEq, this]
   rw [this]
   simp only
   rw [find_seen x l (k + 1)]
   have hxy : x ≠ y := fun q => e q.symm
   by_cases hm : x ∈ l
   ·rw [if_pos hm, if_pos (List.mem_cons_of_mem _ hm), List.idxOf_cons, show (y == x) = false by simpa using e]
    simp only [cond_false, Nat.add_comm, Nat.add_left_comm, Nat.add_assoc]
   ·rw [if_neg hm, if_neg (by simp [hxy, hm])]
theorem ids_seen (n : Nat) (l : List Nat) : IdsO n (.map (l.map seenE)) := by
 intro j a b h
 rw [List.getElem?_map] at h
 obtain ⟨x, _, hx⟩ := Option.map_eq_some_iff.1 h
 simp only [seenE, Prod.mk.injEq] at hx
 obtain ⟨rfl, rfl⟩ := hx
 exact ⟨.int _ _, .bool _⟩
theorem ghMoveL {nt : Nat} {s s' : Slots} {σ l g : Store} (m k : Nat) {o : AObj} (hl : l.length = m) (ho : g[k]? = some o) (hi : IdsS (σ ++ l).length (σ ++ l)) (hio : IdsO (σ ++ l).length o) (h1 : TellM s (σ.length + m + k) (σ.length + m) s') : Ghost σ.length nt s (σ ++ (l ++ g)) s' (σ ++ (l ++ [o])) := by
 have := Ghost.moved (n0 := σ.length) (nt := nt) (σ := σ ++ l) (g := g) s' k o (by simp) ho hi hio (by rw [List.length_append, hl]; exact h1)
 rwa [List.append_assoc, List.append_assoc] at this
section
variable {nt t id len sz : Nat} {s : Slots} {σ S : Store} {R : Cont} {cells : List AV} {es : List (List AV)}
theorem retRowK (ht : S.take σ.length = σ) (hs : lk s t = .ref id sz 0 len) (hid : S[id]? = some (.row cells)) (hlen : es.length = len) (hge : σ.length ≤ id) (hi : Ids σ.length (.slice .fresh es))
  (hes : ∀ (i : Nat) e, es[i]? = some e → e.length = sz ∧ ∀ j, j < sz → cells[0 + (i * sz + j)]? = e[j]?) (h : R (.slice .fresh es) σ) (hσ : IdsS σ.length σ := by assumption) :
  bodyK [.tmp t] σ.length nt R .ret s S := by
 refine ret_gh (v := .slice .fresh es) (σ' := σ) ?_ (Nat.le_refl _) hσ hi h
 refine Ghost.trans (Ghost.freezeF t es hs hid hlen hes) ?_
 have ht' : (S.set id .dead).take σ.length = σ := by rw [List.take_set_of_le hge, ht]
 have := Ghost.cut (n0 := σ.length) (nt := nt) (σ := S.set id .dead) (s := (t, .slice .fresh es) :: s) [(t, .slice .fresh es)] σ.length (Nat.le_refl _) ⟨⟨by simp only [Ahl.lk, beq_self_eq_true, cond_true]; exact Wk.refl _, hi⟩, trivial⟩ (by rw [ht']; exact hσ)
 rwa [ht'] at this
end
def EntP (w : Wld) (chosen : List Int) (r : AV) : Prop := ∃ E : List FEnt, E.Perm (outE w chosen (bfs w chosen w.ss.length)) ∧ E.Pairwise (fun x y => ¬ cmpInts y.1 x.1 < 0) ∧ r = .slice .fresh (E.map vE)
def e_ents_0 : List COp := [oS 40 (.move (.tmp 0)), oA 41 (.nilck (.tmp 40)) [0], oA 42 (.faddr 2 (.tmp 41)) [1], oA 43 (.load none (.tmp 42)) [2], oS 44 (.move (.tmp 9)), oA 45 (.iaddr 1 (.tmp 43) (.tmp 44)) [3, 4], oA 46 (.load none (.tmp 45)) [5], oS 47 (.move (.tmp 1)), oS 48 (.move (.tmp 9)), oA 49 (.iaddr 1 (.tmp 47) (.tmp 48)) [7, 8], oA 50 (.load none (.tmp 49)) [9], oA 51 (.iaddr 2 (.tmp 46) (.tmp 50)) [6, 10], oA 52 (.load (some 2) (.tmp 51)) [11], oS 10 (.alloc (.agg [.int .i64 0, .slice .nil []])), ⟨none, .store 2 (.tmp 10) (.tmp 52), none, [13, 12, 0, 1, 2, 3, 4, 5, 6, 7, 8, 9, 10, 11, 12, 13]⟩]
def d_ents_0 : List COp := e_ents_0
theorem dr_ents_0 (P : Program) (nt n0 : Nat) (Q : Post) (s : Slots) (σ : Store) : wpc P nt n0 (.drawU d_ents_0 [[], [], [], [13], [], [], [13], [], [], [], [13], [], [13], [3, 6, 10, 12], []]) Q s σ = aOpsU P nt e_ents_0 [[], [], [], [13], [], [], [13], [], [], [], [13], [], [13], [3, 6, 10, 12], []] 0 [] [] (Q .normal) s σ := wpc_drawU _ _ (by decide)
def e_ents_1 : List COp := [oS 53 (.move (.tmp 7)), oS 54 (.move (.tmp 0)), oA 55 (.nilck (.tmp 54)) [1], oA 56 (.faddr 0 (.tmp 55)) [2], oA 57 (.faddr 1 (.tmp 56)) [3], oA 58 (.load none (.tmp 57)) [4], oS 59 (.move (.tmp 9)), oA 60 (.iaddr 1 (.tmp 58) (.tmp 59)) [5, 6], oA 61 (.load none (.tmp 60)) [7], oA 62 (.call (.lit (.func 93 [])) [.tmp 61]) [8], oS 63 (.faddr 0 (.tmp 10)), oA 64 (.load none (.tmp 63)) [10], oA 65 (.build [.slice .nil [], .int .i64 0] [(0, 1, .tmp 62), (1, 1, .tmp 64)]) [9, 11], oA 66 (.bsliceC 2 [.tmp 65]) [12], oA 67 (.bappend 2 32 (.tmp 53) (.tmp 66) true) [0, 13, 9], oA 7 (.move (.tmp 67)) [14, 14, 0, 1, 2, 3, 4, 5, 6, 7, 8, 9, 10, 11, 12, 13, 14]]
def d_ents_1 : List COp := e_ents_1
theorem dr_ents_1 (P : Program) (nt n0 : Nat) (Q : Post) (s : Slots) (σ : Store) : wpc P nt n0 (.draw d_ents_1) Q s σ = aOpsD P nt e_ents_1 (Q .normal) s σ := wpc_draw _ (by decide)
attribute [local go_sem] dr_ents_0 e_ents_0 dr_ents_1 e_ents_1
def c_ents : CCode := .seq (.ops [oS 4 (.move (.lit (.slice .nil [])))]) (.seq (.ops [oS 13 .mkmap, oN (.mapup false (.tmp 13) (.lit (.int .i64 0)) (.lit (.bool true))), oS 14 (.move (.tmp 13)), oS 5 (.move (.tmp 14))]) (.seq (.ops [oS 15 (.bslice 1 [.lit (.int .i64 0)] false), oS 6 (.move (.tmp 15))]) (.seq (.ops [oS 7 (.move (.lit (.slice .nil [])))]) (.seq (.seq (.ghost (.ops [oS 8 (.move (.lit (.int .i64 0)))])) (.block 0 (.loop (.seq (.seq (.ops [oS 16 (.move (.tmp 8)), oS 17 (.move (.tmp 6)), oS 18 (.blen 1 (.tmp 17)), oS 19 (.bin .lss .none (.tmp 16) (.tmp 18))]) (.cond (.tmp 19) .skip (.exit 0))) (.seq (.block 1 (.seq (.ops [oS 22 (.move (.tmp 6)), oS 23 (.move (.tmp 8)), oS 24 (.iaddr 1 (.tmp 22) (.tmp 23)), oS 25 (.load none (.tmp 24)), oS 9 (.move (.tmp 25))]) (.seq (.seq (.ops [oS 26 (.move (.tmp 0)), oS 27 (.nilck (.tmp 26)), oS 28 (.faddr 3 (.tmp 27)), oS 29 (.load none (.tmp 28)), oS 30 (.move (.tmp 9)), oS 31 (.iaddr 1 (.tmp 29) (.tmp 30)), oS 32 (.load none (.tmp 31)), oS 33 (.move (.tmp 32)), oG 34 33 false (.move (.tmp 1)), oG 35 33 false (.move (.tmp 9)), oG 36 33 false (.iaddr 1 (.tmp 34) (.tmp 35)), oG 37 33 false (.load none (.tmp 36)), oG 38 33 false (.bin .lss .none (.tmp 37) (.lit (.int .i64 0))), oS 39 (.pick (.tmp 33) (.lit (.bool true)) (.tmp 38))]) (.cond (.tmp 39) (.exit 1) .skip)) (.seq (.drawU d_ents_0 [[], [], [], [13], [], [], [13], [], [], [], [13], [], [13], [3, 6, 10, 12], []]) (.seq (.draw d_ents_1) (.seq (.ops [oS 68 (.faddr 1 (.tmp 10)), oS 69 (.load none (.tmp 68)), oS 70 (.blen 1 (.tmp 69)), oS 71 (.move (.lit (.int .i64 0)))]) (.block 2 (.loop (.seq (.ops [oS 72 (.bin .lss .none (.tmp 71) (.tmp 70))]) (.seq (.cond (.tmp 72) .skip (.exit 2)) (.seq (.block 3 (.seq (.ops [oS 73 (.iaddr 1 (.tmp 69) (.tmp 71)), oS 74 (.load none (.tmp 73)), oS 12 (.move (.tmp 74))]) (.seq (.ops [oS 75 (.move (.tmp 5)), oS 76 (.move (.tmp 12)), oS 77 (.lookup false (.bool false) (.tmp 75) (.tmp 76) false), oS 78 (.un .not (.tmp 77))]) (.cond (.tmp 78) (.seq (.ops [oS 79 (.move (.tmp 5)), oS 80 (.move (.tmp 12)), oN (.mapup false (.tmp 79) (.tmp 80) (.lit (.bool true)))]) (.ops [oS 81 (.move (.tmp 6)), oS 82 (.move (.tmp 12)), oS 83 (.bsliceC 1 [.tmp 82]), oS 84 (.bappend 1 8 (.tmp 81) (.tmp 83) false), oS 6 (.move (.tmp 84))])) .skip)))) (.ops [oS 85 (.bin .add .none (.tmp 71) (.lit (.int .i64 1))), oS 71 (.move (.tmp 85))])))))))))))) (.ops [oS 20 (.move (.tmp 8)), oS 21 (.bin .add .none (.tmp 20) (.lit (.int .i64 1))), oS 8 (.move (.tmp 21))])))))) (.seq (.ghost (.ops [oS 86 (.move (.tmp 7)), oS 87 (.call (.lit (.func 94 [])) [.tmp 86, .lit (.func 95 [])])])) (.seq (.ghost (.ops [oS 88 (.move (.tmp 7)), oS 4 (.move (.tmp 88))])) .ret))))))
set_option maxHeartbeats 4000000 in
theorem ents_spec (w : Wld) (chosen : List Int) (tok : Tok) (W : Nat) (σ : Store) (hW : σ[W]? = some (.row (encWorld w))) (hw : WOk w) (hc : ChOk w chosen) (h0 : 0 < w.ss.length) (hsl : ∀ s ∈ w.ss, s.length ≤ 1000000) :
  ACalls Tryz.prog 61 [.ptr W 0, .slice tok (chosen.map Ahl.encI)] σ (fun r σ' => σ' = σ ∧ EntP w chosen r) := by
 refine ACalls.intro (rs := [(.tmp 4)]) (by kernel_rfl) { own := [(10, 14)], ghosts := [4, 18, 19], cold := [(10, 13), (16, 2)], free := [(9, [[], [], [], [13], [], [], [13], [], [], [], [13], [], [13], [3, 6, 10, 12], []])] } Tryz.func61 (c := Tryz.f61.body.getD .skip) (by kernel_rfl) (by decide) (by rw [show Tryz.f61.ntmps = 89 by kernel_rfl]; exact Nat.le_of_ble_eq_true rfl) (by kernel_rfl) ?_
 intro hσ hids
 rw [show comp Tryz.prog { own := [(10, 14)], ghosts := [4, 18, 19], cold := [(10, 13), (16, 2)], free := [(9, [[], [], [], [13], [], [], [13], [], [], [], [13], [], [13], [3, 6, 10, 12], []])] } (Tryz.f61.body.getD .skip) = c_ents by kernel_rfl, show Tryz.f61.ntmps = 89 by kernel_rfl]
 unfold c_ents
 have hWl := lt_of_get hW
 have hWg : ∀ r, (σ ++ r)[W]? = some (.row (encWorld w)) := fun r => by rw [List.getElem?_append_left hWl]; exact hW
 simp only [encWorld] at hWg
 have hic : Ids σ.length (.slice tok (chosen.map Ahl.encI)) := hids _ (by simp)
 have hwl := hw.len
 have hgl := hw.gl
 have hcl := hw.ch
 have hch := hc.len
 have hfe : aFind (.int .i64 0) [] 0 = some none := rfl
 simp only [go_sem, simprocAttr, hW, hWg, encWorld, hfe]
 have hrow : ∀ (n : Nat) (out : List FEnt), IdsO n (.row (out.map vE).flatten) := fun n out => (fun j x hj => by
  have := List.mem_of_getElem? hj
  obtain ⟨e, he, hx⟩ := List.mem_flatten.1 this
  obtain ⟨y, _, rfl⟩ := List.mem_map.1 he
  exact ids_vE y x hx)
 have hS : ∀ (l : List Nat) (out : List FEnt), IdsS (σ ++ [AObj.map (List.map seenE l), AObj.grow 1 (List.length l), AObj.row (List.flatten (List.map vE out))]).length (σ ++ [AObj.map (List.map seenE l), AObj.grow 1 (List.length l), AObj.row (List.flatten (List.map vE out))]) := fun l out => idsS_app _ hσ (all_cons' (ids_seen _ _) (all_cons' trivial (all_cons' (hrow _ _) all_nil')))
 have hO0 : outE w chosen ((bfs w chosen 0).take 0) = [] := rfl
 refine Gh.of (s' := [(7, .ref (σ.length + 2) 2 0 0), (6, .slice (.grow (σ.length + 1)) ([0].map encNt)), (5, .map σ.length), (0, .ptr W 0), (1, .slice tok (chosen.map Ahl.encI))]) (σ' := σ ++ [AObj.map (List.map seenE [0]), AObj.grow 1 (List.length [0]), AObj.row (List.flatten (List.map vE []))]) ?_ ?_
 ·refine Ghost.trans (Ghost.row0 7 2 0 (.inl rfl)) ?_
  simp only [List.append_assoc, List.cons_append, List.nil_append, List.length_append, List.length_cons, List.length_nil, Nat.zero_add, Nat.reduceAdd]
  exact ghL0 (hS [0] [])
 simp only [go_sem, simprocAttr]
 refine wpc_while (fun (k : Nat) => [(7, .ref (σ.length + 2) 2 0 (outE w chosen ((bfs w chosen k).take k)).length), (6, .slice (.grow (σ.length + 1)) ((bfs w chosen k).map encNt)), (5, .map σ.length), (0, .ptr W 0), (1, .slice tok (chosen.map Ahl.encI)), (8, .int .i64 (k : Nat))])
  (fun k => σ ++ [AObj.map (List.map seenE (bfs w chosen k)), AObj.grow 1 (List.length (bfs w chosen k)), AObj.row (List.flatten (List.map vE (outE w chosen ((bfs w chosen k).take k))))]) (fun k => k ≤ (bfs w chosen k).length) (fun k => w.ss.length + 1 - k) 0 (Nat.zero_le _) ?_ ?_
 ·exact ghL0 (hS [0] [])
 intro k hk K hK hE hR
 have hLn := bfs_len hw hc h0 k
 have hLo := bfs_ok hw hc h0 k
 have hpre := bfs_pre w chosen k
 by_cases h : k < (bfs w chosen k).length
 ·obtain ⟨i, hx⟩ := get_ex h
  have hstep := bfs_step hx
  have hiN := hLo.2 i (List.mem_of_getElem? hx)
  have hlt : ((k : Int) < ((bfs w chosen k).length : Int)) := by omega
  have hwk := wrapS (i := k) (by omega)
  have htk : (bfs w chosen (k + 1)).take (k + 1) = (bfs w chosen k).take k ++ [i] := by
   obtain ⟨r, hr⟩ := hpre
   rw [hr, List.take_append_of_le_length (by omega), take_succ' hx]
  generalize hL : bfs w chosen k = L at hk hLn hLo hpre h hx hstep hlt htk
  have hO : outE w chosen ((bfs w chosen (k + 1)).take (k + 1)) = outE w chosen (L.take k) ++ (if stopB w chosen i then [] else [entOf w chosen i]) := by
   rw [htk]; unfold outE; rw [List.filter_append, List.map_append]; cases hq : stopB w chosen i <;> simp [hq]
  have hOl : (outE w chosen (L.take k)).length ≤ k := by
   unfold outE; rw [List.length_map]; exact Nat.le_trans (List.length_filter_le _ _) (by simp; omega)
  generalize outE w chosen (L.take k) = O at hO hOl
  obtain ⟨b, hb⟩ := get_ex (show i < w.gl.length by omega)
  obtain ⟨c, hcx⟩ := get_ex (show i < chosen.length by omega)
  obtain ⟨s, hs⟩ := get_ex hiN
  have hst : stopB w chosen i = (b || decide (c < 0)) := by unfold stopB; rw [List.getD_eq_getElem?_getD, List.getD_eq_getElem?_getD, hb, hcx]; rfl
  cases b
  ·by_cases hc0 : c < 0
   ·have hs1 : stopB w chosen i = true := by rw [hst, decide_eq_true hc0]; rfl
    simp only [go_sem, simprocAttr, hW, hWg, encWorld, hlt, hx, encNt, hb, encB, hcx, hc0, Ahl.encI]
    refine hK _ _ (k + 1) (by rw [hstep, hs1]; simp; omega) (by omega) ?_
    rw [hwk, hO, hstep, hs1]
    simp only [if_true, List.append_nil]
    exact ghL0 (hS _ _)
   ·have hs1 : stopB w chosen i = false := by rw [hst, decide_eq_false hc0]; rfl
    obtain ⟨l, hl1, hl2, hl3⟩ := taken_get hc hiN hs1
    have hto := taken_ok hw hc hiN hs1
    have hent : entOf w chosen i = (s, (((takenC w chosen i).1 : Nat) : Int)) := by unfold entOf; rw [List.getD_eq_getElem?_getD, hs]; rfl
    have hcd : chosen.getD i 0 = c := by rw [List.getD_eq_getElem?_getD, hcx]; rfl
    rw [hcd] at hl2 hl3
    have hlx : w.ch[i]? = some l := by
     obtain ⟨l', hl'⟩ := get_ex (show i < w.ch.length by omega)
     rw [hl']; rw [List.getD_eq_getElem?_getD, hl'] at hl1; rw [← hl1]; rfl
    rw [hs1] at hO hstep
    simp only [Bool.false_eq_true, if_false] at hO hstep
    generalize takenC w chosen i = tc at hto hent hl3 hstep
    simp only [go_sem, simprocAttr, hW, hWg, encWorld, hlt, hx, encNt, hb, encB, hcx, hc0, hlx, hl2, hl3, encCh, encCo, hs, encL, Ahl.encI]
    have hsm := hsl s (List.mem_of_getElem? hs)
    refine ⟨_, cloneI_specF s .unk _ (by omega), ?_⟩
    have hbig : bigLen (O.length + 1) 32 := big_ok (by omega) (by omega)
    have hfl : (O.map vE).flatten.length = O.length * 2 := flatM_len vE 2 (fun _ => rfl) O
    have hff : (O.map vE).flatten ++ [[AV.slice .fresh (s.map Ahl.encI), AV.int .i64 (tc.1 : Nat)]].flatten = ((O ++ [entOf w chosen i]).map vE).flatten := by
     rw [List.map_append, List.flatten_append, hent]; rfl
    simp only [go_sem, simprocAttr, hbig, hfl, hff]
    rw [← hO]
    have hOn : (outE w chosen ((bfs w chosen (k + 1)).take (k + 1))).length = O.length + 1 := by rw [hO]; simp
    refine wpc_while (fun (j : Nat) => [(7, .ref (σ.length + 2) 2 0 (O.length + 1)), (6, .slice (.grow (σ.length + 1)) ((addNs L (tc.2.take j)).map encNt)), (5, .map σ.length), (0, .ptr W 0), (1, .slice tok (chosen.map Ahl.encI)), (8, .int .i64 (k : Nat)), (69, .slice .unk (tc.2.map encNt)), (70, .int .i64 tc.2.length), (71, .int .i64 (j : Nat))])
     (fun j => σ ++ [AObj.map (List.map seenE (addNs L (tc.2.take j))), AObj.grow 1 (List.length (addNs L (tc.2.take j))), AObj.row (List.flatten (List.map vE (outE w chosen ((bfs w chosen (k + 1)).take (k + 1)))))]) (fun j => j ≤ tc.2.length) (fun j => tc.2.length - j) 0 (Nat.zero_le _) ?_ ?_
    ·have hS2 := hS L (outE w chosen ((bfs w chosen (k + 1)).take (k + 1)))
     refine ghMoveL (l := [AObj.map (L.map seenE), .grow 1 L.length]) (g := [.dead, AObj.row [.int .i64 (tc.1 : Nat), .slice .unk (tc.2.map encNt)], .row _]) 2 2 rfl rfl (idsS_app _ hσ (all_cons' (ids_seen _ _) (all_cons' trivial all_nil'))) (hrow _ _) (by (simp only [TellM, lk, Nat.reduceBEq, cond_true, cond_false, and_true]; and_intros <;> first | exact .ref _ _ _ | exact .keep (.refl _) (by first | exact ids_mapE _ | assumption | exact .int _ _ | exact .bool _ | exact .ptr _ _ (by omega) | exact .map _ (by omega) | exact ids_growE (by omega) _ | (refine ids_up ?_ (by assumption); omega))))
    intro j hj K2 hK2 hE2 hR2
    have hAo : (addNs L (tc.2.take j)).Nodup ∧ ∀ x ∈ addNs L (tc.2.take j), x < w.ss.length := ⟨addNs_nodup _ hLo.1, fun x hx => by
     rcases addNs_mem.1 hx with q | q
     ·exact hLo.2 x q
     ·exact hto.2.2 x (List.mem_of_mem_take q)⟩
    have hAl := nodup_lt_len hAo.1 hAo.2
    have hAt := fun x (hx : tc.2[j]? = some x) => addNs_take hx L
    generalize hA : addNs L (tc.2.take j) = A at hAo hAl hAt
    by_cases hj2 : j < tc.2.length
    ·obtain ⟨x, hxj⟩ := get_ex hj2
     have hAt := hAt x hxj
     have hlt : ((j : Int) < (tc.2.length : Int)) := by omega
     have hwj := wrapS (i := j) (by omega)
     have hfs := find_seen x A 0
     have hbig2 : bigLen (A.length + 1) 8 := big_ok (by omega) (by omega)
     by_cases hxA : x ∈ A
     ·rw [if_pos hxA] at hfs
      unfold addN at hAt; rw [if_pos hxA] at hAt
      simp only [go_sem, simprocAttr, hlt, hxj, encNt, hfs]
      refine hK2 _ _ (j + 1) (by omega) (by omega) ?_
      rw [hwj, hAt]
      exact ghL0 (hS _ _)
     ·rw [if_neg hxA] at hfs
      unfold addN at hAt; rw [if_neg hxA] at hAt
      simp only [go_sem, simprocAttr, hlt, hxj, encNt, hfs, hbig2]
      refine hK2 _ _ (j + 1) (by omega) (by omega) ?_
      rw [hwj, hAt]
      have e1 : A.map encNt ++ [[AV.int .i64 (x : Nat)]] = (A ++ [x]).map encNt := by rw [List.map_append]; rfl
      have e2 : A.map seenE ++ [(AV.int .i64 (x : Nat), AV.bool true)] = (A ++ [x]).map seenE := by rw [List.map_append]; rfl
      have e3 : AObj.grow 1 (A.length + 1) = AObj.grow 1 (A ++ [x]).length := by simp
      rw [e1, e2, e3]
      exact ghL0 (hS _ _)
    ·have hlt : ¬ ((j : Int) < (tc.2.length : Int)) := by omega
     have hAf : bfs w chosen (k + 1) = A := by rw [hstep, ← hA, List.take_of_length_le (by omega)]
     simp only [go_sem, simprocAttr, hlt, hE2]
     refine hK _ _ (k + 1) ?_ (by omega) ?_
     ·obtain ⟨r, hr⟩ := hpre
      rw [hr, List.length_append]; omega
     ·rw [hwk, hAf]
      rw [hAf] at hOn
      rw [hOn]
      exact ghL0 (hS _ _)
  ·have hs1 : stopB w chosen i = true := by rw [hst]; rfl
   simp only [go_sem, simprocAttr, hW, hWg, encWorld, hlt, hx, encNt, hb, encB]
   refine hK _ _ (k + 1) (by rw [hstep, hs1]; simp; omega) (by omega) ?_
   rw [hwk, hO, hstep, hs1]
   simp only [if_true, List.append_nil]
   exact ghL0 (hS _ _)
 ·have hlt : ¬ ((k : Int) < ((bfs w chosen k).length : Int)) := by omega
  simp only [go_sem, simprocAttr, hlt, hE]
  have hstop : bfs w chosen w.ss.length = bfs w chosen k := by
   have := bfs_stop (w := w) (chosen := chosen) (k := k) (by omega) (w.ss.length - k)
   rwa [show k + (w.ss.length - k) = w.ss.length by omega] at this
  have hEP : EntP w chosen = fun r => ∃ E : List FEnt, E.Perm (outE w chosen (bfs w chosen k)) ∧ E.Pairwise (fun x y => ¬ cmpInts y.1 x.1 < 0) ∧ r = .slice .fresh (E.map vE) := by unfold EntP; rw [hstop]
  rw [List.take_of_length_le (by omega)]
  have hOb : ∀ x ∈ outE w chosen (bfs w chosen k), x.1.length ≤ 1000000 := by
   intro x hx
   obtain ⟨i, hi, rfl⟩ := List.mem_map.1 hx
   obtain ⟨s, hs⟩ := get_ex (hLo.2 i (List.mem_filter.1 hi).1)
   show (w.ss.getD i []).length ≤ _
   rw [List.getD_eq_getElem?_getD, hs]; exact hsl s (List.mem_of_getElem? hs)
  have hOl : (outE w chosen (bfs w chosen k)).length ≤ 1000000 := by
   unfold outE; rw [List.length_map]; exact Nat.le_trans (List.length_filter_le _ _) (by omega)
  generalize outE w chosen (bfs w chosen k) = O at hEP hOb hOl
  refine Gh.of (Ghost.refl _ _ _ _) ?_
  simp only [go_sem, simprocAttr]
  refine ACalls.mono (sortEn_spec (σ.length + 2) O (fun x hx => by have := hOb x hx; omega) _ (by simp) (by omega)) ?_
  rintro _ _ ⟨rfl, E, hEp, hEs, rfl⟩
  have hEl := hEp.length_eq
  simp only [go_sem, simprocAttr]
  refine Gh.of (Ghost.refl _ _ _ _) ?_
  simp only [go_sem, simprocAttr]
  refine retRowK (id := σ.length + 2) (es := E.map vE) ?_ rfl (by simp; rfl) (by simp [hEl]) (by omega) (ids_mapf (fun e => ids_vE e) _) ?_ ⟨rfl, by rw [hEP]; exact ⟨E, hEp, hEs, rfl⟩⟩
  ·exact List.take_left
  ·intro i e he
   rw [List.getElem?_map] at he
   obtain ⟨y, hy, rfl⟩ := Option.map_eq_some_iff.1 he
   refine ⟨rfl, fun j hj => ?_⟩
   rw [Nat.zero_add, flatM_get vE 2 (fun _ => rfl) E i j hj, hy]; rfl
def c_idxC : CCode := .seq (.ops [oS 4 (.move (.lit (.int .i64 0)))]) (.seq (.seq (.ops [oS 6 (.move (.tmp 0)), oS 7 (.blen 1 (.tmp 6)), oS 8 (.move (.lit (.int .i64 0)))]) (.block 0 (.loop (.seq (.ops [oS 9 (.bin .lss .none (.tmp 8) (.tmp 7))]) (.seq (.cond (.tmp 9) .skip (.exit 0)) (.seq (.block 1 (.seq (.ops [oS 10 (.move (.tmp 8)), oS 5 (.move (.tmp 10))]) (.seq (.ops [oS 11 (.move (.tmp 1)), oS 12 (.move (.tmp 0)), oS 13 (.move (.tmp 5)), oS 14 (.iaddr 2 (.tmp 12) (.tmp 13)), oS 15 (.load (some 2) (.tmp 14)), oS 16 (.call (.tmp 11) [.tmp 15])]) (.cond (.tmp 16) (.seq (.ops [oS 17 (.move (.tmp 5)), oS 4 (.move (.tmp 17))]) .ret) .skip)))) (.ops [oS 18 (.bin .add .none (.tmp 8) (.lit (.int .i64 1))), oS 8 (.move (.tmp 18))]))))))) (.seq (.ops [oS 4 (.move (.lit (.int .i64 (-1))))]) .ret))
theorem idxC_spec (l : List (Nat × List Nat)) (g : FuncId) (cap : List AV) (p : Nat × List Nat → Bool) (tok : Tok) (σ : Store) (hl : l.length ≤ 140737488355328)
  (hp : ∀ x ∈ l, ACalls Tryz.prog g (.agg (encCo x) :: cap) σ (isR (.bool (p x)) σ)) :
  ACalls Tryz.prog 57 [.slice tok (l.map encCo), .func g cap] σ (isR (.int .i64 (idxFrom p 0 l)) σ) := by
 refine ACalls.intro (rs := [(.tmp 4)]) (by kernel_rfl) { own := [], ghosts := [] } Tryz.func57 (c := Tryz.f57.body.getD .skip) (by kernel_rfl) (by decide) (by rw [show Tryz.f57.ntmps = 19 by kernel_rfl]; exact Nat.le_of_ble_eq_true rfl) (by kernel_rfl) ?_
 intro hσ hids
 rw [show comp Tryz.prog { own := [], ghosts := [] } (Tryz.f57.body.getD .skip) = c_idxC by kernel_rfl, show Tryz.f57.ntmps = 19 by kernel_rfl]
 unfold c_idxC
 have hil : Ids σ.length (.slice tok (l.map encCo)) := hids _ (by simp)
 have hif : Ids σ.length (.func g cap) := hids _ (by simp)
 simp only [go_sem, simprocAttr]
 refine wpc_while (fun i => [(0, .slice tok (l.map encCo)), (1, .func g cap), (7, .int .i64 l.length), (8, .int .i64 (i : Nat))]) (fun _ => σ) (fun i => i ≤ l.length ∧ idxFrom p 0 l = idxFrom p i (l.drop i)) (fun i => l.length - i) 0 ⟨Nat.zero_le _, rfl⟩ (by (try dsimp only); exact ghA) ?_
 rintro i ⟨hi, hv⟩ K hK hE hR
 by_cases h : i < l.length
 ·obtain ⟨y, hx⟩ := get_ex h; have hlt : ((i : Int) < (l.length : Int)) := (by omega); have hw := wrapS (i := i) (by omega)
  rw [drop_cons hx, idxFrom] at hv
  simp only [go_sem, simprocAttr, hlt, hx, encCo]
  refine (hp y (List.mem_of_getElem? hx)).is ?_
  cases h1 : p y
  ·simp only [go_sem, simprocAttr]
   rw [h1, if_neg (by simp)] at hv
   refine hK _ _ (i + 1) (⟨by omega, by rw [hv]; norm_cast⟩) om ?_; (try dsimp only); (try simp only [ hw]); exact ghA
  ·rw [h1, if_pos rfl] at hv
   simp only [go_sem, simprocAttr, hR]
   exact rt (.int .i64 i) ⟨by rw [hv], rfl⟩
 ·have hlt : ¬ ((i : Int) < (l.length : Int)) := by omega
  rw [drop_len h, idxFrom] at hv
  simp only [go_sem, simprocAttr, hlt, hE]
  exact rt (.int .i64 (-1)) ⟨by rw [hv], rfl⟩
def farB (far : List Int) (i k : Nat) : Bool := decide (far.getD k 0 < 0) || decide (far.getD k 0 ≥ far.getD i 0)
def nearest (far : List Int) (i : Nat) (c : Nat × List Nat) : Bool := !(c.2.any (farB far i))
def e_st11_0 : List COp := [oS 5 (.load none (.tmp 1)), oS 6 (.move (.tmp 0)), oA 7 (.iaddr 1 (.tmp 5) (.tmp 6)) [0, 1], oA 8 (.load none (.tmp 7)) [2], oA 9 (.bin .lss .none (.tmp 8) (.lit (.int .i64 0))) [3], oA 10 (.move (.tmp 9)) [4], ⟨some 11, .load none (.tmp 1), some (some 10, false), [5]⟩, ⟨some 12, .move (.tmp 0), some (some 10, false), [5]⟩, ⟨some 13, .iaddr 1 (.tmp 11) (.tmp 12), some (some 10, false), [6, 7, 5]⟩, ⟨some 14, .load none (.tmp 13), some (some 10, false), [8, 5]⟩, ⟨some 15, .load none (.tmp 1), some (some 10, false), [5]⟩, ⟨some 16, .load none (.tmp 2), some (some 10, false), [5]⟩, ⟨some 17, .iaddr 1 (.tmp 15) (.tmp 16), some (some 10, false), [10, 11, 5]⟩, ⟨some 18, .load none (.tmp 17), some (some 10, false), [12, 5]⟩, ⟨some 19, .bin .geq .none (.tmp 14) (.tmp 18), some (some 10, false), [9, 13, 5]⟩, oA 20 (.pick (.tmp 10) (.lit (.bool true)) (.tmp 19)) [5, 14], oA 4 (.move (.tmp 20)) [15, 5, 0, 1, 2, 3, 4, 5, 6, 7, 8, 9, 10, 11, 12, 13, 14, 15]]
def d_st11_0 : List COp := e_st11_0
theorem dr_st11_0 (P : Program) (nt n0 : Nat) (Q : Post) (s : Slots) (σ : Store) : wpc P nt n0 (.draw d_st11_0) Q s σ = aOpsD P nt e_st11_0 (Q .normal) s σ := wpc_draw _ (by decide)
attribute [local go_sem] dr_st11_0 e_st11_0
def c_st11 : CCode := .seq (.ops [oS 4 (.move (.lit (.bool false)))]) (.seq (.draw d_st11_0) .ret)
theorem st11_spec (far : List Int) (i k F I : Nat) (tok : Tok) (σ : Store) (hF : σ[F]? = some (.row [.slice tok (far.map Ahl.encI)])) (hI : σ[I]? = some (.row [.int .i64 (i : Nat)])) (hi : i < far.length) (hk : k < far.length) :
  ACalls Tryz.prog 60 [.int .i64 (k : Nat), .ptr F 0, .ptr I 0] σ (isR (.bool (farB far i k)) σ) := by
 refine ACalls.intro (rs := [(.tmp 4)]) (by kernel_rfl) { own := [], ghosts := [] } Tryz.func60 (c := Tryz.f60.body.getD .skip) (by kernel_rfl) (by decide) (by rw [show Tryz.f60.ntmps = 21 by kernel_rfl]; exact Nat.le_of_ble_eq_true rfl) (by kernel_rfl) ?_
 intro hσ hids
 rw [show comp Tryz.prog { own := [], ghosts := [] } (Tryz.f60.body.getD .skip) = c_st11 by kernel_rfl, show Tryz.f60.ntmps = 21 by kernel_rfl]
 unfold c_st11
 have hFl := lt_of_get hF
 have hIl := lt_of_get hI
 obtain ⟨x, hx⟩ := get_ex hk
 obtain ⟨y, hy⟩ := get_ex hi
 have e : farB far i k = (decide (x < 0) || decide (x ≥ y)) := by unfold farB; rw [List.getD_eq_getElem?_getD, List.getD_eq_getElem?_getD, hx, hy]; rfl
 rw [e]
 cases h : decide (x < 0)
 ·simp only [go_sem, simprocAttr, hF, hI, hx, hy, Ahl.encI, h]
  first | exact rtw (v := .bool _) wkS ⟨by rw [Bool.false_or], rfl⟩ | exact rtw0 (v := .bool _) wkS ⟨by rw [Bool.false_or], rfl⟩
 ·simp only [go_sem, simprocAttr, hF, hI, hx, hy, Ahl.encI, h]
  exact rt (.bool true) ⟨rfl, rfl⟩
def c_st1 : CCode := .seq (.ops [oS 3 (.box (.tmp 0)), oS 4 (.move (.lit (.bool false)))]) (.seq (.ops [oS 5 (.faddr 1 (.tmp 3)), oS 6 (.load none (.tmp 5)), oS 7 (.mkfunc 60 [.tmp 1, .tmp 2]), oS 8 (.call (.lit (.func 59 [])) [.tmp 6, .tmp 7]), oS 9 (.un .not (.tmp 8)), oS 4 (.move (.tmp 9))]) .ret)
theorem st1_spec (far : List Int) (i F I : Nat) (c : Nat × List Nat) (tok : Tok) (σ : Store) (hF : σ[F]? = some (.row [.slice tok (far.map Ahl.encI)])) (hI : σ[I]? = some (.row [.int .i64 (i : Nat)])) (hi : i < far.length) (hk : ∀ k ∈ c.2, k < far.length) (hcl : c.2.length ≤ 140737488355328) :
  ACalls Tryz.prog 58 [.agg (encCo c), .ptr F 0, .ptr I 0] σ (isR (.bool (nearest far i c)) σ) := by
 refine ACalls.intro (rs := [(.tmp 4)]) (by kernel_rfl) { own := [], ghosts := [] } Tryz.func58 (c := Tryz.f58.body.getD .skip) (by kernel_rfl) (by decide) (by rw [show Tryz.f58.ntmps = 10 by kernel_rfl]; exact Nat.le_of_ble_eq_true rfl) (by kernel_rfl) ?_
 intro hσ hids
 rw [show comp Tryz.prog { own := [], ghosts := [] } (Tryz.f58.body.getD .skip) = c_st1 by kernel_rfl, show Tryz.f58.ntmps = 10 by kernel_rfl]
 unfold c_st1
 have hFl := lt_of_get hF
 have hIl := lt_of_get hI
 simp only [go_sem, simprocAttr, encCo]
 refine (contN_spec c.2 60 [.ptr F 0, .ptr I 0] (farB far i) .unk _ hcl (fun k hk' => st11_spec far i k F I tok _ (by rw [List.getElem?_append_left hFl]; exact hF) (by rw [List.getElem?_append_left hIl]; exact hI) hi (hk k hk'))).is ?_
 simp only [go_sem, simprocAttr]
 first | exact rtw (v := .bool _) wkS ⟨rfl, rfl⟩ | exact rtw0 (v := .bool _) wkS ⟨rfl, rfl⟩
theorem closed_ssF {t : FTask} {g : List (List Int)} (he : EOk t) (hc : choicesB t g = true) {s0 : List Int} (hs : risingB t.facts.length (-1) s0 = true) {s : List Int} (hm : s ∈ ssF t g s0) {i : Nat} (hi : i < g.length) {y : List Int} (hy : y ∈ outsAt t g s i) : y ∈ ssF t g s0 := by
 obtain ⟨j, hj⟩ := List.getElem?_of_mem hm
 have hl := lt_of_get hj
 have := ssK_len he hc hs (2 ^ t.facts.length)
 exact closed_ssK (2 ^ t.facts.length) j s (by show j < _; unfold ssF at hl; omega) hj i hi y hy
theorem rising_ssF {t : FTask} {g : List (List Int)} (he : EOk t) (hc : choicesB t g = true) {s0 : List Int} (hs : risingB t.facts.length (-1) s0 = true) : ∀ y ∈ ssF t g s0, risingB t.facts.length (-1) y = true := rising_ssK he hc hs _
theorem nodup_ssF (t : FTask) (g : List (List Int)) (s0 : List Int) : (ssF t g s0).Nodup := nodup_ssK s0 _
theorem ssF_zero (t : FTask) (g : List (List Int)) (s0 : List Int) : (ssF t g s0)[0]? = some s0 := by
 have : ∀ k, (ssK t g s0 k)[0]? = some s0 := by
  intro k
  induction k with
  | zero => rfl
  | succ k ih => exact (pre_ssK s0 k 1).get ih
 exact this _
theorem chOf_mem {t : FTask} {g ss : List (List Int)} {s : List Int} {c : Nat × List Nat} : c ∈ chOf t g ss s ↔ ∃ j, j < g.length ∧ appB t (grp g j) s = true ∧ c = (j, (outsL t (grp g j) s).map ss.idxOf) := by
 unfold chOf chG
 simp only [List.mem_map, List.mem_filter, List.mem_range]
 constructor
 ·rintro ⟨j, ⟨h1, h2⟩, rfl⟩; exact ⟨j, h1, h2, rfl⟩
 ·rintro ⟨j, h1, h2, rfl⟩; exact ⟨j, ⟨h1, h2⟩, rfl⟩
theorem wldF_ok {t : FTask} {g : List (List Int)} (he : EOk t) (hc : choicesB t g = true) {s0 : List Int} (hs : risingB t.facts.length (-1) s0 = true) (h8 : t.facts.length ≤ 8) : WOk (wldF t g s0) where
 len := by
  have := ssK_len he hc hs (2 ^ t.facts.length)
  have h2n : 2 ^ t.facts.length ≤ 256 := Nat.pow_le_pow_right (n := 2) (by omega) h8
  show (ssF t g s0).length ≤ _
  unfold ssF; omega
 ch := by simp [wldF]
 gl := by simp [wldF]
 many := by
  intro l hl
  obtain ⟨s, _, rfl⟩ := List.mem_map.1 hl
  have : g.length ≤ 200 := by unfold choicesB at hc; rw [Bool.and_eq_true, decide_eq_true_eq] at hc; exact hc.1
  have h2 : (chOf t g (ssF t g s0) s).length ≤ g.length := by
   unfold chOf chG; rw [List.length_map]; exact Nat.le_trans (List.length_filter_le _ _) (by simp)
  omega
 some := by
  intro l hl c hcm
  obtain ⟨s, hsm, rfl⟩ := List.mem_map.1 hl
  obtain ⟨j, hj, ha, rfl⟩ := chOf_mem.1 hcm
  have hcl : ∀ y ∈ outsL t (grp g j) s, y ∈ ssF t g s0 := fun y hy => closed_ssF he hc hs hsm hj (by unfold outsAt; rw [if_pos ha]; exact hy)
  refine ⟨?_, ?_, ?_⟩
  ·have h1 : (outsL t (grp g j) s).Nodup := (outs_strict t _ s).imp fun {a b} q e => by subst e; exact absurd q (by unfold ltL; rw [cmpInts_refl]; omega)
   have := nodup_sub_len h1 hcl
   have h3 := ssK_len he hc hs (2 ^ t.facts.length)
   have h2n : 2 ^ t.facts.length ≤ 256 := Nat.pow_le_pow_right (n := 2) (by omega) h8
   unfold ssF at this
   rw [List.length_map]; omega
  ·have := outs_ne (t := t) (s := s) (grp_ok hc hj).2.1
   simpa using this
  ·intro k hk
   obtain ⟨y, hy, rfl⟩ := List.mem_map.1 hk
   exact List.idxOf_lt_length_of_mem (hcl y hy)
def dOf (w : Wld) : Int := (dIter w w.ss.length).getD 0 0
def DistR (t : FTask) (g : List (List Int)) (s : List Int) : AV :=
 if givE t g s = 0 then (if dOf (wldF t g s) ≥ 0 then .tuple [.int .i64 (dOf (wldF t g s)), .int .i64 0] else .tuple [.int .i64 0, .int .i64 4]) else .tuple [.int .i64 0, .int .i64 (givE t g s)]
theorem wld_pos (t : FTask) (g : List (List Int)) (s : List Int) : 0 < (wldF t g s).ss.length := lt_of_get (ssF_zero t g s)
def c_pDist : CCode := .seq (.ops [oS 3 (.box (.tmp 0)), oS 6 (.move (.lit (.int .i64 0))), oS 7 (.move (.lit (.int .i64 0)))]) (.seq (.seq (.ops [oS 12 (.load (some 4) (.tmp 3)), oS 13 (.move (.tmp 1)), oS 14 (.move (.tmp 2)), oS 15 (.call (.lit (.func 54 [])) [.tmp 12, .tmp 13, .tmp 14]), oS 8 (.move (.tmp 15))]) (.seq (.ops [oS 16 (.move (.tmp 8)), oS 17 (.bin .neq .none (.tmp 16) (.lit (.int .i64 0)))]) (.cond (.tmp 17) (.seq (.ops [oS 18 (.move (.tmp 8)), oS 6 (.move (.lit (.int .i64 0))), oS 7 (.move (.tmp 18))]) .ret) .skip))) (.seq (.ops [oS 20 (.load (some 4) (.tmp 3)), oS 21 (.move (.tmp 1)), oS 22 (.move (.tmp 2)), oS 23 (.call (.lit (.func 55 [])) [.tmp 20, .tmp 21, .tmp 22, .lit (.func 56 [])]), oS 19 (.move (.tmp 23)), oS 24 (.extract (.tmp 19) 0), oS 25 (.extract (.tmp 19) 1), oS 9 (.move (.tmp 24)), oS 10 (.move (.tmp 25))]) (.seq (.seq (.ops [oS 26 (.move (.tmp 10)), oS 27 (.un .not (.tmp 26))]) (.cond (.tmp 27) (.seq (.ops [oS 6 (.move (.lit (.int .i64 0))), oS 7 (.move (.lit (.int .i64 3)))]) .ret) .skip)) (.seq (.seq (.ops [oS 28 (.move (.tmp 9)), oS 29 (.call (.lit (.func 44 [])) [.tmp 28]), oS 30 (.iaddr 1 (.tmp 29) (.lit (.int .i64 0))), oS 31 (.load none (.tmp 30)), oS 11 (.move (.tmp 31))]) (.seq (.ops [oS 32 (.move (.tmp 11)), oS 33 (.bin .geq .none (.tmp 32) (.lit (.int .i64 0)))]) (.cond (.tmp 33) (.seq (.ops [oS 34 (.move (.tmp 11)), oS 6 (.move (.tmp 34)), oS 7 (.move (.lit (.int .i64 0)))]) .ret) .skip))) (.seq (.ops [oS 6 (.move (.lit (.int .i64 0))), oS 7 (.move (.lit (.int .i64 4)))]) .ret)))))
theorem pDist_spec (t : FTask) (g : List (List Int)) (s : List Int) (tok : Tok) (σ : Store) (hb : PB t) (hg : LB g) (hs : s.length ≤ 140737488355328) (h8 : validB t = true → t.facts.length ≤ 8) :
  ACalls Tryz.prog 17 [.agg (encTask t), .slice tok (g.map encL), .slice .unk (s.map Ahl.encI)] σ (isR (DistR t g s) σ) := by
 refine ACalls.intro (rs := [(.tmp 6), (.tmp 7)]) (by kernel_rfl) { own := [], ghosts := [] } Tryz.func17 (c := Tryz.f17.body.getD .skip) (by kernel_rfl) (by decide) (by rw [show Tryz.f17.ntmps = 35 by kernel_rfl]; exact Nat.le_of_ble_eq_true rfl) (by kernel_rfl) ?_
 intro hσ hids
 rw [show comp Tryz.prog { own := [], ghosts := [] } (Tryz.f17.body.getD .skip) = c_pDist by kernel_rfl, show Tryz.f17.ntmps = 35 by kernel_rfl]
 unfold c_pDist
 have hil : Ids σ.length (.slice tok (g.map encL)) := hids _ (by simp)
 simp only [go_sem, simprocAttr, encTask]
 refine (pgiven_spec t g s tok .unk _ hb.tb hg hs).is ?_
 by_cases h1 : ¬ givE t g s = 0
 ·have h0 : (givE t g s != 0) = true := by simpa using h1
  simp only [go_sem, simprocAttr, h0]
  exact rT (.int .i64 0) (.int .i64 (givE t g s)) ⟨by rw [DistR, if_neg h1], rfl⟩
 replace h1 := Decidable.not_not.1 h1
 obtain ⟨hv, hri, hch⟩ := givE_zero h1
 obtain ⟨hSB, hEO, hfl⟩ := valid_SB hb hv
 rw [h1]
 simp only [go_sem, simprocAttr, encTask]
 refine (reach_spec t g s tok _ hb.tb hSB hEO (h8 hv) hch hri).to ?_
 have hwk := wldF_ok hEO hch hri (h8 hv)
 have h0N := wld_pos t g s
 have hDl := dIter_len (wldF t g s) hwk (wldF t g s).ss.length
 have hDR : DistR t g s = if dOf (wldF t g s) ≥ 0 then .tuple [.int .i64 (dOf (wldF t g s)), .int .i64 0] else .tuple [.int .i64 0, .int .i64 4] := by rw [DistR, if_pos h1]
 obtain ⟨d, hd⟩ := get_ex (show 0 < (dIter (wldF t g s) (wldF t g s).ss.length).length by omega)
 have hdo : dOf (wldF t g s) = d := by unfold dOf; rw [List.getD_eq_getElem?_getD, hd]; rfl
 rw [hdo] at hDR
 generalize wldF t g s = w at hwk h0N hDl hd
 simp only [go_sem, simprocAttr, encTask]
 refine (dist_spec w (σ.length + 1) _ (by simp) hwk).is ?_
 by_cases hd0 : d ≥ 0
 ·simp only [go_sem, simprocAttr, hd, Ahl.encI, hd0]
  exact rT (.int .i64 d) (.int .i64 0) ⟨by rw [hDR, if_pos hd0], rfl⟩
 ·simp only [go_sem, simprocAttr, hd, Ahl.encI, hd0]
  exact rT (.int .i64 0) (.int .i64 4) ⟨by rw [hDR, if_neg hd0], rfl⟩
def lst {α : Type} (N : Nat) (f : Nat → α) : List α := (List.range N).map f
def split {α : Type} (f g : Nat → α) (i j : Nat) : α := if j < i then f j else g j
theorem lst_len {α : Type} (N : Nat) (f : Nat → α) : (lst N f).length = N := by simp [lst]
theorem lst_get {α : Type} {N : Nat} (f : Nat → α) {i : Nat} (h : i < N) : (lst N f)[i]? = some (f i) := by simp [lst, h]
theorem lst_getD {α : Type} {N : Nat} (f : Nat → α) {i : Nat} (h : i < N) (d : α) : (lst N f).getD i d = f i := by rw [List.getD_eq_getElem?_getD, lst_get f h]; rfl
theorem lst_ext {α : Type} {N : Nat} {f g : Nat → α} (h : ∀ i, i < N → f i = g i) : lst N f = lst N g := List.map_congr_left fun i hi => h i (List.mem_range.1 hi)
theorem lst_set {α : Type} {N : Nat} (f g : Nat → α) {i : Nat} (h : i < N) : (lst N (split f g i)).set i (f i) = lst N (split f g (i + 1)) := by
 apply List.ext_getElem?
 intro j
 rcases Nat.lt_or_ge j N with hj | hj
 ·rw [lst_get _ hj]
  by_cases e : i = j
  ·subst e
   rw [List.getElem?_set_self (by rw [lst_len]; exact h)]; simp [split]
  ·rw [List.getElem?_set_ne e, lst_get _ hj]
   unfold split
   by_cases h1 : j < i
   ·rw [if_pos h1, if_pos (by omega)]
   ·rw [if_neg h1, if_neg (by omega)]
 ·rw [List.getElem?_eq_none (by simpa [lst] using hj), List.getElem?_eq_none (by simpa [lst] using hj)]
theorem lst_same {α : Type} {N : Nat} {f g : Nat → α} {i : Nat} (h : f i = g i) : lst N (split f g i) = lst N (split f g (i + 1)) := lst_ext fun j hj => by
 unfold split
 by_cases h1 : j < i
 ·rw [if_pos h1, if_pos (by omega)]
 ·rw [if_neg h1]
  by_cases h2 : j = i
  ·subst h2; rw [if_pos (by omega), h]
  ·rw [if_neg (by omega)]
theorem lst_zero {α : Type} {N : Nat} (f g : Nat → α) : lst N (split f g 0) = lst N g := lst_ext fun j _ => by simp [split]
theorem lst_full {α : Type} {N i : Nat} (f g : Nat → α) (h : N ≤ i) : lst N (split f g i) = lst N f := lst_ext fun j hj => by unfold split; rw [if_pos (by omega)]
theorem lst_const {α : Type} (N : Nat) (z : α) : List.replicate N z = lst N fun _ => z := by
 unfold lst
 apply List.ext_getElem?
 intro j
 rcases Nat.lt_or_ge j N with hj | hj
 ·simp [hj]
 ·rw [List.getElem?_eq_none (by simpa using hj), List.getElem?_eq_none (by simpa using hj)]
theorem idx_cases {α : Type} (p : α → Bool) : ∀ (l : List α) (k : Int), (idxFrom p k l = -1 ∧ ∀ x ∈ l, p x = false) ∨ ∃ (j : Nat) (x : α), l[j]? = some x ∧ p x = true ∧ (∀ y ∈ l.take j, p y = false) ∧ idxFrom p k l = k + j
 | [], k => .inl ⟨rfl, by simp⟩
 | x :: l, k => by
  cases h : p x
  ·rcases idx_cases p l (k + 1) with ⟨h1, h2⟩ | ⟨j, y, h1, h2, h3, h4⟩
   ·refine .inl ⟨by rw [idxFrom, h]; simpa using h1, fun y hy => ?_⟩
    rcases List.mem_cons.1 hy with rfl | hy
    ·exact h
    ·exact h2 y hy
   ·refine .inr ⟨j + 1, y, by simpa using h1, h2, fun z hz => ?_, ?_⟩
    ·rw [List.take_succ_cons, List.mem_cons] at hz
     rcases hz with rfl | hz
     ·exact h
     ·exact h3 z hz
    ·rw [idxFrom, h, if_neg (by simp), h4]; omega
  ·exact .inr ⟨0, x, rfl, h, by simp, by rw [idxFrom, h]; simp⟩
theorem idx_lt {α : Type} (p : α → Bool) (l : List α) (h : 0 ≤ idxFrom p 0 l) : (idxFrom p 0 l).toNat < l.length := by
 rcases idx_cases p l 0 with ⟨h1, _⟩ | ⟨j, x, h1, _, _, h4⟩
 ·omega
 ·rw [h4]; have := lt_of_get h1; omega
def strongF (w : Wld) (far : List Int) (i : Nat) : Int := idxFrom (nearest far i) 0 (w.ch.getD i [])
def strongC (w : Wld) : List Int := lst w.ss.length (strongF w (dIter w w.ss.length))
theorem chOk_lst {w : Wld} {f : Nat → Int} (h : ∀ i, i < w.ss.length → 0 ≤ f i → (f i).toNat < (w.ch.getD i []).length) : ChOk w (lst w.ss.length f) where
 len := lst_len _ _
 ok i hi := by rw [lst_getD f hi]; exact h i hi
theorem strongC_ok (w : Wld) : ChOk w (strongC w) := chOk_lst fun i _ h => idx_lt _ _ h
def errT (e : Int) : AV := .tuple [.slice .nil [], .int .i64 e]
def StrongP (t : FTask) (g : List (List Int)) (r : AV) : Prop :=
 if askE t g = 0 then (if dOf (wldF t g t.init) < 0 then r = errT 4 else ∃ r0, EntP (wldF t g t.init) (strongC (wldF t g t.init)) r0 ∧ r = .tuple [r0, .int .i64 0]) else r = errT (askE t g)
theorem askE_zero {t : FTask} {g : List (List Int)} (h : askE t g = 0) : validB t = true ∧ choicesB t g = true := by
 unfold askE at h
 cases h1 : validB t
 ·rw [h1] at h; simp at h
 cases h3 : choicesB t g
 ·rw [h1, h3] at h; simp at h
 ·exact ⟨rfl, rfl⟩
theorem valid_init16 {t : FTask} (h : validB t = true) : risingB t.facts.length (-1) t.init = true := by
 simp only [validB, Bool.and_eq_true] at h
 exact h.2.2.1
def e_pStrong_0 : List COp := [oS 42 (.move (.tmp 10)), oS 43 (.load none (.tmp 11)), oS 44 (.move (.tmp 7)), oA 45 (.nilck (.tmp 44)) [2], oA 46 (.faddr 2 (.tmp 45)) [3], oA 47 (.load none (.tmp 46)) [4], oS 48 (.load none (.tmp 11)), oA 49 (.iaddr 1 (.tmp 47) (.tmp 48)) [5, 6], oA 50 (.load none (.tmp 49)) [7], oS 51 (.mkfunc 58 [.tmp 9, .tmp 11]), oA 52 (.call (.lit (.func 57 [])) [.tmp 50, .tmp 51]) [8, 9], oA 53 (.iaddr 1 (.tmp 42) (.tmp 43)) [0, 1, 0, 1, 2, 3, 4, 5, 6, 7, 8, 9, 10], ⟨none, .store 1 (.tmp 53) (.tmp 52), none, [11, 10, 10, 0, 1, 2, 3, 4, 5, 6, 7, 8, 9, 10]⟩]
def d_pStrong_0 : List COp := e_pStrong_0
theorem dr_pStrong_0 (P : Program) (nt n0 : Nat) (Q : Post) (s : Slots) (σ : Store) : wpc P nt n0 (.draw d_pStrong_0) Q s σ = aOpsD P nt e_pStrong_0 (Q .normal) s σ := wpc_draw _ (by decide)
attribute [local go_sem] dr_pStrong_0 e_pStrong_0
def c_pStrong : CCode := .seq (.ops [oS 2 (.box (.tmp 0)), oS 4 (.move (.lit (.slice .nil []))), oS 5 (.move (.lit (.int .i64 0)))]) (.seq (.seq (.ops [oS 12 (.load (some 4) (.tmp 2)), oS 13 (.move (.tmp 1)), oS 14 (.call (.lit (.func 36 [])) [.tmp 12, .tmp 13]), oS 6 (.move (.tmp 14))]) (.seq (.ops [oS 15 (.move (.tmp 6)), oS 16 (.bin .neq .none (.tmp 15) (.lit (.int .i64 0)))]) (.cond (.tmp 16) (.seq (.ops [oS 17 (.move (.tmp 6)), oS 4 (.move (.lit (.slice .nil []))), oS 5 (.move (.tmp 17))]) .ret) .skip))) (.seq (.ops [oS 19 (.load (some 4) (.tmp 2)), oS 20 (.move (.tmp 1)), oS 21 (.faddr 1 (.tmp 2)), oS 22 (.load none (.tmp 21)), oS 23 (.call (.lit (.func 55 [])) [.tmp 19, .tmp 20, .tmp 22, .lit (.func 56 [])]), oS 18 (.move (.tmp 23)), oS 24 (.extract (.tmp 18) 0), oS 25 (.extract (.tmp 18) 1), oS 7 (.move (.tmp 24)), oS 8 (.move (.tmp 25))]) (.seq (.seq (.ops [oS 26 (.move (.tmp 8)), oS 27 (.un .not (.tmp 26))]) (.cond (.tmp 27) (.seq (.ops [oS 4 (.move (.lit (.slice .nil []))), oS 5 (.move (.lit (.int .i64 3)))]) .ret) .skip)) (.seq (.ops [oS 28 (.move (.tmp 7)), oS 29 (.call (.lit (.func 44 [])) [.tmp 28]), oS 9 (.alloc (.slice .nil [])), oN (.store 1 (.tmp 9) (.tmp 29))]) (.seq (.seq (.ops [oS 30 (.load none (.tmp 9)), oS 31 (.iaddr 1 (.tmp 30) (.lit (.int .i64 0))), oS 32 (.load none (.tmp 31)), oS 33 (.bin .lss .none (.tmp 32) (.lit (.int .i64 0)))]) (.cond (.tmp 33) (.seq (.ops [oS 4 (.move (.lit (.slice .nil []))), oS 5 (.move (.lit (.int .i64 4)))]) .ret) .skip)) (.seq (.ops [oS 34 (.load none (.tmp 9)), oS 35 (.blen 1 (.tmp 34)), oS 36 (.mkslice 1 8 [.int .i64 0] (.tmp 35) (.tmp 35) true), oS 10 (.move (.tmp 36))]) (.seq (.seq (.ghost (.ops [oS 37 (.load none (.tmp 9)), oS 38 (.blen 1 (.tmp 37)), oS 39 (.move (.lit (.int .i64 0)))])) (.block 0 (.loop (.seq (.ops [oS 40 (.bin .lss .none (.tmp 39) (.tmp 38))]) (.seq (.cond (.tmp 40) .skip (.exit 0)) (.seq (.block 1 (.seq (.ops [oS 41 (.move (.tmp 39)), oS 11 (.alloc (.int .i64 0)), oN (.store 1 (.tmp 11) (.tmp 41))]) (.draw d_pStrong_0))) (.ops [oS 54 (.bin .add .none (.tmp 39) (.lit (.int .i64 1))), oS 39 (.move (.tmp 54))]))))))) (.seq (.ghost (.ops [oS 55 (.move (.tmp 7)), oS 56 (.move (.tmp 10)), oS 57 (.call (.lit (.func 61 [])) [.tmp 55, .tmp 56]), oS 4 (.move (.tmp 57)), oS 5 (.move (.lit (.int .i64 0)))])) .ret))))))))
set_option maxHeartbeats 4000000 in
theorem pStrong_spec (t : FTask) (g : List (List Int)) (tok : Tok) (σ : Store) (hb : PB t) (hg : LB g) (h8 : validB t = true → t.facts.length ≤ 8) :
  ACalls Tryz.prog 18 [.agg (encTask t), .slice tok (g.map encL)] σ (fun r σ' => σ' = σ ∧ StrongP t g r) := by
 refine ACalls.intro (rs := [(.tmp 4), (.tmp 5)]) (by kernel_rfl) { own := [(10, 2)], ghosts := [11, 16] } Tryz.func18 (c := Tryz.f18.body.getD .skip) (by kernel_rfl) (by decide) (by rw [show Tryz.f18.ntmps = 58 by kernel_rfl]; exact Nat.le_of_ble_eq_true rfl) (by kernel_rfl) ?_
 intro hσ hids
 rw [show comp Tryz.prog { own := [(10, 2)], ghosts := [11, 16] } (Tryz.f18.body.getD .skip) = c_pStrong by kernel_rfl, show Tryz.f18.ntmps = 58 by kernel_rfl]
 unfold c_pStrong
 have hil : Ids σ.length (.slice tok (g.map encL)) := hids _ (by simp)
 simp only [go_sem, simprocAttr, encTask]
 refine (pasks_spec t g tok _ hb.tb hg).is ?_
 by_cases h1 : ¬ askE t g = 0
 ·have h0 : (askE t g != 0) = true := by simpa using h1
  simp only [go_sem, simprocAttr, h0]
  exact rT (.slice .nil []) (.int .i64 (askE t g)) ⟨rfl, by rw [StrongP, if_neg h1]; rfl⟩
 replace h1 := Decidable.not_not.1 h1
 obtain ⟨hv, hch⟩ := askE_zero h1
 have hri : risingB t.facts.length (-1) t.init = true := valid_init16 hv
 obtain ⟨hSB, hEO, hfl⟩ := valid_SB hb hv
 rw [h1]
 simp only [go_sem, simprocAttr, encTask]
 refine (reach_spec t g t.init tok _ hb.tb hSB hEO (h8 hv) hch hri).to ?_
 have hwk := wldF_ok hEO hch hri (h8 hv)
 have h0N := wld_pos t g t.init
 have hSP : ∀ r, StrongP t g r = if dOf (wldF t g t.init) < 0 then r = errT 4 else ∃ r0, EntP (wldF t g t.init) (strongC (wldF t g t.init)) r0 ∧ r = .tuple [r0, .int .i64 0] := fun r => by rw [StrongP, if_pos h1]
 have hsl : ∀ s ∈ (wldF t g t.init).ss, s.length ≤ 1000000 := fun s hs => by
  rcases rising_len (rising_ssF hEO hch hri s hs) (by omega) with q | q
  ·omega
  ·rw [q]; simp
 generalize wldF t g t.init = w at hwk h0N hSP hsl
 have hDl := dIter_len w hwk w.ss.length
 obtain ⟨d, hd⟩ := get_ex (show 0 < (dIter w w.ss.length).length by omega)
 have hdo : dOf w = d := by unfold dOf; rw [List.getD_eq_getElem?_getD, hd]; rfl
 rw [hdo] at hSP
 simp only [go_sem, simprocAttr, encTask]
 refine (dist_spec w (σ.length + 1) _ (by simp) hwk).is ?_
 have hfc : strongC w = lst w.ss.length (strongF w (dIter w w.ss.length)) := rfl
 generalize dIter w w.ss.length = far at hDl hd hfc
 have hwl := hwk.len
 have hcl := hwk.ch
 by_cases hd0 : d < 0
 ·simp only [go_sem, simprocAttr, hd, Ahl.encI, hd0]
  exact rT (.slice .nil []) (.int .i64 4) ⟨rfl, by rw [hSP, if_pos hd0]; rfl⟩
 ·simp only [go_sem, simprocAttr, hd, Ahl.encI, hd0, aMkslice, hDl]
  refine ⟨Int.le_refl _, by omega, by omega, ?_⟩
  have hwd : IdsO (σ.length + 3) (.row (encWorld w)) := idsO_row (idsL_cons .any (idsL_cons (ids_map ids_encL _) (idsL_cons (ids_map ids_encCh _) (idsL_cons (ids_map ids_encB _) idsL_nil))))
  have hS : ∀ ch : List Int, IdsS (σ ++ [AObj.row (encTask t), AObj.row (encWorld w), AObj.row [AV.slice .fresh (List.map Ahl.encI far)], AObj.row (List.map ai ch)]).length (σ ++ [AObj.row (encTask t), AObj.row (encWorld w), AObj.row [AV.slice .fresh (List.map Ahl.encI far)], AObj.row (List.map ai ch)]) := fun ch => idsS_app _ hσ (by
   intro o ho
   simp only [List.mem_cons, List.not_mem_nil, or_false] at ho
   rcases ho with rfl | rfl | rfl | rfl
   ·exact idsO_row (ids_encTask t)
   ·exact idsO_row (idsL_cons .any (idsL_cons (ids_map ids_encL _) (idsL_cons (ids_map ids_encCh _) (idsL_cons (ids_map ids_encB _) idsL_nil))))
   ·exact idsO_row (idsL_cons (ids_mapf ids_encI _) idsL_nil)
   ·exact ids_ai _)
  rw [rep_ai16, lst_const]
  refine Gh.of (s' := [(7, .ptr (σ.length + 1) 0), (9, .ptr (σ.length + 2) 0), (10, .ref (σ.length + 3) 1 0 w.ss.length)]) (σ' := σ ++ [AObj.row (encTask t), AObj.row (encWorld w), AObj.row [AV.slice .fresh (List.map Ahl.encI far)], AObj.row (List.map ai (lst w.ss.length fun _ => 0))]) (ghL0 (hS _)) ?_
  simp only [go_sem, simprocAttr, hDl]
  refine wpc_while (fun (i : Nat) => [(7, .ptr (σ.length + 1) 0), (9, .ptr (σ.length + 2) 0), (10, .ref (σ.length + 3) 1 0 w.ss.length), (38, .int .i64 w.ss.length), (39, .int .i64 (i : Nat))])
   (fun i => σ ++ [AObj.row (encTask t), AObj.row (encWorld w), AObj.row [AV.slice .fresh (List.map Ahl.encI far)], AObj.row (List.map ai (lst w.ss.length (split (strongF w far) (fun _ => 0) i)))]) (fun i => i ≤ w.ss.length) (fun i => w.ss.length - i) 0 (Nat.zero_le _) ?_ ?_
  ·rw [lst_zero]; exact ghL0 (hS _)
  intro i hi K hK hE hR
  by_cases h : i < w.ss.length
  ·obtain ⟨l, hl⟩ := get_ex (show i < w.ch.length by omega)
   have hlm := List.mem_of_getElem? hl
   have hll := hwk.many l hlm
   have hlt : ((i : Int) < (w.ss.length : Int)) := by omega
   have hw1 := wrapS (i := i) (by omega)
   have hsf : strongF w far i = idxFrom (nearest far i) 0 l := by unfold strongF; rw [List.getD_eq_getElem?_getD, hl]; rfl
   have hset := lst_set (N := w.ss.length) (strongF w far) (fun _ => 0) h
   have hFl : (lst w.ss.length (split (strongF w far) (fun _ => 0) i)).length = w.ss.length := lst_len _ _
   generalize lst w.ss.length (split (strongF w far) (fun _ => 0) i) = F at hset hFl
   rw [hsf] at hset
   simp only [go_sem, simprocAttr, hlt, encWorld, h, hl, encCh]
   refine ⟨_, idxC_spec l 58 [.ptr (σ.length + 2) 0, .ptr (σ.length + 4) 0] (nearest far i) .unk _ (by omega) (fun c hc => st1_spec far i (σ.length + 2) (σ.length + 4) c .fresh _ (by simp) (by simp) (by omega) (fun k hk => by have := (hwk.some l hlm c hc).2.2 k hk; omega) (by have := (hwk.some l hlm c hc).1; omega)), ?_⟩
   have h2 : i + 1 ≤ F.length := by omega
   simp only [go_sem, simprocAttr, h, h2, set_ai, hset]
   refine hK _ _ (i + 1) (by omega) (by omega) ?_
   rw [hw1]
   refine Ghost.keepL (g := [AObj.row [.int .i64 (i : Nat)]]) (k := 4) ([AObj.row (encTask t), AObj.row (encWorld w), AObj.row [AV.slice .fresh (List.map Ahl.encI far)], AObj.row (List.map ai (lst w.ss.length (split (strongF w far) (fun _ => 0) (i + 1))))]) rfl (Nat.le_refl _) ?_ (hS _)
   exact tellT
  ·have hlt : ¬ ((i : Int) < (w.ss.length : Int)) := by omega
   rw [lst_full _ _ (by omega), ← hfc]
   have hok := strongC_ok w
   generalize strongC w = sc at hok hSP
   simp only [go_sem, simprocAttr, hlt, hE]
   have hscl := hok.len
   refine Gh.of (s' := [(7, .ptr (σ.length + 1) 0), (10, .slice .unk (sc.map Ahl.encI))]) (σ' := σ ++ [AObj.row (encTask t), .row (encWorld w)]) ?_ ?_
   ·refine Ghost.trans (Ghost.freeze 10 (sc.map Ahl.encI) (id := σ.length + 3) (sz := 1) (off := 0) (len := w.ss.length) rfl (by simp; rfl) (by simp [hscl]) ?_) ?_
    ·intro i e he
     rw [List.getElem?_map] at he
     obtain ⟨x, hx, rfl⟩ := Option.map_eq_some_iff.1 he
     refine ⟨rfl, fun j hj => ?_⟩
     obtain rfl : j = 0 := by omega
     rw [List.getElem?_map]
     simp [hx, Ahl.encI, ai]
    ·simp only [g_set, List.set_cons_succ, List.set_cons_zero]
     refine Ghost.keepL (g := [AObj.row [.slice .fresh (far.map Ahl.encI)], .dead]) (k := 2) [AObj.row (encTask t), .row (encWorld w)] rfl (Nat.le_refl _) ?_ (idsS_app _ hσ (all_cons' (idsO_row (ids_encTask t)) (all_cons' (idsO_row (idsL_cons .any (idsL_cons (ids_map ids_encL _) (idsL_cons (ids_map ids_encCh _) (idsL_cons (ids_map ids_encB _) idsL_nil))))) all_nil')))
     exact tellT
   simp only [go_sem, simprocAttr]
   refine ACalls.mono (ents_spec w sc .unk (σ.length + 1) _ (by simp) hwk hok h0N hsl) ?_
   rintro r _ ⟨rfl, hE2⟩
   have hr0 := hE2
   obtain ⟨E, hEp, hEs, rfl⟩ := hE2
   simp only [go_sem, simprocAttr]
   have hiE : Ids σ.length (.slice .fresh (E.map vE)) := ids_mapf (fun e => ids_vE e) _
   refine ret_gh2 (v := .slice .fresh (E.map vE)) (x := .int .i64 0) (σ' := σ) (Ghost.keep _ (Nat.le_refl _) ⟨⟨.refl _, hiE⟩, ⟨.refl _, .int _ _⟩, trivial⟩ hσ) rfl (Nat.le_refl _) hσ hiE (.int _ _) ⟨rfl, ?_⟩
   rw [hSP, if_neg hd0]; exact ⟨_, hr0, rfl⟩
theorem set_ab16 (F : List Bool) (i : Nat) (v : Bool) : (F.map ab).set i (.bool v) = (F.set i v).map ab := List.map_set.symm
theorem chunks_ab : ∀ f : List Bool, chunks 1 f.length (f.map ab) = f.map encB
 | [] => rfl
 | b :: f => by
  rw [List.length_cons, List.map_cons, List.map_cons, chunks]
  show [ab b] :: chunks 1 f.length (f.map ab) = _
  rw [chunks_ab f]; rfl
def c_cloneB : CCode := .seq (.ops [oS 2 (.move (.lit (.slice .nil [])))]) (.seq (.seq (.ops [oS 3 (.move (.tmp 0)), oS 4 (.bin .eql .slice (.tmp 3) (.lit (.slice .nil [])))]) (.cond (.tmp 4) (.seq (.ops [oS 2 (.move (.lit (.slice .nil [])))]) .ret) .skip)) (.seq (.ops [oS 5 (.bslice 1 [] false), oS 6 (.move (.tmp 0)), oS 7 (.bappend 1 1 (.tmp 5) (.tmp 6) false), oS 2 (.move (.tmp 7))]) .ret))
theorem cloneB_spec (f : List Bool) (id N : Nat) (σ : Store) (hN : f.length = N) (hid : σ[id]? = some (.row (f.map ab))) (hf : f.length ≤ 1073741824) :
  ACalls Tryz.prog 84 [.ref id 1 0 N] σ (isR (.slice .fresh (f.map encB)) σ) := by
 refine ACalls.intro (rs := [(.tmp 2)]) (by kernel_rfl) { own := [], ghosts := [] } Tryz.func84 (c := Tryz.f84.body.getD .skip) (by kernel_rfl) (by decide) (by rw [show Tryz.f84.ntmps = 8 by kernel_rfl]; exact Nat.le_of_ble_eq_true rfl) (by kernel_rfl) ?_
 intro hσ hids
 rw [show comp Tryz.prog { own := [], ghosts := [] } (Tryz.f84.body.getD .skip) = c_cloneB by kernel_rfl, show Tryz.f84.ntmps = 8 by kernel_rfl]
 unfold c_cloneB
 subst hN
 have hil := lt_of_get hid
 have hbig : bigLen f.length 1 := big_ok (by omega) (by omega)
 have hidg : ∀ r, (σ ++ r)[id]? = some (.row (f.map ab)) := fun r => by rw [List.getElem?_append_left hil]; exact hid
 simp only [go_sem, simprocAttr, hid]
 intro b hb
 cases b
 ·have hch := chunks_ab f
  have hall : ∀ x ∈ f, (encB x).length = 1 ∧ (encB x).all AV.one = true := fun x _ => ⟨rfl, rfl⟩
  simp only [go_sem, simprocAttr, hidg, hbig, hch]
  refine ⟨hall, ?_⟩
  exact rt (.slice .fresh (f.map encB)) ⟨rfl, rfl⟩
 ·have hl0 : f = [] := by
   cases f with
   | nil => rfl
   | cons x l => exact absurd (hb (by simp)) (by simp)
  subst hl0
  simp only [go_sem, simprocAttr]
  exact rt (.slice .fresh []) ⟨rfl, rfl⟩
def nB (left was : Nat → Bool) (c : Nat × List Nat) : Bool := !(c.2.any fun k => !left k) && c.2.any was
def nC (w : Wld) (left was : Nat → Bool) (i : Nat) : Int := idxFrom (nB left was) 0 (w.ch.getD i [])
def goalB (w : Wld) (i : Nat) : Bool := w.gl.getD i false
abbrev NS := (Nat → Int) × (Nat → Bool)
def nStep (w : Wld) (left : Nat → Bool) (s : NS) : NS := (fun i => if left i && !s.2 i then nC w left s.2 i else s.1 i, fun i => s.2 i || (left i && decide (0 ≤ nC w left s.2 i)))
def nIter (w : Wld) (left : Nat → Bool) : Nat → NS
 | 0 => (fun _ => -1, fun i => left i && goalB w i)
 | k + 1 => nStep w left (nIter w left k)
def newB (w : Wld) (left : Nat → Bool) (s : NS) (i : Nat) : Bool := left i && !s.2 i && decide (0 ≤ nC w left s.2 i)
def nearF (w : Wld) (left : Nat → Bool) : Nat → Int := (nIter w left (w.ss.length + 1)).1
def cnt (N : Nat) (p : Nat → Bool) : Nat := (List.range N).countP p
theorem cnt_le (N : Nat) (p : Nat → Bool) : cnt N p ≤ N := by
 have := List.countP_le_length (p := p) (l := List.range N)
 simpa [cnt] using this
theorem cnt_mono {N : Nat} {p q : Nat → Bool} (h : ∀ i, i < N → p i = true → q i = true) : cnt N p ≤ cnt N q :=
 List.countP_mono_left fun i hi => h i (List.mem_range.1 hi)
theorem cnt_strict {p q : Nat → Bool} : ∀ {N : Nat}, (∀ i, i < N → p i = true → q i = true) → (∃ i, i < N ∧ p i = false ∧ q i = true) → cnt N p < cnt N q
 | 0, _, ⟨i, h, _⟩ => absurd h (by omega)
 | N + 1, h, ⟨i, hi, h1, h2⟩ => by
  unfold cnt
  rw [List.range_succ, List.countP_append, List.countP_append]
  have hN := h N (by omega)
  by_cases e : i = N
  ·subst e
   have := cnt_mono (N := i) (p := p) (q := q) fun j hj => h j (by omega)
   unfold cnt at this
   simp only [List.countP_singleton, h1, h2, Bool.false_eq_true, if_false, if_true]
   omega
  ·have := cnt_strict (N := N) (fun j hj => h j (by omega)) ⟨i, by omega, h1, h2⟩
   unfold cnt at this
   have h3 : List.countP p [N] ≤ List.countP q [N] := by
    simp only [List.countP_singleton]
    cases hp : p N
    ·simp
    ·rw [hN hp]; exact Nat.le_refl _
   omega
theorem nIter_out {w : Wld} {left : Nat → Bool} : ∀ (k i : Nat), (nIter w left k).2 i = false → (nIter w left k).1 i = -1
 | 0, i, _ => rfl
 | k + 1, i, h => by
  have h' : ((nIter w left k).2 i || (left i && decide (0 ≤ nC w left (nIter w left k).2 i))) = false := h
  rw [Bool.or_eq_false_iff] at h'
  show (if left i && !(nIter w left k).2 i then nC w left (nIter w left k).2 i else (nIter w left k).1 i) = -1
  rw [h'.1]
  cases hl : left i
  ·simpa using nIter_out k i h'.1
  ·rw [hl] at h'
   have h2 : ¬ (0 ≤ nC w left (nIter w left k).2 i) := by simpa using h'.2
   simp only [Bool.true_and, Bool.not_false, if_true]
   rcases idx_cases (nB left (nIter w left k).2) (w.ch.getD i []) 0 with ⟨q, _⟩ | ⟨j, x, _, _, _, q⟩
   ·exact q
   ·exfalso; apply h2; unfold nC; rw [q]; omega
def NSame (N : Nat) (s s' : NS) : Prop := ∀ i, i < N → s.1 i = s'.1 i ∧ s.2 i = s'.2 i
theorem any_congr16 {α : Type} {p q : α → Bool} : ∀ {l : List α}, (∀ x ∈ l, p x = q x) → l.any p = l.any q
 | [], _ => rfl
 | x :: l, h => by rw [List.any_cons, List.any_cons, h x List.mem_cons_self, any_congr16 fun y hy => h y (List.mem_cons_of_mem _ hy)]
theorem nC_same {w : Wld} (hw : WOk w) {left p q : Nat → Bool} (h : ∀ i, i < w.ss.length → p i = q i) {i : Nat} (hi : i < w.ss.length) : nC w left p i = nC w left q i := by
 unfold nC
 obtain ⟨l, hl⟩ := get_ex (show i < w.ch.length by rw [hw.ch]; exact hi)
 have hgd : w.ch.getD i [] = l := by rw [List.getD_eq_getElem?_getD, hl]; rfl
 rw [hgd]
 have hlm := List.mem_of_getElem? hl
 have key : ∀ c ∈ l, nB left p c = nB left q c := by
  intro c hc
  unfold nB
  congr 1
  exact any_congr16 fun k hk => h k ((hw.some l hlm c hc).2.2 k hk)
 have : ∀ (m : List (Nat × List Nat)) (k : Int), (∀ c ∈ m, nB left p c = nB left q c) → idxFrom (nB left p) k m = idxFrom (nB left q) k m := by
  intro m
  induction m with
  | nil => intros; rfl
  | cons c m ih =>
   intro k hm
   rw [idxFrom, idxFrom, hm c List.mem_cons_self, ih _ fun c hc => hm c (List.mem_cons_of_mem _ hc)]
 exact this l 0 key
theorem nStep_same {w : Wld} (hw : WOk w) {left : Nat → Bool} {s s' : NS} (h : NSame w.ss.length s s') : NSame w.ss.length (nStep w left s) (nStep w left s') := by
 intro i hi
 have h1 := h i hi
 have h2 := nC_same (left := left) hw (fun j hj => (h j hj).2) hi
 unfold nStep
 simp only [h1.1, h1.2, h2, and_self]
theorem nIter_stop {w : Wld} (hw : WOk w) {left : Nat → Bool} {k : Nat} (h : NSame w.ss.length (nIter w left (k + 1)) (nIter w left k)) : ∀ j, NSame w.ss.length (nIter w left (k + j)) (nIter w left k)
 | 0 => fun i _ => ⟨rfl, rfl⟩
 | j + 1 => by
  have ih := nStep_same (left := left) hw (nIter_stop hw h j)
  intro i hi
  have a := ih i hi
  have b := h i hi
  exact ⟨a.1.trans b.1, a.2.trans b.2⟩
theorem nIter_still {w : Wld} {left : Nat → Bool} {k : Nat} (h : ∀ i, i < w.ss.length → newB w left (nIter w left k) i = false) : NSame w.ss.length (nIter w left (k + 1)) (nIter w left k) := by
 intro i hi
 have hn := h i hi
 unfold newB at hn
 have hout := nIter_out (w := w) (left := left) k i
 have e1 : (nIter w left (k + 1)).1 i = if left i && !(nIter w left k).2 i then nC w left (nIter w left k).2 i else (nIter w left k).1 i := rfl
 have e2 : (nIter w left (k + 1)).2 i = ((nIter w left k).2 i || (left i && decide (0 ≤ nC w left (nIter w left k).2 i))) := rfl
 rw [e1, e2]
 cases hl : left i
 ·simp
 cases hc : (nIter w left k).2 i
 ·rw [hl, hc] at hn
  have h2 : ¬ (0 ≤ nC w left (nIter w left k).2 i) := by simpa using hn
  refine ⟨?_, by simp; omega⟩
  simp only [Bool.true_and, Bool.not_false, if_true]
  rw [hout hc]
  rcases idx_cases (nB left (nIter w left k).2) (w.ch.getD i []) 0 with ⟨q, _⟩ | ⟨j, x, _, _, _, q⟩
  ·exact q
  ·exfalso; apply h2; unfold nC; rw [q]; omega
 ·simp
theorem nIter_grow {w : Wld} {left : Nat → Bool} {k : Nat} (h : ∃ i, i < w.ss.length ∧ newB w left (nIter w left k) i = true) : cnt w.ss.length (nIter w left k).2 < cnt w.ss.length (nIter w left (k + 1)).2 := by
 refine cnt_strict (fun i _ hi => ?_) ?_
 ·show ((nIter w left k).2 i || _) = true
  rw [hi]; rfl
 ·obtain ⟨i, hi, hn⟩ := h
  unfold newB at hn
  rw [Bool.and_eq_true, Bool.and_eq_true] at hn
  refine ⟨i, hi, by simpa using hn.1.2, ?_⟩
  show ((nIter w left k).2 i || (left i && decide (0 ≤ nC w left (nIter w left k).2 i))) = true
  rw [hn.1.1, hn.2]; simp
def c_near11 : CCode := .seq (.ops [oS 3 (.move (.lit (.bool false)))]) (.seq (.ops [oS 4 (.load none (.tmp 1)), oS 5 (.move (.tmp 0)), oS 6 (.iaddr 1 (.tmp 4) (.tmp 5)), oS 7 (.load none (.tmp 6)), oS 8 (.un .not (.tmp 7)), oS 3 (.move (.tmp 8))]) .ret)
theorem near11_spec (N : Nat) (left : Nat → Bool) (k c id : Nat) (σ : Store) (hc : σ[c]? = some (.row [.ref id 1 0 N])) (hid : σ[id]? = some (.row ((lst N left).map ab))) (hk : k < N) :
  ACalls Tryz.prog 86 [.int .i64 (k : Nat), .ptr c 0] σ (isR (.bool (!left k)) σ) := by
 refine ACalls.intro (rs := [(.tmp 3)]) (by kernel_rfl) { own := [], ghosts := [] } Tryz.func86 (c := Tryz.f86.body.getD .skip) (by kernel_rfl) (by decide) (by rw [show Tryz.f86.ntmps = 9 by kernel_rfl]; exact Nat.le_of_ble_eq_true rfl) (by kernel_rfl) ?_
 intro hσ hids
 rw [show comp Tryz.prog { own := [], ghosts := [] } (Tryz.f86.body.getD .skip) = c_near11 by kernel_rfl, show Tryz.f86.ntmps = 9 by kernel_rfl]
 unfold c_near11
 have hcl := lt_of_get hc
 have hil := lt_of_get hid
 have hx := lst_get left hk
 have hk' : ((k : Int) < (N : Int)) := by omega
 simp only [go_sem, simprocAttr, hc, hid, hx, hk', hk, ab]
 first | exact rtw (v := .bool _) wkS ⟨rfl, rfl⟩ | exact rtw0 (v := .bool _) wkS ⟨rfl, rfl⟩
def c_near12 : CCode := .seq (.ops [oS 3 (.move (.lit (.bool false)))]) (.seq (.ops [oS 4 (.load none (.tmp 1)), oS 5 (.move (.tmp 0)), oS 6 (.iaddr 1 (.tmp 4) (.tmp 5)), oS 7 (.load none (.tmp 6)), oS 3 (.move (.tmp 7))]) .ret)
theorem near12_spec (N : Nat) (was : Nat → Bool) (k c : Nat) (tok : Tok) (σ : Store) (hc : σ[c]? = some (.row [.slice tok ((lst N was).map encB)])) (hk : k < N) :
  ACalls Tryz.prog 87 [.int .i64 (k : Nat), .ptr c 0] σ (isR (.bool (was k)) σ) := by
 refine ACalls.intro (rs := [(.tmp 3)]) (by kernel_rfl) { own := [], ghosts := [] } Tryz.func87 (c := Tryz.f87.body.getD .skip) (by kernel_rfl) (by decide) (by rw [show Tryz.f87.ntmps = 8 by kernel_rfl]; exact Nat.le_of_ble_eq_true rfl) (by kernel_rfl) ?_
 intro hσ hids
 rw [show comp Tryz.prog { own := [], ghosts := [] } (Tryz.f87.body.getD .skip) = c_near12 by kernel_rfl, show Tryz.f87.ntmps = 8 by kernel_rfl]
 unfold c_near12
 have hcl := lt_of_get hc
 have hx := lst_get was hk
 simp only [go_sem, simprocAttr, hc, hx, encB]
 first | exact rtw (v := .bool _) wkS ⟨rfl, rfl⟩ | exact rtw0 (v := .bool _) wkS ⟨rfl, rfl⟩
def c_near1 : CCode := .seq (.ops [oS 3 (.box (.tmp 0)), oS 4 (.move (.lit (.bool false)))]) (.seq (.ops [oS 5 (.faddr 1 (.tmp 3)), oS 6 (.load none (.tmp 5)), oS 7 (.mkfunc 86 [.tmp 1]), oS 8 (.call (.lit (.func 59 [])) [.tmp 6, .tmp 7]), oS 9 (.un .not (.tmp 8)), oS 10 (.move (.tmp 9)), oG 11 10 true (.faddr 1 (.tmp 3)), oG 12 10 true (.load none (.tmp 11)), oG 13 10 true (.mkfunc 87 [.tmp 2]), oG 14 10 true (.call (.lit (.func 59 [])) [.tmp 12, .tmp 13]), oS 15 (.pick (.tmp 10) (.tmp 14) (.lit (.bool false))), oS 4 (.move (.tmp 15))]) .ret)
theorem near1_spec (N : Nat) (left was : Nat → Bool) (L id Wc : Nat) (c : Nat × List Nat) (tok : Tok) (σ : Store) (hL : σ[L]? = some (.row [.ref id 1 0 N])) (hid : σ[id]? = some (.row ((lst N left).map ab))) (hW : σ[Wc]? = some (.row [.slice tok ((lst N was).map encB)])) (hk : ∀ k ∈ c.2, k < N) (hcl : c.2.length ≤ 140737488355328) :
  ACalls Tryz.prog 85 [.agg (encCo c), .ptr L 0, .ptr Wc 0] σ (isR (.bool (nB left was c)) σ) := by
 refine ACalls.intro (rs := [(.tmp 4)]) (by kernel_rfl) { own := [], ghosts := [] } Tryz.func85 (c := Tryz.f85.body.getD .skip) (by kernel_rfl) (by decide) (by rw [show Tryz.f85.ntmps = 16 by kernel_rfl]; exact Nat.le_of_ble_eq_true rfl) (by kernel_rfl) ?_
 intro hσ hids
 rw [show comp Tryz.prog { own := [], ghosts := [] } (Tryz.f85.body.getD .skip) = c_near1 by kernel_rfl, show Tryz.f85.ntmps = 16 by kernel_rfl]
 unfold c_near1
 have hLl := lt_of_get hL
 have hil := lt_of_get hid
 have hWl := lt_of_get hW
 have g1 : ∀ r, (σ ++ r)[L]? = some (.row [.ref id 1 0 N]) := fun r => by rw [List.getElem?_append_left hLl]; exact hL
 have g2 : ∀ r, (σ ++ r)[id]? = some (.row ((lst N left).map ab)) := fun r => by rw [List.getElem?_append_left hil]; exact hid
 have g3 : ∀ r, (σ ++ r)[Wc]? = some (.row [.slice tok ((lst N was).map encB)]) := fun r => by rw [List.getElem?_append_left hWl]; exact hW
 simp only [go_sem, simprocAttr, encCo]
 refine (contN_spec c.2 86 [.ptr L 0] (fun k => !left k) .unk _ hcl (fun k hk' => near11_spec N left k L id _ (g1 _) (g2 _) (hk k hk'))).is ?_
 unfold nB
 cases h : c.2.any fun k => !left k
 ·simp only [go_sem, simprocAttr]
  refine (contN_spec c.2 87 [.ptr Wc 0] was .unk _ hcl (fun k hk' => near12_spec N was k Wc tok _ (g3 _) (hk k hk'))).is ?_
  simp only [go_sem, simprocAttr]
  first | exact rtw (v := .bool _) wkS ⟨rfl, rfl⟩ | exact rtw0 (v := .bool _) wkS ⟨rfl, rfl⟩
 ·simp only [go_sem, simprocAttr]
  exact rt (.bool false) ⟨rfl, rfl⟩
def c_near : CCode := .seq (.ops [oS 3 (.box (.tmp 1)), oS 4 (.move (.lit (.slice .nil [])))]) (.seq (.ops [oS 11 (.load none (.tmp 3)), oS 12 (.blen 1 (.tmp 11)), oS 13 (.mkslice 1 8 [.int .i64 0] (.tmp 12) (.tmp 12) true), oS 5 (.move (.tmp 13))]) (.seq (.ops [oS 14 (.load none (.tmp 3)), oS 15 (.blen 1 (.tmp 14)), oS 16 (.mkslice 1 1 [.bool false] (.tmp 15) (.tmp 15) true), oS 6 (.move (.tmp 16))]) (.seq (.seq (.ghost (.ops [oS 17 (.load none (.tmp 3)), oS 18 (.blen 1 (.tmp 17)), oS 19 (.move (.lit (.int .i64 0)))])) (.block 0 (.loop (.seq (.ops [oS 20 (.bin .lss .none (.tmp 19) (.tmp 18))]) (.seq (.cond (.tmp 20) .skip (.exit 0)) (.seq (.block 1 (.seq (.ops [oS 21 (.move (.tmp 19)), oS 7 (.move (.tmp 21))]) (.ops [oS 22 (.move (.tmp 5)), oS 23 (.move (.tmp 7)), oS 24 (.move (.tmp 6)), oS 25 (.move (.tmp 7)), oS 26 (.load none (.tmp 3)), oS 27 (.move (.tmp 7)), oS 28 (.iaddr 1 (.tmp 26) (.tmp 27)), oS 29 (.load none (.tmp 28)), oS 30 (.move (.tmp 29)), oG 31 30 true (.move (.tmp 0)), oG 32 30 true (.nilck (.tmp 31)), oG 33 30 true (.faddr 3 (.tmp 32)), oG 34 30 true (.load none (.tmp 33)), oG 35 30 true (.move (.tmp 7)), oG 36 30 true (.iaddr 1 (.tmp 34) (.tmp 35)), oG 37 30 true (.load none (.tmp 36)), oS 38 (.pick (.tmp 30) (.tmp 37) (.lit (.bool false))), oS 39 (.iaddr 1 (.tmp 22) (.tmp 23)), oN (.store 1 (.tmp 39) (.lit (.int .i64 (-1)))), oS 40 (.iaddr 1 (.tmp 24) (.tmp 25)), oN (.store 1 (.tmp 40) (.tmp 38))]))) (.ops [oS 41 (.bin .add .none (.tmp 19) (.lit (.int .i64 1))), oS 19 (.move (.tmp 41))]))))))) (.seq (.seq (.ghost (.ops [oS 8 (.move (.lit (.bool true)))])) (.block 2 (.loop (.seq (.seq (.ops [oS 42 (.move (.tmp 8))]) (.cond (.tmp 42) .skip (.exit 2))) (.block 3 (.seq (.ops [oS 8 (.move (.lit (.bool false)))]) (.seq (.ops [oS 43 (.move (.tmp 6)), oS 44 (.call (.lit (.func 84 [])) [.tmp 43]), oS 9 (.alloc (.slice .nil [])), oN (.store 1 (.tmp 9) (.tmp 44))]) (.seq (.ops [oS 45 (.load none (.tmp 3)), oS 46 (.blen 1 (.tmp 45)), oS 47 (.move (.lit (.int .i64 0)))]) (.block 4 (.loop (.seq (.ops [oS 48 (.bin .lss .none (.tmp 47) (.tmp 46))]) (.seq (.cond (.tmp 48) .skip (.exit 4)) (.seq (.block 5 (.seq (.ops [oS 49 (.move (.tmp 47)), oS 10 (.move (.tmp 49))]) (.seq (.seq (.ops [oS 50 (.load none (.tmp 3)), oS 51 (.move (.tmp 10)), oS 52 (.iaddr 1 (.tmp 50) (.tmp 51)), oS 53 (.load none (.tmp 52)), oS 54 (.un .not (.tmp 53)), oS 55 (.move (.tmp 54)), oG 56 55 false (.move (.tmp 6)), oG 57 55 false (.move (.tmp 10)), oG 58 55 false (.iaddr 1 (.tmp 56) (.tmp 57)), oG 59 55 false (.load none (.tmp 58)), oS 60 (.pick (.tmp 55) (.lit (.bool true)) (.tmp 59))]) (.cond (.tmp 60) (.exit 5) .skip)) (.seq (.ops [oS 61 (.move (.tmp 5)), oS 62 (.move (.tmp 10)), oS 63 (.move (.tmp 0)), oS 64 (.nilck (.tmp 63)), oS 65 (.faddr 2 (.tmp 64)), oS 66 (.load none (.tmp 65)), oS 67 (.move (.tmp 10)), oS 68 (.iaddr 1 (.tmp 66) (.tmp 67)), oS 69 (.load none (.tmp 68)), oS 70 (.mkfunc 85 [.tmp 3, .tmp 9]), oS 71 (.call (.lit (.func 57 [])) [.tmp 69, .tmp 70]), oS 72 (.iaddr 1 (.tmp 61) (.tmp 62)), oN (.store 1 (.tmp 72) (.tmp 71))]) (.seq (.ops [oS 73 (.move (.tmp 5)), oS 74 (.move (.tmp 10)), oS 75 (.iaddr 1 (.tmp 73) (.tmp 74)), oS 76 (.load none (.tmp 75)), oS 77 (.bin .geq .none (.tmp 76) (.lit (.int .i64 0)))]) (.cond (.tmp 77) (.ops [oS 78 (.move (.tmp 6)), oS 79 (.move (.tmp 10)), oS 80 (.iaddr 1 (.tmp 78) (.tmp 79)), oN (.store 1 (.tmp 80) (.lit (.bool true))), oS 8 (.move (.lit (.bool true)))]) .skip)))))) (.ops [oS 81 (.bin .add .none (.tmp 47) (.lit (.int .i64 1))), oS 47 (.move (.tmp 81))])))))))))))))) (.seq (.ops [oS 82 (.move (.tmp 5)), oS 4 (.move (.tmp 82))]) .ret)))))
set_option maxHeartbeats 4000000 in
theorem near_spec (w : Wld) (left : Nat → Bool) (W id : Nat) (σ : Store) (hW : σ[W]? = some (.row (encWorld w))) (hid : σ[id]? = some (.row ((lst w.ss.length left).map ab))) (hw : WOk w) :
  ACalls Tryz.prog 45 [.ptr W 0, .ref id 1 0 w.ss.length] σ (isR (.slice .fresh ((lst w.ss.length (nearF w left)).map Ahl.encI)) σ) := by
 refine ACalls.intro (rs := [(.tmp 4)]) (by kernel_rfl) { own := [(1, 2), (2, 2)], ghosts := [3, 8] } Tryz.func45 (c := Tryz.f45.body.getD .skip) (by kernel_rfl) (by decide) (by rw [show Tryz.f45.ntmps = 83 by kernel_rfl]; exact Nat.le_of_ble_eq_true rfl) (by kernel_rfl) ?_
 intro hσ hids
 rw [show comp Tryz.prog { own := [(1, 2), (2, 2)], ghosts := [3, 8] } (Tryz.f45.body.getD .skip) = c_near by kernel_rfl, show Tryz.f45.ntmps = 83 by kernel_rfl]
 unfold c_near
 have hWl := lt_of_get hW
 have hil := lt_of_get hid
 have hWg : ∀ r, (σ ++ r)[W]? = some (.row (encWorld w)) := fun r => by rw [List.getElem?_append_left hWl]; exact hW
 have hig : ∀ r, (σ ++ r)[id]? = some (.row ((lst w.ss.length left).map ab)) := fun r => by rw [List.getElem?_append_left hil]; exact hid
 simp only [encWorld] at hWg
 have hwl := hw.len
 have hgl := hw.gl
 have hcl := hw.ch
 have hifR : Ids σ.length (.ref id 1 0 w.ss.length) := .ref _ _ _ _ hil
 have hS : ∀ (N : Nat) (ch : Nat → Int) (co : Nat → Bool) (r : Store), (∀ o ∈ r, IdsO (σ.length + 3 + r.length) o) → IdsS (σ ++ (([AObj.row [AV.ref id 1 0 N], AObj.row (List.map ai (lst N ch)), AObj.row (List.map ab (lst N co))]) ++ r)).length (σ ++ (([AObj.row [AV.ref id 1 0 N], AObj.row (List.map ai (lst N ch)), AObj.row (List.map ab (lst N co))]) ++ r)) := fun N ch co r hr => idsS_app _ hσ fun o ho => by
  rcases List.mem_append.1 ho with ho | ho
  ·simp only [List.mem_cons, List.not_mem_nil, or_false] at ho
   rcases ho with rfl | rfl | rfl
   ·exact idsO_row (idsL_cons (.ref _ _ _ _ (by simp; omega)) idsL_nil)
   ·exact ids_ai _
   ·exact ids_ab _
  ·have := hr o ho
   simpa [Nat.add_assoc, Nat.add_comm, Nat.add_left_comm] using this
 have hS0 : ∀ (N : Nat) (ch : Nat → Int) (co : Nat → Bool), IdsS (σ ++ ([AObj.row [AV.ref id 1 0 N], AObj.row (List.map ai (lst N ch)), AObj.row (List.map ab (lst N co))])).length (σ ++ ([AObj.row [AV.ref id 1 0 N], AObj.row (List.map ai (lst N ch)), AObj.row (List.map ab (lst N co))])) := fun N ch co => by simpa using hS N ch co [] (by simp)
 simp only [go_sem, simprocAttr, aMkslice]
 refine ⟨Int.le_refl _, by omega, by omega, Int.le_refl _, by omega, by omega, ?_⟩
 rw [rep_ai16, lst_const, rep_ab]
 refine Gh.of (s' := [(0, .ptr W 0), (3, .ptr σ.length 0), (5, .ref (σ.length + 1) 1 0 w.ss.length), (6, .ref (σ.length + 2) 1 0 w.ss.length)]) (σ' := σ ++ [AObj.row [AV.ref id 1 0 w.ss.length], AObj.row (List.map ai (lst w.ss.length (fun _ => 0))), AObj.row (List.map ab (lst w.ss.length (fun _ => false)))]) (ghL0 (hS0 _ _ _)) ?_
 simp only [go_sem, simprocAttr]
 refine wpc_while (fun (i : Nat) => [(0, .ptr W 0), (3, .ptr σ.length 0), (5, .ref (σ.length + 1) 1 0 w.ss.length), (6, .ref (σ.length + 2) 1 0 w.ss.length), (18, .int .i64 w.ss.length), (19, .int .i64 (i : Nat))])
  (fun i => σ ++ [AObj.row [AV.ref id 1 0 w.ss.length], AObj.row (List.map ai (lst w.ss.length (split (fun _ => -1) (fun _ => 0) i))), AObj.row (List.map ab (lst w.ss.length (split (fun i => left i && goalB w i) (fun _ => false) i)))]) (fun i => i ≤ w.ss.length) (fun i => w.ss.length - i) 0 (Nat.zero_le _) ?_ ?_
 ·rw [lst_zero, lst_zero]; exact ghL0 (hS0 _ _ _)
 ·intro i hi K hK hE hR
  by_cases h : i < w.ss.length
  ·obtain ⟨b, hb⟩ := get_ex (show i < w.gl.length by omega)
   have hgb : goalB w i = b := by unfold goalB; rw [List.getD_eq_getElem?_getD, hb]; rfl
   have hlt : ((i : Int) < (w.ss.length : Int)) := by omega
   have hw1 := wrapS (i := i) (by omega)
   have s1 := lst_set (N := w.ss.length) (fun _ => (-1 : Int)) (fun _ => 0) h
   have s2 := lst_set (N := w.ss.length) (fun i => left i && goalB w i) (fun _ => false) h
   simp only [hgb] at s1 s2
   have l1 : (lst w.ss.length (split (fun _ => (-1 : Int)) (fun _ => 0) i)).length = w.ss.length := lst_len _ _
   have l2 : (lst w.ss.length (split (fun i => left i && goalB w i) (fun _ => false) i)).length = w.ss.length := lst_len _ _
   have hx := lst_get left h
   generalize lst w.ss.length (split (fun _ => (-1 : Int)) (fun _ => 0) i) = F1 at s1 l1
   generalize lst w.ss.length (split (fun i => left i && goalB w i) (fun _ => false) i) = F2 at s2 l2
   have q1 : i + 1 ≤ F1.length := by omega
   have q2 : i + 1 ≤ F2.length := by omega
   cases hl : left i
   ·rw [hl] at s2 hx
    simp only [Bool.false_and] at s2
    simp only [go_sem, simprocAttr, hlt, h, hig, hx, ab, set_ai, s1, q1, q2, set_ab16, s2]
    refine hK _ _ (i + 1) (by omega) (by omega) ?_
    rw [hw1]
    exact ghL0 (hS0 _ _ _)
   ·rw [hl] at s2 hx
    simp only [Bool.true_and] at s2
    simp only [go_sem, simprocAttr, hlt, h, hig, hWg, encWorld, hx, ab, hb, encB, set_ai, s1, q1, q2, set_ab16, s2]
    refine hK _ _ (i + 1) (by omega) (by omega) ?_
    rw [hw1]
    exact ghL0 (hS0 _ _ _)
  ·have hlt : ¬ ((i : Int) < (w.ss.length : Int)) := by omega
   rw [lst_full _ _ (by omega), lst_full _ _ (by omega)]
   simp only [go_sem, simprocAttr, hlt, hE]
   refine Gh.of (s' := [(0, .ptr W 0), (3, .ptr σ.length 0), (5, .ref (σ.length + 1) 1 0 w.ss.length), (6, .ref (σ.length + 2) 1 0 w.ss.length)]) (σ' := σ ++ [AObj.row [AV.ref id 1 0 w.ss.length], AObj.row (List.map ai (lst w.ss.length (nIter w left 0).1)), AObj.row (List.map ab (lst w.ss.length (nIter w left 0).2))]) (ghL0 (hS0 _ _ _)) ?_
   simp only [go_sem, simprocAttr]
   clear hK hE hR hi h hlt
   have hstop : ∀ k, k ≤ w.ss.length → NSame w.ss.length (nIter w left (k + 1)) (nIter w left k) → lst w.ss.length (nIter w left (k + 1)).1 = lst w.ss.length (nearF w left) := fun k hk hs => lst_ext fun j hj => by
    have a := (hs j hj).1
    have b := (nIter_stop hw hs (w.ss.length + 1 - k) j hj).1
    rw [show k + (w.ss.length + 1 - k) = w.ss.length + 1 by omega] at b
    exact a.trans b.symm
   refine wpc_while (α := Nat × Bool) (fun q => [(0, .ptr W 0), (3, .ptr σ.length 0), (5, .ref (σ.length + 1) 1 0 w.ss.length), (6, .ref (σ.length + 2) 1 0 w.ss.length), (8, .bool q.2)])
    (fun q => σ ++ [AObj.row [AV.ref id 1 0 w.ss.length], AObj.row (List.map ai (lst w.ss.length (nIter w left q.1).1)), AObj.row (List.map ab (lst w.ss.length (nIter w left q.1).2))]) (fun q => (q.2 = true → q.1 ≤ cnt w.ss.length (nIter w left q.1).2) ∧ (q.2 = false → lst w.ss.length (nIter w left q.1).1 = lst w.ss.length (nearF w left)))
    (fun q => if q.2 then w.ss.length + 1 - q.1 else 0) (0, true) ⟨fun _ => Nat.zero_le _, by simp⟩ (ghL0 (hS0 _ _ _)) ?_
   rintro ⟨k, gr⟩ ⟨hk1, hk2⟩ K hK hE hR
   dsimp only at hk1 hk2 ⊢
   cases gr
   ·have hfin := hk2 rfl
    simp only [go_sem, simprocAttr, hE]
    rw [hfin]
    refine retRowF (id := σ.length + 1) (len := w.ss.length) List.take_left rfl (by simp) (lst_len _ _) (by omega) ⟨rfl, rfl⟩
   ·have hkc := hk1 rfl
    have hkN : k ≤ w.ss.length := Nat.le_trans hkc (cnt_le _ _)
    have hgrow := nIter_grow (w := w) (left := left) (k := k)
    have hstill := nIter_still (w := w) (left := left) (k := k)
    have hsk := hstop k hkN
    have hst : nIter w left (k + 1) = nStep w left (nIter w left k) := rfl
    rw [hst] at hgrow hstill hsk
    have hKn := hK
    generalize hs : nIter w left k = s at hkc hgrow hstill hsk
    simp only [go_sem, simprocAttr]
    refine (cloneB_spec (lst w.ss.length s.2) (σ.length + 2) w.ss.length _ (lst_len _ _) (by simp) (by rw [lst_len]; omega)).is ?_
    simp only [go_sem, simprocAttr]
    refine wpc_while (fun (i : Nat) => [(0, .ptr W 0), (3, .ptr σ.length 0), (5, .ref (σ.length + 1) 1 0 w.ss.length), (6, .ref (σ.length + 2) 1 0 w.ss.length), (8, .bool ((List.range i).any (newB w left s))), (9, .ptr (σ.length + 3) 0), (46, .int .i64 w.ss.length), (47, .int .i64 (i : Nat))])
     (fun i => σ ++ (([AObj.row [AV.ref id 1 0 w.ss.length], AObj.row (List.map ai (lst w.ss.length (split (nStep w left s).1 s.1 i))), AObj.row (List.map ab (lst w.ss.length (split (nStep w left s).2 s.2 i)))]) ++ [AObj.row [.slice .fresh ((lst w.ss.length s.2).map encB)]])) (fun i => i ≤ w.ss.length) (fun i => w.ss.length - i) 0 (Nat.zero_le _) ?_ ?_
    ·rw [lst_zero, lst_zero]; exact ghL0 (hS _ _ _ _ (by intro o ho; rw [List.mem_singleton] at ho; subst ho; exact idsO_row (idsL_cons (ids_mapf ids_encB _) idsL_nil)))
    ·intro i hi K2 hK2 hE2 hR2
     by_cases h : i < w.ss.length
     ·obtain ⟨l, hl⟩ := get_ex (show i < w.ch.length by omega)
      have hlm := List.mem_of_getElem? hl
      have hll := hw.many l hlm
      have hlt : ((i : Int) < (w.ss.length : Int)) := by omega
      have hw1 := wrapS (i := i) (by omega)
      have hx := lst_get left h
      have hc1 : (lst w.ss.length (split (nStep w left s).2 s.2 i))[i]? = some (s.2 i) := by rw [lst_get _ h]; unfold split; rw [if_neg (by omega)]
      have s1 := lst_set (N := w.ss.length) (nStep w left s).1 s.1 h
      have s2 := lst_set (N := w.ss.length) (nStep w left s).2 s.2 h
      have t1 := lst_same (N := w.ss.length) (f := (nStep w left s).1) (g := s.1) (i := i)
      have t2 := lst_same (N := w.ss.length) (f := (nStep w left s).2) (g := s.2) (i := i)
      have l1 : (lst w.ss.length (split (nStep w left s).1 s.1 i)).length = w.ss.length := lst_len _ _
      have l2 : (lst w.ss.length (split (nStep w left s).2 s.2 i)).length = w.ss.length := lst_len _ _
      have hany : (List.range (i + 1)).any (newB w left s) = ((List.range i).any (newB w left s) || newB w left s i) := by rw [List.range_succ, List.any_append]; simp
      have hnb : newB w left s i = (left i && !s.2 i && decide (0 ≤ nC w left s.2 i)) := rfl
      have e1 : (nStep w left s).1 i = if left i && !s.2 i then nC w left s.2 i else s.1 i := rfl
      have e2 : (nStep w left s).2 i = (s.2 i || (left i && decide (0 ≤ nC w left s.2 i))) := rfl
      generalize lst w.ss.length (split (nStep w left s).1 s.1 i) = F1 at s1 t1 l1
      generalize lst w.ss.length (split (nStep w left s).2 s.2 i) = F2 at s2 t2 l2 hc1
      generalize (List.range i).any (newB w left s) = g0 at hany
      have q1 : i + 1 ≤ F1.length := by omega
      have q2 : i + 1 ≤ F2.length := by omega
      have hSc : ∀ (F1 : List Int) (F2 : List Bool), IdsS (σ ++ [AObj.row [AV.ref id 1 0 w.ss.length], AObj.row (List.map ai F1), AObj.row (List.map ab F2), AObj.row [.slice .fresh ((lst w.ss.length s.2).map encB)]]).length (σ ++ [AObj.row [AV.ref id 1 0 w.ss.length], AObj.row (List.map ai F1), AObj.row (List.map ab F2), AObj.row [.slice .fresh ((lst w.ss.length s.2).map encB)]]) := fun F1 F2 => idsS_app _ hσ (all_cons' (idsO_row (idsL_cons (.ref _ _ _ _ (by simp; omega)) idsL_nil)) (all_cons' (ids_ai _) (all_cons' (ids_ab _) (all_cons' (idsO_row (idsL_cons (ids_mapf ids_encB _) idsL_nil)) all_nil'))))
      have skip : (left i && !s.2 i) = false → F1 = lst w.ss.length (split (nStep w left s).1 s.1 (i + 1)) ∧ F2 = lst w.ss.length (split (nStep w left s).2 s.2 (i + 1)) ∧ (List.range (i + 1)).any (newB w left s) = g0 := fun q => by
       refine ⟨t1 (by rw [e1, q]; rfl), t2 (by rw [e2]; cases hh : s.2 i <;> cases hh2 : left i <;> simp [hh, hh2] at q ⊢), by rw [hany, hnb, q]; simp⟩
      cases hli : left i
      ·obtain ⟨k1, k2, k3⟩ := skip (by rw [hli]; rfl)
       rw [hli] at hx
       simp only [go_sem, simprocAttr, hlt, h, hig, hx, ab]
       refine hK2 _ _ (i + 1) (by omega) (by omega) ?_
       rw [hw1, k3, ← k1, ← k2]
       exact ghL0 (hSc _ _)
      ·rw [hli] at hx
       cases hco : s.2 i
       ·rw [hco] at hc1
        have hnc : nC w left s.2 i = idxFrom (nB left s.2) 0 l := by unfold nC; rw [List.getD_eq_getElem?_getD, hl]; rfl
        rw [hli, hco] at e1 e2 hnb
        simp only [Bool.not_false, Bool.and_self, Bool.false_or, Bool.true_and, if_true] at e1 e2 hnb
        have hx1 := lst_get (N := w.ss.length) (split (nStep w left s).1 s.1 (i + 1)) h
        have hx1' : split (nStep w left s).1 s.1 (i + 1) i = (nStep w left s).1 i := by unfold split; rw [if_pos (by omega)]
        rw [hx1', e1, hnc] at hx1
        rw [e1, hnc] at s1
        rw [e2, hnc] at s2 t2
        rw [hnc] at hnb
        simp only [go_sem, simprocAttr, hlt, h, hig, hWg, encWorld, hx, ab, hc1, hl, encCh]
        refine (idxC_spec l 85 [.ptr σ.length 0, .ptr (σ.length + 3) 0] (nB left s.2) .unk _ (by omega) (fun c hc => near1_spec w.ss.length left s.2 σ.length id (σ.length + 3) c .fresh _ (by simp) (hig _) (by simp) (hw.some l hlm c hc).2.2 (by have := (hw.some l hlm c hc).1; omega))).is ?_
        generalize idxFrom (nB left s.2) 0 l = v at s1 s2 t2 hx1 hnb
        by_cases hv : 0 ≤ v
        ·rw [decide_eq_true hv] at s2 hnb
         have hge : v ≥ 0 := hv
         simp only [go_sem, simprocAttr, h, q1, set_ai, s1, hx1, hge, q2, set_ab16, s2, ai]
         refine hK2 _ _ (i + 1) (by omega) (by omega) ?_
         rw [hw1, hany, hnb, Bool.or_true]
         exact ghL0 (hSc _ _)
        ·rw [decide_eq_false hv] at s2 hnb t2
         have hge : ¬ v ≥ 0 := hv
         have t2 := t2 (by rw [hco])
         simp only [go_sem, simprocAttr, h, q1, set_ai, s1, hx1, hge, ai]
         refine hK2 _ _ (i + 1) (by omega) (by omega) ?_
         rw [hw1, hany, hnb, Bool.or_false, ← t2]
         exact ghL0 (hSc _ _)
       ·obtain ⟨k1, k2, k3⟩ := skip (by rw [hli, hco]; rfl)
        rw [hco] at hc1
        simp only [go_sem, simprocAttr, hlt, h, hig, hx, ab, hc1]
        refine hK2 _ _ (i + 1) (by omega) (by omega) ?_
        rw [hw1, k3, ← k1, ← k2]
        exact ghL0 (hSc _ _)
     ·have hlt : ¬ ((i : Int) < (w.ss.length : Int)) := by omega
      have hie : i = w.ss.length := by omega
      rw [lst_full _ _ (by omega), lst_full _ _ (by omega)]
      subst hie
      simp only [go_sem, simprocAttr, hlt, hE2]
      refine hKn _ _ (k + 1, (List.range w.ss.length).any (newB w left s)) ⟨fun q => ?_, fun q => ?_⟩ ?_ ?_
      ·rw [hst, hs]
       obtain ⟨i, hi, hn⟩ := List.any_eq_true.1 q
       have := hgrow ⟨i, List.mem_range.1 hi, hn⟩
       omega
      ·rw [hst, hs]
       refine hsk (hstill fun i hi => ?_)
       exact Bool.eq_false_iff.2 (List.any_eq_false.1 q i (List.mem_range.2 hi))
      ·dsimp only
       rw [if_pos rfl]
       cases hq : (List.range w.ss.length).any (newB w left s)
       ·rw [if_neg (by simp)]; omega
       ·rw [if_pos rfl]
        obtain ⟨i, hi, hn⟩ := List.any_eq_true.1 hq
        have h3 := hgrow ⟨i, List.mem_range.1 hi, hn⟩
        have h4 := cnt_le w.ss.length (nStep w left s).2
        omega
      ·dsimp only
       rw [hst, hs]
       refine Ghost.keepL (g := [AObj.row [.slice .fresh ((lst w.ss.length s.2).map encB)]]) (k := 3) ([AObj.row [AV.ref id 1 0 w.ss.length], AObj.row (List.map ai (lst w.ss.length (nStep w left s).1)), AObj.row (List.map ab (lst w.ss.length (nStep w left s).2))]) rfl (Nat.le_refl _) ?_ (hS0 _ _ _)
       exact tellT
theorem nIter_lt {w : Wld} {left : Nat → Bool} : ∀ (k i : Nat), 0 ≤ (nIter w left k).1 i → ((nIter w left k).1 i).toNat < (w.ch.getD i []).length
 | 0, i, h => absurd h (by show ¬ (0 : Int) ≤ -1; decide)
 | k + 1, i, h => by
  have e : (nIter w left (k + 1)).1 i = if left i && !(nIter w left k).2 i then nC w left (nIter w left k).2 i else (nIter w left k).1 i := rfl
  rw [e] at h ⊢
  split
  ·rename_i hc
   rw [if_pos hc] at h
   exact idx_lt _ _ h
  ·rename_i hc
   rw [if_neg hc] at h
   exact nIter_lt k i h
theorem nearF_ok (w : Wld) (left : Nat → Bool) : ChOk w (lst w.ss.length (nearF w left)) := chOk_lst fun i _ h => nIter_lt _ i h
def cStep (w : Wld) (left : Nat → Bool) (i : Nat) : Bool := left i && (goalB w i || decide (0 ≤ nearF w left i))
def cIter (w : Wld) : Nat → Nat → Bool
 | 0 => fun _ => true
 | k + 1 => cStep w (cIter w k)
def lostB (w : Wld) (left : Nat → Bool) (i : Nat) : Bool := left i && !cStep w left i
def CycP (t : FTask) (g : List (List Int)) (r : AV) : Prop :=
 if askE t g = 0 then (let w := wldF t g t.init
  (∃ k, k ≤ w.ss.length ∧ cIter w (k + 1) 0 = false ∧ r = errT 4) ∨
  ∃ k, k ≤ w.ss.length ∧ cIter w k 0 = true ∧ (∀ i, i < w.ss.length → lostB w (cIter w k) i = false) ∧ ∃ r0, EntP w (lst w.ss.length (nearF w (cIter w k))) r0 ∧ r = .tuple [r0, .int .i64 0])
 else r = errT (askE t g)
def c_pCyc : CCode := .seq (.ops [oS 2 (.box (.tmp 0)), oS 4 (.move (.lit (.slice .nil []))), oS 5 (.move (.lit (.int .i64 0)))]) (.seq (.seq (.ops [oS 14 (.load (some 4) (.tmp 2)), oS 15 (.move (.tmp 1)), oS 16 (.call (.lit (.func 36 [])) [.tmp 14, .tmp 15]), oS 6 (.move (.tmp 16))]) (.seq (.ops [oS 17 (.move (.tmp 6)), oS 18 (.bin .neq .none (.tmp 17) (.lit (.int .i64 0)))]) (.cond (.tmp 18) (.seq (.ops [oS 19 (.move (.tmp 6)), oS 4 (.move (.lit (.slice .nil []))), oS 5 (.move (.tmp 19))]) .ret) .skip))) (.seq (.ops [oS 21 (.load (some 4) (.tmp 2)), oS 22 (.move (.tmp 1)), oS 23 (.faddr 1 (.tmp 2)), oS 24 (.load none (.tmp 23)), oS 25 (.call (.lit (.func 55 [])) [.tmp 21, .tmp 22, .tmp 24, .lit (.func 56 [])]), oS 20 (.move (.tmp 25)), oS 26 (.extract (.tmp 20) 0), oS 27 (.extract (.tmp 20) 1), oS 7 (.move (.tmp 26)), oS 8 (.move (.tmp 27))]) (.seq (.seq (.ops [oS 28 (.move (.tmp 8)), oS 29 (.un .not (.tmp 28))]) (.cond (.tmp 29) (.seq (.ops [oS 4 (.move (.lit (.slice .nil []))), oS 5 (.move (.lit (.int .i64 3)))]) .ret) .skip)) (.seq (.ops [oS 30 (.move (.tmp 7)), oS 31 (.nilck (.tmp 30)), oS 32 (.faddr 0 (.tmp 31)), oS 33 (.faddr 1 (.tmp 32)), oS 34 (.load none (.tmp 33)), oS 35 (.blen 1 (.tmp 34)), oS 36 (.mkslice 1 1 [.bool false] (.tmp 35) (.tmp 35) true), oS 9 (.move (.tmp 36))]) (.seq (.seq (.ghost (.ops [oS 37 (.move (.tmp 9)), oS 38 (.blen 1 (.tmp 37)), oS 39 (.move (.lit (.int .i64 0)))])) (.block 0 (.loop (.seq (.ops [oS 40 (.bin .lss .none (.tmp 39) (.tmp 38))]) (.seq (.cond (.tmp 40) .skip (.exit 0)) (.seq (.block 1 (.seq (.ops [oS 41 (.move (.tmp 39)), oS 10 (.move (.tmp 41))]) (.ops [oS 42 (.move (.tmp 9)), oS 43 (.move (.tmp 10)), oS 44 (.iaddr 1 (.tmp 42) (.tmp 43)), oN (.store 1 (.tmp 44) (.lit (.bool true)))]))) (.ops [oS 45 (.bin .add .none (.tmp 39) (.lit (.int .i64 1))), oS 39 (.move (.tmp 45))]))))))) (.block 2 (.loop (.block 3 (.seq (.ghost (.ops [oS 46 (.move (.tmp 7)), oS 47 (.move (.tmp 9)), oS 48 (.call (.lit (.func 45 [])) [.tmp 46, .tmp 47]), oS 11 (.move (.tmp 48))])) (.seq (.ops [oS 12 (.move (.lit (.bool false)))]) (.seq (.seq (.ops [oS 49 (.move (.tmp 9)), oS 50 (.blen 1 (.tmp 49)), oS 51 (.move (.lit (.int .i64 0)))]) (.block 4 (.loop (.seq (.ops [oS 52 (.bin .lss .none (.tmp 51) (.tmp 50))]) (.seq (.cond (.tmp 52) .skip (.exit 4)) (.seq (.block 5 (.seq (.ops [oS 53 (.move (.tmp 51)), oS 13 (.move (.tmp 53))]) (.seq (.ops [oS 54 (.move (.tmp 9)), oS 55 (.move (.tmp 13)), oS 56 (.iaddr 1 (.tmp 54) (.tmp 55)), oS 57 (.load none (.tmp 56)), oS 58 (.move (.tmp 57)), oG 59 58 true (.move (.tmp 7)), oG 60 58 true (.nilck (.tmp 59)), oG 61 58 true (.faddr 3 (.tmp 60)), oG 62 58 true (.load none (.tmp 61)), oG 63 58 true (.move (.tmp 13)), oG 64 58 true (.iaddr 1 (.tmp 62) (.tmp 63)), oG 65 58 true (.load none (.tmp 64)), oG 66 58 true (.un .not (.tmp 65)), oS 67 (.pick (.tmp 58) (.tmp 66) (.lit (.bool false))), oS 68 (.move (.tmp 67)), oG 69 68 true (.move (.tmp 11)), oG 70 68 true (.move (.tmp 13)), oG 71 68 true (.iaddr 1 (.tmp 69) (.tmp 70)), oG 72 68 true (.load none (.tmp 71)), oG 73 68 true (.bin .lss .none (.tmp 72) (.lit (.int .i64 0))), oS 74 (.pick (.tmp 68) (.tmp 73) (.lit (.bool false)))]) (.cond (.tmp 74) (.ops [oS 75 (.move (.tmp 9)), oS 76 (.move (.tmp 13)), oS 77 (.iaddr 1 (.tmp 75) (.tmp 76)), oN (.store 1 (.tmp 77) (.lit (.bool false))), oS 12 (.move (.lit (.bool true)))]) .skip)))) (.ops [oS 78 (.bin .add .none (.tmp 51) (.lit (.int .i64 1))), oS 51 (.move (.tmp 78))]))))))) (.seq (.seq (.ops [oS 79 (.move (.tmp 9)), oS 80 (.iaddr 1 (.tmp 79) (.lit (.int .i64 0))), oS 81 (.load none (.tmp 80)), oS 82 (.un .not (.tmp 81))]) (.cond (.tmp 82) (.seq (.ops [oS 4 (.move (.lit (.slice .nil []))), oS 5 (.move (.lit (.int .i64 4)))]) .ret) .skip)) (.seq (.ops [oS 83 (.move (.tmp 12)), oS 84 (.un .not (.tmp 83))]) (.cond (.tmp 84) (.seq (.ghost (.ops [oS 85 (.move (.tmp 7)), oS 86 (.move (.tmp 11)), oS 87 (.call (.lit (.func 61 [])) [.tmp 85, .tmp 86]), oS 4 (.move (.tmp 87)), oS 5 (.move (.lit (.int .i64 0)))])) .ret) .skip))))))))))))))
set_option maxHeartbeats 4000000 in
theorem pCyc_spec (t : FTask) (g : List (List Int)) (tok : Tok) (σ : Store) (hb : PB t) (hg : LB g) (h8 : validB t = true → t.facts.length ≤ 8) :
  ACalls Tryz.prog 24 [.agg (encTask t), .slice tok (g.map encL)] σ (fun r σ' => σ' = σ ∧ CycP t g r) := by
 refine ACalls.intro (rs := [(.tmp 4), (.tmp 5)]) (by kernel_rfl) { own := [(7, 6)], ghosts := [8, 13, 24] } Tryz.func24 (c := Tryz.f24.body.getD .skip) (by kernel_rfl) (by decide) (by rw [show Tryz.f24.ntmps = 88 by kernel_rfl]; exact Nat.le_of_ble_eq_true rfl) (by kernel_rfl) ?_
 intro hσ hids
 rw [show comp Tryz.prog { own := [(7, 6)], ghosts := [8, 13, 24] } (Tryz.f24.body.getD .skip) = c_pCyc by kernel_rfl, show Tryz.f24.ntmps = 88 by kernel_rfl]
 unfold c_pCyc
 have hil : Ids σ.length (.slice tok (g.map encL)) := hids _ (by simp)
 simp only [go_sem, simprocAttr, encTask]
 refine (pasks_spec t g tok _ hb.tb hg).is ?_
 by_cases h1 : ¬ askE t g = 0
 ·have h0 : (askE t g != 0) = true := by simpa using h1
  simp only [go_sem, simprocAttr, h0]
  exact rT (.slice .nil []) (.int .i64 (askE t g)) ⟨rfl, by rw [CycP, if_neg h1]; rfl⟩
 replace h1 := Decidable.not_not.1 h1
 obtain ⟨hv, hch⟩ := askE_zero h1
 have hri : risingB t.facts.length (-1) t.init = true := valid_init16 hv
 obtain ⟨hSB, hEO, hfl⟩ := valid_SB hb hv
 rw [h1]
 simp only [go_sem, simprocAttr, encTask]
 refine (reach_spec t g t.init tok _ hb.tb hSB hEO (h8 hv) hch hri).to ?_
 have hwk := wldF_ok hEO hch hri (h8 hv)
 have h0N := wld_pos t g t.init
 have hSP : ∀ r, CycP t g r = ((∃ k, k ≤ (wldF t g t.init).ss.length ∧ cIter (wldF t g t.init) (k + 1) 0 = false ∧ r = errT 4) ∨
  ∃ k, k ≤ (wldF t g t.init).ss.length ∧ cIter (wldF t g t.init) k 0 = true ∧ (∀ i, i < (wldF t g t.init).ss.length → lostB (wldF t g t.init) (cIter (wldF t g t.init) k) i = false) ∧ ∃ r0, EntP (wldF t g t.init) (lst (wldF t g t.init).ss.length (nearF (wldF t g t.init) (cIter (wldF t g t.init) k))) r0 ∧ r = .tuple [r0, .int .i64 0]) := fun r => by rw [CycP, if_pos h1]
 have hsl : ∀ s ∈ (wldF t g t.init).ss, s.length ≤ 1000000 := fun s hs => by
  rcases rising_len (rising_ssF hEO hch hri s hs) (by omega) with q | q
  ·omega
  ·rw [q]; simp
 generalize wldF t g t.init = w at hwk h0N hSP hsl
 have hwl := hwk.len
 have hcl := hwk.ch
 have hgl := hwk.gl
 have hS : ∀ (F : List Bool), IdsS (σ ++ [AObj.row (encTask t), AObj.row (encWorld w), AObj.row (List.map ab F)]).length (σ ++ [AObj.row (encTask t), AObj.row (encWorld w), AObj.row (List.map ab F)]) := fun F => idsS_app _ hσ (by
   intro o ho
   simp only [List.mem_cons, List.not_mem_nil, or_false] at ho
   rcases ho with rfl | rfl | rfl
   ·exact idsO_row (ids_encTask t)
   ·exact idsO_row (idsL_cons .any (idsL_cons (ids_map ids_encL _) (idsL_cons (ids_map ids_encCh _) (idsL_cons (ids_map ids_encB _) idsL_nil))))
   ·exact ids_ab _)
 simp only [go_sem, simprocAttr, encTask, encWorld, aMkslice]
 refine ⟨Int.le_refl _, by omega, by omega, ?_⟩
 rw [rep_ab]
 refine Gh.of (s' := [(7, .ptr (σ.length + 1) 0), (9, .ref (σ.length + 2) 1 0 w.ss.length)]) (σ' := σ ++ [AObj.row (encTask t), AObj.row (encWorld w), AObj.row (List.map ab (lst w.ss.length (fun _ => false)))]) (ghL0 (hS _)) ?_
 simp only [go_sem, simprocAttr]
 refine wpc_while (fun (i : Nat) => [(7, .ptr (σ.length + 1) 0), (9, .ref (σ.length + 2) 1 0 w.ss.length), (38, .int .i64 w.ss.length), (39, .int .i64 (i : Nat))])
  (fun i => σ ++ [AObj.row (encTask t), AObj.row (encWorld w), AObj.row (List.map ab (lst w.ss.length (split (fun _ => true) (fun _ => false) i)))]) (fun i => i ≤ w.ss.length) (fun i => w.ss.length - i) 0 (Nat.zero_le _) ?_ ?_
 ·rw [lst_zero]; exact ghL0 (hS _)
 intro i hi K hK hE hR
 by_cases h : i < w.ss.length
 ·have hlt : ((i : Int) < (w.ss.length : Int)) := by omega
  have hw1 := wrapS (i := i) (by omega)
  have s1 := lst_set (N := w.ss.length) (fun _ => true) (fun _ => false) h
  have l1 : (lst w.ss.length (split (fun _ => true) (fun _ => false) i)).length = w.ss.length := lst_len _ _
  generalize lst w.ss.length (split (fun _ => true) (fun _ => false) i) = F1 at s1 l1
  have q1 : i + 1 ≤ F1.length := by omega
  simp only [go_sem, simprocAttr, hlt, h, q1, set_ab16, s1]
  refine hK _ _ (i + 1) (by omega) (by omega) ?_
  rw [hw1]
  exact ghL0 (hS _)
 have hlt : ¬ ((i : Int) < (w.ss.length : Int)) := by omega
 rw [lst_full _ _ (by omega)]
 simp only [go_sem, simprocAttr, hlt, hE]
 clear hK hE hR hi h hlt
 refine wpc_while (fun (k : Nat) => [(7, .ptr (σ.length + 1) 0), (9, .ref (σ.length + 2) 1 0 w.ss.length)])
  (fun k => σ ++ [AObj.row (encTask t), AObj.row (encWorld w), AObj.row (List.map ab (lst w.ss.length (cIter w k)))]) (fun k => k + cnt w.ss.length (cIter w k) ≤ w.ss.length ∧ cIter w k 0 = true) (fun k => w.ss.length - k) 0 ⟨by have := cnt_le w.ss.length (cIter w 0); omega, rfl⟩ (ghL0 (hS _)) ?_
 rintro k ⟨hk, hk0⟩ K hK hE hR
 refine Gh.of (Ghost.refl _ _ _ _) ?_
 simp only [go_sem, simprocAttr]
 refine (near_spec w (cIter w k) (σ.length + 1) (σ.length + 2) _ (by simp) (by simp) hwk).is ?_
 have hst : cIter w (k + 1) = cStep w (cIter w k) := rfl
 have hP2 : ∀ r, (cStep w (cIter w k) 0 = false ∧ r = errT 4) → CycP t g r := fun r q => by rw [hSP]; exact .inl ⟨k, by omega, by rw [hst]; exact q.1, q.2⟩
 have hP3 : ∀ r, ((∀ i, i < w.ss.length → lostB w (cIter w k) i = false) ∧ ∃ r0, EntP w (lst w.ss.length (nearF w (cIter w k))) r0 ∧ r = .tuple [r0, .int .i64 0]) → CycP t g r := fun r q => by rw [hSP]; exact .inr ⟨k, by omega, hk0, q.1, q.2⟩
 have hok := nearF_ok w (cIter w k)
 have hKn := hK
 generalize hs : cIter w k = left at hk hk0 hst hP2 hP3 hok
 simp only [go_sem, simprocAttr]
 refine wpc_while (fun (i : Nat) => [(7, .ptr (σ.length + 1) 0), (9, .ref (σ.length + 2) 1 0 w.ss.length), (11, .slice .fresh ((lst w.ss.length (nearF w left)).map Ahl.encI)), (12, .bool ((List.range i).any (lostB w left))), (50, .int .i64 w.ss.length), (51, .int .i64 (i : Nat))])
  (fun i => σ ++ [AObj.row (encTask t), AObj.row (encWorld w), AObj.row (List.map ab (lst w.ss.length (split (cStep w left) left i)))]) (fun i => i ≤ w.ss.length) (fun i => w.ss.length - i) 0 (Nat.zero_le _) ?_ ?_
 ·rw [lst_zero]; exact ghL0 (hS _)
 ·intro i hi K2 hK2 hE2 hR2
  by_cases h : i < w.ss.length
  ·obtain ⟨b, hb⟩ := get_ex (show i < w.gl.length by omega)
   have hgb : goalB w i = b := by unfold goalB; rw [List.getD_eq_getElem?_getD, hb]; rfl
   have hlt : ((i : Int) < (w.ss.length : Int)) := by omega
   have hw1 := wrapS (i := i) (by omega)
   have hx : (lst w.ss.length (split (cStep w left) left i))[i]? = some (left i) := by rw [lst_get _ h]; unfold split; rw [if_neg (by omega)]
   have hn := lst_get (nearF w left) h
   have s1 := lst_set (N := w.ss.length) (cStep w left) left h
   have t1 := lst_same (N := w.ss.length) (f := cStep w left) (g := left) (i := i)
   have l1 : (lst w.ss.length (split (cStep w left) left i)).length = w.ss.length := lst_len _ _
   have hany : (List.range (i + 1)).any (lostB w left) = ((List.range i).any (lostB w left) || lostB w left i) := by rw [List.range_succ, List.any_append]; simp
   have hlb : lostB w left i = (left i && !cStep w left i) := rfl
   have e1 : cStep w left i = (left i && (b || decide (0 ≤ nearF w left i))) := by rw [← hgb]; rfl
   generalize lst w.ss.length (split (cStep w left) left i) = F1 at hx s1 t1 l1
   generalize (List.range i).any (lostB w left) = g0 at hany
   generalize nearF w left i = v at hn e1
   have q1 : i + 1 ≤ F1.length := by omega
   have skip : cStep w left i = left i → F1 = lst w.ss.length (split (cStep w left) left (i + 1)) ∧ (List.range (i + 1)).any (lostB w left) = g0 := fun q => ⟨t1 q, by rw [hany, hlb, q]; simp⟩
   cases hli : left i
   ·obtain ⟨k1, k2⟩ := skip (by rw [e1, hli]; rfl)
    rw [hli] at hx
    simp only [go_sem, simprocAttr, hlt, h, hx, ab]
    refine hK2 _ _ (i + 1) (by omega) (by omega) ?_
    rw [hw1, k2, ← k1]
    exact ghL0 (hS _)
   ·rw [hli] at hx e1 hlb
    cases b
    ·by_cases hv : v < 0
     ·have e2 : cStep w left i = false := by rw [e1, decide_eq_false (by omega)]; rfl
      rw [e2] at s1 hlb
      simp only [go_sem, simprocAttr, hlt, h, hx, ab, encWorld, hb, encB, hn, Ahl.encI, hv, q1, set_ab16, s1]
      refine hK2 _ _ (i + 1) (by omega) (by omega) ?_
      rw [hw1, hany, hlb]
      simp only [Bool.not_false, Bool.and_self, Bool.or_true]
      exact ghL0 (hS _)
     ·obtain ⟨k1, k2⟩ := skip (by rw [e1, hli, decide_eq_true (by omega)]; rfl)
      simp only [go_sem, simprocAttr, hlt, h, hx, ab, encWorld, hb, encB, hn, Ahl.encI, hv]
      refine hK2 _ _ (i + 1) (by omega) (by omega) ?_
      rw [hw1, k2, ← k1]
      exact ghL0 (hS _)
    ·obtain ⟨k1, k2⟩ := skip (by rw [e1, hli]; rfl)
     simp only [go_sem, simprocAttr, hlt, h, hx, ab, encWorld, hb, encB]
     refine hK2 _ _ (i + 1) (by omega) (by omega) ?_
     rw [hw1, k2, ← k1]
     exact ghL0 (hS _)
  ·have hlt : ¬ ((i : Int) < (w.ss.length : Int)) := by omega
   have hie : i = w.ss.length := by omega
   subst hie
   rw [lst_full _ _ (by omega)]
   have hx0 := lst_get (cStep w left) h0N
   cases hc0 : cStep w left 0
   ·rw [hc0] at hx0
    simp only [go_sem, simprocAttr, hlt, hE2, h0N, hx0, ab, hR]
    exact ret_gh2 (v := .slice .nil []) (x := .int .i64 4) (σ' := σ) (Ghost.keep _ (Nat.le_refl _) ⟨⟨.refl _, ids_nil _ (by simp)⟩, ⟨.refl _, .int _ _⟩, trivial⟩ hσ) rfl (Nat.le_refl _) hσ (ids_nil _ (by simp)) (.int _ _) ⟨rfl, hP2 _ ⟨hc0, rfl⟩⟩
   ·rw [hc0] at hx0
    cases hl : (List.range w.ss.length).any (lostB w left)
    ·simp only [go_sem, simprocAttr, hlt, hE2, h0N, hx0, ab]
     refine Gh.of (Ghost.refl _ _ _ _) ?_
     simp only [go_sem, simprocAttr]
     refine ACalls.mono (ents_spec w (lst w.ss.length (nearF w left)) .fresh (σ.length + 1) _ (by simp) hwk hok h0N hsl) ?_
     rintro r _ ⟨rfl, hE4⟩
     have hr0 := hE4
     obtain ⟨E, hEp, hEs, rfl⟩ := hE4
     simp only [go_sem, simprocAttr, hR]
     have hiE : Ids σ.length (.slice .fresh (E.map vE)) := ids_mapf (fun e => ids_vE e) _
     refine ret_gh2 (v := .slice .fresh (E.map vE)) (x := .int .i64 0) (σ' := σ) (Ghost.keep _ (Nat.le_refl _) ⟨⟨.refl _, hiE⟩, ⟨.refl _, .int _ _⟩, trivial⟩ hσ) rfl (Nat.le_refl _) hσ hiE (.int _ _) ⟨rfl, hP3 _ ⟨fun i hi => ?_, _, hr0, rfl⟩⟩
     exact Bool.eq_false_iff.2 (List.any_eq_false.1 hl i (List.mem_range.2 hi))
    ·simp only [go_sem, simprocAttr, hlt, hE2, h0N, hx0, ab]
     obtain ⟨i, hi, hn⟩ := List.any_eq_true.1 hl
     unfold lostB at hn
     rw [Bool.and_eq_true] at hn
     have hlt2 : cnt w.ss.length (cStep w left) < cnt w.ss.length left := cnt_strict (fun j _ hj => by
      unfold cStep at hj; rw [Bool.and_eq_true] at hj; exact hj.1) ⟨i, List.mem_range.1 hi, by simpa using hn.2, hn.1⟩
     refine hKn _ _ (k + 1) ⟨by rw [hst]; omega, by rw [hst]; exact hc0⟩ (by omega) ?_
     rw [hst]
     exact ghL0 (hS _)
end Go.Proofs.YtjmmldkailblmaaGreat
namespace Go.Ahl
theorem SRel.freezeV {m : Mem} {loc : List Loc} {σ : Store} {w : World} {n0 : Nat} (tk : Tok) (htk : tk = .unk ∨ tk = .fresh) {id sz off len : Nat} {cells : List AV} (es : List (List AV)) {v : Value} (hS : SRel m loc σ w) (hrel : Rel m loc (.ref id sz off len) v) (hs : σ[id]? = some (.row cells)) (hlen : es.length = len)
  (hes : ∀ (i : Nat) e, es[i]? = some e → e.length = sz ∧ ∀ j, j < sz → cells[off + (i * sz + j)]? = e[j]?) : ∃ m', SRel m' loc (σ.set id .dead) w ∧ Rel m' loc (.slice tk es) v ∧ Ext n0 m loc w m' loc w := by
 have hid : id < loc.length := by rw [hS.len]; exact lt_of_get hs
 cases hrel with
 | ref0 _ _ _ a h1 =>
  have : es = [] := List.length_eq_zero_iff.1 (by omega)
  subst this
  exact ⟨m, hS.die id, (.slice tk [] a 0 0 0 0 (fun _ _ => undef) (Nat.le_refl _) (by rcases htk with rfl | rfl; trivial; exact fun h => absurd h (by simp)) (by simp) (fun h => absurd rfl h) (fun i hi => absurd hi (by simp)) (by simp)), .refl _ _ _ _⟩
 | ref _ _ _ _ cap b n h1 h2 h3 h4 =>
  obtain ⟨arr, ty, g1, g2, g3, g4, g5⟩ := hS.obj id _ _ h1 hs
  let m' : Mem := ⟨fun k o => if k = b then (if o < cells.length then arr[o]? else none) else m.im k o, m.bs, m.mp, m.wk, m.base⟩
  have hle : m.le m' := ⟨fun k o v e => by
   show (if k = b then _ else _) = _
   by_cases hk : k = b
   ·subst hk; rw [g5] at e; simp at e
   ·rw [if_neg hk]; exact e, fun _ _ e => e, fun _ _ e => e, fun _ _ _ e => e, rfl⟩
  have hfz : ∀ k o v, Names loc k ∨ w.heap.size ≤ k → m'.im k o = some v → w.frozen? ⟨k, o, none⟩ = false := by
   intro k o v hk e
   have e : (if k = b then (if o < cells.length then arr[o]? else none) else m.im k o) = some v := e
   by_cases hkb : k = b
   ·subst hkb; simp [World.frozen?, g1]
   ·rw [if_neg hkb] at e
    rcases hk with hk | hk
    ·exact hS.ok.fz k o v (hS.ok.own k hk) e
    ·have := hS.im_lt e; omega
  have hS' : SRel m' loc (σ.set id .dead) w := by
   refine ⟨by simp [hS.len], ?_, hS.bs, ?_, (hS.die id).inj, hS.lt, hS.mp, (hS.die id).mpo, hS.ok.to rfl (Nat.le_refl _) (fun _ e => .inl e) rfl (fun k o _ hk => if_neg (fun q => hk ⟨id, .inl (by rw [q]; exact h1)⟩)) (fun _ _ _ => rfl) hfz⟩
   ·intro k o v e
    have e : (if k = b then (if o < cells.length then arr[o]? else none) else m.im k o) = some v := e
    by_cases hk : k = b
    ·subst hk
     rw [if_pos rfl] at e
     split at e
     ·simp [World.cell?, g1, e]
     ·simp at e
    ·rw [if_neg hk] at e; exact hS.im k o v e
   ·intro i l o e1 e2
    rcases get_set e2 with ⟨rfl, rfl⟩ | ⟨hne, e2⟩
    ·cases l <;> trivial
    ·have ho := hS.obj i l o e1 e2
     have hnb : own l o ≠ some b := fun q => hne (hS.inj i id l _ o _ b e1 h1 e2 hs q rfl).symm
     cases o with
     | dead => cases l <;> trivial
     | loop L =>
      cases l with
      | blk k =>
       obtain ⟨r, q1, q2, q3, q4, q5, q6, q7⟩ := ho
       exact ⟨r, q1, q2, q3, q4, q5, q6, ⟨q7.size, fun i => (q7.rel i).mono hle (.refl _ _)⟩⟩
      | nowhere => exact ho.elim
      | tok sz f => exact ho.elim
     | iter es seen =>
      cases l with
      | blk k =>
       rcases ho with ⟨q1, q2⟩ | ⟨q, en, c, sa, st, q1, q2, q3, q4⟩
       ·exact .inl ⟨q1, q2⟩
       ·exact .inr ⟨q, en, c, sa, st, q1, q2, ⟨q3.len, fun i k x e a1 a2 => ⟨(q3.key i k x e a1 a2).1.mono hle (.refl _ _), (q3.key i k x e a1 a2).2.mono hle (.refl _ _)⟩, q3.born, q3.apart⟩, q4⟩
      | nowhere => exact ho.elim
      | tok sz f => exact ho.elim
     | map es =>
      cases l with
      | blk k =>
       obtain ⟨en, c, q1, q2⟩ := ho
       exact ⟨en, c, q1, ⟨q2.len, fun i k x e a1 a2 => ⟨(q2.key i k x e a1 a2).1.mono hle (.refl _ _), (q2.key i k x e a1 a2).2.mono hle (.refl _ _)⟩, q2.born, q2.apart⟩⟩
      | nowhere => exact ho.elim
      | tok sz f => exact ho.elim
     | row cs =>
      cases l with
      | blk k =>
       obtain ⟨arr2, t2, q1, q2, q3, q4, q5⟩ := ho
       refine ⟨arr2, t2, q1, q2, q3, fun j x v a1 a2 => (q4 j x v a1 a2).mono hle (.refl _ _), fun o => ?_⟩
       show (if k = b then _ else _) = _
       rw [if_neg (fun q => hnb (by subst q; rfl))]; exact q5 o
      | nowhere => exact ho
      | tok sz f => exact ho.elim
     | vec sz k cs =>
      cases l with
      | tok sz' f =>
       obtain ⟨q0, q1, q2, q3⟩ := ho
       refine ⟨q0, q1, q2, ?_⟩
       rcases q3 with q3 | ⟨bb, arr2, t2, a1, a2, a3, a4, a5, a6⟩
       ·exact .inl q3
       ·refine .inr ⟨bb, arr2, t2, a1, a2, a3, a4, fun j x v e1 e2 => (a5 j x v e1 e2).mono hle (.refl _ _), fun o => ?_⟩
        show (if bb = b then _ else _) = _
        rw [if_neg (fun q => hnb (by subst q; simp [own, a1]))]; exact a6 o
      | nowhere => exact ho.elim
      | blk k => exact ho.elim
     | grow sz k =>
      cases l with
      | tok sz' f =>
       obtain ⟨q1, q2, q3⟩ := ho
       refine ⟨q1, q2, ?_⟩
       rcases q3 with q3 | ⟨bb, arr2, t2, a1, a2, a3, a4⟩
       ·exact .inl q3
       ·refine .inr ⟨bb, arr2, t2, a1, a2, a3, fun o ho => ?_⟩
        show (if bb = b then _ else _) = _
        rw [if_neg (fun q => hnb (by subst q; simp [own, a1]))]; exact a4 o ho
      | nowhere => exact ho.elim
      | blk k => exact ho.elim
  have hext : Ext n0 m loc w m' loc w := ⟨rfl, rfl, rfl, Nat.le_refl _, Nat.le_refl _, hle, .refl _ _, fun _ h => .inl h, fun _ _ _ _ => rfl, fun _ _ _ e => .inl e⟩
  refine ⟨m', hS', ?_, hext⟩
  have hbd : ∀ i, i < es.length → ∀ j, j < sz → off + (i * sz + j) < cells.length := by
   intro i hi j hj
   have q := (hes i _ (List.getElem?_eq_getElem hi)).2 j hj
   have ql := (hes i _ (List.getElem?_eq_getElem hi)).1
   rw [List.getElem?_eq_getElem (by omega : j < (es[i]).length)] at q
   exact lt_of_get q
  rw [← hlen]
  refine .slice tk es _ cap sz b off (fun i j => arr[off + (i * sz + j)]?.getD undef) (by omega) (by rcases htk with rfl | rfl; trivial; exact fun _ b' o' e => by injection e with e; injection e with e; rw [← e]; exact hS'.blkb h1) (fun e he => ?_) (fun _ => rfl) ?_ ?_
  ·obtain ⟨i, hi, rfl⟩ := List.mem_iff_getElem.1 he
   exact (hes i _ (List.getElem?_eq_getElem hi)).1
  ·intro i hi j hj
   have hb := hbd i hi j hj
   show (if b = b then _ else _) = _
   rw [if_pos rfl, if_pos hb, Array.getElem?_eq_getElem (by omega)]; rfl
  ·intro i e he j x hx
   have hi := lt_of_get he
   obtain ⟨q1, q2⟩ := hes i e he
   have hj : j < sz := by rw [← q1]; exact lt_of_get hx
   have hb := hbd i hi j hj
   have hc := q2 j hj
   rw [hx] at hc
   have ha : arr[off + (i * sz + j)]? = some (arr[off + (i * sz + j)]'(by omega)) := Array.getElem?_eq_getElem _
   simp only [ha, Option.getD_some]
   exact (g4 _ _ _ hc ha).mono hle (.refl _ _)
theorem SRel.setcell {m : Mem} {loc : List Loc} {σ : Store} {w : World} (n0 : Nat) (h : SRel m loc σ w) {W off b : Nat} {cells : List AV} {y : AV} (hW : σ[W]? = some (.row cells)) (hl : loc[W]? = some (.blk b)) (hv : ∀ arr t fz v, w.heap[b]? = some (.cells arr t fz) → arr[off]? = some v → Rel m loc y v) :
  SRel m loc (σ.set W (.row (cells.set off y))) w ∧ Ext n0 m loc w m loc w := by
 obtain ⟨arr, t, e1, e2, e3, e4, e5⟩ := h.obj W _ _ hl hW
 have key := h.turn n0 (m' := m) (w' := w) (l' := .blk b) (.row (cells.set off y)) hl hW (.refl m) (.refl _) (fun _ _ _ => rfl) (Nat.le_refl _) (fun _ _ _ _ => rfl) ?_ ?_ ?_ (fun b' q => .inl q) ?_ rfl rfl rfl (Nat.le_refl _)
 ·rwa [set_same hl] at key
 ·intro k o v hk e'
  refine ⟨h.im k o v e', h.ok.fz k o v ?_ e'⟩
  rcases hk with hk | hk
  ·exact h.ok.own k (own_names hl hk)
  ·exact Nat.le_trans h.ok.low hk
 ·intro k n hn
  obtain ⟨arr', t', fz, q1, q2⟩ := h.bs k n hn
  exact .inr ⟨arr', t', fz, q1, q2⟩
 ·rintro b' ⟨sz', f, k, q, _⟩; simp at q
 ·rw [set_same hl]
  refine ⟨arr, t, e1, e2, by simpa using e3, ?_, e5⟩
  intro j x v hj hvj
  rcases get_set hj with ⟨rfl, rfl⟩ | ⟨_, hj⟩
  ·exact hv _ _ _ v e1 hvj
  ·exact e4 j x v hj hvj
theorem Ghost.freezeRow {n0 nt : Nat} {s : Slots} {σ : Store} (W off : Nat) {id sz o2 len : Nat} {cells cs : List AV} (es : List (List AV)) (hW : σ[W]? = some (.row cells)) (hx : cells[off]? = some (.ref id sz o2 len)) (hid : σ[id]? = some (.row cs)) (hne : id ≠ W) (hlen : es.length = len)
  (hes : ∀ (i : Nat) e, es[i]? = some e → e.length = sz ∧ ∀ j, j < sz → cs[o2 + (i * sz + j)]? = e[j]?) : Ghost n0 nt s σ s ((σ.set id .dead).set W (.row (cells.set off (.slice .unk es)))) := by
 intro m loc w tm hl hS hr
 have hWl := lt_of_get hW
 have hloc : loc[W]? = some (loc[W]'(by rw [hS.len]; exact hWl)) := List.getElem?_eq_getElem _
 have hobj := hS.obj W _ _ hloc hW
 generalize loc[W]'(by rw [hS.len]; exact hWl) = l at hloc hobj
 cases l with
 | nowhere => have e : cells = [] := hobj; subst e; simp at hx
 | tok _ _ => exact hobj.elim
 | blk b =>
  obtain ⟨arr, t, e1, e2, e3, e4, e5⟩ := hobj
  have ho : off < arr.size := Nat.lt_of_lt_of_le (lt_of_get hx) e3
  have ha : arr[off]? = some arr[off] := Array.getElem?_eq_getElem ho
  obtain ⟨m', g1, g2, g3⟩ := hS.freezeV (n0 := n0) .unk (.inl rfl) es (e4 off _ _ hx ha) hid hlen hes
  obtain ⟨h1, h2⟩ := g1.setcell n0 (W := W) (off := off) (y := .slice .unk es) (by rw [List.getElem?_set_ne hne]; exact hW) hloc (by
   intro arr' t' fz v q1 q2
   rw [e1] at q1
   injection q1 with q1
   injection q1 with q1
   subst q1
   rw [ha] at q2
   injection q2 with q2
   subst q2
   exact g2)
  exact ⟨m', loc, h1, ⟨hr.size, fun i => (hr.rel i).mono g3.mem (.refl _ _)⟩, g3⟩
theorem Ghost.rowRow {n0 nt : Nat} {s : Slots} {σ : Store} (W off sz : Nat) {cells : List AV} (hW : σ[W]? = some (.row cells)) (hx : cells[off]? = some (.slice .nil [])) :
  Ghost n0 nt s σ s ((σ ++ [AObj.row []]).set W (.row (cells.set off (.ref σ.length sz 0 0)))) := by
 intro m loc w tm hl hS hr
 obtain ⟨g1, g2⟩ := hS.row0 n0
 have hWl := lt_of_get hW
 have hW2 : W < loc.length := by rw [hS.len]; exact hWl
 have hW' : (σ ++ [AObj.row []])[W]? = some (.row cells) := by rw [List.getElem?_append_left hWl]; exact hW
 have hloc0 : loc[W]? = some (loc[W]) := List.getElem?_eq_getElem _
 have hobj := hS.obj W _ _ hloc0 hW
 generalize loc[W] = l at hloc0 hobj
 cases l with
 | nowhere => have e : cells = [] := hobj; subst e; simp at hx
 | tok _ _ => exact hobj.elim
 | blk b =>
  obtain ⟨arr, t, e1, e2, e3, e4, e5⟩ := hobj
  have hloc : (loc ++ [.nowhere])[W]? = some (.blk b) := by rw [List.getElem?_append_left hW2]; exact hloc0
  obtain ⟨h1, h2⟩ := g1.setcell n0 (W := W) (off := off) (y := .ref σ.length sz 0 0) hW' hloc (by
   intro arr' t' fz v q1 q2
   rw [e1] at q1
   injection q1 with q1
   injection q1 with q1
   subst q1
   have := e4 off _ v hx q2
   cases this with
   | slice _ _ ad cap sz' bb o f hcap htok =>
    obtain ⟨k1, k2⟩ := htok
    subst k1; subst k2
    exact .ref0 _ _ _ _ (by simp [hS.len]))
  exact ⟨m, _, h1, ⟨hr.size, fun i => (hr.rel i).mono (.refl m) (.app _ _ _)⟩, g2.trans h2⟩
end Go.Ahl
namespace Go.Proofs.YtjmmldkailblmaaGreat
open Go.Ahl
section
variable (nx : List Int → List (List Int)) (s0 : List Int)
def gK : Nat → List (List Int)
 | 0 => [s0]
 | k + 1 => match (gK k)[k]? with
  | some s => addAll (gK k) (nx s)
  | none => gK k
end
section
variable {nx : List Int → List (List Int)} {s0 : List Int}
theorem gK_step {k : Nat} {s : List Int} (h : (gK nx s0 k)[k]? = some s) : gK nx s0 (k + 1) = addAll (gK nx s0 k) (nx s) := by rw [gK, h]
theorem gK_pre1 (k : Nat) : Pre (gK nx s0 k) (gK nx s0 (k + 1)) := by
 rw [gK]; split
 ·exact pre_addAll _ _
 ·exact .refl _
theorem gK_nodup : ∀ k, (gK nx s0 k).Nodup
 | 0 => by simp [gK]
 | k + 1 => by
  rw [gK]; split
  ·exact nodup_addAll _ _ (gK_nodup k)
  ·exact gK_nodup k
theorem gK_stop {k : Nat} (h : (gK nx s0 k).length ≤ k) : ∀ j, gK nx s0 (k + j) = gK nx s0 k
 | 0 => rfl
 | j + 1 => by
  have ih := gK_stop h j
  show gK nx s0 (k + j + 1) = _
  rw [gK, ih, List.getElem?_eq_none (by omega)]
theorem gK_rising {n : Nat} (hs : risingB n (-1) s0 = true) (hn : ∀ s, risingB n (-1) s = true → ∀ y ∈ nx s, risingB n (-1) y = true) : ∀ k, ∀ y ∈ gK nx s0 k, risingB n (-1) y = true
 | 0, y, hy => by rw [gK, List.mem_singleton] at hy; subst hy; exact hs
 | k + 1, y, hy => by
  have ih := gK_rising hs hn k
  rw [gK] at hy
  split at hy
  ·rename_i s h
   rcases mem_addAll.1 hy with q | q
   ·exact ih y q
   ·exact hn s (ih s (List.mem_of_getElem? h)) y q
  ·exact ih y hy
theorem gK_len {n : Nat} (hs : risingB n (-1) s0 = true) (hn : ∀ s, risingB n (-1) s = true → ∀ y ∈ nx s, risingB n (-1) y = true) (k : Nat) : (gK nx s0 k).length ≤ 2 ^ n := by
 have := nodup_sub_len (gK_nodup (nx := nx) (s0 := s0) k) (m := statesL n) (fun y hy => by
  obtain ⟨h1, h2⟩ := rising_pw (gK_rising hs hn k y hy)
  exact statesL_all _ y h1 fun v hv => by have := h2 v hv; omega)
 rwa [statesL_len] at this
theorem gK_closed : ∀ (k j : Nat) (s : List Int), j < k → (gK nx s0 k)[j]? = some s → ∀ y ∈ nx s, y ∈ gK nx s0 k
 | k + 1, j, s, hj, hs, y, hy => by
  have hp := gK_pre1 (nx := nx) (s0 := s0) k
  rcases Nat.lt_or_ge j (gK nx s0 k).length with hl | hl
  ·have hs' : (gK nx s0 k)[j]? = some s := by
    obtain ⟨x, hx⟩ := get_ex hl
    have := hp.get hx
    rw [hs] at this; injection this with this; subst this; exact hx
   rcases Nat.lt_or_ge j k with q | q
   ·exact hp.mem (gK_closed k j s q hs' y hy)
   ·have : j = k := by omega
    subst this
    rw [gK_step hs']
    exact mem_addAll.2 (.inr hy)
  ·have hlt := lt_of_get hs
   rw [gK] at hlt
   split at hlt
   ·rename_i h; have := lt_of_get h; omega
   ·omega
theorem gK_zero : ∀ k, (gK nx s0 k)[0]? = some s0
 | 0 => rfl
 | k + 1 => (gK_pre1 k).get (gK_zero k)
end
def c_indexI : CCode := .seq (.ops [oS 4 (.move (.lit (.int .i64 0)))]) (.seq (.seq (.ops [oS 6 (.move (.tmp 0)), oS 7 (.blen 1 (.tmp 6)), oS 8 (.move (.lit (.int .i64 0)))]) (.block 0 (.loop (.seq (.ops [oS 9 (.bin .lss .none (.tmp 8) (.tmp 7))]) (.seq (.cond (.tmp 9) .skip (.exit 0)) (.seq (.block 1 (.seq (.ops [oS 10 (.move (.tmp 8)), oS 5 (.move (.tmp 10))]) (.seq (.ops [oS 11 (.move (.tmp 1)), oS 12 (.move (.tmp 0)), oS 13 (.move (.tmp 5)), oS 14 (.iaddr 1 (.tmp 12) (.tmp 13)), oS 15 (.load none (.tmp 14)), oS 16 (.bin .eql .none (.tmp 11) (.tmp 15))]) (.cond (.tmp 16) (.seq (.ops [oS 17 (.move (.tmp 5)), oS 4 (.move (.tmp 17))]) .ret) .skip)))) (.ops [oS 18 (.bin .add .none (.tmp 8) (.lit (.int .i64 1))), oS 8 (.move (.tmp 18))]))))))) (.seq (.ops [oS 4 (.move (.lit (.int .i64 (-1))))]) .ret))
theorem indexI_spec (l : List Int) (x : Int) (tok : Tok) (σ : Store) (hl : l.length ≤ 140737488355328) :
  ACalls Tryz.prog 82 [.slice tok (l.map Ahl.encI), .int .i64 x] σ (isR (.int .i64 (idxFrom (fun y => x == y) 0 l)) σ) := by
 refine ACalls.intro (rs := [(.tmp 4)]) (by kernel_rfl) { own := [], ghosts := [] } Tryz.func82 (c := Tryz.f82.body.getD .skip) (by kernel_rfl) (by decide) (by rw [show Tryz.f82.ntmps = 19 by kernel_rfl]; exact Nat.le_of_ble_eq_true rfl) (by kernel_rfl) ?_
 intro hσ hids
 rw [show comp Tryz.prog { own := [], ghosts := [] } (Tryz.f82.body.getD .skip) = c_indexI by kernel_rfl, show Tryz.f82.ntmps = 19 by kernel_rfl]
 unfold c_indexI
 have hil : Ids σ.length (.slice tok (l.map Ahl.encI)) := hids _ (by simp)
 simp only [go_sem, simprocAttr]
 refine wpc_while (fun i => [(0, .slice tok (l.map Ahl.encI)), (1, .int .i64 x), (7, .int .i64 l.length), (8, .int .i64 (i : Nat))]) (fun _ => σ) (fun i => i ≤ l.length ∧ idxFrom (fun y => x == y) 0 l = idxFrom (fun y => x == y) i (l.drop i)) (fun i => l.length - i) 0 ⟨Nat.zero_le _, rfl⟩ (by (try dsimp only); exact ghA) ?_
 rintro i ⟨hi, hv⟩ K hK hE hR
 by_cases h : i < l.length
 ·obtain ⟨y, hx⟩ := get_ex h; have hlt : ((i : Int) < (l.length : Int)) := (by omega); have hw := wrapS (i := i) (by omega)
  rw [drop_cons hx, idxFrom] at hv
  cases h1 : (x == y)
  ·simp only [go_sem, simprocAttr, hlt, hx, Ahl.encI, h1]
   rw [h1, if_neg (by simp)] at hv
   refine hK _ _ (i + 1) (⟨by omega, by rw [hv]; norm_cast⟩) om ?_; (try dsimp only); (try simp only [ hw]); exact ghA
  ·simp only [go_sem, simprocAttr, hlt, hx, Ahl.encI, h1, hR]
   rw [h1, if_pos rfl] at hv
   exact rt (.int .i64 i) ⟨by rw [hv], rfl⟩
 ·have hlt : ¬ ((i : Int) < (l.length : Int)) := by omega
  rw [drop_len h, idxFrom] at hv
  simp only [go_sem, simprocAttr, hlt, hE]
  exact rt (.int .i64 (-1)) ⟨by rw [hv], rfl⟩
theorem any_containsI (l : List Int) (x : Int) : l.any (fun y => x == y) = l.contains x := by
 induction l with
 | nil => rfl
 | cons y l ih => rw [List.any_cons, List.contains_cons, ih]
def c_contI : CCode := .seq (.ops [oS 4 (.move (.lit (.bool false)))]) (.seq (.ops [oS 5 (.move (.tmp 0)), oS 6 (.move (.tmp 1)), oS 7 (.call (.lit (.func 82 [])) [.tmp 5, .tmp 6]), oS 8 (.bin .geq .none (.tmp 7) (.lit (.int .i64 0))), oS 4 (.move (.tmp 8))]) .ret)
theorem contI_spec (l : List Int) (x : Int) (tok : Tok) (σ : Store) (hl : l.length ≤ 140737488355328) :
  ACalls Tryz.prog 43 [.slice tok (l.map Ahl.encI), .int .i64 x] σ (isR (.bool (l.contains x)) σ) := by
 refine ACalls.intro (rs := [(.tmp 4)]) (by kernel_rfl) { own := [], ghosts := [] } Tryz.func43 (c := Tryz.f43.body.getD .skip) (by kernel_rfl) (by decide) (by rw [show Tryz.f43.ntmps = 9 by kernel_rfl]; exact Nat.le_of_ble_eq_true rfl) (by kernel_rfl) ?_
 intro hσ hids
 rw [show comp Tryz.prog { own := [], ghosts := [] } (Tryz.f43.body.getD .skip) = c_contI by kernel_rfl, show Tryz.f43.ntmps = 9 by kernel_rfl]
 unfold c_contI
 simp only [go_sem, simprocAttr]
 refine (indexI_spec l x tok _ hl).is ?_
 simp only [go_sem, simprocAttr, idxFrom_ge _ l 0 (Int.le_refl _), any_containsI]
 first | exact rtw (v := .bool _) wkS ⟨rfl, rfl⟩ | exact rtw0 (v := .bool _) wkS ⟨rfl, rfl⟩
def entB (t : FTask) (g : List (List Int)) (p : List FEnt) (i : Nat) (x : FEnt) : Bool :=
 risingB t.facts.length (-1) x.1 && (decide (0 ≤ x.2) && (decide (x.2 < (g.length : Int)) && ((decide (i = 0) || decide (cmpInts (p.getD (i - 1) ([], 0)).1 x.1 < 0)) && (appB t (grp g x.2.toNat) x.1 && !condHolds x.1 t.goal))))
def polB (t : FTask) (g : List (List Int)) (p : List FEnt) : Bool := (List.range p.length).all fun i => entB t g p i (p.getD i ([], 0))
def polG (p : List FEnt) (s : List Int) : Option Int := (p.find? fun x => x.1 == s).map (·.2)
def nxP (t : FTask) (g : List (List Int)) (p : List FEnt) (s : List Int) : List (List Int) := match polG p s with
 | some n => outsL t (grp g n.toNat) s
 | none => []
def chP (t : FTask) (g : List (List Int)) (p : List FEnt) (ss : List (List Int)) (s : List Int) : List (Nat × List Nat) := match polG p s with
 | some n => [(n.toNat, (outsL t (grp g n.toNat) s).map ss.idxOf)]
 | none => []
def ssP (t : FTask) (g : List (List Int)) (p : List FEnt) : List (List Int) := gK (nxP t g p) t.init (2 ^ t.facts.length)
def wldP (t : FTask) (g : List (List Int)) (p : List FEnt) : Wld := ⟨ssP t g p, (ssP t g p).map (chP t g p (ssP t g p)), (ssP t g p).map fun s => condHolds s t.goal⟩
def weakB (t : FTask) (ss : List (List Int)) : Bool := ss.any fun s => condHolds s t.goal
def shutB (t : FTask) (p : List FEnt) (ss : List (List Int)) : Bool := ss.all fun s => (polG p s).isSome || condHolds s t.goal
def badB (w : Wld) : Bool := (List.range w.ss.length).any fun i => !goalB w i && decide (nearF w (fun _ => true) i < 0)
def kindOf (w : Wld) (shut weak : Bool) : Int :=
 if shut then (if (dIter w w.ss.length).contains (-1) then (if badB w then (if weak then 1 else 0) else 2) else 3) else (if weak then 1 else 0)
def kindN (t : FTask) (g : List (List Int)) (p : List FEnt) : Int := kindOf (wldP t g p) (shutB t p (wldP t g p).ss) (weakB t (wldP t g p).ss)
def KindR (t : FTask) (g : List (List Int)) (p : List FEnt) : AV :=
 if askE t g = 0 then (if polB t g p then .tuple [.int .i64 (kindN t g p), .int .i64 0] else .tuple [.int .i64 0, .int .i64 161]) else .tuple [.int .i64 0, .int .i64 (askE t g)]
theorem entB_get {t : FTask} {g : List (List Int)} {p : List FEnt} (h : polB t g p = true) {i : Nat} {x : FEnt} (hx : p[i]? = some x) : entB t g p i x = true := by
 have := List.all_eq_true.1 h i (List.mem_range.2 (lt_of_get hx))
 rwa [List.getD_eq_getElem?_getD, hx] at this
theorem entB_parts {t : FTask} {g : List (List Int)} {p : List FEnt} {i : Nat} {x : FEnt} (h : entB t g p i x = true) : risingB t.facts.length (-1) x.1 = true ∧ 0 ≤ x.2 ∧ x.2.toNat < g.length ∧ (i = 0 ∨ cmpInts (p.getD (i - 1) ([], 0)).1 x.1 < 0) ∧ appB t (grp g x.2.toNat) x.1 = true ∧ condHolds x.1 t.goal = false := by
 unfold entB at h
 simp only [Bool.and_eq_true, Bool.or_eq_true, decide_eq_true_eq, Bool.not_eq_true'] at h
 obtain ⟨h1, h2, h3, h4, h5, h6⟩ := h
 exact ⟨h1, h2, by omega, h4, h5, h6⟩
theorem polG_mem {p : List FEnt} {s : List Int} {n : Int} (h : polG p s = some n) : (s, n) ∈ p := by
 unfold polG at h
 obtain ⟨x, hx, rfl⟩ := Option.map_eq_some_iff.1 h
 have h1 := List.find?_some hx
 have h2 := List.mem_of_find?_eq_some hx
 have : x.1 = s := by simpa using h1
 rw [← this]; exact h2
theorem polG_ok {t : FTask} {g : List (List Int)} {p : List FEnt} (h : polB t g p = true) {s : List Int} {n : Int} (hn : polG p s = some n) : 0 ≤ n ∧ n.toNat < g.length ∧ risingB t.facts.length (-1) s = true ∧ appB t (grp g n.toNat) s = true ∧ condHolds s t.goal = false := by
 obtain ⟨i, hi⟩ := List.getElem?_of_mem (polG_mem hn)
 obtain ⟨h1, h2, h3, _, h5, h6⟩ := entB_parts (entB_get h hi)
 exact ⟨h2, h3, h1, h5, h6⟩
theorem nxP_rising {t : FTask} {g : List (List Int)} {p : List FEnt} (he : EOk t) (hc : choicesB t g = true) (h : polB t g p = true) : ∀ s, risingB t.facts.length (-1) s = true → ∀ y ∈ nxP t g p s, risingB t.facts.length (-1) y = true := by
 intro s hs y hy
 unfold nxP at hy
 split at hy
 ·rename_i n hn
  obtain ⟨h1, h2, _⟩ := polG_ok h hn
  exact outs_rising he hs (grp_ok hc h2).2.2.1 y hy
 ·simp at hy
def ofE (x : FEnt) : AV × AV := (.str (keyP x.1), .int .i64 x.2)
theorem ids_ofE (n : Nat) (l : List FEnt) : IdsO n (.map (l.map ofE)) := by
 intro j a b h
 rw [List.getElem?_map] at h
 obtain ⟨x, _, hx⟩ := Option.map_eq_some_iff.1 h
 simp only [ofE, Prod.mk.injEq] at hx
 obtain ⟨rfl, rfl⟩ := hx
 exact ⟨.str _, .int _ _⟩
theorem find_of (x : List Int) : ∀ (l : List FEnt) (k : Nat), (∀ y ∈ l, keyP y.1 = keyP x → y.1 = x) → ∃ i : Nat, aFind (.str (keyP x)) (l.map ofE) k = some ((polG l x).map fun n => (i, .int .i64 n))
 | [], k, _ => ⟨0, by simp [aFind, polG]⟩
 | y :: l, k, h => by
  rw [List.map_cons, ofE, aFind]
  by_cases e : y.1 = x
  ·refine ⟨k, ?_⟩
   have : keyEq (.str (keyP x)) (.str (keyP y.1)) = some true := by rw [e]; simp [keyEq]
   rw [this]
   simp [polG, e]
  ·obtain ⟨i, hi⟩ := find_of x l (k + 1) fun z hz => h z (List.mem_cons_of_mem _ hz)
   refine ⟨i, ?_⟩
   have hk : ¬ keyP y.1 = keyP x := fun q => e (h y List.mem_cons_self q)
   have : keyEq (.str (keyP x)) (.str (keyP y.1)) = some false := by
    simp only [keyEq, Option.some.injEq, beq_eq_false_iff_ne, ne_eq]
    exact fun q => hk q.symm
   rw [this]
   simp only
   rw [hi]
   unfold polG
   rw [List.find?_cons_of_neg (by simpa using e)]
theorem polG_none {p : List FEnt} {s : List Int} (h : ∀ x ∈ p, x.1 ≠ s) : polG p s = none := by
 unfold polG
 rw [List.find?_eq_none.2 (fun x hx => by simpa using h x hx)]; rfl
theorem pol_rise {t : FTask} {g : List (List Int)} {p : List FEnt} : ∀ (i : Nat), (∀ j, j < i → ∀ x, p[j]? = some x → entB t g p j x = true) → (p.take i).Pairwise fun x y => cmpInts x.1 y.1 < 0
 | 0, _ => by simp
 | i + 1, h => by
  have ih := pol_rise i fun j hj => h j (by omega)
  rcases Nat.lt_or_ge i p.length with hi | hi
  ·obtain ⟨x, hx⟩ := get_ex hi
   rw [take_succ' hx, List.pairwise_append]
   refine ⟨ih, by simp, fun y hy z hz => ?_⟩
   rw [List.mem_singleton] at hz; subst hz
   have h1 := (entB_parts (h i (by omega) z hx)).2.2.2.1
   obtain ⟨j, hj, rfl⟩ := List.getElem_of_mem hy
   have hj2 : j < i := by rw [List.length_take] at hj; omega
   have h1 := h1.resolve_left (by omega)
   obtain ⟨u, hu⟩ := get_ex (show i - 1 < p.length by omega)
   rw [List.getD_eq_getElem?_getD, hu] at h1
   simp only [Option.getD_some] at h1
   by_cases e : j = i - 1
   ·subst e
    have : (p.take i)[i - 1] = u := by
     rw [List.getElem_take]; rw [List.getElem?_eq_getElem (by omega)] at hu; injection hu
    rw [this]; exact h1
   ·have hpw := List.pairwise_iff_getElem.1 ih j (i - 1) hj (by rw [List.length_take]; omega) (by omega)
    have : (p.take i)[i - 1]'(by rw [List.length_take]; omega) = u := by
     rw [List.getElem_take]; rw [List.getElem?_eq_getElem (by omega)] at hu; injection hu
    rw [this] at hpw
    exact cmpInts_trans hpw h1
  ·rw [List.take_of_length_le (by omega)]; rwa [List.take_of_length_le (by omega)] at ih
end Go.Proofs.YtjmmldkailblmaaGreat
