/- Contracts of the given program's functions, and an abstract layer over the model; no condition. -/
import Derived.Test.YtcjgoomlaojljaaGreatBase5
set_option maxRecDepth 20000
set_option linter.unusedVariables false
set_option linter.unusedSimpArgs false
namespace Go.Proofs.YtcjgoomlaojljaaGreat
open Go.Ahl
theorem sF_ids {σ : Store} (hσ : IdsS σ.length σ) (t : FTask) (ns : List ND) (Q : List It) : IdsS (sF σ t ns Q).length (sF σ t ns Q) :=
 idsS_app _ hσ (all_cons' (idsO_row (ids_encTask t)) (all_cons' (ids_mapN _ _) (all_cons' (idsO_row (idsL_cons (.ref _ _ _ _ (by simp)) idsL_nil)) (all_cons' (ids_nR _) (all_cons' (ids_qR _) all_nil')))))
theorem sG_ids {σ : Store} (hσ : IdsS σ.length σ) (t : FTask) (x : It) (ns : List ND) (Q : List It) : IdsS (sG σ t x ns Q).length (sG σ t x ns Q) :=
 idsS_app _ hσ (all_cons' (idsO_row (ids_encTask t)) (all_cons' (ids_mapN _ _) (all_cons' (idsO_row (idsL_cons (.ref _ _ _ _ (by simp)) idsL_nil)) (all_cons' (idsO_row (idsL_cons (.int _ _) (idsL_cons (.int _ _) idsL_nil))) (all_cons' (ids_nR _) (all_cons' (ids_qR _) all_nil'))))))
structure FI (t : FTask) (b : Bel) (s : FS) (S : List Nat) : Prop where
 it : ∃ k, iterF t b k = some s
 inv : DInv t.actions.length (stB t) (cN t) (goalF t) b (Rch t b) 100000 (fun _ => t.actions.length) s.ns s.Q s.best S
 heap : HeapOk s.Q s.Q.length
 few : s.ns.length ≤ 20000
 fewQ : s.Q.length ≤ 1 + t.actions.length * S.length
theorem FI.start {t : FTask} {b : Bel} (hb : BelOk t.facts.length b) : FI t b (startF b) [] where
 it := ⟨0, rfl⟩
 inv := DInv.start ⟨hb, [], 0, rfl⟩
 heap := heap_one _
 few := by simp [startF]
 fewQ := by simp [startF]
section
variable {nt t u z id len : Nat} {s : Slots} {σ S : Store} {R : Cont} {x y : AV} {cells : List AV} {es : List (List AV)}
theorem retRow3 (ht : S.take σ.length = σ) (hs : lk s t = .ref id 1 0 len) (hid : S[id]? = some (.row cells)) (hlen : es.length = len) (hge : σ.length ≤ id) (htu : (t == u) = false) (htz : (t == z) = false) (huz : (u == z) = false) (hu : lk s u = x) (hz : lk s z = y) (hx : Ids σ.length x) (hy : Ids σ.length y) (hi : Ids σ.length (.slice .fresh es))
  (hes : ∀ (i : Nat) e, es[i]? = some e → e.length = 1 ∧ ∀ j, j < 1 → cells[0 + (i * 1 + j)]? = e[j]?) (h : R (.tuple [.slice .fresh es, x, y]) σ) (hσ : IdsS σ.length σ := by assumption) :
  bodyK [.tmp t, .tmp u, .tmp z] σ.length nt R .ret s S := by
 refine ret_gh3 (v := .slice .fresh es) (v1 := x) (v2 := y) (σ' := σ) ?_ htu htz huz (Nat.le_refl _) hσ hi hx hy h
 refine Ghost.trans (Ghost.freezeF t es hs hid hlen hes) ?_
 have ht' : (S.set id .dead).take σ.length = σ := by rw [List.take_set_of_le hge, ht]
 have := Ghost.cut (n0 := σ.length) (nt := nt) (σ := S.set id .dead) (s := (t, .slice .fresh es) :: s) [(t, .slice .fresh es), (u, x), (z, y)] σ.length (Nat.le_refl _) ⟨⟨by simp only [Ahl.lk, beq_self_eq_true, cond_true]; exact Wk.refl _, hi⟩, ⟨by simp only [Ahl.lk, htu, cond_false]; rw [hu]; exact Wk.refl _, hx⟩, ⟨by simp only [Ahl.lk, htz, cond_false]; rw [hz]; exact Wk.refl _, hy⟩, trivial⟩ (by rw [ht']; exact hσ)
 rwa [ht'] at this
end
def e_bfind_0 : List COp := [oS 52 (.faddr 1 (.tmp 12)), oA 53 (.load none (.tmp 52)) [0], oS 54 (.move (.tmp 9)), oS 55 (.faddr 0 (.tmp 12)), oA 56 (.load none (.tmp 55)) [3], oA 57 (.iaddr 4 (.tmp 54) (.tmp 56)) [2, 4], oA 58 (.faddr 3 (.tmp 57)) [5], oA 59 (.load none (.tmp 58)) [6], oA 60 (.bin .gtr .none (.tmp 53) (.tmp 59)) [1, 7]]
def d_bfind_0 : List COp := e_bfind_0
theorem dr_bfind_0 (P : Program) (nt n0 : Nat) (Q : Post) (s : Slots) (σ : Store) : wpc P nt n0 (.draw d_bfind_0) Q s σ = aOpsD P nt e_bfind_0 (Q .normal) s σ := wpc_draw _ (by decide)
def e_bfind_1 : List COp := [oS 92 (.faddr 1 (.tmp 12)), oA 93 (.load none (.tmp 92)) [0], oS 94 (.faddr 3 (.tmp 2)), oA 95 (.load none (.tmp 94)) [2], oS 96 (.move (.tmp 15)), oA 97 (.iaddr 4 (.tmp 95) (.tmp 96)) [3, 4], oA 98 (.faddr 1 (.tmp 97)) [5], oA 99 (.load none (.tmp 98)) [6], oA 100 (.bin .add .none (.tmp 93) (.tmp 99)) [1, 7], oA 18 (.move (.tmp 100)) [8, 0, 1, 2, 3, 4, 5, 6, 7, 8]]
def d_bfind_1 : List COp := e_bfind_1
theorem dr_bfind_1 (P : Program) (nt n0 : Nat) (Q : Post) (s : Slots) (σ : Store) : wpc P nt n0 (.draw d_bfind_1) Q s σ = aOpsD P nt e_bfind_1 (Q .normal) s σ := wpc_draw _ (by decide)
def e_bfind_2 : List COp := [oS 188 (.move (.tmp 22)), oS 189 (.move (.tmp 9)), oS 190 (.move (.tmp 11)), oA 191 (.iaddr 4 (.tmp 189) (.tmp 190)) [1, 2], oA 192 (.faddr 3 (.tmp 191)) [3], oA 193 (.load none (.tmp 192)) [4], oA 4 (.move (.tmp 188)) [0, 0], oA 5 (.move (.tmp 193)) [5, 6, 0, 1, 2, 3, 4, 5, 6], oA 6 (.move (.lit (.int .i64 0))) [7, 0, 1, 2, 3, 4, 5, 6, 7]]
def d_bfind_2 : List COp := e_bfind_2
theorem dr_bfind_2 (P : Program) (nt n0 : Nat) (Q : Post) (s : Slots) (σ : Store) : wpc P nt n0 (.draw d_bfind_2) Q s σ = aOpsD P nt e_bfind_2 (Q .normal) s σ := wpc_draw _ (by decide)
def r_bfind_1 : CCode := .ghost (.ops [oS 153 (.move (.tmp 10)), oS 154 (.mkif 92 (.tmp 153)), oS 155 (.move (.tmp 20)), oS 156 (.move (.tmp 18)), oS 157 (.build [.int .i64 0, .int .i64 0] [(0, 1, .tmp 155), (1, 1, .tmp 156)]), oS 158 (.mkif 94 (.tmp 157)), oS 159 (.call (.lit (.func 52 [])) [.tmp 154, .tmp 158])])
def r_bfind_0 : CCode := .seq (.ghost (.ops [oS 77 (.faddr 3 (.tmp 2)), oS 78 (.load none (.tmp 77)), oS 79 (.blen 1 (.tmp 78)), oS 80 (.move (.lit (.int .i64 0)))])) (.block 2 (.loop (.seq (.ops [oS 81 (.bin .lss .none (.tmp 80) (.tmp 79))]) (.seq (.cond (.tmp 81) .skip (.exit 2)) (.seq (.block 3 (.seq (.ops [oS 82 (.move (.tmp 80)), oS 15 (.move (.tmp 82))]) (.seq (.ops [oS 84 (.load (some 4) (.tmp 2)), oS 85 (.move (.tmp 14)), oS 86 (.move (.tmp 15)), oS 87 (.call (.lit (.func 45 [])) [.tmp 84, .tmp 85, .tmp 86]), oS 83 (.move (.tmp 87)), oS 88 (.extract (.tmp 83) 0), oS 89 (.extract (.tmp 83) 1), oS 16 (.move (.tmp 88)), oS 17 (.move (.tmp 89))]) (.seq (.seq (.ops [oS 90 (.move (.tmp 17)), oS 91 (.un .not (.tmp 90))]) (.cond (.tmp 91) (.exit 3) .skip)) (.seq (.ghost (.draw d_bfind_1)) (.seq (.ops [oS 101 (.move (.tmp 16)), oS 102 (.call (.lit (.func 49 [])) [.tmp 101]), oS 19 (.move (.tmp 102))]) (.seq (.ops [oS 104 (.move (.tmp 8)), oS 105 (.move (.tmp 19)), oS 106 (.lookup true (.int .i64 0) (.tmp 104) (.tmp 105) true), oS 103 (.move (.tmp 106)), oS 107 (.extract (.tmp 103) 0), oS 108 (.extract (.tmp 103) 1), oS 20 (.move (.tmp 107)), oS 21 (.move (.tmp 108))]) (.seq (.block 4 (.seq (.ops [oS 126 (.move (.tmp 21)), oS 127 (.un .not (.tmp 126)), oS 125 (.move (.tmp 127))]) (.cond (.tmp 125) (.seq (.ops [oS 128 (.move (.tmp 9)), oS 129 (.blen 1 (.tmp 128)), oS 20 (.move (.tmp 129))]) (.seq (.ops [oS 130 (.move (.tmp 8)), oS 131 (.move (.tmp 19)), oS 132 (.move (.tmp 20)), oN (.mapup true (.tmp 130) (.tmp 131) (.tmp 132))]) (.seq (.ops [oS 133 (.move (.tmp 9)), oS 134 (.move (.tmp 16)), oS 135 (.faddr 0 (.tmp 12)), oS 136 (.load none (.tmp 135)), oS 137 (.move (.tmp 15)), oS 138 (.move (.tmp 18)), oS 139 (.build [.slice .nil [], .int .i64 0, .int .i64 0, .int .i64 0] [(0, 1, .tmp 134), (1, 1, .tmp 136), (2, 1, .tmp 137), (3, 1, .tmp 138)]), oS 140 (.bsliceC 4 [.tmp 139]), oS 141 (.bappend 4 48 (.tmp 133) (.tmp 140) true), oS 9 (.move (.tmp 141))]) (.seq (.ops [oS 142 (.move (.tmp 9)), oS 143 (.blen 1 (.tmp 142)), oS 144 (.bin .gtr .none (.tmp 143) (.lit (.int .i64 20000)))]) (.cond (.tmp 144) (.seq (.ops [oS 4 (.move (.lit (.slice .nil []))), oS 5 (.move (.lit (.int .i64 0))), oS 6 (.move (.lit (.int .i64 3)))]) .ret) .skip))))) (.seq (.ops [oS 146 (.move (.tmp 9)), oS 147 (.move (.tmp 20)), oS 148 (.iaddr 4 (.tmp 146) (.tmp 147)), oS 149 (.faddr 3 (.tmp 148)), oS 150 (.load none (.tmp 149)), oS 151 (.move (.tmp 18)), oS 152 (.bin .leq .none (.tmp 150) (.tmp 151)), oS 145 (.move (.tmp 152))]) (.cond (.tmp 145) (.exit 3) (.ops [oS 109 (.move (.tmp 9)), oS 110 (.move (.tmp 20)), oS 111 (.move (.tmp 9)), oS 112 (.move (.tmp 20)), oS 113 (.move (.tmp 9)), oS 114 (.move (.tmp 20)), oS 115 (.faddr 0 (.tmp 12)), oS 116 (.load none (.tmp 115)), oS 117 (.move (.tmp 15)), oS 118 (.move (.tmp 18)), oS 119 (.iaddr 4 (.tmp 109) (.tmp 110)), oS 120 (.faddr 1 (.tmp 119)), oN (.store 1 (.tmp 120) (.tmp 116)), oS 121 (.iaddr 4 (.tmp 111) (.tmp 112)), oS 122 (.faddr 2 (.tmp 121)), oN (.store 1 (.tmp 122) (.tmp 117)), oS 123 (.iaddr 4 (.tmp 113) (.tmp 114)), oS 124 (.faddr 3 (.tmp 123)), oN (.store 1 (.tmp 124) (.tmp 118))])))))) r_bfind_1)))))))) (.ops [oS 160 (.bin .add .none (.tmp 80) (.lit (.int .i64 1))), oS 80 (.move (.tmp 160))]))))))
attribute [local go_sem] dr_bfind_0 e_bfind_0 dr_bfind_1 e_bfind_1 dr_bfind_2 e_bfind_2
def c_bfind : CCode := .seq (.ops [oS 2 (.box (.tmp 0)), oS 4 (.move (.lit (.slice .nil []))), oS 5 (.move (.lit (.int .i64 0))), oS 6 (.move (.lit (.int .i64 0)))]) (.seq (.seq (.ops [oS 24 (.load (some 4) (.tmp 2)), oS 25 (.move (.tmp 1)), oS 26 (.call (.lit (.func 36 [])) [.tmp 24, .tmp 25]), oS 7 (.move (.tmp 26))]) (.seq (.ops [oS 27 (.move (.tmp 7)), oS 28 (.bin .neq .none (.tmp 27) (.lit (.int .i64 0)))]) (.cond (.tmp 28) (.seq (.ops [oS 29 (.move (.tmp 7)), oS 4 (.move (.lit (.slice .nil []))), oS 5 (.move (.lit (.int .i64 0))), oS 6 (.move (.tmp 29))]) .ret) .skip))) (.seq (.ops [oS 30 .mkmap, oS 31 (.move (.tmp 1)), oS 32 (.call (.lit (.func 49 [])) [.tmp 31]), oN (.mapup true (.tmp 30) (.tmp 32) (.lit (.int .i64 0))), oS 33 (.move (.tmp 30)), oS 8 (.move (.tmp 33))]) (.seq (.ops [oS 34 (.move (.tmp 1)), oS 35 (.build [.slice .nil [], .int .i64 0, .int .i64 0, .int .i64 0] [(0, 1, .tmp 34), (1, 1, .lit (.int .i64 (-1))), (2, 1, .lit (.int .i64 0)), (3, 1, .lit (.int .i64 0))]), oS 36 (.bslice 4 [.tmp 35] true), oS 9 (.move (.tmp 36))]) (.seq (.ops [oS 37 (.build [.int .i64 0, .int .i64 0] [(0, 1, .lit (.int .i64 0)), (1, 1, .lit (.int .i64 0))]), oS 38 (.bslice 2 [.tmp 37] true), oS 39 (.box (.tmp 38)), oS 10 (.move (.tmp 39))]) (.seq (.ops [oS 11 (.move (.lit (.int .i64 (-1))))]) (.seq (.block 0 (.loop (.seq (.seq (.ops [oS 40 (.move (.tmp 10)), oS 41 (.nilck (.tmp 40)), oS 42 (.load none (.tmp 41)), oS 43 (.call (.lit (.func 50 [])) [.tmp 42]), oS 44 (.bin .gtr .none (.tmp 43) (.lit (.int .i64 0)))]) (.cond (.tmp 44) .skip (.exit 0))) (.block 1 (.seq (.ops [oS 46 (.move (.tmp 10)), oS 47 (.mkif 92 (.tmp 46)), oS 48 (.call (.lit (.func 51 [])) [.tmp 47]), oS 49 (.asrt 94 (.agg [.int .i64 0, .int .i64 0]) (.tmp 48) true), oS 45 (.move (.tmp 49)), oS 50 (.extract (.tmp 45) 0), oS 51 (.extract (.tmp 45) 1), oS 12 (.alloc (.agg [.int .i64 0, .int .i64 0])), oN (.store 2 (.tmp 12) (.tmp 50)), oS 13 (.move (.tmp 51))]) (.seq (.seq (.draw d_bfind_0) (.cond (.tmp 60) (.exit 1) .skip)) (.seq (.ops [oS 61 (.move (.tmp 9)), oS 62 (.faddr 0 (.tmp 12)), oS 63 (.load none (.tmp 62)), oS 64 (.iaddr 4 (.tmp 61) (.tmp 63)), oS 65 (.faddr 0 (.tmp 64)), oS 66 (.load none (.tmp 65)), oS 14 (.move (.tmp 66))]) (.seq (.seq (.ops [oS 67 (.move (.tmp 11)), oS 68 (.bin .lss .none (.tmp 67) (.lit (.int .i64 0))), oS 69 (.move (.tmp 68)), oG 70 69 true (.move (.tmp 14)), oG 71 69 true (.faddr 2 (.tmp 2)), oG 72 69 true (.load none (.tmp 71)), oG 73 69 true (.call (.lit (.func 37 [])) [.tmp 70, .tmp 72]), oS 74 (.pick (.tmp 69) (.tmp 73) (.lit (.bool false)))]) (.cond (.tmp 74) (.ops [oS 75 (.faddr 0 (.tmp 12)), oS 76 (.load none (.tmp 75)), oS 11 (.move (.tmp 76))]) .skip)) r_bfind_0)))))))) (.seq (.seq (.ops [oS 161 (.move (.tmp 11)), oS 162 (.bin .lss .none (.tmp 161) (.lit (.int .i64 0)))]) (.cond (.tmp 162) (.seq (.ops [oS 4 (.move (.lit (.slice .nil []))), oS 5 (.move (.lit (.int .i64 0))), oS 6 (.move (.lit (.int .i64 4)))]) .ret) .skip)) (.seq (.ops [oS 22 (.move (.lit (.slice .nil [])))]) (.seq (.seq (.ops [oS 163 (.move (.tmp 11)), oS 23 (.move (.tmp 163))]) (.block 5 (.loop (.seq (.seq (.ops [oS 164 (.move (.tmp 9)), oS 165 (.move (.tmp 23)), oS 166 (.iaddr 4 (.tmp 164) (.tmp 165)), oS 167 (.faddr 1 (.tmp 166)), oS 168 (.load none (.tmp 167)), oS 169 (.bin .geq .none (.tmp 168) (.lit (.int .i64 0)))]) (.cond (.tmp 169) .skip (.exit 5))) (.seq (.block 6 (.ops [oS 175 (.move (.tmp 22)), oS 176 (.move (.tmp 9)), oS 177 (.move (.tmp 23)), oS 178 (.iaddr 4 (.tmp 176) (.tmp 177)), oS 179 (.faddr 2 (.tmp 178)), oS 180 (.load none (.tmp 179)), oS 181 (.bsliceC 1 [.tmp 180]), oS 182 (.bappend 1 8 (.tmp 175) (.tmp 181) true), oS 22 (.move (.tmp 182))])) (.ops [oS 170 (.move (.tmp 9)), oS 171 (.move (.tmp 23)), oS 172 (.iaddr 4 (.tmp 170) (.tmp 171)), oS 173 (.faddr 1 (.tmp 172)), oS 174 (.load none (.tmp 173)), oS 23 (.move (.tmp 174))])))))) (.seq (.seq (.ops [oS 183 (.move (.tmp 22)), oS 184 (.blen 1 (.tmp 183)), oS 185 (.bin .gtr .none (.tmp 184) (.lit (.int .i64 10000)))]) (.cond (.tmp 185) (.seq (.ops [oS 4 (.move (.lit (.slice .nil []))), oS 5 (.move (.lit (.int .i64 0))), oS 6 (.move (.lit (.int .i64 3)))]) .ret) .skip)) (.seq (.ops [oS 186 (.move (.tmp 22)), oS 187 (.call (.lit (.func 53 [])) [.tmp 186])]) (.seq (.draw d_bfind_2) .ret))))))))))))
set_option maxHeartbeats 4000000 in
theorem bfind_spec (t : FTask) (b : Bel) (tok : Tok) (σ : Store) (ht : TB t) (hb : LT b) :
  ACalls Tryz.prog 26 [.agg (encTask t), .slice tok (b.map encL)] σ fun r σ' => FindOut t b r ∧ σ' = σ := by
 refine ACalls.intro (rs := [(.tmp 4), (.tmp 5), (.tmp 6)]) (by kernel_rfl) { own := [(5, 2), (6, 1), (26, 8), (38, 7)], ghosts := [14, 19, 30], cold := [(26, 7), (38, 6)] } Tryz.func26 (c := Tryz.f26.body.getD .skip) (by kernel_rfl) (by decide) (by rw [show Tryz.f26.ntmps = 194 by kernel_rfl]; exact Nat.le_of_ble_eq_true rfl) (by kernel_rfl) ?_
 intro hσ hids
 rw [show comp Tryz.prog { own := [(5, 2), (6, 1), (26, 8), (38, 7)], ghosts := [14, 19, 30], cold := [(26, 7), (38, 6)] } (Tryz.f26.body.getD .skip) = c_bfind by kernel_rfl, show Tryz.f26.ntmps = 194 by kernel_rfl]
 unfold c_bfind
 have hil : Ids σ.length (.slice tok (b.map encL)) := hids _ (by simp)
 simp only [go_sem, simprocAttr, encTask]
 refine (basks_spec t b tok _ ht hb).is ?_
 by_cases h0 : ¬ bErr t b = 0
 ·have h1 : (bErr t b != 0) = true := by simpa using h0
  simp only [go_sem, simprocAttr, h1]
  exact ret3 (.slice .nil []) (.int .i64 0) (.int .i64 (bErr t b)) List.take_left ⟨.inl ⟨h0, rfl⟩, rfl⟩
 replace h0 := Decidable.not_not.1 h0
 obtain ⟨hv, hbel⟩ := bErr_zero h0
 have hVT := valid_VT ht hv
 have hbo := bel_ok hbel
 rw [h0]
 simp only [go_sem, simprocAttr, encTask]
 refine (bkey_spec t.facts.length b tok _ hVT.nf hbo).is ?_
 have hf0 : aFind (.str (keyB b)) [] 0 = some none := rfl
 simp only [go_sem, simprocAttr, encTask, hf0]
 have hC : ∀ a, a < t.actions.length → 0 ≤ cN t a ∧ cN t a ≤ 100000 := fun a ha => by
  obtain ⟨x, _, e, h1, h2⟩ := costB_ok hVT (a := (a : Nat)) ⟨by omega, by omega⟩
  unfold cN; rw [e]; exact ⟨h1, h2⟩
 have hna := hVT.na
 have hncl : ∀ (u v : Bel) (a : Nat), Rch t b u → a < t.actions.length → stB t u a = some v → Rch t b v := fun u v a hu ha hs => by
  obtain ⟨h1, l, c, h2⟩ := hu
  exact ⟨stB_ok hVT h1 hs, l ++ [a], c + cN t a, runD_snoc h2 ha hs⟩
 refine wpc_while (α := FS × List Nat) (fun x => [(2, .ptr σ.length 0), (8, .map (σ.length + 1)), (9, .ref (σ.length + 3) 4 0 x.1.ns.length), (10, .ptr (σ.length + 2) 0), (11, .int .i64 x.1.best)]) (fun x => sF σ t x.1.ns x.1.Q)
  (fun x => FI t b x.1 x.2) (fun x => x.1.Q.length + (t.actions.length + 1) * (20000 - x.2.length)) (startF b, []) (FI.start hbo) ?_ ?_
 ·(try dsimp only)
  refine Ghost.pick (n := σ.length + 2) [.row (encTask t), .map (mapN (startF b).ns)] [.row [.ref (σ.length + 4) 2 0 1], .row (nR (startF b).ns), .row (qR (startF b).Q)] [σ.length + 4, σ.length + 2, σ.length + 3] (by simp) (Nat.le_refl _) hσ (by simp) (by simp) ?_ ?_ ?_
  ·refine ⟨.inr ⟨by simp, .same (idsO_row (ids_encTask t))⟩, .inr ⟨by simp, ?_⟩, trivial⟩
   exact (MvO.same (ids_mapN (σ.length + 2) (startF b).ns) : MvO _ _ (.map (mapN (startF b).ns)) (.map (mapN (startF b).ns)))
  ·refine ⟨⟨_, by rw [List.getElem?_append_right (by omega), Nat.add_sub_cancel_left]; rfl, .row (xs := [.ref (σ.length + 3) 2 0 1]) ⟨MvP.ref (k := 2) rfl 2 0 1, trivial⟩⟩, ⟨_, by rw [List.getElem?_append_right (by omega), Nat.add_sub_cancel_left]; rfl, .row (xs := [.slice tok (b.map encL), .int .i64 (-1), .int .i64 0, .int .i64 0]) (ys := [.slice .unk (b.map encL), .int .i64 (-1), .int .i64 0, .int .i64 0]) ⟨.keep (Wk.unk _ _) (ids_map ids_encL _), .keep (.refl _) (.int _ _), .keep (.refl _) (.int _ _), .keep (.refl _) (.int _ _), trivial⟩⟩, ⟨_, by rw [List.getElem?_append_right (by omega), Nat.add_sub_cancel_left]; rfl, .same (ids_qR (startF b).Q)⟩, trivial⟩
  ·refine ⟨.keep (.refl _) (.ptr _ _ (by omega)), .keep (.refl _) (.map _ (by omega)), MvP.ref (k := 1) rfl 4 0 1, MvP.ptr (k := 0) rfl 0, .keep (.refl _) (.int _ _), trivial⟩
 rintro ⟨s, S⟩ hI K hK hE hR
 dsimp only at hI ⊢
 have hSl := hI.inv.bnd
 have hfew := hI.few
 have hids := sF_ids hσ t s.ns s.Q
 by_cases hQ0 : s.Q.length = 0
 ·have hgt : ¬ ((s.Q.length : Int) > 0) := by omega
  simp only [sF]
  simp only [go_sem, simprocAttr]
  refine (qLen_spec (σ.length + 4) s.Q.length _).is ?_
  have hQnil : s.Q = [] := List.length_eq_zero_iff.1 hQ0
  obtain ⟨k0, hk0⟩ := hI.it
  have hend : FEnd t b s := ⟨k0, hk0, by rw [iterF, hk0]; simp only [Option.bind_some]; unfold stepF; rw [hQnil]; rfl⟩
  have hinv := hI.inv
  rw [hQnil] at hinv
  rcases hinv.fin with ⟨hbm, hno⟩ | ⟨i, x, l, hbi, hxi, hch, hll, hla, hrun, hgx, hlow⟩
  ·have hlt0 : s.best < 0 := by omega
   have hfo : FindOut t b (.tuple [.slice .nil [], .int .i64 0, .int .i64 4]) := .inr ⟨h0, s, hend, .inr (.inl ⟨hQnil, hbm, rfl, hno⟩)⟩
   simp only [go_sem, simprocAttr, hgt, hE, hlt0]
   exact ret3 (.slice .nil []) (.int .i64 0) (.int .i64 4) List.take_left ⟨hfo, rfl⟩
  have hlt0 : ¬ s.best < 0 := by omega
  have hr0 : ∀ x, s.ns[0]? = some x → x.fr = -1 := fun z hz => by rw [hinv.r0] at hz; injection hz with hz; rw [← hz]
  have hfo : ∀ r, ((l.length ≤ 10000 ∧ r = .tuple [.slice .fresh ((l.reverse.map fun (a : Nat) => (a : Int)).map Ahl.encI), .int .i64 x.cost, .int .i64 0]) ∨ (10000 < l.length ∧ r = spaceR ∧ manyB t b)) → FindOut t b r := fun r hr =>
   .inr ⟨h0, s, hend, .inr (.inr ⟨hQnil, i, x, l, hbi, hxi, hch, hr0, hla, hrun, hgx, hlow, hr⟩)⟩
  rw [hbi] at hlt0
  rw [hbi]
  simp only [go_sem, simprocAttr, hgt, hE, hlt0]
  have hrow : IdsS (σ ++ [AObj.row (nR s.ns)]).length (σ ++ [AObj.row (nR s.ns)]) := idsS_push hσ (ids_nR _)
  obtain ⟨Z, hZ⟩ : ∃ Z, Z = σ ++ [AObj.row (nR s.ns)] := ⟨_, rfl⟩
  have hZl : Z.length = σ.length + 1 := by rw [hZ]; simp
  have hZg : ∀ g, (Z ++ g)[σ.length]? = some (.row (nR s.ns)) := fun g => by rw [hZ]; simp
  have hZt : Z.take σ.length = σ := by rw [hZ]; simp
  have hZi : IdsS Z.length Z := by rw [hZ]; exact hrow
  have hioZ : ∀ q : List Int, IdsO Z.length (.row (q.map ai)) := fun q => ids_ai q
  have hZ3 : ∀ q : List Int, IdsS (Z ++ [AObj.row (q.map ai)]).length (Z ++ [AObj.row (q.map ai)]) := fun q => idsS_push (by rw [hZ]; exact hrow) (ids_ai q)
  obtain ⟨toI, htoI⟩ : ∃ toI : List Nat → List Int, ∀ l, toI l = l.map fun (a : Nat) => (a : Int) := ⟨_, fun _ => rfl⟩
  have htl : ∀ l, (toI l).length = l.length := fun l => by rw [htoI, List.length_map]
  refine wpc_while (α := List Nat × Nat × List Nat) (fun y => [(22, .ref Z.length 1 0 (toI y.1).length), (9, .ref σ.length 4 0 s.ns.length), (11, .int .i64 (i : Nat)), (23, .int .i64 (y.2.1 : Nat))]) (fun y => Z ++ [.row ((toI y.1).map ai)])
   (fun y => Chain s.ns y.2.1 y.2.2 ∧ l = y.1 ++ y.2.2) (fun y => y.2.2.length) ([], i, l) ⟨hch, rfl⟩ ?_ ?_
  ·(try dsimp only)
   refine Ghost.trans (Ghost.pick (s' := [(22, .slice .nil []), (9, .ref σ.length 4 0 s.ns.length), (11, .int .i64 (i : Nat)), (23, .int .i64 (i : Nat))]) (n := σ.length) [] [.row (nR s.ns)] [σ.length + 3] (by simp) (Nat.le_refl _) hσ (by simp) (by simp) ?_ ?_ ?_) ?_
   ·trivial
   ·exact ⟨⟨_, by rw [List.getElem?_append_right (by omega), Nat.add_sub_cancel_left]; rfl, .same (ids_nR _)⟩, trivial⟩
   ·exact ⟨.keep (.refl _) (ids_nil _ (by simp)), MvP.ref (k := 0) rfl 4 0 _, .keep (.refl _) (.int _ _), .keep (.refl _) (.int _ _), trivial⟩
   rw [show σ ++ ([] ++ [AObj.row (nR s.ns)]) = Z by rw [hZ]; simp, htoI]
   refine Ghost.trans (Ghost.row0 22 1 0 (.inl rfl)) ?_
   exact Ghost.same (fun j => (lk_twice 22 _ _ _ j))
  rintro ⟨acc, j, r⟩ ⟨hcj, hlr⟩ K2 hK2 hE2 hR2
  dsimp only at hcj hlr ⊢
  have hal : acc.length ≤ 20000 := by rw [hlr, List.length_append] at hll; omega
  cases hcj with
  | nil =>
   rw [List.append_nil] at hlr
   obtain ⟨f1, f2, f3, f4⟩ := nR_get hinv.r0
   have hj0 : (0 : Int) ≤ ((0 : Nat) : Int) := by omega
   have h0l : 0 < s.ns.length := lt_of_get hinv.r0
   simp only [Nat.zero_mul, Nat.zero_add] at f1 f2 f3 f4
   obtain ⟨g1, g2, g3, g4⟩ := nR_get hxi
   have hi0 : (0 : Int) ≤ ((i : Nat) : Int) := by omega
   have hil2 : i < s.ns.length := lt_of_get hxi
   have hgZ : ∀ (q : List AV) g, (Z ++ .row q :: g)[Z.length]? = some (.row q) := fun q g => by simp
   have hal2 := htl acc
   have hsetZ : ∀ c c', (Z ++ [AObj.row c]).set Z.length (.row c') = Z ++ [.row c'] := fun c c' => by simp
   by_cases hpl : (((toI acc).length : Nat) : Int) > 10000
   ·have hmany : manyB t b := ⟨s.ns.map (·.b), hinv.nd, fun v hv => (by obtain ⟨z, hz, rfl⟩ := List.mem_map.1 hv; exact hinv.reach z hz), by rw [List.length_map]; rw [hlr] at hll; omega⟩
    simp only [go_sem, simprocAttr, hZg, f2, hj0, h0l, Int.toNat_natCast, Nat.zero_mul, Nat.zero_add, hE2, hpl]
    exact ret3 (.slice .nil []) (.int .i64 0) (.int .i64 3) (by rw [List.take_append_of_le_length (by omega), hZt]) ⟨hfo _ (.inr ⟨by rw [hlr]; omega, rfl, hmany⟩), rfl⟩
   ·simp only [go_sem, simprocAttr, hZg, f2, hj0, h0l, Int.toNat_natCast, Nat.zero_mul, Nat.zero_add, hE2, hpl]
    refine (rev_spec Z.length (toI acc) _ (hgZ _ []) (by omega)).to ?_
    rw [hsetZ]
    simp only [go_sem, simprocAttr, hZg, g4, hi0, hil2, Int.toNat_natCast, Nat.zero_add]
    refine retRow3 (id := Z.length) (cells := (toI acc).reverse.map ai) (es := (toI acc).reverse.map Ahl.encI) (x := .int .i64 x.cost) (y := .int .i64 0) (by rw [List.take_append_of_le_length (by omega), hZt]) rfl (hgZ _ []) (by rw [List.length_map, List.length_reverse]) (by omega) rfl rfl rfl rfl rfl (.int _ _) (.int _ _) (ids_mapf ids_encI _) ?_ ⟨hfo _ (.inl ⟨by rw [hlr]; omega, by rw [hlr, ← htoI, show toI acc.reverse = (toI acc).reverse by rw [htoI, htoI, List.map_reverse]]⟩), rfl⟩
    intro i e he
    rw [List.getElem?_map] at he
    obtain ⟨x, hx, rfl⟩ := Option.map_eq_some_iff.1 he
    refine ⟨rfl, fun j hj => ?_⟩
    obtain rfl : j = 0 := by omega
    rw [List.getElem?_map]
    simp [hx, Ahl.encI, ai]
  | @cons _ p a z r' hz hf ha ht' =>
   obtain ⟨f1, f2, f3, f4⟩ := nR_get hz
   have hj0 : (0 : Int) ≤ ((j : Nat) : Int) := by omega
   have hjl : j < s.ns.length := lt_of_get hz
   have hge : ((p : Nat) : Int) ≥ 0 := by omega
   rw [hf] at f2
   rw [ha] at f3
   have hbig : bigLen (acc.length + 1) 8 := big_ok (by omega) (by omega)
   have hrl : ((toI acc).map ai).length = acc.length := by rw [List.length_map, htl]
   have hra : (toI acc).map ai ++ [[AV.int .i64 ((a : Nat) : Int)]].flatten = (toI (acc ++ [a])).map ai := by rw [htoI, htoI, List.map_append, List.map_append]; rfl
   simp only [go_sem, simprocAttr, hZg, f2, f3, hj0, hjl, Int.toNat_natCast, Nat.zero_add, hge, hbig, hrl, htl, hra]
   refine hK2 _ _ (acc ++ [a], p, r') ⟨ht', by rw [hlr, List.append_assoc]; rfl⟩ (by simp) ?_
   (try dsimp only)
   rw [htl, List.length_append, List.length_singleton]
   exact ghPM 1 (hio := hioZ _)
 ·have hgt : ((s.Q.length : Int) > 0) := by omega
  have hQl : s.Q.length ≤ 20000001 := by
   have h1 := hI.fewQ
   have h2 : t.actions.length * S.length ≤ 1000 * 20000 := Nat.mul_le_mul hna (by omega)
   omega
  simp only [sF]
  simp only [go_sem, simprocAttr]
  refine (qLen_spec (σ.length + 4) s.Q.length _).is ?_
  simp only [go_sem, simprocAttr, hgt]
  refine (hpop_spec (σ.length + 2) (σ.length + 4) s.Q _ (by omega) (by simp) (by simp) (by omega) (by omega) hI.heap).mono ?_
  rintro _ _ ⟨q, Q', rfl, hq0, hQ', hperm, hheap, hmin, rfl⟩
  have hqS : qS (σ ++ [AObj.row (encTask t), .map (mapN s.ns), .row [.ref (σ.length + 4) 2 0 s.Q.length], .row (nR s.ns), .row (qR s.Q)]) (σ.length + 2) (σ.length + 4) Q' = σ ++ [AObj.row (encTask t), .map (mapN s.ns), .row [.ref (σ.length + 4) 2 0 Q'.length], .row (nR s.ns), .row (qR Q')] := by
   unfold qS; simp
  rw [hqS]
  obtain ⟨x, hx, hxc, _⟩ := hI.inv.items q (hperm.mem_iff.2 List.mem_cons_self)
  obtain ⟨c1, c2, c3, c4⟩ := nR_get hx
  have sA : setAll [AV.int .i64 0, AV.int .i64 0] 0 (encIt q) = encIt q := rfl
  have a1 : (encIt q).all AV.one = true := rfl
  have eI : encIt q = [.int .i64 (q.1 : Nat), .int .i64 q.2] := rfl
  have d0 : (encIt q)[0]? = some (.int .i64 (q.1 : Nat)) := rfl
  have d1 : (encIt q)[1]? = some (.int .i64 q.2) := rfl
  have p1 : (0 : Int) ≤ ((q.1 : Nat) : Int) := by omega
  have p2 : q.1 < s.ns.length := lt_of_get hx
  have hQ2 : Q'.length < s.Q.length := by have := hperm.length_eq; simp at this; omega
  obtain ⟨k0, hk0⟩ := hI.it
  have hstep : stepF t s = if x.cost < q.2 then some ⟨s.ns, popL s.Q, s.best⟩ else (foldA (stepA t q.1 x) (s.ns, popL s.Q) t.actions.length).map fun p => ⟨p.1, p.2, bestF t s.best q.1 x⟩ := by
   unfold stepF; rw [hq0]; simp only; rw [hx]
  rw [← hQ'] at hstep
  by_cases hst : q.2 > x.cost
  ·rw [if_pos (by omega)] at hstep
   simp only [go_sem, simprocAttr, sA, a1, d0, d1, encIt_len, p1, p2, c4, Int.toNat_natCast, Nat.zero_add, hst]
   refine hK _ _ (⟨s.ns, Q', s.best⟩, S) ⟨⟨k0 + 1, by rw [iterF, hk0]; exact hstep⟩, hI.inv.stale hperm hx (by omega), hheap, hI.few, by have := hI.fewQ; simp only []; omega⟩ (by simp only []; omega) ?_
   (try dsimp only)
   exact ghL (l := [.row _, .map _, .row _, .row _, .row _]) (sF_ids hσ t s.ns Q')
  rw [if_neg (by omega)] at hstep
  have main : ∀ (sl : Slots) (bst : Int), bst = bestF t s.best q.1 x → lk sl 2 = .ptr σ.length 0 → lk sl 8 = .map (σ.length + 1) → lk sl 9 = .ref (σ.length + 3) 4 0 s.ns.length → lk sl 10 = .ptr (σ.length + 2) 0 → lk sl 11 = .int .i64 bst → lk sl 12 = .ptr (σ.length + 5) 0 → lk sl 14 = .slice .unk (x.b.map encL) →
    wpc Tryz.prog 194 σ.length r_bfind_0 (blockK 1 K) sl (σ ++ [AObj.row (encTask t), .map (mapN s.ns), .row [.ref (σ.length + 4) 2 0 Q'.length], .row (nR s.ns), .row (qR Q'), .row (encIt q)]) := by
   intro sl bst hbst l2 l8 l9 l10 l11 l12 l14
   obtain ⟨hnow, hxq⟩ := hI.inv.settle (by omega) hperm hmin hx (by omega)
   have hbst' : bst = if s.best < 0 ∧ goalF t x.b = true then (q.1 : Int) else s.best := hbst
   rw [← hbst'] at hnow
   have hSn := hnow.inv.bnd
   have hbx := (hI.inv.reach x (List.mem_of_getElem? hx)).1
   have hrx := hI.inv.reach x (List.mem_of_getElem? hx)
   have hcx : x.cost ≤ 100000 * 20000 := by
    have h1 := hI.inv.cb x (List.mem_of_getElem? hx)
    have h2 : (100000 : Int) * (S.length : Int) ≤ 100000 * 20000 := Int.mul_le_mul_of_nonneg_left (by omega) (by omega)
    omega
   have hx0 := hI.inv.nn x (List.mem_of_getElem? hx)
   rw [r_bfind_0]
   simp only [go_sem, simprocAttr]
   rw [wpc_ghost]
   refine ⟨[(2, .ptr σ.length 0), (8, .map (σ.length + 1)), (9, .ref (σ.length + 4) 4 0 s.ns.length), (10, .ptr (σ.length + 2) 0), (11, .int .i64 bst), (12, .ptr (σ.length + 3) 0), (14, .slice .unk (x.b.map encL))], sG σ t q s.ns Q', ?_, ?_⟩
   ·refine Ghost.pick (n := σ.length + 3) [.row (encTask t), .map (mapN s.ns), .row [.ref (σ.length + 5) 2 0 Q'.length]] [.row (encIt q), .row (nR s.ns), .row (qR Q')] [σ.length + 5, σ.length + 3, σ.length + 4] (by simp) (Nat.le_refl _) hσ (by simp) (by simp) ?_ ?_ ?_
    ·exact ⟨.inr ⟨by simp, .same (idsO_row (ids_encTask t))⟩, .inr ⟨by simp, .same (ids_mapN _ _)⟩, .inr ⟨by simp, .row (xs := [.ref (σ.length + 4) 2 0 Q'.length]) ⟨MvP.ref (k := 2) rfl 2 0 _, trivial⟩⟩, trivial⟩
    ·exact ⟨⟨_, by rw [List.getElem?_append_right (by omega), Nat.add_sub_cancel_left]; rfl, .same (idsO_row (idsL_cons (.int _ _) (idsL_cons (.int _ _) idsL_nil)))⟩, ⟨_, by rw [List.getElem?_append_right (by omega), Nat.add_sub_cancel_left]; rfl, .same (ids_nR _)⟩, ⟨_, by rw [List.getElem?_append_right (by omega), Nat.add_sub_cancel_left]; rfl, .same (ids_qR _)⟩, trivial⟩
    ·refine ⟨by rw [l2]; exact .keep (.refl _) (.ptr _ _ (by omega)), by rw [l8]; exact .keep (.refl _) (.map _ (by omega)), by rw [l9]; exact MvP.ref (k := 1) rfl 4 0 _, by rw [l10]; exact .keep (.refl _) (.ptr _ _ (by omega)), by rw [l11]; exact .keep (.refl _) (.int _ _), by rw [l12]; exact MvP.ptr (k := 0) rfl 0, by rw [l14]; exact .keep (.refl _) (ids_map ids_encL _), trivial⟩
   simp only [sG]
   simp only [go_sem, simprocAttr, encTask]
   refine wpc_while (α := (List ND × List It) × Nat) (fun y => [(2, .ptr σ.length 0), (8, .map (σ.length + 1)), (9, .ref (σ.length + 4) 4 0 y.1.1.length), (10, .ptr (σ.length + 2) 0), (11, .int .i64 bst), (12, .ptr (σ.length + 3) 0), (14, .slice .unk (x.b.map encL)), (79, .int .i64 t.actions.length), (80, .int .i64 (y.2 : Nat))]) (fun y => sG σ t q y.1.1 y.1.2)
    (fun y => y.2 ≤ t.actions.length ∧ foldA (stepA t q.1 x) (s.ns, Q') y.2 = some y.1 ∧ DNow t.actions.length (stB t) (cN t) (goalF t) b (Rch t b) 100000 q.1 y.2 x y.1.1 y.1.2 bst (q.1 :: S) ∧ HeapOk y.1.2 y.1.2.length ∧ y.1.1.length ≤ 20000 ∧ y.1.2.length ≤ Q'.length + y.2)
    (fun y => t.actions.length - y.2) ((s.ns, Q'), 0) ⟨Nat.zero_le _, rfl, hnow, hheap, hI.few, Nat.le_refl _⟩ ?_ ?_
   ·(try dsimp only)
    simp only [sG, encTask]
    have := sG_ids hσ t q s.ns Q'
    simp only [sG, encTask] at this
    exact ghL0 (l := [.row _, .map _, .row _, .row _, .row _, .row _]) this
   rintro ⟨⟨ns, Q⟩, k⟩ ⟨hk, hfold, hN, hHp, hns, hQn⟩ K2 hK2 hE2 hR2
   dsimp only at hk hfold hN hHp hns hQn ⊢
   have hidG := sG_ids hσ t q ns Q
   by_cases hkk : k < t.actions.length
   ·have hltk : ((k : Int) < (t.actions.length : Int)) := by omega
    have hwk := wrapS (i := k) (by omega)
    have hsucc := foldA_succ hfold
    obtain ⟨xa, hxa⟩ := get_ex hkk
    have hca := hC k hkk
    have hcx2 : cN t k = xa.cost := by unfold cN costB; rw [Int.toNat_natCast, List.getD_eq_getElem?_getD, hxa]; rfl
    rw [hcx2] at hca
    have pushM : ∀ (KP : Post) (sl : Slots) (T : Store) (ns' : List ND) (j : Nat) (cst : Int),
      Ghost σ.length 194 sl T [(2, .ptr σ.length 0), (8, .map (σ.length + 1)), (9, .ref (σ.length + 4) 4 0 ns'.length), (10, .ptr (σ.length + 2) 0), (11, .int .i64 bst), (12, .ptr (σ.length + 3) 0), (14, .slice .unk (x.b.map encL)), (18, .int .i64 cst), (20, .int .i64 (j : Nat)), (79, .int .i64 t.actions.length), (80, .int .i64 (k : Nat))] (sG σ t q ns' Q) →
      (∀ sl', (pushL Q (j, cst)).Perm ((j, cst) :: Q) → HeapOk (pushL Q (j, cst)) (pushL Q (j, cst)).length → lk sl' 2 = .ptr σ.length 0 → lk sl' 8 = .map (σ.length + 1) → lk sl' 9 = .ref (σ.length + 4) 4 0 ns'.length → lk sl' 10 = .ptr (σ.length + 2) 0 → lk sl' 11 = .int .i64 bst → lk sl' 12 = .ptr (σ.length + 3) 0 → lk sl' 14 = .slice .unk (x.b.map encL) → lk sl' 79 = .int .i64 t.actions.length → lk sl' 80 = .int .i64 (k : Nat) →
       KP .normal sl' (σ ++ [AObj.row (encTask t), .map (mapN ns'), .row [.ref (σ.length + 6) 2 0 (pushL Q (j, cst)).length], .row (encIt q), .row (nR ns'), .dead, .row (qR (pushL Q (j, cst)))])) →
      wpc Tryz.prog 194 σ.length r_bfind_1 KP sl T := by
     intro KP sl T ns' j cst hgh hKP
     rw [r_bfind_1]
     simp only [go_sem, simprocAttr]
     rw [wpc_ghost]
     refine ⟨_, _, hgh, ?_⟩
     simp only [sG]
     simp only [go_sem, simprocAttr]
     refine (hpush_spec (σ.length + 2) (σ.length + 5) Q (j, cst) _ (by omega) (by simp) (by simp) (by omega) hHp).mono ?_
     rintro _ _ ⟨rfl, l', hl', hpm, hhp, rfl⟩
     subst hl'
     have hst : ((σ ++ [AObj.row (encTask t), .map (mapN ns'), .row [.ref (σ.length + 5) 2 0 Q.length], .row (encIt q), .row (nR ns'), .row (qR Q)]).set (σ.length + 2) (.row [.ref (σ ++ [AObj.row (encTask t), .map (mapN ns'), .row [.ref (σ.length + 5) 2 0 Q.length], .row (encIt q), .row (nR ns'), .row (qR Q)]).length 2 0 (pushL Q (j, cst)).length])).set (σ.length + 5) .dead ++ [.row (qR (pushL Q (j, cst)))] =
       σ ++ [AObj.row (encTask t), .map (mapN ns'), .row [.ref (σ.length + 6) 2 0 (pushL Q (j, cst)).length], .row (encIt q), .row (nR ns'), .dead, .row (qR (pushL Q (j, cst)))] := by simp
     rw [hst]
     simp only [go_sem, simprocAttr]
     exact hKP _ hpm hhp rfl rfl rfl rfl rfl rfl rfl rfl rfl
    simp only [sG]
    simp only [go_sem, simprocAttr, hltk, encTask]
    have haft := fun σ => bafter_specF t x.b k .unk σ hVT hbx hkk
    simp only [encTask] at haft
    refine (haft _).is ?_
    unfold aftR
    cases hs : stB t x.b k with
    | none =>
     have hst1 : stepA t q.1 x (ns, Q) k = some (ns, Q) := by unfold stepA; rw [hs]
     rw [hst1] at hsucc
     simp only [go_sem, simprocAttr]
     refine hK2 _ _ ((ns, Q), k + 1) ⟨by simp only []; omega, hsucc, hN.skip fun u hu => (by rw [hs] at hu; simp at hu), hHp, hns, by simp only []; omega⟩ (by simp only []; omega) ?_
     (try dsimp only)
     rw [hwk]
     simp only [sG, encTask] at hidG ⊢
     exact ghL0 (l := [.row _, .map _, .row _, .row _, .row _, .row _]) hidG
    | some u =>
     have hru := hncl x.b u k hrx hkk hs
     have hwc : IntKind.i64.wrap (q.2 + xa.cost) = q.2 + xa.cost := wrap_ok (by omega)
     have hk0' : (0 : Int) ≤ (k : Int) := by omega
     simp only [go_sem, simprocAttr]
     rw [wpc_ghost]
     refine ⟨_, _, Ghost.weak 16 (.slice .unk (u.map encL)) (Wk.lfu _ _), ?_⟩
     simp only [go_sem, simprocAttr, d1, hxa, encA, hwc, hk0']
     refine (bkey_spec t.facts.length u .unk _ hVT.nf hru.1).is ?_
     have hfind := findK (key := keyB) u (ns.map (·.b)) 0 0 (fun y hy hyk => by
      obtain ⟨z, hz, rfl⟩ := List.mem_map.1 hy
      exact keyB_inj hVT.nf (hN.inv.reach z hz).1 hru.1 hyk)
     rw [show encKF keyB 0 (ns.map (·.b)) = mapN ns from rfl] at hfind
     simp only [Nat.zero_add] at hfind
     by_cases hmem : u ∈ ns.map (·.b)
     ·rw [if_pos hmem] at hfind
      have hjl : idxB ns u < ns.length := by have := List.idxOf_lt_length_of_mem hmem; rw [List.length_map] at this; exact this
      obtain ⟨y, hy⟩ := get_ex hjl
      have hyb : y.b = u := by
       have h1 : (ns.map (·.b))[idxB ns u]? = some u := by
        unfold idxB
        rw [List.getElem?_eq_getElem (List.idxOf_lt_length_of_mem hmem), List.getElem_idxOf]
       rw [List.getElem?_map, hy] at h1; injection h1
      obtain ⟨e1, e2, e3, e4⟩ := nR_get hy
      have hj0 : (0 : Int) ≤ ((idxB ns u : Nat) : Int) := by omega
      have hfind2 : aFind (.str (keyB u)) (mapN ns) 0 = some (some (idxB ns u, .int .i64 ((idxB ns u : Nat) : Int))) := hfind
      by_cases hle : y.cost ≤ q.2 + xa.cost
      ·have hst1 : stepA t q.1 x (ns, Q) k = some (ns, Q) := by
        unfold stepA; rw [hs]; simp only; rw [hy]; simp only
        rw [if_pos (by rw [hxq, hcx2]; exact hle)]
       rw [hst1] at hsucc
       simp only [go_sem, simprocAttr, hfind2, e4, hj0, hjl, Int.toNat_natCast, Nat.zero_add, hle]
       refine hK2 _ _ ((ns, Q), k + 1) ⟨by simp only []; omega, hsucc, hN.skip fun v hv => ⟨y, List.mem_of_getElem? hy, by rw [hs] at hv; injection hv with hv; rw [hyb, hv], by rw [hxq, hcx2]; exact hle⟩, hHp, hns, by simp only []; omega⟩ (by simp only []; omega) ?_
       (try dsimp only)
       rw [hwk]
       simp only [sG, encTask] at hidG ⊢
       exact ghL0 (l := [.row _, .map _, .row _, .row _, .row _, .row _]) hidG
      ·obtain ⟨cst, hcst⟩ : ∃ cst, cst = q.2 + xa.cost := ⟨_, rfl⟩
       have hcst2 : x.cost + cN t k = cst := by rw [hxq, hcx2, hcst]
       have hst1 : stepA t q.1 x (ns, Q) k = some (ns.set (idxB ns u) ⟨y.b, q.1, k, cst⟩, pushL Q (idxB ns u, cst)) := by
        unfold stepA; rw [hs]; simp only; rw [hy]; simp only
        rw [if_neg (by rw [hxq, hcx2]; exact hle), hcst2]
       rw [hst1] at hsucc
       have hnl := nR_len ns
       have hmp : mapN (ns.set (idxB ns u) ⟨y.b, q.1, k, cst⟩) = mapN ns := by
        unfold mapN
        congr 1
        apply List.ext_getElem?
        intro i
        rw [List.getElem?_map, List.getElem?_map]
        by_cases e : i = idxB ns u
        ·subst e; rw [List.getElem?_set_self hjl, hy]; rfl
        ·rw [List.getElem?_set_ne (fun q => e q.symm)]
       simp only [go_sem, simprocAttr, hfind2, e4, hj0, hjl, Int.toNat_natCast, Nat.zero_add, hle, d0]
       rw [← hcst]
       refine ⟨by omega, by rw [List.length_set]; omega, by rw [List.length_set, List.length_set]; omega, ?_⟩
       rw [nR_write hy]
       refine pushM _ _ _ (ns.set (idxB ns u) ⟨y.b, q.1, k, cst⟩) (idxB ns u) cst ?_ ?_
       ·have := sG_ids hσ t q (ns.set (idxB ns u) ⟨y.b, q.1, k, cst⟩) Q
        simp only [sG, encTask, hmp, List.length_set] at this ⊢
        exact ghL0 (l := [.row _, .map _, .row _, .row _, .row _, .row _]) this
       ·intro sl' hpm hhp m2 m8 m9 m10 m11 m12 m14 m79 m80
        have hN2 := hN.better (Q' := pushL Q (idxB ns u, cst)) hkk (by rw [hcx2]; exact hca.1) (by rw [hcx2]; exact hca.2) hy (by rw [hyb]; exact hs) (by rw [hcst2, hcst]; omega) (by rw [hcst2]; exact hpm)
        rw [hcst2] at hN2
        generalize hNS : ns.set (idxB ns u) ⟨y.b, q.1, k, cst⟩ = NS at *
        generalize pushL Q (idxB ns u, cst) = QS at *
        have hNSl : NS.length = ns.length := by rw [← hNS, List.length_set]
        have hQSl : QS.length = Q.length + 1 := by have := hpm.length_eq; simpa using this
        simp only [go_sem, simprocAttr, m80, hwk]
        refine hK2 _ _ ((NS, QS), k + 1) ⟨by simp only []; omega, hsucc, hN2, hhp, by simp only []; omega, by simp only []; omega⟩ (by simp only []; omega) ?_
        (try dsimp only)
        simp only [sG]
        refine Ghost.pick (n := σ.length + 5) [.row (encTask t), .map (mapN NS), .row [.ref (σ.length + 5) 2 0 QS.length], .row (encIt q), .row (nR NS)] [.row (qR QS)] [σ.length + 6] (by simp) (Nat.le_refl _) hσ (by simp) (by simp) ?_ ?_ ?_
        ·exact ⟨.inr ⟨by simp, .same (idsO_row (ids_encTask t))⟩, .inr ⟨by simp, .same (ids_mapN _ _)⟩, .inr ⟨by simp, .row (xs := [.ref (σ.length + 6) 2 0 QS.length]) ⟨MvP.ref (k := 0) rfl 2 0 _, trivial⟩⟩, .inr ⟨by simp, .same (idsO_row (idsL_cons (.int _ _) (idsL_cons (.int _ _) idsL_nil)))⟩, .inr ⟨by simp, .same (ids_nR _)⟩, trivial⟩
        ·exact ⟨⟨_, by rw [List.getElem?_append_right (by omega), Nat.add_sub_cancel_left]; rfl, .same (ids_qR _)⟩, trivial⟩
        ·exact ⟨by simp only [lk, Nat.reduceBEq, cond_false, m2]; exact .keep (.refl _) (.ptr _ _ (by omega)), by simp only [lk, Nat.reduceBEq, cond_false, m8]; exact .keep (.refl _) (.map _ (by omega)), by simp only [lk, Nat.reduceBEq, cond_false, m9]; exact .keep (.refl _) (.ref _ _ _ _ (by omega)), by simp only [lk, Nat.reduceBEq, cond_false, m10]; exact .keep (.refl _) (.ptr _ _ (by omega)), by simp only [lk, Nat.reduceBEq, cond_false, m11]; exact .keep (.refl _) (.int _ _), by simp only [lk, Nat.reduceBEq, cond_false, m12]; exact .keep (.refl _) (.ptr _ _ (by omega)), by simp only [lk, Nat.reduceBEq, cond_false, m14]; exact .keep (.refl _) (ids_map ids_encL _), by simp only [lk, Nat.reduceBEq, cond_false, m79]; exact .keep (.refl _) (.int _ _), .keep (.refl _) (.int _ _), trivial⟩
     ·rw [if_neg hmem] at hfind
      obtain ⟨cst, hcst⟩ : ∃ cst, cst = q.2 + xa.cost := ⟨_, rfl⟩
      have hcst2 : x.cost + cN t k = cst := by rw [hxq, hcx2, hcst]
      have hidx : ns[idxB ns u]? = none := by
       rw [List.getElem?_eq_none]
       unfold idxB
       rw [List.idxOf_eq_length hmem, List.length_map]; exact Nat.le_refl _
      have hst1 : stepA t q.1 x (ns, Q) k = if ns.length + 1 > 20000 then none else some (ns ++ [⟨u, q.1, k, cst⟩], pushL Q (ns.length, cst)) := by
       unfold stepA; rw [hs]; simp only; rw [hidx]; simp only
       rw [hcst2]
      have hmp : mapN ns ++ [(AV.str (keyB u), AV.int .i64 ((ns.length : Nat) : Int))] = mapN (ns ++ [⟨u, q.1, k, cst⟩]) := by
       have := encKM_snoc keyB (ns.map (·.b)) u
       rw [List.length_map] at this
       unfold mapN
       rw [this, List.map_append]; rfl
      have hnR : nR ns ++ [[AV.slice .unk (u.map encL), .int .i64 (q.1 : Nat), .int .i64 (k : Nat), .int .i64 cst]].flatten = nR (ns ++ [⟨u, q.1, k, cst⟩]) := (rowC_snoc encN ns ⟨u, (q.1 : Nat), (k : Nat), cst⟩).symm
      have hbig : bigLen (ns.length + 1) 48 := big_ok (by omega) (by omega)
      have hnl := nR_len ns
      by_cases hsp : ((ns.length + 1 : Nat) : Int) > 20000
      ·rw [if_pos (by omega)] at hst1
       rw [hst1] at hsucc
       have hsnone : stepF t s = none := by
        rw [hstep, foldA_none hsucc _ (by omega)]; rfl
       have hmany : manyB t b := by
        refine ⟨(ns ++ [(⟨u, (q.1 : Nat), (k : Nat), cst⟩ : ND)]).map (·.b), ?_, fun v hv => ?_, by simp; omega⟩
        ·rw [List.map_append, List.nodup_append]
         refine ⟨hN.inv.nd, by simp, fun a ha c hc => ?_⟩
         simp at hc; subst hc
         exact fun e => hmem (e ▸ ha)
        ·rw [List.map_append] at hv
         rcases List.mem_append.1 hv with hv | hv
         ·obtain ⟨z, hz, rfl⟩ := List.mem_map.1 hv; exact hN.inv.reach z hz
         ·simp at hv; subst hv; exact hru
       have hfo : FindOut t b spaceR := .inr ⟨h0, s, ⟨k0, hk0, by rw [iterF, hk0]; exact hsnone⟩, .inl ⟨fun e => hQ0 (by rw [e]; rfl), rfl, hmany⟩⟩
       simp only [go_sem, simprocAttr, hfind, d0, hbig, hnl, hsp, hR2, hR]
       exact ret3 (.slice .nil []) (.int .i64 0) (.int .i64 3) List.take_left ⟨hfo, rfl⟩
      ·rw [if_neg (by omega)] at hst1
       rw [hst1] at hsucc
       simp only [go_sem, simprocAttr, hfind, d0, hbig, hnl, hsp]
       rw [← hcst, hmp, hnR]
       obtain ⟨NS, hNS⟩ : ∃ NS, NS = ns ++ [⟨u, (q.1 : Nat), (k : Nat), cst⟩] := ⟨_, rfl⟩
       have hNSl : NS.length = ns.length + 1 := by rw [hNS]; simp
       rw [← hNS] at hsucc ⊢
       refine pushM _ _ _ NS ns.length cst ?_ ?_
       ·simp only [sG, hNSl]
        refine Ghost.pick (n := σ.length + 4) [.row (encTask t), .map (mapN NS), .row [.ref (σ.length + 5) 2 0 Q.length], .row (encIt q)] [.row (nR NS), .row (qR Q)] [σ.length + 6, σ.length + 5] (by simp) (Nat.le_refl _) hσ (by simp) (by simp) ?_ ?_ ?_
        ·exact ⟨.inr ⟨by simp, .same (idsO_row (ids_encTask t))⟩, .inr ⟨by simp, .same (ids_mapN _ _)⟩, .inr ⟨by simp, .row (xs := [.ref (σ.length + 5) 2 0 Q.length]) ⟨MvP.ref (k := 1) rfl 2 0 _, trivial⟩⟩, .inr ⟨by simp, .same (idsO_row (idsL_cons (.int _ _) (idsL_cons (.int _ _) idsL_nil)))⟩, trivial⟩
        ·exact ⟨⟨_, by rw [List.getElem?_append_right (by omega), Nat.add_sub_cancel_left]; rfl, .same (ids_nR _)⟩, ⟨_, by rw [List.getElem?_append_right (by omega), Nat.add_sub_cancel_left]; rfl, .same (ids_qR _)⟩, trivial⟩
        ·exact ⟨.keep (.refl _) (.ptr _ _ (by omega)), .keep (.refl _) (.map _ (by omega)), MvP.ref (k := 0) rfl 4 0 _, .keep (.refl _) (.ptr _ _ (by omega)), .keep (.refl _) (.int _ _), .keep (.refl _) (.ptr _ _ (by omega)), .keep (.refl _) (ids_map ids_encL _), .keep (.refl _) (.int _ _), .keep (.refl _) (.int _ _), .keep (.refl _) (.int _ _), .keep (.refl _) (.int _ _), trivial⟩
       ·intro sl' hpm hhp m2 m8 m9 m10 m11 m12 m14 m79 m80
        have hN2 := hN.new (Q' := pushL Q (ns.length, cst)) hkk (by rw [hcx2]; exact hca.1) (by rw [hcx2]; exact hca.2) hru hs hmem (by rw [hcst2]; exact hpm)
        rw [hcst2, ← hNS] at hN2
        generalize pushL Q (ns.length, cst) = QS at *
        have hQSl : QS.length = Q.length + 1 := by have := hpm.length_eq; simpa using this
        simp only [go_sem, simprocAttr, m80, hwk]
        refine hK2 _ _ ((NS, QS), k + 1) ⟨by simp only []; omega, hsucc, hN2, hhp, by simp only []; omega, by simp only []; omega⟩ (by simp only []; omega) ?_
        (try dsimp only)
        simp only [sG]
        refine Ghost.pick (n := σ.length + 5) [.row (encTask t), .map (mapN NS), .row [.ref (σ.length + 5) 2 0 QS.length], .row (encIt q), .row (nR NS)] [.row (qR QS)] [σ.length + 6] (by simp) (Nat.le_refl _) hσ (by simp) (by simp) ?_ ?_ ?_
        ·exact ⟨.inr ⟨by simp, .same (idsO_row (ids_encTask t))⟩, .inr ⟨by simp, .same (ids_mapN _ _)⟩, .inr ⟨by simp, .row (xs := [.ref (σ.length + 6) 2 0 QS.length]) ⟨MvP.ref (k := 0) rfl 2 0 _, trivial⟩⟩, .inr ⟨by simp, .same (idsO_row (idsL_cons (.int _ _) (idsL_cons (.int _ _) idsL_nil)))⟩, .inr ⟨by simp, .same (ids_nR _)⟩, trivial⟩
        ·exact ⟨⟨_, by rw [List.getElem?_append_right (by omega), Nat.add_sub_cancel_left]; rfl, .same (ids_qR _)⟩, trivial⟩
        ·exact ⟨by simp only [lk, Nat.reduceBEq, cond_false, m2]; exact .keep (.refl _) (.ptr _ _ (by omega)), by simp only [lk, Nat.reduceBEq, cond_false, m8]; exact .keep (.refl _) (.map _ (by omega)), by simp only [lk, Nat.reduceBEq, cond_false, m9]; exact .keep (.refl _) (.ref _ _ _ _ (by omega)), by simp only [lk, Nat.reduceBEq, cond_false, m10]; exact .keep (.refl _) (.ptr _ _ (by omega)), by simp only [lk, Nat.reduceBEq, cond_false, m11]; exact .keep (.refl _) (.int _ _), by simp only [lk, Nat.reduceBEq, cond_false, m12]; exact .keep (.refl _) (.ptr _ _ (by omega)), by simp only [lk, Nat.reduceBEq, cond_false, m14]; exact .keep (.refl _) (ids_map ids_encL _), by simp only [lk, Nat.reduceBEq, cond_false, m79]; exact .keep (.refl _) (.int _ _), .keep (.refl _) (.int _ _), trivial⟩
   ·have hltk : ¬ ((k : Int) < (t.actions.length : Int)) := by omega
    obtain rfl : k = t.actions.length := by omega
    simp only [sG]
    simp only [go_sem, simprocAttr, hltk, hE2]
    have hb2 := hN.inv.bnd
    simp only [List.length_cons] at hb2
    have hfq := hI.fewQ
    have hm1 : t.actions.length * (S.length + 1) = t.actions.length * S.length + t.actions.length := Nat.mul_succ _ _
    have hm2 : (t.actions.length + 1) * (20000 - S.length) = (t.actions.length + 1) * (20000 - (S.length + 1)) + (t.actions.length + 1) := by
     rw [show 20000 - S.length = (20000 - (S.length + 1)) + 1 by omega, Nat.mul_succ]
    refine hK _ _ (⟨ns, Q, bst⟩, q.1 :: S) ⟨⟨k0 + 1, by rw [iterF, hk0]; simp only [Option.bind_some]; rw [hstep, hfold]; simp only [Option.map_some]; rw [hbst]⟩, hN.done, hHp, hns, by simp only [List.length_cons]; rw [hm1]; omega⟩ (by simp only [List.length_cons]; rw [hm2]; omega) ?_
    (try dsimp only)
    simp only [sF]
    refine Ghost.pick (n := σ.length + 3) [.row (encTask t), .map (mapN ns), .row [.ref (σ.length + 4) 2 0 Q.length]] [.row (nR ns), .row (qR Q)] [σ.length + 4, σ.length + 5] (by simp) (Nat.le_refl _) hσ (by simp) (by simp) ?_ ?_ ?_
    ·exact ⟨.inr ⟨by simp, .same (idsO_row (ids_encTask t))⟩, .inr ⟨by simp, .same (ids_mapN _ _)⟩, .inr ⟨by simp, .row (xs := [.ref (σ.length + 5) 2 0 Q.length]) ⟨MvP.ref (k := 1) rfl 2 0 _, trivial⟩⟩, trivial⟩
    ·exact ⟨⟨_, by rw [List.getElem?_append_right (by omega), Nat.add_sub_cancel_left]; rfl, .same (ids_nR _)⟩, ⟨_, by rw [List.getElem?_append_right (by omega), Nat.add_sub_cancel_left]; rfl, .same (ids_qR _)⟩, trivial⟩
    ·exact ⟨.keep (.refl _) (.ptr _ _ (by omega)), .keep (.refl _) (.map _ (by omega)), MvP.ref (k := 0) rfl 4 0 _, .keep (.refl _) (.ptr _ _ (by omega)), .keep (.refl _) (.int _ _), trivial⟩
  have hpw : ∀ s ∈ x.b, s.Pairwise (· < ·) := fun r hr => (rising_pw ((hI.inv.reach x (List.mem_of_getElem? hx)).1.st r hr)).1
  have hlb := (hI.inv.reach x (List.mem_of_getElem? hx)).1.lb hVT.nf
  by_cases hb0 : s.best < 0
  ·simp only [go_sem, simprocAttr, sA, a1, d0, d1, encIt_len, p1, p2, c1, c4, Int.toNat_natCast, Nat.zero_add, hst, hb0, encTask]
   refine (bholds_spec x.b t.goal .unk .unk _ ht.goal hlb hpw).is ?_
   cases hg : allH x.b t.goal
   ·simp only [go_sem, simprocAttr, encTask]
    exact main _ _ (by unfold bestF; rw [hg, if_neg (by simp)]) rfl rfl rfl rfl rfl rfl rfl
   ·simp only [go_sem, simprocAttr, d0, encTask]
    exact main _ _ (by unfold bestF; rw [hg, if_pos ⟨hb0, rfl⟩]) rfl rfl rfl rfl rfl rfl rfl
  ·simp only [go_sem, simprocAttr, sA, a1, d0, d1, encIt_len, p1, p2, c1, c4, Int.toNat_natCast, Nat.zero_add, hst, hb0]
   exact main _ _ (by unfold bestF; rw [if_neg (by omega)]) rfl rfl rfl rfl rfl rfl rfl
def encBel (u : Bel) : List AV := [.slice .unk (u.map encL)]
instance : IdE encBel := ⟨fun _ _ => idsL_cons (ids_map ids_encL _) idsL_nil⟩
def encS3 (s : St3) : List AV := [.int .i64 (s.1 : Nat), .int .i64 (s.2.1 : Nat), .int .i64 s.2.2]
instance : IdE encS3 := ⟨fun _ _ => idsL_cons (.int _ _) (idsL_cons (.int _ _) (idsL_cons (.int _ _) idsL_nil))⟩
def mapR (all : List Bel) : List (AV × AV) := encKM keyR17 all
def BestOut (t : FTask) (b : Bel) (M : Nat) (r : AV) : Prop :=
 r = .tuple [.int .i64 0, .bool false] ∨
 ∃ (all : List Bel) (d : Int), r = .tuple [.int .i64 d, .bool true] ∧ all.Nodup ∧ b ∈ all ∧ all.length ≤ M ∧ (∀ u ∈ all, ∀ a v, a < t.actions.length → stB t u a = some v → v ∈ all) ∧
  ((d < 0 ∧ d = -1 ∧ ∀ l v k, runD t.actions.length (stB t) (cN t) l b = some (v, k) → goalF t v = false) ∨
   (0 ≤ d ∧ (∃ l v, runD t.actions.length (stB t) (cN t) l b = some (v, d) ∧ goalF t v = true) ∧ ∀ l v k, runD t.actions.length (stB t) (cN t) l b = some (v, k) → goalF t v = true → d ≤ k))
theorem rep_ai17 (n : Nat) : (List.replicate n [AV.int .i64 0]).flatten = (List.replicate n (0 : Int)).map ai := by rw [flat_rep, List.map_replicate]; rfl
theorem set_ai (d : List Int) (i : Nat) (v : Int) : (d.map ai).set i (AV.int .i64 v) = (d.set i v).map ai := (List.map_set (f := ai)).symm
theorem get_ai {d : List Int} {i : Nat} {v : Int} (h : d[i]? = some v) : (d.map ai)[i]? = some (AV.int .i64 v) := by rw [List.getElem?_map, h]; rfl
def d0F (t : FTask) (u : Bel) : Int := if goalF t u then 0 else -1
def d0L (t : FTask) (all : List Bel) (i : Nat) : List Int := (all.take i).map (d0F t) ++ List.replicate (all.length - i) 0
theorem d0L_len {t : FTask} {all : List Bel} {i : Nat} (h : i ≤ all.length) : (d0L t all i).length = all.length := by
 unfold d0L; rw [List.length_append, List.length_map, List.length_take_of_le h, List.length_replicate]; omega
theorem d0L_step {t : FTask} {all : List Bel} {i : Nat} {u : Bel} (h : all[i]? = some u) : (d0L t all i).set i (d0F t u) = d0L t all (i + 1) := by
 have hi := lt_of_get h
 unfold d0L
 have hl : ((all.take i).map (d0F t)).length = i := by rw [List.length_map, List.length_take_of_le (by omega)]
 rw [List.set_append_right _ _ (by omega), hl, Nat.sub_self, show all.length - i = (all.length - (i + 1)) + 1 by omega, List.replicate_succ, List.set_cons_zero, take_succ' h, List.map_append, List.append_assoc]
 rfl
def e_best17_0 : List COp := [oS 42 (.load (some 4) (.tmp 3)), oS 43 (.move (.tmp 8)), oS 44 (.move (.tmp 11)), oA 45 (.iaddr 1 (.tmp 43) (.tmp 44)) [1, 2], oA 46 (.load none (.tmp 45)) [3], oS 47 (.move (.tmp 12)), oA 48 (.call (.lit (.func 22 [])) [.tmp 42, .tmp 46, .tmp 47]) [0, 4, 5], oA 41 (.move (.tmp 48)) [6], oA 49 (.extract (.tmp 41) 0) [7], oA 50 (.extract (.tmp 41) 1) [7], oA 13 (.move (.tmp 49)) [8, 6, 0, 1, 2, 3, 4, 5, 6, 7, 8], oA 14 (.move (.tmp 50)) [9, 10, 0, 1, 2, 3, 4, 5, 6, 7, 8, 9, 10]]
def d_best17_0 : List COp := e_best17_0
theorem dr_best17_0 (P : Program) (nt n0 : Nat) (Q : Post) (s : Slots) (σ : Store) : wpc P nt n0 (.draw d_best17_0) Q s σ = aOpsD P nt e_best17_0 (Q .normal) s σ := wpc_draw _ (by decide)
def e_best17_1 : List COp := [oS 117 (.move (.tmp 17)), oS 118 (.faddr 1 (.tmp 22)), oA 119 (.load none (.tmp 118)) [1], oA 120 (.iaddr 1 (.tmp 117) (.tmp 119)) [0, 2], oA 121 (.load none (.tmp 120)) [3], oA 122 (.bin .geq .none (.tmp 121) (.lit (.int .i64 0))) [4], oA 123 (.move (.tmp 122)) [5], ⟨some 124, .move (.tmp 17), some (some 123, true), [6]⟩, ⟨some 125, .faddr 0 (.tmp 22), some (some 123, true), [6]⟩, ⟨some 126, .load none (.tmp 125), some (some 123, true), [8, 6]⟩, ⟨some 127, .iaddr 1 (.tmp 124) (.tmp 126), some (some 123, true), [7, 9, 6]⟩, ⟨some 128, .load none (.tmp 127), some (some 123, true), [10, 6]⟩, ⟨some 129, .bin .lss .none (.tmp 128) (.lit (.int .i64 0)), some (some 123, true), [11, 6]⟩, ⟨some 130, .move (.tmp 129), some (some 123, true), [12, 6, 6]⟩, ⟨some 131, .move (.tmp 17), some (some 130, false), [13]⟩, ⟨some 132, .faddr 1 (.tmp 22), some (some 130, false), [13]⟩, ⟨some 133, .load none (.tmp 132), some (some 130, false), [15, 13]⟩, ⟨some 134, .iaddr 1 (.tmp 131) (.tmp 133), some (some 130, false), [14, 16, 13]⟩, ⟨some 135, .load none (.tmp 134), some (some 130, false), [17, 13]⟩, ⟨some 136, .faddr 2 (.tmp 22), some (some 130, false), [13]⟩, ⟨some 137, .load none (.tmp 136), some (some 130, false), [19, 13]⟩, ⟨some 138, .bin .add .none (.tmp 135) (.tmp 137), some (some 130, false), [18, 20, 13]⟩, ⟨some 139, .move (.tmp 17), some (some 130, false), [13]⟩, ⟨some 140, .faddr 0 (.tmp 22), some (some 130, false), [13]⟩, ⟨some 141, .load none (.tmp 140), some (some 130, false), [23, 13]⟩, ⟨some 142, .iaddr 1 (.tmp 139) (.tmp 141), some (some 130, false), [22, 24, 13]⟩, ⟨some 143, .load none (.tmp 142), some (some 130, false), [25, 13]⟩, ⟨some 144, .bin .lss .none (.tmp 138) (.tmp 143), some (some 130, false), [21, 26, 13]⟩, ⟨some 145, .pick (.tmp 130) (.lit (.bool true)) (.tmp 144), some (some 123, true), [13, 27, 6]⟩, oA 146 (.pick (.tmp 123) (.tmp 145) (.lit (.bool false))) [6, 28]]
def d_best17_1 : List COp := e_best17_1
theorem dr_best17_1 (P : Program) (nt n0 : Nat) (Q : Post) (s : Slots) (σ : Store) : wpc P nt n0 (.draw d_best17_1) Q s σ = aOpsD P nt e_best17_1 (Q .normal) s σ := wpc_draw _ (by decide)
def e_best17_2 : List COp := [oS 147 (.move (.tmp 17)), oS 148 (.faddr 0 (.tmp 22)), oA 149 (.load none (.tmp 148)) [1], oS 150 (.move (.tmp 17)), oS 151 (.faddr 1 (.tmp 22)), oA 152 (.load none (.tmp 151)) [4], oA 153 (.iaddr 1 (.tmp 150) (.tmp 152)) [3, 5], oA 154 (.load none (.tmp 153)) [6], oS 155 (.faddr 2 (.tmp 22)), oA 156 (.load none (.tmp 155)) [8], oA 157 (.bin .add .none (.tmp 154) (.tmp 156)) [7, 9], oA 158 (.iaddr 1 (.tmp 147) (.tmp 149)) [0, 2, 0, 1, 2, 3, 4, 5, 6, 7, 8, 9, 10], ⟨none, .store 1 (.tmp 158) (.tmp 157), none, [11, 10, 0, 1, 2, 3, 4, 5, 6, 7, 8, 9, 10]⟩, oA 20 (.move (.lit (.bool true))) [12, 0, 1, 2, 3, 4, 5, 6, 7, 8, 9, 10, 11, 12]]
def d_best17_2 : List COp := e_best17_2
theorem dr_best17_2 (P : Program) (nt n0 : Nat) (Q : Post) (s : Slots) (σ : Store) : wpc P nt n0 (.draw d_best17_2) Q s σ = aOpsD P nt e_best17_2 (Q .normal) s σ := wpc_draw _ (by decide)
attribute [local go_sem] dr_best17_0 e_best17_0 dr_best17_1 e_best17_1 dr_best17_2 e_best17_2
def c_best17 : CCode := .seq (.ops [oS 3 (.box (.tmp 0)), oS 6 (.move (.lit (.int .i64 0))), oS 7 (.move (.lit (.bool false)))]) (.seq (.ops [oS 23 (.move (.tmp 1)), oS 24 (.bslice 1 [.tmp 23] false), oS 8 (.move (.tmp 24))]) (.seq (.ops [oS 25 .mkmap, oS 26 (.move (.tmp 1)), oS 27 (.call (.lit (.func 48 [])) [.tmp 26]), oN (.mapup true (.tmp 25) (.tmp 27) (.lit (.int .i64 0))), oS 28 (.move (.tmp 25)), oS 9 (.move (.tmp 28))]) (.seq (.ops [oS 10 (.move (.lit (.slice .nil [])))]) (.seq (.seq (.ops [oS 11 (.move (.lit (.int .i64 0)))]) (.block 0 (.loop (.seq (.seq (.ops [oS 29 (.move (.tmp 11)), oS 30 (.move (.tmp 8)), oS 31 (.blen 1 (.tmp 30)), oS 32 (.bin .lss .none (.tmp 29) (.tmp 31))]) (.cond (.tmp 32) .skip (.exit 0))) (.seq (.block 1 (.seq (.ops [oS 35 (.faddr 3 (.tmp 3)), oS 36 (.load none (.tmp 35)), oS 37 (.blen 1 (.tmp 36)), oS 38 (.move (.lit (.int .i64 0)))]) (.block 2 (.loop (.seq (.ops [oS 39 (.bin .lss .none (.tmp 38) (.tmp 37))]) (.seq (.cond (.tmp 39) .skip (.exit 2)) (.seq (.block 3 (.seq (.ops [oS 40 (.move (.tmp 38)), oS 12 (.move (.tmp 40))]) (.seq (.draw d_best17_0) (.seq (.seq (.ops [oS 51 (.move (.tmp 14)), oS 52 (.un .not (.tmp 51))]) (.cond (.tmp 52) (.exit 3) .skip)) (.seq (.ops [oS 54 (.move (.tmp 9)), oS 55 (.move (.tmp 13)), oS 56 (.call (.lit (.func 48 [])) [.tmp 55]), oS 57 (.lookup true (.int .i64 0) (.tmp 54) (.tmp 56) true), oS 53 (.move (.tmp 57)), oS 58 (.extract (.tmp 53) 0), oS 59 (.extract (.tmp 53) 1), oS 15 (.move (.tmp 58)), oS 16 (.move (.tmp 59))]) (.seq (.seq (.ops [oS 60 (.move (.tmp 16)), oS 61 (.un .not (.tmp 60))]) (.cond (.tmp 61) (.seq (.seq (.ops [oS 62 (.move (.tmp 8)), oS 63 (.blen 1 (.tmp 62)), oS 64 (.move (.tmp 2)), oS 65 (.bin .eql .none (.tmp 63) (.tmp 64))]) (.cond (.tmp 65) (.seq (.ops [oS 6 (.move (.lit (.int .i64 0))), oS 7 (.move (.lit (.bool false)))]) .ret) .skip)) (.seq (.ops [oS 66 (.move (.tmp 8)), oS 67 (.blen 1 (.tmp 66)), oS 15 (.move (.tmp 67))]) (.seq (.ops [oS 68 (.move (.tmp 9)), oS 69 (.move (.tmp 13)), oS 70 (.call (.lit (.func 48 [])) [.tmp 69]), oS 71 (.move (.tmp 15)), oN (.mapup true (.tmp 68) (.tmp 70) (.tmp 71))]) (.ops [oS 72 (.move (.tmp 8)), oS 73 (.move (.tmp 13)), oS 74 (.bsliceC 1 [.tmp 73]), oS 75 (.bappend 1 24 (.tmp 72) (.tmp 74) false), oS 8 (.move (.tmp 75))])))) .skip)) (.ops [oS 76 (.move (.tmp 10)), oS 77 (.move (.tmp 11)), oS 78 (.move (.tmp 15)), oS 79 (.faddr 3 (.tmp 3)), oS 80 (.load none (.tmp 79)), oS 81 (.move (.tmp 12)), oS 82 (.iaddr 4 (.tmp 80) (.tmp 81)), oS 83 (.faddr 1 (.tmp 82)), oS 84 (.load none (.tmp 83)), oS 85 (.build [.int .i64 0, .int .i64 0, .int .i64 0] [(0, 1, .tmp 77), (1, 1, .tmp 78), (2, 1, .tmp 84)]), oS 86 (.bsliceC 3 [.tmp 85]), oS 87 (.bappend 3 24 (.tmp 76) (.tmp 86) false), oS 10 (.move (.tmp 87))]))))))) (.ops [oS 88 (.bin .add .none (.tmp 38) (.lit (.int .i64 1))), oS 38 (.move (.tmp 88))])))))))) (.ops [oS 33 (.move (.tmp 11)), oS 34 (.bin .add .none (.tmp 33) (.lit (.int .i64 1))), oS 11 (.move (.tmp 34))])))))) (.seq (.ops [oS 89 (.move (.tmp 8)), oS 90 (.blen 1 (.tmp 89)), oS 91 (.mkslice 1 8 [.int .i64 0] (.tmp 90) (.tmp 90) true), oS 17 (.move (.tmp 91))]) (.seq (.seq (.ops [oS 92 (.move (.tmp 8)), oS 93 (.blen 1 (.tmp 92)), oS 94 (.move (.lit (.int .i64 0)))]) (.block 4 (.loop (.seq (.ops [oS 95 (.bin .lss .none (.tmp 94) (.tmp 93))]) (.seq (.cond (.tmp 95) .skip (.exit 4)) (.seq (.block 5 (.seq (.ops [oS 96 (.move (.tmp 94)), oS 97 (.iaddr 1 (.tmp 92) (.tmp 94)), oS 98 (.load none (.tmp 97)), oS 18 (.move (.tmp 96)), oS 19 (.move (.tmp 98))]) (.seq (.ops [oS 99 (.move (.tmp 17)), oS 100 (.move (.tmp 18)), oS 101 (.iaddr 1 (.tmp 99) (.tmp 100)), oN (.store 1 (.tmp 101) (.lit (.int .i64 (-1))))]) (.seq (.ops [oS 102 (.move (.tmp 19)), oS 103 (.faddr 2 (.tmp 3)), oS 104 (.load none (.tmp 103)), oS 105 (.call (.lit (.func 43 [])) [.tmp 102, .tmp 104])]) (.cond (.tmp 105) (.ops [oS 106 (.move (.tmp 17)), oS 107 (.move (.tmp 18)), oS 108 (.iaddr 1 (.tmp 106) (.tmp 107)), oN (.store 1 (.tmp 108) (.lit (.int .i64 0)))]) .skip))))) (.ops [oS 109 (.bin .add .none (.tmp 94) (.lit (.int .i64 1))), oS 94 (.move (.tmp 109))]))))))) (.seq (.seq (.ops [oS 20 (.move (.lit (.bool true)))]) (.block 6 (.loop (.seq (.seq (.ops [oS 110 (.move (.tmp 20))]) (.cond (.tmp 110) .skip (.exit 6))) (.block 7 (.seq (.ops [oS 20 (.move (.lit (.bool false)))]) (.seq (.ops [oS 111 (.move (.tmp 10)), oS 112 (.blen 1 (.tmp 111)), oS 113 (.move (.lit (.int .i64 0)))]) (.block 8 (.loop (.seq (.ops [oS 114 (.bin .lss .none (.tmp 113) (.tmp 112))]) (.seq (.cond (.tmp 114) .skip (.exit 8)) (.seq (.block 9 (.seq (.ops [oS 115 (.iaddr 3 (.tmp 111) (.tmp 113)), oS 116 (.load (some 3) (.tmp 115)), oS 22 (.alloc (.agg [.int .i64 0, .int .i64 0, .int .i64 0])), oN (.store 3 (.tmp 22) (.tmp 116))]) (.seq (.draw d_best17_1) (.cond (.tmp 146) (.draw d_best17_2) .skip)))) (.ops [oS 159 (.bin .add .none (.tmp 113) (.lit (.int .i64 1))), oS 113 (.move (.tmp 159))]))))))))))))) (.seq (.ops [oS 160 (.move (.tmp 17)), oS 161 (.iaddr 1 (.tmp 160) (.lit (.int .i64 0))), oS 162 (.load none (.tmp 161)), oS 6 (.move (.tmp 162)), oS 7 (.move (.lit (.bool true)))]) .ret))))))))
set_option maxHeartbeats 4000000 in
theorem best17_spec (t : FTask) (b : Bel) (M : Nat) (tok : Tok) (σ : Store) (hv : validB t = true) (ht : VT t) (hb : BelOk t.facts.length b) (hM : M ≤ 10000) (hM1 : 1 ≤ M) :
  ACalls Tryz.prog 25 [.agg (encTask t), .slice tok (b.map encL), .int .i64 M] σ fun r σ' => BestOut t b M r ∧ σ' = σ := by
 refine ACalls.intro (rs := [(.tmp 6), (.tmp 7)]) (by kernel_rfl) { own := [(21, 2)], ghosts := [], cold := [(18, 2), (19, 10)] } Tryz.func25 (c := Tryz.f25.body.getD .skip) (by kernel_rfl) (by decide) (by rw [show Tryz.f25.ntmps = 163 by kernel_rfl]; exact Nat.le_of_ble_eq_true rfl) (by kernel_rfl) ?_
 intro hσ hids
 rw [show comp Tryz.prog { own := [(21, 2)], ghosts := [], cold := [(18, 2), (19, 10)] } (Tryz.f25.body.getD .skip) = c_best17 by kernel_rfl, show Tryz.f25.ntmps = 163 by kernel_rfl]
 unfold c_best17
 have hil : Ids σ.length (.slice tok (b.map encL)) := hids _ (by simp)
 simp only [go_sem, simprocAttr, encTask]
 refine (key17_spec t.facts.length b tok _ ht.nf hb).is ?_
 have hf0 : aFind (.str (keyR17 b)) [] 0 = some none := rfl
 have hC : ∀ a, a < t.actions.length → 0 ≤ cN t a ∧ cN t a ≤ 100000 := fun a ha => by
  obtain ⟨x, _, e, h1, h2⟩ := costB_ok ht (a := (a : Nat)) ⟨by omega, by omega⟩
  unfold cN; rw [e]; exact ⟨h1, h2⟩
 have hna := ht.na
 have hids : ∀ (n m : Nat) (all : List Bel), IdsS (σ ++ [AObj.row (encTask t), .grow 1 n, .map (mapR all), .grow 3 m]).length (σ ++ [AObj.row (encTask t), .grow 1 n, .map (mapR all), .grow 3 m]) := fun n m all =>
  idsS_app _ hσ (all_cons' (idsO_row (ids_encTask t)) (all_cons' trivial (all_cons' (idsO_encKM _ _ _) (all_cons' trivial all_nil'))))
 have hids0 : IdsS (σ ++ [AObj.row (encTask t), .grow 1 1, .map (mapR [b])]).length (σ ++ [AObj.row (encTask t), .grow 1 1, .map (mapR [b])]) :=
  idsS_app _ hσ (all_cons' (idsO_row (ids_encTask t)) (all_cons' trivial (all_cons' (idsO_encKM _ _ _) all_nil')))
 simp only [go_sem, simprocAttr, encTask, hf0]
 simp only [encTask] at hids hids0
 refine wpc_while (α := List Bel × List St3 × Nat) (fun y => [(10, .slice (.grow (σ.length + 3)) (y.2.1.map encS3)), (2, .int .i64 M), (3, .ptr σ.length 0), (8, .slice (.grow (σ.length + 1)) (y.1.map encBel)), (9, .map (σ.length + 2)), (11, .int .i64 (y.2.2 : Nat))])
  (fun y => σ ++ [.row (encTask t), .grow 1 y.1.length, .map (mapR y.1), .grow 3 y.2.1.length])
  (fun y => BInv t.actions.length (stB t) (cN t) b y.1 y.2.1 y.2.2 0 ∧ y.1.length ≤ M ∧ y.2.2 ≤ y.1.length ∧ ∀ u ∈ y.1, BelOk t.facts.length u) (fun y => M - y.2.2) ([b], [], 0) ⟨BInv.start, by simp only [List.length_singleton]; exact hM1, by simp, by simp [hb]⟩ ?_ ?_
 ·(try dsimp only)
  simp only [encTask]
  refine Ghost.trans (Ghost.weak 8 (.slice (.grow (σ.length + 1)) ([b].map encBel)) (Wk.slice _ (WkLL.one (WkL.one (Wk.unk _ _))))) ?_
  exact Ghost.beginT (σ := σ) [.row _, .grow 1 1, .map (mapR [b])] 10 3 _ tellT hids0
 rintro ⟨all, steps, i⟩ ⟨hI, hal, hil2, hbo⟩ K hK hE hR
 dsimp only at hI hal hil2 hbo ⊢
 by_cases h : i < all.length
 ·obtain ⟨u, hx⟩ := get_ex h; have hlt : ((i : Int) < (all.length : Int)) := (by omega); have hw := wrapS (i := i) (by omega)
  have hbu := hbo u (List.mem_of_getElem? hx)
  simp only [go_sem, simprocAttr, hlt, encTask]
  refine wpc_while (α := (List Bel × List St3) × Nat) (fun y => [(10, .slice (.grow (σ.length + 3)) (y.1.2.map encS3)), (2, .int .i64 M), (3, .ptr σ.length 0), (8, .slice (.grow (σ.length + 1)) (y.1.1.map encBel)), (9, .map (σ.length + 2)), (11, .int .i64 i), (37, .int .i64 t.actions.length), (38, .int .i64 (y.2 : Nat))])
   (fun y => σ ++ [.row (encTask t), .grow 1 y.1.1.length, .map (mapR y.1.1), .grow 3 y.1.2.length])
   (fun y => BInv t.actions.length (stB t) (cN t) b y.1.1 y.1.2 i y.2 ∧ y.1.1.length ≤ M ∧ y.2 ≤ t.actions.length ∧ y.1.1[i]? = some u ∧ ∀ u ∈ y.1.1, BelOk t.facts.length u) (fun y => t.actions.length - y.2) ((all, steps), 0) ⟨hI, hal, Nat.zero_le _, hx, hbo⟩ ?_ ?_
  ·(try dsimp only)
   simp only [encTask]
   exact ghL0 (l := [.row _, .grow 1 _, .map _, .grow 3 _]) (hids _ _ _)
  rintro ⟨⟨A, T⟩, k⟩ ⟨hB, hAl, hk, hu, hbA⟩ K2 hK2 hE2 hR2
  dsimp only at hB hAl hk hu hbA ⊢
  have hTl : T.length ≤ 1000 * 10000 + 1000 := by
   have h1 := hB.len
   have h2 : t.actions.length * i ≤ 1000 * 10000 := Nat.mul_le_mul hna (by have := lt_of_get hu; omega)
   omega
  have hil3 := lt_of_get hu
  by_cases hkk : k < t.actions.length
  ·have hltk : ((k : Int) < (t.actions.length : Int)) := by omega
   have hwk := wrapS (i := k) (by omega)
   have hap := fun σ => apply17_spec t u k .unk σ hv ht hbu hkk
   simp only [encTask] at hap
   obtain ⟨xa, hxa⟩ := get_ex hkk
   have hcx2 : cN t k = xa.cost := by unfold cN costB; rw [Int.toNat_natCast, List.getD_eq_getElem?_getD, hxa]; rfl
   have hk0' : (0 : Int) ≤ (k : Int) := by omega
   have hi0' : (0 : Int) ≤ (i : Int) := by omega
   simp only [go_sem, simprocAttr, hltk, hu, encBel, encTask]
   refine ⟨_, hap _, ?_⟩
   unfold aft17R
   cases hs : stB t u k with
   | none =>
    simp only [go_sem, simprocAttr]
    refine hK2 _ _ ((A, T), k + 1) ⟨hB.skip hu hs, hAl, by simp only []; omega, hu, hbA⟩ (by simp only []; omega) ?_
    (try dsimp only)
    rw [hwk]
    simp only [encTask]
    exact ghL0 (l := [.row _, .grow 1 _, .map _, .grow 3 _]) (hids _ _ _)
   | some v =>
    have hbv := stB_ok ht hbu hs
    simp only [go_sem, simprocAttr]
    refine (key17_spec t.facts.length v .unk _ ht.nf hbv).is ?_
    have hfind := findK (key := keyR17) v A 0 0 (fun y hy hyk => keyR17_inj ht.nf (hbA y hy) hbv hyk)
    rw [show encKF keyR17 0 A = mapR A from rfl] at hfind
    simp only [Nat.zero_add] at hfind
    have hbT : bigLen (T.length + 1) 24 := big_ok (by omega) (by omega)
    by_cases hmem : v ∈ A
    ·rw [if_pos hmem] at hfind
     obtain ⟨j, hj⟩ : ∃ j, j = A.idxOf v := ⟨_, rfl⟩
     rw [← hj] at hfind
     have hjv : A[j]? = some v := by
      rw [hj, List.getElem?_eq_getElem (List.idxOf_lt_length_of_mem hmem), List.getElem_idxOf]
     have hB2 := hB.old hkk hu hs hjv
     have e3 : T.map encS3 ++ [[AV.int .i64 ((i : Nat) : Int), .int .i64 ((j : Nat) : Int), .int .i64 xa.cost]] = (T ++ [(i, j, cN t k)]).map encS3 := by rw [List.map_append, hcx2]; rfl
     simp only [go_sem, simprocAttr, hfind, hxa, encA, hk0', hbT]
     rw [e3]
     refine hK2 _ _ ((A, T ++ [(i, j, cN t k)]), k + 1) ⟨hB2, hAl, by simp only []; omega, hu, hbA⟩ (by simp only []; omega) ?_
     (try dsimp only)
     rw [hwk, List.length_append, List.length_singleton]
     simp only [encTask]
     generalize T ++ [(i, j, cN t k)] = T2
     exact ghL (l := [.row _, .grow 1 _, .map _, .grow 3 _]) (hids _ _ _)
    ·rw [if_neg hmem] at hfind
     by_cases hmax : A.length = M
     ·have hmx : ((A.length : Int) == (M : Int)) = true := by simp only [beq_iff_eq]; omega
      simp only [go_sem, simprocAttr, hfind, hmx, hR2, hR]
      exact rT (.int .i64 0) (.bool false) ⟨.inl rfl, rfl⟩
     ·have hmx : ((A.length : Int) == (M : Int)) = false := by simp only [beq_eq_false_iff_ne, ne_eq]; omega
      have hB2 := (hB.push hil3 hmem).old hkk (get_app_of hu) hs (j := A.length) (by simp)
      have hbAl : bigLen (A.length + 1) 24 := big_ok (by omega) (by omega)
      have hmr : mapR A ++ [(AV.str (keyR17 v), AV.int .i64 ((A.length : Nat) : Int))] = mapR (A ++ [v]) := encKM_snoc keyR17 A v
      have e3 : T.map encS3 ++ [[AV.int .i64 ((i : Nat) : Int), .int .i64 ((A.length : Nat) : Int), .int .i64 xa.cost]] = (T ++ [(i, A.length, cN t k)]).map encS3 := by rw [List.map_append, hcx2]; rfl
      have e4 : A.map encBel ++ [[AV.slice .unk (v.map encL)]] = (A ++ [v]).map encBel := by rw [List.map_append]; rfl
      simp only [go_sem, simprocAttr, hfind, hmx]
      refine (key17_spec t.facts.length v .unk _ ht.nf hbv).is ?_
      simp only [go_sem, simprocAttr, hfind, hxa, encA, hk0', hbT, hbAl]
      rw [e3, e4, hmr]
      refine hK2 _ _ ((A ++ [v], T ++ [(i, A.length, cN t k)]), k + 1) ⟨hB2, by simp; omega, by simp only []; omega, get_app_of hu, fun w hw => by rcases List.mem_append.1 hw with hw | hw; exact hbA w hw; simp at hw; subst hw; exact hbv⟩ (by simp only []; omega) ?_
      (try dsimp only)
      rw [hwk, List.length_append, List.length_singleton, List.length_append, List.length_singleton]
      simp only [encTask]
      generalize T ++ [(i, A.length, cN t k)] = T2
      generalize A ++ [v] = A2
      exact ghL (l := [.row _, .grow 1 _, .map _, .grow 3 _]) (hids _ _ _)
  ·have hltk : ¬ ((k : Int) < (t.actions.length : Int)) := by omega
   obtain rfl : k = t.actions.length := by omega
   simp only [go_sem, simprocAttr, hltk, hE2]
   refine hK _ _ (A, T, i + 1) ⟨hB.row, hAl, by simp only []; omega, hbA⟩ (by simp only []; omega) ?_
   (try dsimp only)
   rw [hw]
   simp only [encTask]
   exact ghL0 (l := [.row _, .grow 1 _, .map _, .grow 3 _]) (hids _ _ _)
 ·have hlt : ¬ ((i : Int) < (all.length : Int)) := by omega
  obtain rfl : i = all.length := by omega
  have hn0 : (0 : Int) ≤ (all.length : Int) := by omega
  have hbn : bigLen all.length 8 := big_ok (by omega) (by omega)
  clear hK hR
  simp only [go_sem, simprocAttr, hlt, hE, hn0, Int.toNat_natCast, hbn, aMkslice, rep_ai17]
  refine ⟨Int.le_refl _, by omega, by omega, ?_⟩
  have hi1 : ∀ d : List Int, IdsS (σ ++ [AObj.row (encTask t), .row (d.map ai)]).length (σ ++ [AObj.row (encTask t), .row (d.map ai)]) := fun d => idsS_app _ hσ (all_cons' (idsO_row (ids_encTask t)) (all_cons' (ids_ai _) all_nil'))
  simp only [encTask] at hi1
  refine wpc_while (fun (j : Nat) => [(3, .ptr σ.length 0), (10, .slice .unk (steps.map encS3)), (17, .ref (σ.length + 1) 1 0 all.length), (92, .slice .unk (all.map encBel)), (93, .int .i64 all.length), (94, .int .i64 (j : Nat))])
   (fun j => σ ++ [.row (encTask t), .row ((d0L t all j).map ai)]) (fun j => j ≤ all.length) (fun j => all.length - j) 0 (Nat.zero_le _) ?_ ?_
  ·(try dsimp only)
   refine Ghost.pick (n := σ.length + 1) [.row (encTask t)] [.row ((d0L t all 0).map ai)] [σ.length + 4] (by simp) (Nat.le_refl _) hσ (by simp) (by simp) ?_ ?_ ?_
   ·exact ⟨.inr ⟨by simp, .same (idsO_row (ids_encTask t))⟩, trivial⟩
   ·refine ⟨⟨_, by rw [List.getElem?_append_right (by omega), Nat.add_sub_cancel_left]; rfl, ?_⟩, trivial⟩
    rw [show d0L t all 0 = List.replicate all.length 0 by unfold d0L; simp]
    exact .same (ids_ai _)
   ·exact ⟨.keep (.refl _) (.ptr _ _ (by omega)), .keep (Wk.unk _ _) (ids_mapE _), MvP.ref (k := 0) rfl 1 0 _, .keep (Wk.unk _ _) (ids_mapE _), .keep (.refl _) (.int _ _), .keep (.refl _) (.int _ _), trivial⟩
  intro j hj0 K hK hE hR
  by_cases hj : j < all.length
  ·obtain ⟨u, hxj⟩ := get_ex hj; have hltj : ((j : Int) < (all.length : Int)) := (by omega); have hwj := wrapS (i := j) (by omega)
   have hbu := hbo u (List.mem_of_getElem? hxj)
   have hdl := d0L_len (t := t) (all := all) hj0
   have hj1 : (0 : Int) ≤ (j : Int) := by omega
   have hl1 : ((d0L t all j).map ai).length = all.length := by rw [List.length_map, hdl]
   have hl2 : (((d0L t all j).set j (-1)).map ai).length = all.length := by rw [List.length_map, List.length_set, hdl]
   have hjl : j + 1 ≤ all.length := by omega
   simp only [go_sem, simprocAttr, hltj, hxj, encBel, hj1, hj, Int.toNat_natCast, Nat.zero_add, hl1, hjl, set_ai, encTask]
   refine (holds17_spec u t.goal .unk .unk _ ht.tb.goal (hbu.lb ht.nf)).is ?_
   have hstep := d0L_step (t := t) hxj
   cases hg : allH u t.goal
   ·have hd : d0F t u = -1 := by unfold d0F goalF; rw [hg]; rfl
    rw [hd] at hstep
    simp only [go_sem, simprocAttr]
    rw [hstep]
    refine hK _ _ (j + 1) (by omega) (by omega) ?_
    (try dsimp only)
    rw [hwj]
    simp only [encTask]
    first | exact ghL0 (l := [.row _, .row _]) (hi1 _) | exact ghL (l := [.row _, .row _]) (hi1 _)
   ·have hd : d0F t u = 0 := by unfold d0F goalF; rw [hg]; rfl
    rw [hd] at hstep
    simp only [go_sem, simprocAttr, hj1, hj, Int.toNat_natCast, Nat.zero_add, hl2, hjl, set_ai, List.set_set]
    rw [hstep]
    refine hK _ _ (j + 1) (by omega) (by omega) ?_
    (try dsimp only)
    rw [hwj]
    simp only [encTask]
    first | exact ghL0 (l := [.row _, .row _]) (hi1 _) | exact ghL (l := [.row _, .row _]) (hi1 _)
  have hltj : ¬ ((j : Int) < (all.length : Int)) := by omega
  obtain rfl : j = all.length := by omega
  simp only [go_sem, simprocAttr, hltj, hE]
  clear hK hE hR
  have hn1 : 1 ≤ all.length := by have := hI.a0; exact lt_of_get this
  have hd0 : d0L t all all.length = all.map (d0F t) := by unfold d0L; simp
  have hR0 : RInv t.actions.length (stB t) (cN t) (goalF t) 100000 all (all.map (d0F t)) := RInv.start (by omega)
  obtain ⟨Mu, hMu⟩ : ∃ Mu : Nat, Mu = 100000 * all.length := ⟨_, rfl⟩
  have hM' : (100000 : Int) * (all.length : Int) ≤ (Mu : Int) := by omega
  have hi2 : ∀ d : List Int, IdsS (σ ++ [AObj.row (d.map ai)]).length (σ ++ [AObj.row (d.map ai)]) := fun d => idsS_push hσ (ids_ai d)
  have hstl : steps.length ≤ 1000 * 10000 + 1000 := by
   have h1 := hI.len
   have h2 : t.actions.length * all.length ≤ 1000 * 10000 := Nat.mul_le_mul hna (by omega)
   omega
  refine wpc_while (α := List Int × Bool) (fun y => [(10, .slice .unk (steps.map encS3)), (17, .ref σ.length 1 0 all.length), (20, .bool y.2)]) (fun y => σ ++ [.row (y.1.map ai)])
   (fun y => RInv t.actions.length (stB t) (cN t) (goalF t) 100000 all y.1 ∧ (y.2 = false → ∀ r ∈ steps, calm y.1 r)) (fun y => 2 * mu3 Mu y.1 + y.2.toNat) (all.map (d0F t), true) ⟨hR0, by simp⟩ ?_ ?_
  ·(try dsimp only)
   rw [hd0]
   refine Ghost.pick (n := σ.length) [] [.row ((all.map (d0F t)).map ai)] [σ.length + 1] (by simp) (Nat.le_refl _) hσ (by simp) (by simp) ?_ ?_ ?_
   ·trivial
   ·exact ⟨⟨_, by rw [List.getElem?_append_right (by omega), Nat.add_sub_cancel_left]; rfl, .same (ids_ai _)⟩, trivial⟩
   ·exact ⟨.keep (.refl _) (ids_mapE _), MvP.ref (k := 0) rfl 1 0 _, .keep (.refl _) (.bool _), trivial⟩
  rintro ⟨d, more⟩ ⟨hRI, hcl⟩ K hK hE hR
  dsimp only at hRI hcl ⊢
  cases more
  ·have hcalm := hcl rfl
   obtain ⟨v0, hv0⟩ : ∃ v, d[0]? = some v := get_ex (by rw [hRI.len]; omega)
   have h0l : (0 : Int) ≤ 0 := by omega
   have g0 : (d.map ai)[0]? = some (AV.int .i64 v0) := get_ai hv0
   have h00 : 0 < all.length := by omega
   have ha0 := hI.a0
   have hout : BestOut t b M (.tuple [.int .i64 v0, .bool true]) := by
    refine .inr ⟨all, v0, rfl, hI.nd, List.mem_of_getElem? ha0, hal, fun u hu a v hva hs => hI.closed (Nat.le_refl _) hu hva hs, ?_⟩
    by_cases hneg : v0 < 0
    ·refine .inl ⟨hneg, by have := hRI.lo v0 (List.mem_of_getElem? hv0); omega, fun l v k e => ?_⟩
     cases hg : goalF t v
     ·rfl
     ·have := hRI.fin hI (Nat.le_refl _) hcalm l 0 b v0 v k ha0 hv0 e hg; omega
    ·refine .inr ⟨by omega, hRI.snd 0 b v0 ha0 hv0 (by omega), fun l v k e hg => (hRI.fin hI (Nat.le_refl _) hcalm l 0 b v0 v k ha0 hv0 e hg).2⟩
   simp only [go_sem, simprocAttr, hE, g0, h00, h0l]
   exact rT (.int .i64 v0) (.bool true) ⟨hout, rfl⟩
  ·simp only [go_sem, simprocAttr]
   refine wpc_while (α := (List Int × Bool) × Nat) (fun y => [(10, .slice .unk (steps.map encS3)), (17, .ref σ.length 1 0 all.length), (20, .bool y.1.2), (111, .slice .unk (steps.map encS3)), (112, .int .i64 steps.length), (113, .int .i64 (y.2 : Nat))]) (fun y => σ ++ [.row (y.1.1.map ai)])
    (fun y => y.2 ≤ steps.length ∧ RInv t.actions.length (stB t) (cN t) (goalF t) 100000 all y.1.1 ∧ (y.1.2 = false → y.1.1 = d ∧ ∀ r ∈ steps.take y.2, calm d r) ∧ (y.1.2 = true → mu3 Mu y.1.1 < mu3 Mu d)) (fun y => steps.length - y.2) ((d, false), 0) ⟨Nat.zero_le _, hRI, fun _ => ⟨rfl, by simp⟩, by simp⟩ ?_ ?_
   ·(try dsimp only)
    first | exact ghL0 (l := [.row _]) (hi2 _) | exact ghL (l := [.row _]) (hi2 _)
   rintro ⟨⟨d2, m2⟩, k⟩ ⟨hk00, hR2', hq, hmt⟩ K2 hK2 hE2 hR2
   dsimp only at hk00 hR2' hq hmt ⊢
   by_cases hk : k < steps.length
   ·obtain ⟨r, hxk⟩ := get_ex hk; have hltk : ((k : Int) < (steps.length : Int)) := (by omega); have hwk := wrapS (i := k) (by omega)
    obtain ⟨bx, u, a, hs1, hs2, haA, hst, hz⟩ := hI.sound r (List.mem_of_getElem? hxk)
    have hza := hC a haA
    obtain ⟨sx, sy, sz⟩ := r
    dsimp only at hs1 hs2 hz
    have hsx := lt_of_get hs1
    have hsy := lt_of_get hs2
    obtain ⟨dx, hdx⟩ : ∃ v, d2[sx]? = some v := get_ex (by rw [hR2'.len]; omega)
    obtain ⟨dy, hdy⟩ : ∃ v, d2[sy]? = some v := get_ex (by rw [hR2'.len]; omega)
    have gx := get_ai hdx
    have gy := get_ai hdy
    have ex : d2.getD sx (-1) = dx := by rw [List.getD_eq_getElem?_getD, hdx]; rfl
    have ey : d2.getD sy (-1) = dy := by rw [List.getD_eq_getElem?_getD, hdy]; rfl
    have sA : setAll [AV.int .i64 0, AV.int .i64 0, AV.int .i64 0] 0 [AV.int .i64 ((sx : Nat) : Int), .int .i64 ((sy : Nat) : Int), .int .i64 sz] = [AV.int .i64 ((sx : Nat) : Int), .int .i64 ((sy : Nat) : Int), .int .i64 sz] := rfl
    have p1 : (0 : Int) ≤ ((sx : Nat) : Int) := by omega
    have p2 : (0 : Int) ≤ ((sy : Nat) : Int) := by omega
    have hdyb : dy ≤ 100000 * 10000 := by
     have h1 := hR2'.hi dy (List.mem_of_getElem? hdy)
     have h2 : (100000 : Int) * ((all.length : Int) - neg3 d2) ≤ 100000 * 10000 := Int.mul_le_mul_of_nonneg_left (by omega) (by omega)
     omega
    have hdy0 := hR2'.lo dy (List.mem_of_getElem? hdy)
    have hwd : IntKind.i64.wrap (dy + sz) = dy + sz := wrap_ok (by omega)
    have hlt2 : m2 = false ∨ m2 = true := by cases m2 <;> simp
    have hdl : (d2.map ai).length = all.length := by rw [List.length_map, hR2'.len]
    have hsx1 : sx + 1 ≤ all.length := by omega
    have hrel : (0 ≤ dy ∧ (dx < 0 ∨ dy + sz < dx)) → relax3 d2 (sx, sy, sz) = d2.set sx (dy + sz) := fun e => by
     unfold relax3
     simp only [ex, ey]
     rw [if_pos e]
    have hcm : ¬ (0 ≤ dy ∧ (dx < 0 ∨ dy + sz < dx)) → calm d2 (sx, sy, sz) := fun e => by unfold calm; simp only [ex, ey]; exact e
    have hnc0 : (0 ≤ dy ∧ (dx < 0 ∨ dy + sz < dx)) → 0 ≤ d2.getD sy (-1) ∧ (d2.getD sx (-1) < 0 ∨ d2.getD sy (-1) + sz < d2.getD sx (-1)) := fun e => by rw [ex, ey]; exact e
    by_cases c1 : dy ≥ 0
    ·by_cases c2 : dx < 0
     ·have hnc := hnc0 ⟨c1, .inl c2⟩
      have hrel := hrel ⟨c1, .inl c2⟩
      simp only [go_sem, simprocAttr, hltk, hxk, encS3, sA, p1, p2, hsx, hsy, gx, gy, Int.toNat_natCast, Nat.zero_add, c1, c2, hwd, hdl, hsx1, set_ai]
      obtain ⟨r1, r2⟩ := hR2'.step (s := (sx, sy, sz)) (by omega) hs1 hs2 haA hst hz hza.1 hza.2 (fun q => q hnc) hM'
      rw [hrel] at r1 r2
      refine hK2 _ _ ((d2.set sx (dy + sz), true), k + 1) ⟨by simp only []; omega, r1, by simp, fun _ => by
       rcases hlt2 with e | e
       ·rw [(hq e).1] at r2; rw [(hq e).1]; exact r2
       ·exact Nat.lt_trans r2 (hmt e)⟩ (by simp only []; omega) ?_
      (try dsimp only)
      rw [hwk]
      exact ghL (l := [.row _]) (hi2 _)
     ·by_cases c3 : dy + sz < dx
      ·have hnc := hnc0 ⟨c1, .inr c3⟩
       have hrel := hrel ⟨c1, .inr c3⟩
       simp only [go_sem, simprocAttr, hltk, hxk, encS3, sA, p1, p2, hsx, hsy, gx, gy, Int.toNat_natCast, Nat.zero_add, c1, c2, c3, hwd, hdl, hsx1, set_ai]
       obtain ⟨r1, r2⟩ := hR2'.step (s := (sx, sy, sz)) (by omega) hs1 hs2 haA hst hz hza.1 hza.2 (fun q => q hnc) hM'
       rw [hrel] at r1 r2
       refine hK2 _ _ ((d2.set sx (dy + sz), true), k + 1) ⟨by simp only []; omega, r1, by simp, fun _ => by
        rcases hlt2 with e | e
        ·rw [(hq e).1] at r2; rw [(hq e).1]; exact r2
        ·exact Nat.lt_trans r2 (hmt e)⟩ (by simp only []; omega) ?_
       (try dsimp only)
       rw [hwk]
       exact ghL (l := [.row _]) (hi2 _)
      ·have hcalm := hcm (by omega)
       simp only [go_sem, simprocAttr, hltk, hxk, encS3, sA, p1, p2, hsx, hsy, gx, gy, Int.toNat_natCast, Nat.zero_add, c1, c2, c3, hwd]
       refine hK2 _ _ ((d2, m2), k + 1) ⟨by simp only []; omega, hR2', fun e => ⟨(hq e).1, fun r hr => ?_⟩, hmt⟩ (by simp only []; omega) ?_
       ·rw [take_succ' hxk] at hr
        rcases List.mem_append.1 hr with hr | hr
        ·exact (hq e).2 r hr
        ·simp at hr; subst hr; rw [← (hq e).1]; exact hcalm
       (try dsimp only)
       rw [hwk]
       exact ghL (l := [.row _]) (hi2 _)
    ·have hcalm := hcm (by omega)
     simp only [go_sem, simprocAttr, hltk, hxk, encS3, sA, p1, p2, hsx, hsy, gx, gy, Int.toNat_natCast, Nat.zero_add, c1]
     refine hK2 _ _ ((d2, m2), k + 1) ⟨by simp only []; omega, hR2', fun e => ⟨(hq e).1, fun r hr => ?_⟩, hmt⟩ (by simp only []; omega) ?_
     ·rw [take_succ' hxk] at hr
      rcases List.mem_append.1 hr with hr | hr
      ·exact (hq e).2 r hr
      ·simp at hr; subst hr; rw [← (hq e).1]; exact hcalm
     (try dsimp only)
     rw [hwk]
     exact ghL (l := [.row _]) (hi2 _)
   ·have hltk : ¬ ((k : Int) < (steps.length : Int)) := by omega
    obtain rfl : k = steps.length := by omega
    rw [List.take_of_length_le (Nat.le_refl _)] at hq
    simp only [go_sem, simprocAttr, hltk, hE2]
    refine hK _ _ (d2, m2) ⟨hR2', fun e => by rw [(hq e).1]; exact (hq e).2⟩ ?_ ?_
    ·cases m2
     ·rw [(hq rfl).1]; simp only [Bool.toNat_false, Bool.toNat_true]; omega
     ·have := hmt rfl; simp only [Bool.toNat_true]; omega
    (try dsimp only)
    first | exact ghL0 (l := [.row _]) (hi2 _) | exact ghL (l := [.row _]) (hi2 _)
def t17 : FTask := ⟨[bys [97]], [], [⟨0, false⟩], [⟨bys [120], 3, [], [⟨[], ⟨0, false⟩⟩]⟩]⟩
theorem t17_TB : TB t17 := ⟨by decide, by decide, by decide, by decide, by decide, by decide, by decide, by decide, by decide⟩
def b17 : Bel := [[], [0]]
def c17 : Bel := [[0]]
theorem t17_c : condB 1 (-1) [] = true := rfl
theorem t17_mk : makeB 1 [] = b17 := by rw [← outM_make t17_c]; kernel_rfl
theorem t17_make : makeR t17 [] = .tuple [.slice .fresh (b17.map encLf), .int .i64 0] := by
 have h0 : makeE t17 [] = 0 := by kernel_rfl
 rw [makeR, h0, if_pos rfl]
 rw [show t17.facts.length = 1 from rfl, t17_mk]
theorem t17_e : bErr t17 b17 = 0 := by kernel_rfl
theorem t17_e0 : bErr t17 [] = 170 := by kernel_rfl
theorem t17_known : knownRes t17 b17 = .tuple [.slice .fresh [], .int .i64 0] := by kernel_rfl
theorem t17_s0 : stB t17 b17 0 = some c17 := by kernel_rfl
theorem t17_s1 : stB t17 c17 0 = some c17 := by kernel_rfl
theorem t17_app : applyR t17 b17 0 = .tuple [.slice .fresh (c17.map encLf), .bool true, .int .i64 0] := by
 rw [applyR, t17_e, if_pos rfl, if_pos ⟨by decide, by decide⟩]
 rw [show (0 : Int).toNat = 0 from rfl, t17_s0]
theorem t17_rev : revealRes t17 b17 0 = .tuple [.slice .fresh ([[0]].map encLf), .slice .fresh ([[]].map encLf), .int .i64 0] := by kernel_rfl
theorem t17_go : goB t17 b17 0 [0] = some (c17, 3) := by
 rw [goB, show (0 : Int).toNat = 0 from rfl, t17_s0]; rfl
theorem t17_plan : planR t17 b17 [0] = .tuple [.int .i64 3, .bool true, .int .i64 0] := by
 have h1 : slistedB t17 [0] = true := by kernel_rfl
 have h2 : planB t17 b17 [0] = (3, true) := by rw [planB, t17_go]; rfl
 rw [planR, t17_e, if_pos rfl, h1, if_pos rfl, h2]
theorem t17_run : ∀ (l : List Nat) (u v : Bel) (k : Int), (u = b17 ∨ u = c17) → runD t17.actions.length (stB t17) (cN t17) l u = some (v, k) → (v = b17 ∨ v = c17) ∧ k = 3 * (l.length : Int)
 | [], u, v, k, hu, h => by
  simp only [runD, Option.some.injEq, Prod.mk.injEq] at h
  obtain ⟨rfl, rfl⟩ := h
  exact ⟨hu, rfl⟩
 | a :: l, u, v, k, hu, h => by
  simp only [runD] at h
  split at h
  ·rename_i ha
   obtain rfl : a = 0 := by have h1 : t17.actions.length = 1 := rfl; omega
   have hs : stB t17 u 0 = some c17 := by
    rcases hu with rfl | rfl
    ·exact t17_s0
    ·exact t17_s1
   rw [hs] at h
   dsimp only at h
   cases hr : runD t17.actions.length (stB t17) (cN t17) l c17 with
   | none => rw [hr] at h; simp at h
   | some r =>
    rw [hr] at h
    simp only [Option.some.injEq, Prod.mk.injEq] at h
    obtain ⟨h1, h2⟩ := t17_run l c17 r.1 r.2 (.inr rfl) hr
    have hc0 : cN t17 0 = 3 := rfl
    refine ⟨by rw [← h.1]; exact h1, ?_⟩
    rw [← h.2, h2, hc0, List.length_cons]; omega
  ·simp at h
theorem nodup_le17 {α : Type} [DecidableEq α] : ∀ {l m : List α}, l.Nodup → (∀ x ∈ l, x ∈ m) → l.length ≤ m.length
 | [], m, _, _ => by simp
 | x :: l, m, h, hs => by
  obtain ⟨h1, h2⟩ := List.nodup_cons.1 h
  have := nodup_le17 (m := m.erase x) h2 (fun y hy => by
   have hne : y ≠ x := fun e => h1 (e ▸ hy)
   exact (List.mem_erase_of_ne hne).2 (hs y (List.mem_cons_of_mem _ hy)))
  have hx := hs x List.mem_cons_self
  rw [List.length_erase_of_mem hx] at this
  have : 0 < m.length := List.length_pos_of_mem hx
  rw [List.length_cons]; omega
theorem t17_many : ¬ manyB t17 b17 := by
 rintro ⟨bs, h1, h2, h3⟩
 have := nodup_le17 (m := [b17, c17]) h1 fun u hu => by
  obtain ⟨_, l, v, h⟩ := h2 u hu
  rcases (t17_run l b17 u v (.inl rfl) h).1 with rfl | rfl <;> simp
 simp only [List.length_cons, List.length_nil] at this
 omega
theorem t17_one : runD t17.actions.length (stB t17) (cN t17) [0] b17 = some (c17, 3) := by
 have h1 : (0 : Nat) < t17.actions.length := by decide
 simp only [runD, if_pos h1, t17_s0]; rfl
theorem t17_g0 : goalF t17 b17 = false := by kernel_rfl
theorem t17_g1 : goalF t17 c17 = true := by kernel_rfl
theorem t17_find {r : AV} (h : FindOut t17 b17 r) : ∃ p : List Int, p.length = 1 ∧ r = .tuple [.slice .fresh (p.map Ahl.encI), .int .i64 3, .int .i64 0] := by
 rcases h with ⟨h, _⟩ | ⟨_, s, _, h⟩
 ·exact absurd t17_e h
 ·rcases h with ⟨_, _, h⟩ | ⟨_, _, _, h⟩ | ⟨_, i, x, l, _, _, _, _, _, hrun, hg, hlow, h⟩
  ·exact absurd h t17_many
  ·have := h [0] c17 3 t17_one; rw [t17_g1] at this; simp at this
  ·obtain ⟨h1, h2⟩ := t17_run l.reverse b17 x.b x.cost (.inl rfl) hrun
   rw [List.length_reverse] at h2
   have h3 := hlow [0] c17 3 t17_one t17_g1
   have hne : l.length ≠ 0 := fun e => by
    have : l = [] := List.length_eq_zero_iff.1 e
    subst this
    simp only [List.reverse_nil, runD, Option.some.injEq, Prod.mk.injEq] at hrun
    rw [← hrun.1, t17_g0] at hg; simp at hg
   have hl1 : l.length = 1 := by omega
   rcases h with ⟨_, h⟩ | ⟨_, _, h⟩
   ·refine ⟨l.reverse.map fun (a : Nat) => (a : Int), by simp [hl1], ?_⟩
    rw [h, show x.cost = 3 by omega]
   ·exact absurd h t17_many
theorem LBs {g : Bel} (h : g.length ≤ 1000 ∧ ∀ l ∈ g, l.length ≤ 1000) : LB g := ⟨by have := h.1; omega, fun l hl => by have := h.2 l hl; omega⟩
def c_awake17 : CCode := .seq (.ops [oS 0 (.move (.lit (.bool false)))]) (.seq (.ops [oS 18 (.bslice 1 [.lit (.str (bys [97]))] false), oS 19 (.build [.int .i64 0, .bool false] [(0, 1, .lit (.int .i64 0))]), oS 20 (.bslice 2 [.tmp 19] false), oS 21 (.build [.int .i64 0, .bool false] [(0, 1, .lit (.int .i64 0))]), oS 22 (.build [.slice .nil [], .int .i64 0, .bool false] [(1, 2, .tmp 21)]), oS 23 (.bslice 3 [.tmp 22] false), oS 24 (.build [.str (bys []), .int .i64 0, .slice .nil [], .slice .nil []] [(0, 1, .lit (.str (bys [120]))), (1, 1, .lit (.int .i64 3)), (3, 1, .tmp 23)]), oS 25 (.bslice 4 [.tmp 24] false), oS 26 (.build [.slice .nil [], .slice .nil [], .slice .nil [], .slice .nil []] [(0, 1, .tmp 18), (2, 1, .tmp 20), (3, 1, .tmp 25)]), oS 1 (.alloc (.agg [.slice .nil [], .slice .nil [], .slice .nil [], .slice .nil []])), oN (.store 4 (.tmp 1) (.tmp 26))]) (.seq (.ops [oS 28 (.load (some 4) (.tmp 1)), oS 29 (.call (.lit (.func 9 [])) [.tmp 28, .lit (.slice .nil [])]), oS 27 (.move (.tmp 29)), oS 30 (.extract (.tmp 27) 0), oS 31 (.extract (.tmp 27) 1), oS 2 (.move (.tmp 30)), oS 3 (.move (.tmp 31))]) (.seq (.ops [oS 33 (.load (some 4) (.tmp 1)), oS 34 (.move (.tmp 2)), oS 35 (.call (.lit (.func 10 [])) [.tmp 33, .tmp 34]), oS 32 (.move (.tmp 35)), oS 36 (.extract (.tmp 32) 0), oS 37 (.extract (.tmp 32) 1), oS 4 (.move (.tmp 36)), oS 5 (.move (.tmp 37))]) (.seq (.ops [oS 39 (.load (some 4) (.tmp 1)), oS 40 (.move (.tmp 2)), oS 41 (.call (.lit (.func 26 [])) [.tmp 39, .tmp 40]), oS 38 (.move (.tmp 41)), oS 42 (.extract (.tmp 38) 0), oS 43 (.extract (.tmp 38) 1), oS 44 (.extract (.tmp 38) 2), oS 6 (.move (.tmp 42)), oS 7 (.move (.tmp 43)), oS 8 (.move (.tmp 44))]) (.seq (.ops [oS 46 (.load (some 4) (.tmp 1)), oS 47 (.move (.tmp 2)), oS 48 (.call (.lit (.func 20 [])) [.tmp 46, .tmp 47, .lit (.int .i64 0)]), oS 45 (.move (.tmp 48)), oS 49 (.extract (.tmp 45) 0), oS 50 (.extract (.tmp 45) 1), oS 51 (.extract (.tmp 45) 2), oS 9 (.move (.tmp 49)), oS 10 (.move (.tmp 50)), oS 11 (.move (.tmp 51))]) (.seq (.ops [oS 53 (.load (some 4) (.tmp 1)), oS 54 (.move (.tmp 2)), oS 55 (.call (.lit (.func 11 [])) [.tmp 53, .tmp 54, .lit (.int .i64 0)]), oS 52 (.move (.tmp 55)), oS 56 (.extract (.tmp 52) 0), oS 57 (.extract (.tmp 52) 1), oS 58 (.extract (.tmp 52) 2), oS 12 (.move (.tmp 56)), oS 13 (.move (.tmp 57)), oS 14 (.move (.tmp 58))]) (.seq (.ops [oS 60 (.load (some 4) (.tmp 1)), oS 61 (.move (.tmp 2)), oS 62 (.bslice 1 [.lit (.int .i64 0)] false), oS 63 (.call (.lit (.func 21 [])) [.tmp 60, .tmp 61, .tmp 62]), oS 59 (.move (.tmp 63)), oS 64 (.extract (.tmp 59) 0), oS 65 (.extract (.tmp 59) 1), oS 66 (.extract (.tmp 59) 2), oS 15 (.move (.tmp 64)), oS 16 (.move (.tmp 65)), oS 17 (.move (.tmp 66))]) (.seq (.ops [oS 67 (.move (.tmp 3)), oS 68 (.bin .eql .none (.tmp 67) (.lit (.int .i64 0))), oS 69 (.move (.tmp 68)), oG 70 69 true (.move (.tmp 2)), oG 71 69 true (.blen 1 (.tmp 70)), oG 72 69 true (.bin .eql .none (.tmp 71) (.lit (.int .i64 2))), oS 73 (.pick (.tmp 69) (.tmp 72) (.lit (.bool false))), oS 74 (.move (.tmp 73)), oG 75 74 true (.move (.tmp 4)), oG 76 74 true (.blen 1 (.tmp 75)), oG 77 74 true (.bin .eql .none (.tmp 76) (.lit (.int .i64 0))), oS 78 (.pick (.tmp 74) (.tmp 77) (.lit (.bool false))), oS 79 (.move (.tmp 78)), oG 80 79 true (.move (.tmp 5)), oG 81 79 true (.bin .eql .none (.tmp 80) (.lit (.int .i64 0))), oS 82 (.pick (.tmp 79) (.tmp 81) (.lit (.bool false))), oS 83 (.move (.tmp 82)), oG 84 83 true (.move (.tmp 6)), oG 85 83 true (.blen 1 (.tmp 84)), oG 86 83 true (.bin .eql .none (.tmp 85) (.lit (.int .i64 1))), oS 87 (.pick (.tmp 83) (.tmp 86) (.lit (.bool false))), oS 88 (.move (.tmp 87)), oG 89 88 true (.move (.tmp 7)), oG 90 88 true (.bin .eql .none (.tmp 89) (.lit (.int .i64 3))), oS 91 (.pick (.tmp 88) (.tmp 90) (.lit (.bool false))), oS 92 (.move (.tmp 91)), oG 93 92 true (.move (.tmp 8)), oG 94 92 true (.bin .eql .none (.tmp 93) (.lit (.int .i64 0))), oS 95 (.pick (.tmp 92) (.tmp 94) (.lit (.bool false))), oS 96 (.move (.tmp 95)), oG 97 96 true (.move (.tmp 9)), oG 98 96 true (.blen 1 (.tmp 97)), oG 99 96 true (.bin .eql .none (.tmp 98) (.lit (.int .i64 1))), oS 100 (.pick (.tmp 96) (.tmp 99) (.lit (.bool false))), oS 101 (.move (.tmp 100)), oG 102 101 true (.move (.tmp 10)), oS 103 (.pick (.tmp 101) (.tmp 102) (.lit (.bool false))), oS 104 (.move (.tmp 103)), oG 105 104 true (.move (.tmp 11)), oG 106 104 true (.bin .eql .none (.tmp 105) (.lit (.int .i64 0))), oS 107 (.pick (.tmp 104) (.tmp 106) (.lit (.bool false))), oS 108 (.move (.tmp 107)), oG 109 108 true (.move (.tmp 12)), oG 110 108 true (.blen 1 (.tmp 109)), oG 111 108 true (.bin .eql .none (.tmp 110) (.lit (.int .i64 1))), oS 112 (.pick (.tmp 108) (.tmp 111) (.lit (.bool false))), oS 113 (.move (.tmp 112)), oG 114 113 true (.move (.tmp 13)), oG 115 113 true (.blen 1 (.tmp 114)), oG 116 113 true (.bin .eql .none (.tmp 115) (.lit (.int .i64 1))), oS 117 (.pick (.tmp 113) (.tmp 116) (.lit (.bool false))), oS 118 (.move (.tmp 117)), oG 119 118 true (.move (.tmp 14)), oG 120 118 true (.bin .eql .none (.tmp 119) (.lit (.int .i64 0))), oS 121 (.pick (.tmp 118) (.tmp 120) (.lit (.bool false))), oS 122 (.move (.tmp 121)), oG 123 122 true (.move (.tmp 15)), oG 124 122 true (.bin .eql .none (.tmp 123) (.lit (.int .i64 3))), oS 125 (.pick (.tmp 122) (.tmp 124) (.lit (.bool false))), oS 126 (.move (.tmp 125)), oG 127 126 true (.move (.tmp 16)), oS 128 (.pick (.tmp 126) (.tmp 127) (.lit (.bool false))), oS 129 (.move (.tmp 128)), oG 130 129 true (.move (.tmp 17)), oG 131 129 true (.bin .eql .none (.tmp 130) (.lit (.int .i64 0))), oS 132 (.pick (.tmp 129) (.tmp 131) (.lit (.bool false))), oS 133 (.move (.tmp 132)), oG 134 133 true (.load (some 4) (.tmp 1)), oG 135 133 true (.call (.lit (.func 13 [])) [.tmp 134, .lit (.slice .nil [])]), oG 136 133 true (.bin .eql .none (.tmp 135) (.lit (.int .i64 170))), oS 137 (.pick (.tmp 133) (.tmp 136) (.lit (.bool false))), oS 0 (.move (.tmp 137))]) .ret))))))))
set_option maxHeartbeats 4000000 in
theorem awake17_spec (σ : Store) : ACalls Tryz.prog 8 [] σ (isR (.bool true) σ) := by
 refine ACalls.intro (rs := [(.tmp 0)]) (by kernel_rfl) { own := [], ghosts := [] } Tryz.func8 (c := Tryz.f8.body.getD .skip) (by kernel_rfl) (by decide) (by rw [show Tryz.f8.ntmps = 138 by kernel_rfl]; exact Nat.le_of_ble_eq_true rfl) (by kernel_rfl) ?_
 intro hσ hids
 rw [show comp Tryz.prog { own := [], ghosts := [] } (Tryz.f8.body.getD .skip) = c_awake17 by kernel_rfl, show Tryz.f8.ntmps = 138 by kernel_rfl]
 unfold c_awake17
 have hbl : LT b17 := (LBs (by decide)).lt
 simp only [go_sem, simprocAttr]
 have e1 := fun σ => bmake_specF t17 [] .nil σ t17_TB (by decide)
 rw [t17_make] at e1
 refine ACalls.is (ACalls.wk (e1 _) ?_) ?_
 ·repeat (first | exact Wk.refl _ | exact WkL.nil | exact WkLL.nil | exact WkL.refl _ | refine Wk.agg ?_ | refine Wk.sl _ ?_ | refine WkL.cons ?_ ?_ | refine WkLL.cons ?_ ?_)
 simp only [go_sem, simprocAttr]
 have e2 := fun σ => known_specF t17 b17 .unk σ t17_TB hbl
 rw [t17_known] at e2
 refine ACalls.is (ACalls.wk (e2 _) ?_) ?_
 ·repeat (first | exact Wk.refl _ | exact WkL.nil | exact WkLL.nil | exact WkL.refl _ | refine Wk.agg ?_ | refine Wk.sl _ ?_ | refine WkL.cons ?_ ?_ | refine WkLL.cons ?_ ?_)
 simp only [go_sem, simprocAttr]
 have e3 := fun σ => bfind_spec t17 b17 .unk σ t17_TB hbl
 refine ACalls.mono (ACalls.wk (e3 _) ?_) ?_
 ·repeat (first | exact Wk.refl _ | exact WkL.nil | exact WkLL.nil | exact WkL.refl _ | refine Wk.agg ?_ | refine Wk.sl _ ?_ | refine WkL.cons ?_ ?_ | refine WkLL.cons ?_ ?_)
 rintro r _ ⟨hr, rfl⟩
 obtain ⟨p, hp1, rfl⟩ := t17_find hr
 simp only [go_sem, simprocAttr]
 have e4 := fun σ => bapply_specF t17 b17 0 .unk σ t17_TB hbl
 rw [t17_app] at e4
 refine ACalls.is (ACalls.wk (e4 _) ?_) ?_
 ·repeat (first | exact Wk.refl _ | exact WkL.nil | exact WkLL.nil | exact WkL.refl _ | refine Wk.agg ?_ | refine Wk.sl _ ?_ | refine WkL.cons ?_ ?_ | refine WkLL.cons ?_ ?_)
 simp only [go_sem, simprocAttr]
 have e5 := fun σ => reveal_specF t17 b17 0 .unk σ t17_TB hbl
 rw [t17_rev] at e5
 refine ACalls.is (ACalls.wk (e5 _) ?_) ?_
 ·repeat (first | exact Wk.refl _ | exact WkL.nil | exact WkLL.nil | exact WkL.refl _ | refine Wk.agg ?_ | refine Wk.sl _ ?_ | refine WkL.cons ?_ ?_ | refine WkLL.cons ?_ ?_)
 simp only [go_sem, simprocAttr]
 have e6 := fun σ => bplan_spec t17 b17 [0] .unk σ t17_TB hbl (by decide)
 rw [t17_plan] at e6
 refine ACalls.is (ACalls.wk (e6 _) ?_) ?_
 ·repeat (first | exact Wk.refl _ | exact WkL.nil | exact WkLL.nil | exact WkL.refl _ | refine Wk.agg ?_ | refine Wk.sl _ ?_ | refine WkL.cons ?_ ?_ | refine WkLL.cons ?_ ?_)
 have e7 := fun σ => bcheck_spec t17 [] .nil σ t17_TB (LBs (by decide)).lt
 rw [t17_e0] at e7
 have h0 : ((0 : Int) == 0) = true := rfl
 have h3 : ((3 : Int) == 3) = true := rfl
 have hb2 : (((b17.length : Nat) : Int) == 2) = true := rfl
 have hc1 : (((c17.length : Nat) : Int) == 1) = true := rfl
 have hp2 : (((p.length : Nat) : Int) == 1) = true := by rw [hp1]; rfl
 have h1 : ((1 : Int) == 1) = true := rfl
 have h1n : (((1 : Nat) : Int) == 1) = true := rfl
 have h0n : (((0 : Nat) : Int) == 0) = true := rfl
 simp only [go_sem, simprocAttr, h0, h3, hb2, hc1, hp2, h1, h1n, h0n]
 refine ACalls.is (ACalls.wk (e7 _) ?_) ?_
 ·repeat (first | exact Wk.refl _ | exact WkL.nil | exact WkLL.nil | exact WkL.refl _ | refine Wk.agg ?_ | refine Wk.sl _ ?_ | refine WkL.cons ?_ ?_ | refine WkLL.cons ?_ ?_)
 have h170 : ((170 : Int) == 170) = true := rfl
 simp only [go_sem, simprocAttr, h170]
 exact rt (.bool true) ⟨rfl, rfl⟩
end Go.Proofs.YtcjgoomlaojljaaGreat
