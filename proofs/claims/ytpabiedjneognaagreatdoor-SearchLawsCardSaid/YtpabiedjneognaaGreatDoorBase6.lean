/- Contracts of the given program's functions, and an abstract layer over the model; no condition. -/
import Derived.Test.YtpabiedjneognaaGreatDoorBase5
set_option maxRecDepth 20000
set_option linter.unusedVariables false
set_option linter.unusedSimpArgs false
namespace Go.Proofs.YtpabiedjneognaaGreatDoor
open Go.Ahl
theorem Ghost.low {nt n0 : Nat} {s s' : Slots} {S T : Store} (h : T.take S.length = S) (hS : IdsS S.length S) (h1 : TellW s S.length s') (hn : n0 ≤ S.length) : Ghost n0 nt s T s' S := by
 have := Ghost.cut (n0 := n0) (nt := nt) (σ := T) (s := s) s' S.length hn h1 (by rw [h]; exact hS)
 rwa [h] at this
section
variable {nt t u id len sz : Nat} {s : Slots} {σ S : Store} {R : Cont} {x : AV} {cells : List AV} {es : List (List AV)}
theorem retRowK2 (ht : S.take σ.length = σ) (hs : lk s t = .ref id sz 0 len) (hid : S[id]? = some (.row cells)) (hlen : es.length = len) (hge : σ.length ≤ id) (htu : (t == u) = false) (hu : lk s u = x) (hx : Ids σ.length x) (hi : Ids σ.length (.slice .fresh es))
  (hes : ∀ (i : Nat) e, es[i]? = some e → e.length = sz ∧ ∀ j, j < sz → cells[0 + (i * sz + j)]? = e[j]?) (h : R (.tuple [.slice .fresh es, x]) σ) (hσ : IdsS σ.length σ := by assumption) :
  bodyK [.tmp t, .tmp u] σ.length nt R .ret s S := by
 refine ret_gh2 (v := .slice .fresh es) (x := x) (σ' := σ) ?_ htu (Nat.le_refl _) hσ hi hx h
 refine Ghost.trans (Ghost.freezeF t es hs hid hlen hes) ?_
 have ht' : (S.set id .dead).take σ.length = σ := by rw [List.take_set_of_le hge, ht]
 exact Ghost.low ht' hσ ⟨⟨by simp only [Ahl.lk, beq_self_eq_true, cond_true]; exact Wk.refl _, hi⟩, ⟨by simp only [Ahl.lk, htu, cond_false]; rw [hu]; exact Wk.refl _, hx⟩, trivial⟩ (Nat.le_refl _)
end
def encD6 (x : List Int × Int × Int) : List AV := [.slice .fresh (x.1.map Ahl.encI), .int .i64 x.2.1, .int .i64 x.2.2]
theorem encD6_len (x : List Int × Int × Int) : (encD6 x).length = 3 := rfl
theorem ids_encD6 (n : Nat) (x : List Int × Int × Int) : IdsL n (encD6 x) := idsL_cons (ids_mapf ids_encI _) (idsL_cons (.int _ _) (idsL_cons (.int _ _) idsL_nil))
def dRow (m : List NS) (G : List Int) : List (List Int × Int × Int) := (m.zip G).map fun x => (x.1.b, x.1.cost, x.2)
theorem dRow_len {m : List NS} {G : List Int} (h : G.length = m.length) : (dRow m G).length = m.length := by unfold dRow; rw [List.length_map, List.length_zip]; omega
theorem dRow_at {m : List NS} {G : List Int} {i : Nat} {x : NS} {g : Int} (h1 : m[i]? = some x) (h2 : G[i]? = some g) : (dRow m G)[i]? = some (x.b, x.cost, g) := by
 unfold dRow
 rw [List.getElem?_map, (List.getElem?_zip_eq_some (z := (x, g))).2 ⟨h1, h2⟩]; rfl
def e_sdist_0 : List COp := [oS 91 (.move (.tmp 14)), oS 92 (.move (.tmp 19)), oS 93 (.move (.tmp 14)), oS 94 (.move (.tmp 19)), oA 95 (.iaddr 1 (.tmp 93) (.tmp 94)) [2, 3], oA 96 (.load none (.tmp 95)) [4], oS 97 (.move (.tmp 15)), oS 98 (.faddr 1 (.tmp 18)), oA 99 (.load none (.tmp 98)) [7], oA 100 (.build [.int .i64 0, .int .i64 0] [(0, 1, .tmp 97), (1, 1, .tmp 99)]) [6, 8], oA 101 (.bsliceC 2 [.tmp 100]) [9], oA 102 (.bappend 2 16 (.tmp 96) (.tmp 101) false) [5, 10], oA 103 (.iaddr 1 (.tmp 91) (.tmp 92)) [0, 1, 0, 1, 2, 3, 4, 5, 6, 7, 8, 9, 10, 11], ⟨none, .store 1 (.tmp 103) (.tmp 102), none, [12, 11, 11, 0, 1, 2, 3, 4, 5, 6, 7, 8, 9, 10, 11]⟩]
def d_sdist_0 : List COp := e_sdist_0
theorem dr_sdist_0 (P : Program) (nt n0 : Nat) (Q : Post) (s : Slots) (σ : Store) : wpc P nt n0 (.draw d_sdist_0) Q s σ = aOpsD P nt e_sdist_0 (Q .normal) s σ := wpc_draw _ (by decide)
def e_sdist_1 : List COp := [oS 191 (.move (.tmp 27)), oS 192 (.faddr 0 (.tmp 29)), oA 193 (.load none (.tmp 192)) [1], oS 194 (.faddr 1 (.tmp 29)), oA 195 (.load none (.tmp 194)) [3], oS 196 (.move (.tmp 20)), oS 197 (.move (.tmp 28)), oA 198 (.iaddr 1 (.tmp 196) (.tmp 197)) [5, 6], oA 199 (.load none (.tmp 198)) [7], oA 200 (.build [.slice .nil [], .int .i64 0, .int .i64 0] [(0, 1, .tmp 193), (1, 1, .tmp 195), (2, 1, .tmp 199)]) [2, 4, 8], oA 201 (.bsliceC 3 [.tmp 200]) [9], oA 202 (.bappend 3 40 (.tmp 191) (.tmp 201) true) [0, 10], oA 27 (.move (.tmp 202)) [11, 11, 0, 1, 2, 3, 4, 5, 6, 7, 8, 9, 10, 11]]
def d_sdist_1 : List COp := e_sdist_1
theorem dr_sdist_1 (P : Program) (nt n0 : Nat) (Q : Post) (s : Slots) (σ : Store) : wpc P nt n0 (.draw d_sdist_1) Q s σ = aOpsD P nt e_sdist_1 (Q .normal) s σ := wpc_draw _ (by decide)
def r_sdist_2 : CCode := .seq (.ghost (.ops [oS 27 (.move (.lit (.slice .nil [])))])) (.seq (.seq (.ops [oS 184 (.move (.tmp 9)), oS 185 (.blen 1 (.tmp 184)), oS 186 (.move (.lit (.int .i64 0)))]) (.block 12 (.loop (.seq (.ops [oS 187 (.bin .lss .none (.tmp 186) (.tmp 185))]) (.seq (.cond (.tmp 187) .skip (.exit 12)) (.seq (.block 13 (.seq (.ops [oS 188 (.move (.tmp 186)), oS 189 (.iaddr 6 (.tmp 184) (.tmp 186)), oS 190 (.load (some 6) (.tmp 189)), oS 29 (.alloc (.agg [.slice .nil [], .int .i64 0, .int .i64 0, .int .i64 0, .int .i64 0, .bool false])), oS 28 (.move (.tmp 188)), oN (.store 6 (.tmp 29) (.tmp 190))]) (.draw d_sdist_1))) (.ops [oS 203 (.bin .add .none (.tmp 186) (.lit (.int .i64 1))), oS 186 (.move (.tmp 203))]))))))) (.seq (.ops [oS 204 (.move (.tmp 27)), oS 6 (.move (.tmp 204)), oS 7 (.move (.lit (.int .i64 0)))]) .ret))
def r_sdist_1 : CCode := .seq (.ghost (.ops [oS 106 (.move (.tmp 9)), oS 107 (.blen 1 (.tmp 106)), oS 108 (.mkslice 1 8 [.int .i64 0] (.tmp 107) (.tmp 107) true), oS 20 (.move (.tmp 108))])) (.seq (.ops [oS 109 (.bslice 3 [] true), oS 110 (.box (.tmp 109)), oS 111 (.mkif 107 (.tmp 110)), oS 112 (.build [.conc Value.nilIface] [(0, 1, .tmp 111)]), oS 21 (.alloc (.agg [.conc Value.nilIface])), oN (.store 1 (.tmp 21) (.tmp 112))]) (.seq (.seq (.ops [oS 113 (.move (.tmp 9)), oS 114 (.blen 1 (.tmp 113)), oS 115 (.move (.lit (.int .i64 0)))]) (.block 6 (.loop (.seq (.ops [oS 116 (.bin .lss .none (.tmp 115) (.tmp 114))]) (.seq (.cond (.tmp 116) .skip (.exit 6)) (.seq (.block 7 (.seq (.ops [oS 117 (.move (.tmp 115)), oS 118 (.iaddr 6 (.tmp 113) (.tmp 115)), oS 119 (.load (some 6) (.tmp 118)), oS 23 (.alloc (.agg [.slice .nil [], .int .i64 0, .int .i64 0, .int .i64 0, .int .i64 0, .bool false])), oS 22 (.move (.tmp 117)), oN (.store 6 (.tmp 23) (.tmp 119))]) (.seq (.ghost (.ops [oS 120 (.move (.tmp 20)), oS 121 (.move (.tmp 22)), oS 122 (.iaddr 1 (.tmp 120) (.tmp 121)), oN (.store 1 (.tmp 122) (.lit (.int .i64 (-1))))])) (.seq (.ops [oS 123 (.faddr 0 (.tmp 23)), oS 124 (.load none (.tmp 123)), oS 125 (.faddr 2 (.tmp 3)), oS 126 (.load none (.tmp 125)), oS 127 (.call (.lit (.func 54 [])) [.tmp 124, .tmp 126])]) (.cond (.tmp 127) (.ops [oS 128 (.faddr 0 (.tmp 21)), oS 129 (.load none (.tmp 128)), oS 130 (.move (.tmp 22)), oS 131 (.build [.int .i64 0, .int .i64 0, .int .i64 0] [(0, 1, .tmp 130), (1, 1, .lit (.int .i64 0)), (2, 1, .lit (.int .i64 0))]), oS 132 (.mkif 113 (.tmp 131)), oS 133 (.call (.lit (.func 64 [])) [.tmp 129, .tmp 132])]) .skip))))) (.ops [oS 134 (.bin .add .none (.tmp 115) (.lit (.int .i64 1))), oS 115 (.move (.tmp 134))]))))))) (.seq (.block 8 (.loop (.seq (.seq (.ops [oS 135 (.faddr 0 (.tmp 21)), oS 136 (.load none (.tmp 135)), oS 137 (.inv [(17, 186, none), (107, 189, some none), (109, 189, none)] (.tmp 136) []), oS 138 (.bin .gtr .none (.tmp 137) (.lit (.int .i64 0)))]) (.cond (.tmp 138) .skip (.exit 8))) (.block 9 (.seq (.ops [oS 139 (.faddr 0 (.tmp 21)), oS 140 (.load none (.tmp 139)), oS 141 (.call (.lit (.func 53 [])) [.tmp 140]), oS 142 (.asrt 113 (.agg [.int .i64 0, .int .i64 0, .int .i64 0]) (.tmp 141) false), oS 24 (.alloc (.agg [.int .i64 0, .int .i64 0, .int .i64 0])), oN (.store 3 (.tmp 24) (.tmp 142))]) (.seq (.seq (.ghost (.ops [oS 143 (.move (.tmp 20)), oS 144 (.faddr 0 (.tmp 24)), oS 145 (.load none (.tmp 144)), oS 146 (.iaddr 1 (.tmp 143) (.tmp 145)), oS 147 (.load none (.tmp 146)), oS 148 (.bin .geq .none (.tmp 147) (.lit (.int .i64 0)))])) (.cond (.tmp 148) (.exit 9) .skip)) (.seq (.ops [oS 149 (.move (.tmp 20)), oS 150 (.faddr 0 (.tmp 24)), oS 151 (.load none (.tmp 150)), oS 152 (.faddr 1 (.tmp 24)), oS 153 (.load none (.tmp 152)), oS 154 (.iaddr 1 (.tmp 149) (.tmp 151)), oN (.store 1 (.tmp 154) (.tmp 153))]) (.seq (.ops [oS 155 (.move (.tmp 14)), oS 156 (.faddr 0 (.tmp 24)), oS 157 (.load none (.tmp 156)), oS 158 (.iaddr 1 (.tmp 155) (.tmp 157)), oS 159 (.load none (.tmp 158)), oS 160 (.blen 1 (.tmp 159)), oS 161 (.move (.lit (.int .i64 0)))]) (.block 10 (.loop (.seq (.ops [oS 162 (.bin .lss .none (.tmp 161) (.tmp 160))]) (.seq (.cond (.tmp 162) .skip (.exit 10)) (.seq (.block 11 (.seq (.ops [oS 163 (.iaddr 2 (.tmp 159) (.tmp 161)), oS 164 (.load (some 2) (.tmp 163)), oS 26 (.alloc (.agg [.int .i64 0, .int .i64 0])), oN (.store 2 (.tmp 26) (.tmp 164))]) (.seq (.ghost (.ops [oS 165 (.move (.tmp 20)), oS 166 (.faddr 0 (.tmp 26)), oS 167 (.load none (.tmp 166)), oS 168 (.iaddr 1 (.tmp 165) (.tmp 167)), oS 169 (.load none (.tmp 168)), oS 170 (.bin .lss .none (.tmp 169) (.lit (.int .i64 0)))])) (.cond (.tmp 170) (.ops [oS 171 (.faddr 0 (.tmp 21)), oS 172 (.load none (.tmp 171)), oS 173 (.faddr 0 (.tmp 26)), oS 174 (.load none (.tmp 173)), oS 175 (.faddr 1 (.tmp 24)), oS 176 (.load none (.tmp 175)), oS 177 (.faddr 1 (.tmp 26)), oS 178 (.load none (.tmp 177)), oS 179 (.bin .add .none (.tmp 176) (.tmp 178)), oS 180 (.build [.int .i64 0, .int .i64 0, .int .i64 0] [(0, 1, .tmp 174), (1, 1, .tmp 179), (2, 1, .lit (.int .i64 0))]), oS 181 (.mkif 113 (.tmp 180)), oS 182 (.call (.lit (.func 64 [])) [.tmp 172, .tmp 181])]) .skip)))) (.ops [oS 183 (.bin .add .none (.tmp 161) (.lit (.int .i64 1))), oS 161 (.move (.tmp 183))])))))))))))))) r_sdist_2)))
def r_sdist_0 : CCode := .seq (.ghost (.ops [oS 62 (.move (.tmp 9)), oS 63 (.blen 1 (.tmp 62)), oS 64 (.mkslice 1 24 [.slice .nil []] (.tmp 63) (.tmp 63) true), oS 14 (.move (.tmp 64))])) (.seq (.seq (.ops [oS 65 (.move (.tmp 9)), oS 66 (.blen 1 (.tmp 65)), oS 67 (.move (.lit (.int .i64 0)))]) (.block 2 (.loop (.seq (.ops [oS 68 (.bin .lss .none (.tmp 67) (.tmp 66))]) (.seq (.cond (.tmp 68) .skip (.exit 2)) (.seq (.block 3 (.seq (.ops [oS 69 (.move (.tmp 67)), oS 70 (.iaddr 6 (.tmp 65) (.tmp 67)), oS 71 (.load (some 6) (.tmp 70)), oS 16 (.alloc (.agg [.slice .nil [], .int .i64 0, .int .i64 0, .int .i64 0, .int .i64 0, .bool false])), oS 15 (.move (.tmp 69)), oN (.store 6 (.tmp 16) (.tmp 71))]) (.seq (.ghost (.ops [oS 72 (.faddr 3 (.tmp 3)), oS 73 (.load none (.tmp 72)), oS 74 (.blen 1 (.tmp 73)), oS 75 (.move (.lit (.int .i64 0)))])) (.block 4 (.loop (.seq (.ops [oS 76 (.bin .lss .none (.tmp 75) (.tmp 74))]) (.seq (.cond (.tmp 76) .skip (.exit 4)) (.seq (.block 5 (.seq (.ops [oS 77 (.iaddr 4 (.tmp 73) (.tmp 75)), oS 78 (.load (some 4) (.tmp 77)), oS 18 (.alloc (.agg [.str (bys []), .int .i64 0, .slice .nil [], .slice .nil []])), oN (.store 4 (.tmp 18) (.tmp 78))]) (.seq (.ghost (.ops [oS 79 (.faddr 0 (.tmp 16)), oS 80 (.load none (.tmp 79)), oS 81 (.faddr 2 (.tmp 18)), oS 82 (.load none (.tmp 81)), oS 83 (.call (.lit (.func 54 [])) [.tmp 80, .tmp 82])])) (.cond (.tmp 83) (.seq (.ops [oS 84 (.move (.tmp 11)), oS 85 (.faddr 0 (.tmp 16)), oS 86 (.load none (.tmp 85)), oS 87 (.load (some 4) (.tmp 18)), oS 88 (.call (.lit (.func 63 [])) [.tmp 86, .tmp 87]), oS 89 (.call (.lit (.func 49 [])) [.tmp 88]), oS 90 (.lookup true (.int .i64 0) (.tmp 84) (.tmp 89) false), oS 19 (.move (.tmp 90))]) (.ghost (.draw d_sdist_0))) .skip)))) (.ops [oS 104 (.bin .add .none (.tmp 75) (.lit (.int .i64 1))), oS 75 (.move (.tmp 104))]))))))))) (.ops [oS 105 (.bin .add .none (.tmp 67) (.lit (.int .i64 1))), oS 67 (.move (.tmp 105))]))))))) r_sdist_1)
attribute [local go_sem] dr_sdist_0 e_sdist_0 dr_sdist_1 e_sdist_1
def c_sdist : CCode := .seq (.ops [oS 3 (.box (.tmp 0)), oS 6 (.move (.lit (.slice .nil []))), oS 7 (.move (.lit (.int .i64 0)))]) (.seq (.seq (.ops [oS 30 (.load (some 4) (.tmp 3)), oS 31 (.move (.tmp 1)), oS 32 (.move (.tmp 2)), oS 33 (.call (.lit (.func 47 [])) [.tmp 30, .tmp 31, .tmp 32]), oS 8 (.move (.tmp 33))]) (.seq (.ops [oS 34 (.move (.tmp 8)), oS 35 (.bin .neq .none (.tmp 34) (.lit (.int .i64 0)))]) (.cond (.tmp 35) (.seq (.ops [oS 36 (.move (.tmp 8)), oS 6 (.move (.lit (.slice .nil []))), oS 7 (.move (.tmp 36))]) .ret) .skip))) (.seq (.ops [oS 38 (.load (some 4) (.tmp 3)), oS 39 (.move (.tmp 1)), oS 40 (.move (.tmp 2)), oS 41 (.call (.lit (.func 59 [])) [.tmp 38, .tmp 39, .tmp 40]), oS 37 (.move (.tmp 41)), oS 42 (.extract (.tmp 37) 0), oS 43 (.extract (.tmp 37) 1), oS 9 (.move (.tmp 42)), oS 10 (.move (.tmp 43))]) (.seq (.seq (.ops [oS 44 (.move (.tmp 10)), oS 45 (.un .not (.tmp 44))]) (.cond (.tmp 45) (.seq (.ops [oS 6 (.move (.lit (.slice .nil []))), oS 7 (.move (.lit (.int .i64 3)))]) .ret) .skip)) (.seq (.ops [oS 46 (.move (.tmp 9)), oS 47 (.call (.lit (.func 60 [])) [.tmp 46, .lit (.func 61 [])])]) (.seq (.ops [oS 48 .mkmap, oS 11 (.move (.tmp 48))]) (.seq (.seq (.ops [oS 49 (.move (.tmp 9)), oS 50 (.blen 1 (.tmp 49)), oS 51 (.move (.lit (.int .i64 0)))]) (.block 0 (.loop (.seq (.ops [oS 52 (.bin .lss .none (.tmp 51) (.tmp 50))]) (.seq (.cond (.tmp 52) .skip (.exit 0)) (.seq (.block 1 (.seq (.ops [oS 53 (.move (.tmp 51)), oS 54 (.iaddr 6 (.tmp 49) (.tmp 51)), oS 55 (.load (some 6) (.tmp 54)), oS 13 (.alloc (.agg [.slice .nil [], .int .i64 0, .int .i64 0, .int .i64 0, .int .i64 0, .bool false])), oS 12 (.move (.tmp 53)), oN (.store 6 (.tmp 13) (.tmp 55))]) (.ops [oS 56 (.move (.tmp 11)), oS 57 (.faddr 0 (.tmp 13)), oS 58 (.load none (.tmp 57)), oS 59 (.call (.lit (.func 49 [])) [.tmp 58]), oS 60 (.move (.tmp 12)), oN (.mapup true (.tmp 56) (.tmp 59) (.tmp 60))]))) (.ops [oS 61 (.bin .add .none (.tmp 51) (.lit (.int .i64 1))), oS 51 (.move (.tmp 61))]))))))) r_sdist_0))))))
section
set_option maxRecDepth 20000
set_option maxHeartbeats 4000000
theorem dist_last (σ S : Store) (hσ : IdsS σ.length σ) (hS : IdsS S.length S) (hσS : S.take σ.length = σ) (hl : σ.length ≤ S.length) (nd gi : Nat) (m : List NS) (G : List Int) (hnd : S[nd]? = some (.row (nR6 m))) (hgi : S[gi]? = some (.row (G.map ai))) (hG : G.length = m.length) (hm : m.length ≤ 20000)
  (sl : Slots) (T : Store) (hT : T.take S.length = S) (m9 : lk sl 9 = .ref nd 6 0 m.length) (m20 : lk sl 20 = .ref gi 1 0 m.length) (RR : Cont) (hfin : RR (.tuple [.slice .fresh ((dRow m G).map encD6), .int .i64 0]) σ) :
  wpc Tryz.prog 205 σ.length r_sdist_2 (bodyK [.tmp 6, .tmp 7] σ.length 205 RR) sl T := by
 rw [r_sdist_2]
 simp only [go_sem, simprocAttr]
 rw [wpc_ghost]
 have hndl := lt_of_get hnd
 have hgil := lt_of_get hgi
 refine ⟨[(9, .ref nd 6 0 m.length), (20, .ref gi 1 0 m.length)], S, Ghost.low hT hS ⟨⟨by rw [m9]; exact .refl _, .ref _ _ _ _ hndl⟩, ⟨by rw [m20]; exact .refl _, .ref _ _ _ _ hgil⟩, trivial⟩ hl, ?_⟩
 simp only [go_sem, simprocAttr]
 have hnS : ∀ g, (S ++ g)[nd]? = some (.row (nR6 m)) := fun g => by rw [List.getElem?_append_left hndl]; exact hnd
 have hgS : ∀ g, (S ++ g)[gi]? = some (.row (G.map ai)) := fun g => by rw [List.getElem?_append_left hgil]; exact hgi
 have hio : ∀ q : List (List Int × Int × Int), IdsO S.length (.row (rowC encD6 q)) := fun q => ids_rowC (ids_encD6 _) q
 have hS2 : ∀ q : List (List Int × Int × Int), IdsS (S ++ [AObj.row (rowC encD6 q)]).length (S ++ [AObj.row (rowC encD6 q)]) := fun q => idsS_push hS (ids_rowC (ids_encD6 _) q)
 have hdl := dRow_len hG
 refine wpc_while (fun (i : Nat) => [(20, .ref gi 1 0 m.length), (27, .ref S.length 3 0 i), (184, .ref nd 6 0 m.length), (185, .int .i64 m.length), (186, .int .i64 (i : Nat))]) (fun i => S ++ [.row (rowC encD6 ((dRow m G).take i))]) (fun i => i ≤ m.length) (fun i => m.length - i) 0 (Nat.zero_le _) ?_ ?_
 ·refine Ghost.trans (Ghost.row0 27 3 0 (.inl rfl)) ?_
  refine Ghost.keep0 (by simp; omega) ⟨⟨.refl _, .ref _ _ _ _ (by simp; omega)⟩, ⟨.refl _, .ref _ _ _ _ (by simp)⟩, ⟨.refl _, .ref _ _ _ _ (by simp; omega)⟩, ⟨.refl _, .int _ _⟩, ⟨.refl _, .int _ _⟩, trivial⟩ (hS2 [])
 intro i hi K hK hE hR
 by_cases h : i < m.length
 ·obtain ⟨x, hx⟩ := get_ex h; have hlt : ((i : Int) < (m.length : Int)) := (by omega); have hw := wrapS (i := i) (by omega)
  obtain ⟨g, hg⟩ := get_ex (show i < G.length by omega)
  have hd := dRow_at hx hg
  have gg : (G.map ai)[i]? = some (AV.int .i64 g) := get_ai6 hg
  have hsub := nR6_sub hx
  simp only [encN6] at hsub
  have hlen : i * 6 + 6 ≤ (nR6 m).length := by rw [nR6_len]; omega
  have hi0 : (0 : Int) ≤ (i : Int) := by omega
  have hsA : setAll [AV.slice Tok.nil [], .int .i64 0, .int .i64 0, .int .i64 0, .int .i64 0, .bool false] 0 [AV.slice .fresh (x.b.map Ahl.encI), .int .i64 x.cost, .int .i64 x.len, .int .i64 x.fr, .int .i64 x.act, .bool x.cl] = encN6 x := rfl
  simp only [encN6] at hsA
  have hbig : bigLen (i + 1) 40 := big_ok (by omega) (by omega)
  have hlen2 : (rowC encD6 ((dRow m G).take i)).length = i * 3 := by rw [rowC_len encD6_len, List.length_take_of_le (by omega)]
  have hf : rowC encD6 ((dRow m G).take i) ++ [[AV.slice .fresh (x.b.map Ahl.encI), .int .i64 x.cost, .int .i64 g]].flatten = rowC encD6 ((dRow m G).take (i + 1)) := by
   rw [take_succ' hd, rowC_snoc]; rfl
  simp only [go_sem, simprocAttr, hlt, hnS, hgS, hsub, hlen, hi0, h, hsA, gg, hbig, hlen2, hf, hw, Int.toNat_natCast, Nat.zero_add]
  refine hK _ _ (i + 1) (by omega) (by omega) ?_
  (try dsimp only)
  exact ghPM 2 (hi := hS) (hio := hio _)
 ·have hlt : ¬ ((i : Int) < (m.length : Int)) := by omega
  have hil' : i = m.length := by omega
  rw [show (dRow m G).take i = dRow m G from List.take_of_length_le (by omega)]
  simp only [go_sem, simprocAttr, hlt, hE]
  refine retRowK2 (id := S.length) (cells := rowC encD6 (dRow m G)) (es := (dRow m G).map encD6) (x := .int .i64 0) ?_ rfl ?_ (by simp [hdl, hil']) (by omega) rfl rfl (.int _ _) (ids_mapf (fun x => ids_encD6 _ x) _) ?_ hfin hσ
  ·rw [List.take_append_of_le_length (by omega), hσS]
  ·simp
  ·intro i e he'
   rw [List.getElem?_map] at he'
   obtain ⟨z, hz, rfl⟩ := Option.map_eq_some_iff.1 he'
   refine ⟨rfl, fun j hj => ?_⟩
   have := flatM_get encD6 3 (fun _ => rfl) (dRow m G) i j hj
   rw [Nat.zero_add]
   rw [show rowC encD6 (dRow m G) = ((dRow m G).map encD6).flatten from rfl, this, hz]; rfl
end
attribute [local go_sem] dr_sdist_0 e_sdist_0 dr_sdist_1 e_sdist_1
def encP6 (e : Nat × Int) : List AV := [.int .i64 (e.1 : Nat), .int .i64 e.2]
instance : IdE encP6 := ⟨fun _ _ => idsL_cons (.int _ _) (idsL_cons (.int _ _) idsL_nil)⟩
def backU (l : List (Nat × Int)) : AV := .slice .unk (l.map encP6)
structure DS (S : Store) (R : Nat) (G : List Int) (Q : List Jt) (T : Store) : Prop where
 base : T.take S.length = S
 hg : T[S.length]? = some (.row (G.map ai))
 hq : T[S.length + 1]? = some (.row [.ref R 3 0 Q.length])
 h2 : T[S.length + 2]? = some (.row [.iface 107 (.ptr (S.length + 1) 0)])
 hR : T[R]? = some (.row (pR Q))
 gR : S.length + 2 < R
 ids : IdsS T.length T
section
variable {S : Store} {R : Nat} {G : List Int} {Q : List Jt} {T : Store}
theorem DS.app (h : DS S R G Q T) (r : Store) (hi : IdsS (T ++ r).length (T ++ r)) : DS S R G Q (T ++ r) where
 base := by rw [List.take_append_of_le_length (take_len h.base)]; exact h.base
 hg := by rw [List.getElem?_append_left (lt_of_get h.hg)]; exact h.hg
 hq := by rw [List.getElem?_append_left (lt_of_get h.hq)]; exact h.hq
 h2 := by rw [List.getElem?_append_left (lt_of_get h.h2)]; exact h.h2
 hR := by rw [List.getElem?_append_left (lt_of_get h.hR)]; exact h.hR
 gR := h.gR
 ids := hi
theorem DS.setG (h : DS S R G Q T) (G' : List Int) : DS S R G' Q (T.set S.length (.row (G'.map ai))) where
 base := by rw [take_set_ge (Nat.le_refl _)]; exact h.base
 hg := List.getElem?_set_self (lt_of_get h.hg)
 hq := by rw [List.getElem?_set_ne (by omega)]; exact h.hq
 h2 := by rw [List.getElem?_set_ne (by omega)]; exact h.h2
 hR := by have := h.gR; rw [List.getElem?_set_ne (by omega)]; exact h.hR
 gR := h.gR
 ids := by rw [List.length_set]; exact idsS_put' h.ids _ (ids_ai _)
theorem DS.pushed (h : DS S R G Q T) (Q' : List Jt) : DS S T.length G Q' (((T.set (S.length + 1) (.row [.ref T.length 3 0 Q'.length])).set R .dead) ++ [.row (pR Q')]) := by
 have hgl := lt_of_get h.hg
 have hql := lt_of_get h.hq
 have h2l := lt_of_get h.h2
 have hRl := lt_of_get h.hR
 have hgR := h.gR
 have hl : ((T.set (S.length + 1) (AObj.row [.ref T.length 3 0 Q'.length])).set R .dead).length = T.length := by simp
 have hg : ∀ i, i < T.length → i ≠ S.length + 1 → i ≠ R → (((T.set (S.length + 1) (AObj.row [.ref T.length 3 0 Q'.length])).set R .dead) ++ [AObj.row (pR Q')])[i]? = T[i]? := fun i h1 h2 h3 => by
  rw [List.getElem?_append_left (by omega), List.getElem?_set_ne (Ne.symm h3), List.getElem?_set_ne (Ne.symm h2)]
 refine ⟨?_, by rw [hg _ hgl (by omega) (by omega)]; exact h.hg, ?_, by rw [hg _ h2l (by omega) (by omega)]; exact h.h2, ?_, by omega, ?_⟩
 ·rw [List.take_append_of_le_length (by omega), take_set_ge (by omega), take_set_ge (by omega), h.base]
 ·rw [List.getElem?_append_left (by omega), List.getElem?_set_ne (by omega), List.getElem?_set_self hql]
 ·rw [List.getElem?_append_right (by omega), hl]; simp
 ·intro i o e
  rw [List.length_append, hl, List.length_singleton]
  rcases Nat.lt_or_ge i T.length with hi | hi
  ·rw [List.getElem?_append_left (by omega)] at e
   rcases get_set e with ⟨_, rfl⟩ | ⟨_, e⟩
   ·trivial
   ·rcases get_set e with ⟨_, rfl⟩ | ⟨_, e⟩
    ·exact idsO_row (idsL_cons (.ref _ _ _ _ (by omega)) idsL_nil)
    ·exact idsO_up (by omega) (h.ids i o e)
  ·rw [List.getElem?_append_right (by omega), hl] at e
   have := List.mem_of_getElem? e
   simp at this; subst this; exact ids_pR _
theorem DS.popped (h : DS S R G Q T) (Q' : List Jt) : DS S R G Q' (pS T (S.length + 1) R Q') := by
 have hRl := lt_of_get h.hR
 have hql := lt_of_get h.hq
 have hgR := h.gR
 have hg : ∀ i, i ≠ S.length + 1 → i ≠ R → (pS T (S.length + 1) R Q')[i]? = T[i]? := fun i h2 h3 => by
  unfold pS; rw [List.getElem?_set_ne (Ne.symm h3), List.getElem?_set_ne (Ne.symm h2)]
 refine ⟨?_, by rw [hg _ (by omega) (by omega)]; exact h.hg, ?_, by rw [hg _ (by omega) (by omega)]; exact h.h2, ?_, hgR, pS_ids h.ids hRl⟩
 ·unfold pS; rw [take_set_ge (by omega), take_set_ge (by omega), h.base]
 ·unfold pS; rw [List.getElem?_set_ne (by omega), List.getElem?_set_self hql]
 ·unfold pS; rw [List.getElem?_set_self (by simpa using hRl)]
theorem DS.start (hS : IdsS S.length S) : DS S (S.length + 3) G [] (S ++ [.row (G.map ai), .row [.ref (S.length + 3) 3 0 0], .row [.iface 107 (.ptr (S.length + 1) 0)], .row []]) where
 base := List.take_left
 hg := by rw [List.getElem?_append_right (by omega), Nat.sub_self]; rfl
 hq := by rw [List.getElem?_append_right (by omega), Nat.add_sub_cancel_left]; rfl
 h2 := by rw [List.getElem?_append_right (by omega), Nat.add_sub_cancel_left]; rfl
 hR := by rw [List.getElem?_append_right (by omega), Nat.add_sub_cancel_left]; rfl
 gR := by omega
 ids := idsS_app _ hS (all_cons' (ids_ai _) (all_cons' (idsO_row (idsL_cons (.ref _ _ _ _ (by simp)) idsL_nil)) (all_cons' (idsO_row (idsL_cons (.iface _ _ (.ptr _ _ (by simp))) idsL_nil)) (all_cons' (idsO_row idsL_nil) all_nil'))))
end
structure QI (t : FTask) (L : List (List Int)) (i : Nat) (Q : List Jt) : Prop where
 fst : ∀ q ∈ Q, ∃ j u, q = (j, (0, 0)) ∧ j < i ∧ L[j]? = some u ∧ goalT t u = true
 snd : ∀ (j : Nat) u, j < i → L[j]? = some u → goalT t u = true → (j, (0, 0)) ∈ Q
 len : Q.length ≤ i
 heap : HeapJ Q Q.length
theorem QI.start (t : FTask) (L : List (List Int)) : QI t L 0 [] := ⟨by simp, fun j u h => by omega, Nat.le_refl _, fun i h0 hi => by simp at hi⟩
theorem QI.skip {t : FTask} {L : List (List Int)} {i : Nat} {Q : List Jt} {u : List Int} (h : QI t L i Q) (hu : L[i]? = some u) (hg : goalT t u = false) : QI t L (i + 1) Q where
 fst q hq := by
  obtain ⟨j, w, h1, h2, h3⟩ := h.fst q hq
  exact ⟨j, w, h1, by omega, h3⟩
 snd j w hj hw hgw := by
  rcases Nat.lt_or_ge j i with q | q
  ·exact h.snd j w q hw hgw
  ·have : j = i := by omega
   subst this; rw [hu] at hw; injection hw with hw; subst hw; rw [hg] at hgw; simp at hgw
 len := by have := h.len; omega
 heap := h.heap
theorem QI.push {t : FTask} {L : List (List Int)} {i : Nat} {Q Q' : List Jt} {u : List Int} (h : QI t L i Q) (hu : L[i]? = some u) (hg : goalT t u = true) (hp : Q'.Perm ((i, (0, 0)) :: Q)) (hh : HeapJ Q' Q'.length) : QI t L (i + 1) Q' where
 fst q hq := by
  rcases List.mem_cons.1 (hp.mem_iff.1 hq) with rfl | hq
  ·exact ⟨i, u, rfl, by omega, hu, hg⟩
  ·obtain ⟨j, w, h1, h2, h3⟩ := h.fst q hq
   exact ⟨j, w, h1, by omega, h3⟩
 snd j w hj hw hgw := by
  refine hp.mem_iff.2 ?_
  rcases Nat.lt_or_ge j i with q | q
  ·exact List.mem_cons_of_mem _ (h.snd j w q hw hgw)
  ·have : j = i := by omega
   subst this; exact List.mem_cons_self
 len := by have := h.len; have := hp.length_eq; simp at this; omega
 heap := hh
theorem neg_set {G : List Int} {i : Nat} {x v : Int} (hx : G[i]? = some x) (hn : x < 0) (hv : 0 ≤ v) : neg3 (G.set i v) + 1 = neg3 G := by
 have := count_set (p := fun v => decide (v < 0)) (x := v) hx
 rw [decide_eq_true hn, decide_eq_false (by omega : ¬ v < 0)] at this
 simpa [neg3] using this
theorem GI.none {t : FTask} {L : List (List Int)} {G : List Int} {Q : List Jt} {j0 : Nat} (l : List (Nat × Int)) (h : GI t L (fun j _ => j ≠ j0) G Q) : GI t L (fun j e => j = j0 → e ∈ l.take 0) G Q :=
 {h with ed := fun i j u v a x w h1 h2 h3 h4 h5 h6 h7 h8 h9 => h.ed i j u v a x w h1 h2 h3 h4 h5 h6 h7 h8 fun e => by have := h9 e; simp at this }
theorem backU_at {bk : Bk} {j : Nat} {l : List (Nat × Int)} (h : bk[j]? = some l) : (bk.map backU)[j]? = some (.slice .unk (l.map encP6)) := by rw [List.getElem?_map, h]; rfl
theorem DS.sub {S : Store} {R : Nat} {G : List Int} {Q : List Jt} {T : Store} (h : DS S R G Q T) : T.take (S ++ [AObj.row (G.map ai)]).length = S ++ [AObj.row (G.map ai)] := by
 rw [List.length_append, List.length_singleton, List.take_add_one, h.base, h.hg]; rfl
set_option maxHeartbeats 8000000 in
theorem dist_mid (σ S : Store) (hσ : IdsS σ.length σ) (hS : IdsS S.length S) (hσS : S.take σ.length = σ) (hl : σ.length ≤ S.length) (nd bi bx : Nat) (t : FTask) (s : List Int) (m : List NS) (bk : Bk) (hVT : VT t) (hL : LOk t s (m.map (·.b))) (hBk : BkI t (m.map (·.b)) bk (m.map (·.b)).length 0)
  (hnd : S[nd]? = some (.row (nR6 m))) (hbi : S[bi]? = some (.row (bk.map backU))) (hbx : S[bx]? = some (.row (encTask t))) (hm : m.length ≤ 20000)
  (sl : Slots) (T0 : Store) (hgh : Ghost σ.length 205 sl T0 [(3, .ptr bx 0), (9, .ref nd 6 0 m.length), (14, .ref bi 1 0 m.length)] S) (RR : Cont) (hfin : RR (.tuple [.slice .fresh ((dRow m ((m.map (·.b)).map (optF t))).map encD6), .int .i64 0]) σ) :
  wpc Tryz.prog 205 σ.length r_sdist_1 (bodyK [.tmp 6, .tmp 7] σ.length 205 RR) sl T0 := by
 rw [r_sdist_1]
 simp only [go_sem, simprocAttr]
 rw [wpc_ghost]
 have hndl := lt_of_get hnd
 have hbil := lt_of_get hbi
 have hbxl := lt_of_get hbx
 refine ⟨[(3, .ptr bx 0), (9, .ref nd 6 0 m.length), (14, .ref bi 1 0 m.length)], S, hgh, ?_⟩
 obtain ⟨L, hLq⟩ : ∃ L, L = m.map (·.b) := ⟨_, rfl⟩
 have hLl : L.length = m.length := by rw [hLq]; simp
 rw [← hLq] at hL hBk hfin
 have hn0 : (0 : Int) ≤ (m.length : Int) := by omega
 have hbn : bigLen m.length 8 := big_ok (by omega) (by omega)
 simp only [go_sem, simprocAttr, hn0, Int.toNat_natCast, hbn, aMkslice, rep_ai6]
 refine ⟨Int.le_refl _, by omega, by omega, ?_⟩
 refine wpc_while (α := Store × List Jt × Nat × Nat) (fun z => [(3, .ptr bx 0), (9, .ref nd 6 0 m.length), (14, .ref bi 1 0 m.length), (20, .ref S.length 1 0 m.length), (21, .ptr (S.length + 2) 0), (113, .ref nd 6 0 m.length), (114, .int .i64 m.length), (115, .int .i64 (z.2.2.2 : Nat))]) (fun z => z.1)
  (fun z => DS S z.2.2.1 (d6L (fun _ => -1) L z.2.2.2) z.2.1 z.1 ∧ QI t L z.2.2.2 z.2.1 ∧ z.2.2.2 ≤ m.length) (fun z => m.length - z.2.2.2)
  (S ++ [.row ((d6L (fun _ => -1) L 0).map ai), .row [.ref (S.length + 3) 3 0 0], .row [.iface 107 (.ptr (S.length + 1) 0)], .row []], [], S.length + 3, 0) ⟨DS.start hS, QI.start t L, Nat.zero_le _⟩ ?_ ?_
 ·(try dsimp only)
  rw [show d6L (fun _ => -1) L 0 = List.replicate m.length 0 by unfold d6L; simp [hLl]]
  have e0 : (S ++ [AObj.row ((List.replicate m.length (0 : Int)).map ai), .row [.slice .zero []], .row [.iface 107 (.ptr (S.length + 1) 0)]]).length = S.length + 3 := by simp
  refine Ghost.trans (Ghost.rowRowZ (S.length + 1) 0 3 (cells := [.slice .zero []]) (tk := .zero) (by rw [List.getElem?_append_right (by omega), Nat.add_sub_cancel_left]; rfl) (.inr rfl) rfl) ?_
  have e1 : ((S ++ [AObj.row ((List.replicate m.length (0 : Int)).map ai), .row [.slice .zero []], .row [.iface 107 (.ptr (S.length + 1) 0)]]) ++ [AObj.row []]).set (S.length + 1) (AObj.row (([.slice .zero []] : List AV).set 0 (.ref (S ++ [AObj.row ((List.replicate m.length (0 : Int)).map ai), .row [.slice .zero []], .row [.iface 107 (.ptr (S.length + 1) 0)]]).length 3 0 0))) = S ++ [.row ((List.replicate m.length (0 : Int)).map ai), .row [.ref (S.length + 3) 3 0 0], .row [.iface 107 (.ptr (S.length + 1) 0)], .row []] := by
   rw [e0, List.append_assoc, List.set_append_right _ _ (by omega), Nat.add_sub_cancel_left]; rfl
  rw [e1]
  have hds := (DS.start (G := List.replicate m.length 0) hS).ids
  exact Ghost.keep0 (by simp; omega) ⟨⟨.refl _, .ptr _ _ (by simp; omega)⟩, ⟨.refl _, .ref _ _ _ _ (by simp; omega)⟩, ⟨.refl _, .ref _ _ _ _ (by simp; omega)⟩, ⟨.refl _, .ref _ _ _ _ (by simp)⟩, ⟨.refl _, .ptr _ _ (by simp)⟩, ⟨.refl _, .ref _ _ _ _ (by simp; omega)⟩, ⟨.refl _, .int _ _⟩, ⟨.refl _, .int _ _⟩, trivial⟩ hds
 rintro ⟨T, Q, R, i⟩ ⟨hD, hQ, hi⟩ K hK hE hR
 dsimp only at hD hQ hi ⊢
 by_cases h : i < m.length
 ·obtain ⟨x, hx⟩ := get_ex h; have hlt : ((i : Int) < (m.length : Int)) := (by omega); have hw := wrapS (i := i) (by omega)
  have hTl := take_len hD.base
  have hndT := take_low hD.base hnd
  have hsub := nR6_sub hx
  simp only [encN6] at hsub
  have hlen : i * 6 + 6 ≤ (nR6 m).length := by rw [nR6_len]; omega
  have hi0 : (0 : Int) ≤ (i : Int) := by omega
  have hsA : setAll [AV.slice Tok.nil [], .int .i64 0, .int .i64 0, .int .i64 0, .int .i64 0, .bool false] 0 [AV.slice .fresh (x.b.map Ahl.encI), .int .i64 x.cost, .int .i64 x.len, .int .i64 x.fr, .int .i64 x.act, .bool x.cl] = encN6 x := rfl
  simp only [encN6] at hsA
  simp only [go_sem, simprocAttr, hlt, hndT, hsub, hlen, hi0, h, hsA, Int.toNat_natCast, Nat.zero_add]
  have hZi : IdsS (T ++ [AObj.row (encN6 x)]).length (T ++ [AObj.row (encN6 x)]) := idsS_push hD.ids (idsO_row (ids_encN6 _ _))
  have hDZ := hD.app _ hZi
  obtain ⟨Z, hZ⟩ : ∃ Z, Z = T ++ [AObj.row (encN6 x)] := ⟨_, rfl⟩
  have hZl : Z.length = T.length + 1 := by rw [hZ]; simp
  have hZp : Z[T.length]? = some (.row (encN6 x)) := by rw [hZ]; simp
  rw [← hZ] at hDZ hZi
  simp only [encN6] at hZ hZp
  rw [← hZ, wpc_ghost]
  refine ⟨[(3, .ptr bx 0), (9, .ref nd 6 0 m.length), (14, .ref bi 1 0 m.length), (20, .ref S.length 1 0 m.length), (21, .ptr (S.length + 2) 0), (113, .ref nd 6 0 m.length), (114, .int .i64 m.length), (115, .int .i64 (i : Nat)), (22, .int .i64 (i : Nat)), (23, .ptr T.length 0)], Z, Ghost.keep0 (by omega) ⟨⟨.refl _, .ptr _ _ (by omega)⟩, ⟨.refl _, .ref _ _ _ _ (by omega)⟩, ⟨.refl _, .ref _ _ _ _ (by omega)⟩, ⟨.refl _, .ref _ _ _ _ (by omega)⟩, ⟨.refl _, .ptr _ _ (by have := lt_of_get hDZ.h2; omega)⟩, ⟨.refl _, .ref _ _ _ _ (by omega)⟩, ⟨.refl _, .int _ _⟩, ⟨.refl _, .int _ _⟩, ⟨.refl _, .int _ _⟩, ⟨.refl _, .ptr _ _ (by omega)⟩, trivial⟩ hZi, ?_⟩
  have hub : (m.map (·.b))[i]? = some x.b := by rw [List.getElem?_map, hx]; rfl
  rw [← hLq] at hub
  obtain ⟨hul, hug, hup⟩ := st_rng hVT ((hL.rl.2 x.b).1 (List.mem_of_getElem? hub)).1
  have hdl := d6L_len (f := fun _ => -1) (all := L) (i := i) (by omega)
  have hl1 : ((d6L (fun _ => -1) L i).map ai).length = m.length := by rw [List.length_map, hdl, hLl]
  have hjl : i + 1 ≤ m.length := by omega
  have hstep := d6L_step (f := fun _ => -1) hub
  have hg1 := hDZ.hg
  have hne : T.length ≠ S.length := by have := lt_of_get hD.hg; omega
  have gz : ∀ o, (Z.set S.length o)[T.length]? = Z[T.length]? := fun o => by rw [List.getElem?_set_ne (by omega)]
  have hbxZ := take_low hDZ.base hbx
  simp only [encTask] at hbxZ
  have gb : ∀ o, (Z.set S.length o)[bx]? = Z[bx]? := fun o => by rw [List.getElem?_set_ne (by omega)]
  simp only [go_sem, simprocAttr, hg1, hi0, h, hl1, hjl, set_ai6, hstep, gz, hZp, gb, hbxZ, Int.toNat_natCast, Nat.zero_add]
  have hDY := hDZ.setG (d6L (fun _ => -1) L (i + 1))
  obtain ⟨Y, hY⟩ : ∃ Y, Y = Z.set S.length (.row ((d6L (fun _ => -1) L (i + 1)).map ai)) := ⟨_, rfl⟩
  rw [← hY] at hDY
  have hYl : Y.length = Z.length := by rw [hY, List.length_set]
  rw [← hY]
  refine (sTrue_spec x.b t.goal .fresh .unk _ (by omega) hup (by have := hVT.tb.goal; omega)).is ?_
  have next : ∀ (Y2 : Store) (Q2 : List Jt) (R2 : Nat), DS S R2 (d6L (fun _ => -1) L (i + 1)) Q2 Y2 → QI t L (i + 1) Q2 → ∀ sl, lk sl 3 = .ptr bx 0 → lk sl 9 = .ref nd 6 0 m.length → lk sl 14 = .ref bi 1 0 m.length → lk sl 20 = .ref S.length 1 0 m.length → lk sl 21 = .ptr (S.length + 2) 0 → lk sl 113 = .ref nd 6 0 m.length → lk sl 114 = .int .i64 m.length → lk sl 115 = .int .i64 ((i + 1 : Nat) : Int) → K .normal sl Y2 := by
   intro Y2 Q2 R2 hD2 hQ2 sl q1 q2 q3 q4 q5 q6 q7 q8
   have hY2 := take_len hD2.base
   refine hK _ _ (Y2, Q2, R2, i + 1) ⟨hD2, hQ2, by simp only []; omega⟩ (by simp only []; omega) ?_
   (try dsimp only)
   exact Ghost.keep0 (by omega) ⟨⟨by rw [q1]; exact .refl _, .ptr _ _ (by omega)⟩, ⟨by rw [q2]; exact .refl _, .ref _ _ _ _ (by omega)⟩, ⟨by rw [q3]; exact .refl _, .ref _ _ _ _ (by omega)⟩, ⟨by rw [q4]; exact .refl _, .ref _ _ _ _ (lt_of_get hD2.hg)⟩, ⟨by rw [q5]; exact .refl _, .ptr _ _ (lt_of_get hD2.h2)⟩, ⟨by rw [q6]; exact .refl _, .ref _ _ _ _ (by omega)⟩, ⟨by rw [q7]; exact .refl _, .int _ _⟩, ⟨by rw [q8]; exact .refl _, .int _ _⟩, trivial⟩ hD2.ids
  cases hg : condHolds x.b t.goal
  ·simp only [go_sem, simprocAttr, hw]
   exact next Y Q R hDY (hQ.skip hub hg) _ rfl rfl rfl rfl rfl rfl rfl rfl
  ·have h2Y := hDY.h2
   simp only [go_sem, simprocAttr, h2Y, hw]
   refine (jpush_spec (S.length + 1) R Q (i, (0, 0)) _ (by have := hD.gR; omega) hDY.hq hDY.hR (by have := hQ.len; omega) hQ.heap (fun y hy => by obtain ⟨j, w, rfl, _⟩ := hQ.fst y hy; simp) (by simp)).mono ?_
   rintro _ _ ⟨rfl, l', hl', hpm, hhp, rfl⟩
   simp only [go_sem, simprocAttr, hw]
   exact next _ l' _ (hDY.pushed l') (hQ.push hub hg hpm hhp) _ rfl rfl rfl rfl rfl rfl rfl rfl
 ·have hlt : ¬ ((i : Int) < (m.length : Int)) := by omega
  obtain rfl : i = m.length := by omega
  simp only [go_sem, simprocAttr, hlt, hE]
  clear hK hE hR
  have hd0 : d6L (fun _ => -1) L m.length = L.map (fun _ => (-1 : Int)) := by unfold d6L; rw [← hLl]; simp
  rw [hd0] at hD
  have hG0 : GI t L (fun _ _ => True) (L.map fun _ => (-1 : Int)) Q := GI.start hVT (fun q hq' => by
   obtain ⟨j, u, q1, _, q2, q3⟩ := hQ.fst q hq'; exact ⟨j, u, q1, q2, q3⟩) (fun j u hu hg => hQ.snd j u (by have := lt_of_get hu; omega) hu hg)
  have htot : (bk.map List.length).sum ≤ 1000 * 20000 := by
   have h1 := hBk.tot
   have h2 : t.actions.length * L.length ≤ 1000 * 20000 := Nat.mul_le_mul hVT.na (by omega)
   omega
  have hus := usum_le (L.map fun _ => (-1 : Int)) bk
  have hQl := hQ.len
  have hC := coO_ok hVT
  refine wpc_while (α := Store × List Jt × Nat × List Int) (fun z => [(9, .ref nd 6 0 m.length), (14, .ref bi 1 0 m.length), (20, .ref S.length 1 0 m.length), (21, .ptr (S.length + 2) 0)]) (fun z => z.1)
   (fun z => DS S z.2.2.1 z.2.2.2 z.2.1 z.1 ∧ GI t L (fun _ _ => True) z.2.2.2 z.2.1 ∧ HeapJ z.2.1 z.2.1.length ∧ z.2.1.length + usum z.2.2.2 bk ≤ 20020000 ∧ ∀ q ∈ z.2.1, q.2.1 ≤ 100000 * ((L.length : Int) - neg3 z.2.2.2)) (fun z => z.2.1.length + usum z.2.2.2 bk)
   (T, Q, R, L.map fun _ => (-1 : Int)) ⟨hD, hG0, hQ.heap, by dsimp only; omega, fun q hq' => ?_⟩ ?_ ?_
  ·obtain ⟨j, u, rfl, _⟩ := hQ.fst q hq'
   have := neg3_le (L.map fun _ => (-1 : Int))
   rw [List.length_map] at this
   dsimp only
   omega
  ·(try dsimp only)
   have hTl := take_len hD.base
   exact Ghost.keep0 (by omega) ⟨⟨.refl _, .ref _ _ _ _ (by omega)⟩, ⟨.refl _, .ref _ _ _ _ (by omega)⟩, ⟨.refl _, .ref _ _ _ _ (lt_of_get hD.hg)⟩, ⟨.refl _, .ptr _ _ (lt_of_get hD.h2)⟩, trivial⟩ hD.ids
  clear hD hG0 hQ hQl hus
  rintro ⟨T, Q, R, G⟩ ⟨hD, hG, hH, hB, hv⟩ K hK hE hR
  dsimp only at hD hG hH hB hv ⊢
  have hTl := take_len hD.base
  have h2T := hD.h2
  have hqT := hD.hq
  have hgR := hD.gR
  have hGl := hG.len
  simp only [go_sem, simprocAttr, h2T, hqT]
  refine (pLen_spec R Q.length _).is ?_
  by_cases hQ0 : Q.length = 0
  ·have hgt : ¬ ((Q.length : Int) > 0) := by omega
   have hQn : Q = [] := List.length_eq_zero_iff.1 hQ0
   subst hQn
   have hfinG := hG.fin hVT hL
   rw [← hfinG] at hfin
   simp only [go_sem, simprocAttr, hgt, hE]
   refine dist_last σ (S ++ [.row (G.map ai)]) hσ (idsS_push hS (ids_ai _)) (by rw [List.take_append_of_le_length hl]; exact hσS) (by simp; omega) nd S.length m G (by rw [List.getElem?_append_left hndl]; exact hnd) (by simp) (by omega) hm _ T hD.sub rfl rfl RR hfin
  have hgt : ((Q.length : Int) > 0) := by omega
  simp only [go_sem, simprocAttr, hgt, h2T]
  refine (jpop_spec (S.length + 1) R Q _ (by omega) hqT hD.hR (by omega) (by omega) hH (fun y hy => by have := (hG.itm y hy).1; omega)).mono ?_
  rintro _ _ ⟨y, Q', rfl, hy0, hQ', hperm, hheap, hmin, rfl⟩
  have hD1 := hD.popped Q'
  have hpSl : (pS T (S.length + 1) R Q').length = T.length := pS_len _ _ _ _
  have hyQ : y ∈ Q := hperm.mem_iff.2 List.mem_cons_self
  obtain ⟨hy2, uy, huy, hyc⟩ := hG.itm y hyQ
  have hyl := lt_of_get huy
  have hmin' : ∀ z ∈ Q', y.2.1 ≤ z.2.1 := fun z hz => by
   have h1 := hmin z hz
   have h2 := (hG.itm z (hperm.mem_iff.2 (List.mem_cons_of_mem _ hz))).1
   unfold ky at h1; omega
  have hQl : Q.length = Q'.length + 1 := by have := hperm.length_eq; simpa using this
  simp only [go_sem, simprocAttr, encQ]
  have hZi : IdsS (pS T (S.length + 1) R Q' ++ [AObj.row (encQ y)]).length (pS T (S.length + 1) R Q' ++ [AObj.row (encQ y)]) := idsS_push hD1.ids (idsO_row (idsL_cons (.int _ _) (idsL_cons (.int _ _) (idsL_cons (.int _ _) idsL_nil))))
  have hDZ := hD1.app _ hZi
  obtain ⟨Z, hZ⟩ : ∃ Z, Z = pS T (S.length + 1) R Q' ++ [AObj.row (encQ y)] := ⟨_, rfl⟩
  have hZl : Z.length = T.length + 1 := by rw [hZ, List.length_append, hpSl]; rfl
  have hZp : Z[T.length]? = some (.row (encQ y)) := by rw [hZ, ← hpSl]; simp
  rw [← hZ] at hDZ hZi
  simp only [encQ] at hZ hZp
  rw [← hZ, hpSl, wpc_ghost]
  refine ⟨[(9, .ref nd 6 0 m.length), (14, .ref bi 1 0 m.length), (20, .ref S.length 1 0 m.length), (21, .ptr (S.length + 2) 0), (24, .ptr T.length 0)], Z, Ghost.keep0 (by omega) ⟨⟨.refl _, .ref _ _ _ _ (by omega)⟩, ⟨.refl _, .ref _ _ _ _ (by omega)⟩, ⟨.refl _, .ref _ _ _ _ (lt_of_get hDZ.hg)⟩, ⟨.refl _, .ptr _ _ (lt_of_get hDZ.h2)⟩, ⟨.refl _, .ptr _ _ (by omega)⟩, trivial⟩ hZi, ?_⟩
  obtain ⟨gx, hgx⟩ := get_ex (show y.1 < G.length by omega)
  have gg := get_ai6 hgx
  have hgZ := hDZ.hg
  have hy0' : (0 : Int) ≤ ((y.1 : Nat) : Int) := by omega
  have hym : y.1 < m.length := by omega
  by_cases c1 : gx ≥ 0
  ·simp only [go_sem, simprocAttr, hZp, hgZ, gg, hy0', hym, c1, Int.toNat_natCast, Nat.zero_add]
   refine hK _ _ (Z, Q', R, G) ⟨hDZ, hG.drop hperm hgx c1, hheap, by dsimp only; omega, fun q hq' => hv q (hperm.mem_iff.2 (List.mem_cons_of_mem _ hq'))⟩ (by dsimp only; omega) ?_
   (try dsimp only)
   exact Ghost.keep0 (by omega) ⟨⟨.refl _, .ref _ _ _ _ (by omega)⟩, ⟨.refl _, .ref _ _ _ _ (by omega)⟩, ⟨.refl _, .ref _ _ _ _ (lt_of_get hDZ.hg)⟩, ⟨.refl _, .ptr _ _ (lt_of_get hDZ.h2)⟩, trivial⟩ hZi
  obtain ⟨hy00, hS1⟩ := hG.settle hVT hL hperm hmin' hgx (by omega)
  obtain ⟨l, hl1⟩ := get_ex (show y.1 < bk.length by rw [hBk.len]; exact hyl)
  have hus := usum_set hgx (by omega) hy00 hl1
  have hneg := neg_set hgx (by omega) hy00
  have hyv := hv y hyQ
  have hngl := neg3_le (G.set y.1 y.2.1)
  rw [List.length_set] at hngl
  have hll : l.length ≤ 1000 * 20000 := by
   have h1 := usum_le G bk
   omega
  have hbT := take_low hDZ.base hbi
  have hba := backU_at hl1
  have hgl2 : (G.map ai).length = m.length := by rw [List.length_map]; omega
  have hym1 : y.1 + 1 ≤ m.length := by omega
  have gz : ∀ o, (Z.set S.length o)[T.length]? = Z[T.length]? := fun o => by have := lt_of_get hD.hg; rw [List.getElem?_set_ne (by omega)]
  have gb : ∀ o, (Z.set S.length o)[bi]? = Z[bi]? := fun o => by rw [List.getElem?_set_ne (by omega)]
  simp only [go_sem, simprocAttr, hZp, hgZ, gg, hy0', hym, c1, hgl2, hym1, set_ai6, gz, gb, hbT, hba, Int.toNat_natCast, Nat.zero_add]
  have hDY := hDZ.setG (G.set y.1 y.2.1)
  have hYp := gz (.row ((G.set y.1 y.2.1).map ai))
  rw [hZp] at hYp
  obtain ⟨Y, hY⟩ : ∃ Y, Y = Z.set S.length (.row ((G.set y.1 y.2.1).map ai)) := ⟨_, rfl⟩
  rw [← hY] at hDY hYp
  rw [← hY]
  have hYl : Y.length = Z.length := by rw [hY, List.length_set]
  have hgw : (G.set y.1 y.2.1)[y.1]? = some y.2.1 := List.getElem?_set_self (lt_of_get hgx)
  have hRlt := lt_of_get hD.hR
  refine wpc_while (α := Store × List Jt × Nat × Nat) (fun z => [(9, .ref nd 6 0 m.length), (14, .ref bi 1 0 m.length), (20, .ref S.length 1 0 m.length), (21, .ptr (S.length + 2) 0), (24, .ptr T.length 0), (159, .slice .unk (l.map encP6)), (160, .int .i64 l.length), (161, .int .i64 (z.2.2.2 : Nat))]) (fun z => z.1)
   (fun z => DS S z.2.2.1 (G.set y.1 y.2.1) z.2.1 z.1 ∧ GI t L (fun j e => j = y.1 → e ∈ l.take z.2.2.2) (G.set y.1 y.2.1) z.2.1 ∧ HeapJ z.2.1 z.2.1.length ∧ z.2.2.2 ≤ l.length ∧ z.2.1.length ≤ Q'.length + z.2.2.2 ∧ z.1[T.length]? = some (.row [.int .i64 (y.1 : Nat), .int .i64 y.2.1, .int .i64 y.2.2]) ∧ z.2.2.1 ≠ T.length ∧ ∀ q ∈ z.2.1, q.2.1 ≤ 100000 * ((L.length : Int) - neg3 (G.set y.1 y.2.1))) (fun z => l.length - z.2.2.2)
   (Y, Q', R, 0) ⟨hDY, GI.none l hS1, hheap, Nat.zero_le _, Nat.le_refl _, hYp, by dsimp only; omega, fun q hq' => by
    have := hv q (hperm.mem_iff.2 (List.mem_cons_of_mem _ hq')); omega⟩ ?_ ?_
  ·(try dsimp only)
   exact Ghost.keep0 (by omega) ⟨⟨.refl _, .ref _ _ _ _ (by omega)⟩, ⟨.refl _, .ref _ _ _ _ (by omega)⟩, ⟨.refl _, .ref _ _ _ _ (lt_of_get hDY.hg)⟩, ⟨.refl _, .ptr _ _ (lt_of_get hDY.h2)⟩, ⟨.refl _, .ptr _ _ (by omega)⟩, ⟨.refl _, ids_mapE _⟩, ⟨.refl _, .int _ _⟩, ⟨.refl _, .int _ _⟩, trivial⟩ hDY.ids
  rintro ⟨X, Q2, R2, k⟩ ⟨hDX, hGX, hHX, hk0, hQ2, hXp, hRX, hvX⟩ K2 hK2 hE2 hR2
  dsimp only at hDX hGX hHX hk0 hQ2 hXp hRX hvX ⊢
  have hXl := take_len hDX.base
  have hXTl := lt_of_get hXp
  by_cases hk : k < l.length
  ·obtain ⟨e, hxk⟩ := get_ex hk; have hltk : ((k : Int) < (l.length : Int)) := (by omega); have hwk := wrapS (i := k) (by omega)
   obtain ⟨ue, ve, a, hue, hve, haA, hst, hec⟩ := hBk.snd y.1 l hl1 e (List.mem_of_getElem? hxk)
   have hza := hC a haA
   have hel := lt_of_get hue
   have hve' : ve = uy := by rw [huy] at hve; injection hve with hve; exact hve.symm
   subst hve'
   obtain ⟨ex, hex⟩ := get_ex (show e.1 < (G.set y.1 y.2.1).length by rw [List.length_set]; omega)
   have gge := get_ai6 hex
   have he0 : (0 : Int) ≤ ((e.1 : Nat) : Int) := by omega
   have hem : e.1 < m.length := by omega
   have sA : setAll [AV.int .i64 0, AV.int .i64 0] 0 [AV.int .i64 ((e.1 : Nat) : Int), .int .i64 e.2] = [AV.int .i64 ((e.1 : Nat) : Int), .int .i64 e.2] := rfl
   simp only [go_sem, simprocAttr, hltk, hxk, encP6, sA]
   have hWi : IdsS (X ++ [AObj.row (encP6 e)]).length (X ++ [AObj.row (encP6 e)]) := idsS_push hDX.ids (idsO_row (idsL_cons (.int _ _) (idsL_cons (.int _ _) idsL_nil)))
   have hDW := hDX.app _ hWi
   obtain ⟨W, hW⟩ : ∃ W, W = X ++ [AObj.row (encP6 e)] := ⟨_, rfl⟩
   have hWl : W.length = X.length + 1 := by rw [hW]; simp
   have hWp : W[X.length]? = some (.row (encP6 e)) := by rw [hW]; simp
   have hWy : W[T.length]? = some (.row [.int .i64 (y.1 : Nat), .int .i64 y.2.1, .int .i64 y.2.2]) := by rw [hW, List.getElem?_append_left hXTl]; exact hXp
   rw [← hW] at hDW hWi
   simp only [encP6] at hW hWp
   rw [← hW, wpc_ghost]
   refine ⟨[(9, .ref nd 6 0 m.length), (14, .ref bi 1 0 m.length), (20, .ref S.length 1 0 m.length), (21, .ptr (S.length + 2) 0), (24, .ptr T.length 0), (159, .slice .unk (l.map encP6)), (160, .int .i64 l.length), (161, .int .i64 (k : Nat)), (26, .ptr X.length 0)], W, Ghost.keep0 (by omega) ⟨⟨.refl _, .ref _ _ _ _ (by omega)⟩, ⟨.refl _, .ref _ _ _ _ (by omega)⟩, ⟨.refl _, .ref _ _ _ _ (lt_of_get hDW.hg)⟩, ⟨.refl _, .ptr _ _ (lt_of_get hDW.h2)⟩, ⟨.refl _, .ptr _ _ (by omega)⟩, ⟨.refl _, ids_mapE _⟩, ⟨.refl _, .int _ _⟩, ⟨.refl _, .int _ _⟩, ⟨.refl _, .ptr _ _ (by omega)⟩, trivial⟩ hWi, ?_⟩
   have hgW := hDW.hg
   have h2W := hDW.h2
   have hRX2 := lt_of_get hDX.hR
   by_cases c2 : ex < 0
   ·have hwv : IntKind.i64.wrap (y.2.1 + e.2) = y.2.1 + e.2 := wrap_ok (by omega)
    simp only [go_sem, simprocAttr, hWp, hWy, hgW, h2W, gge, he0, hem, c2, hwv, Int.toNat_natCast, Nat.zero_add]
    refine (jpush_spec (S.length + 1) R2 Q2 (e.1, (y.2.1 + e.2, 0)) _ (by have := hDX.gR; omega) hDW.hq hDW.hR (by omega) hHX (fun z hz => by have := (hGX.itm z hz).1; omega) (by simp)).mono ?_
    rintro _ _ ⟨rfl, Q3, hl', hpm, hhp, rfl⟩
    have hY2 := hDW.pushed Q3
    have hQ3l : Q3.length = Q2.length + 1 := by have := hpm.length_eq; simpa using this
    obtain ⟨Y2, hYY⟩ : ∃ Y2, Y2 = ((W.set (S.length + 1) (AObj.row [AV.ref W.length 3 0 Q3.length])).set R2 .dead) ++ [AObj.row (pR Q3)] := ⟨_, rfl⟩
    obtain ⟨R3, hR3e⟩ : ∃ R3, R3 = W.length := ⟨_, rfl⟩
    have hp3 : Y2[T.length]? = some (.row [.int .i64 (y.1 : Nat), .int .i64 y.2.1, .int .i64 y.2.2]) := by
     have := hDX.gR
     have := lt_of_get hD.h2
     rw [hYY, List.getElem?_append_left (by simp; omega), List.getElem?_set_ne hRX, List.getElem?_set_ne (by omega)]; exact hWy
    rw [← hYY] at hY2
    rw [← hYY]
    rw [← hR3e] at hY2
    have hR3 : R3 ≠ T.length := by omega
    have hG3 := hGX.push (e := e) hxk hgw hpm ⟨ue, hue, by rw [hec]; exact goalC_step haA hst hyc⟩
    have hH3 := hhp
    have hB3 : ∀ q ∈ Q3, q.2.1 ≤ 100000 * ((L.length : Int) - neg3 (G.set y.1 y.2.1)) := fun q hq' => by
     rcases List.mem_cons.1 (hpm.mem_iff.1 hq') with rfl | hq'
     ·dsimp only; omega
     ·exact hvX q hq'
    simp only [go_sem, simprocAttr]
    refine hK2 _ _ (Y2, Q3, R3, k + 1) ⟨hY2, hG3, hH3, by simp only []; omega, by simp only []; omega, hp3, hR3, hB3⟩ (by simp only []; omega) ?_
    (try dsimp only)
    have hYl := take_len hY2.base
    exact Ghost.keep0 (by omega) ⟨⟨.refl _, .ref _ _ _ _ (by omega)⟩, ⟨.refl _, .ref _ _ _ _ (by omega)⟩, ⟨.refl _, .ref _ _ _ _ (lt_of_get hY2.hg)⟩, ⟨.refl _, .ptr _ _ (lt_of_get hY2.h2)⟩, ⟨.refl _, .ptr _ _ (lt_of_get hp3)⟩, ⟨.refl _, ids_mapE _⟩, ⟨.refl _, .int _ _⟩, ⟨by simp only [lk, Nat.reduceBEq, cond_true, cond_false]; rw [hwk]; exact .refl _, .int _ _⟩, trivial⟩ hY2.ids
   ·simp only [go_sem, simprocAttr, hWp, hWy, hgW, h2W, gge, he0, hem, c2, Int.toNat_natCast, Nat.zero_add]
    obtain ⟨Y2, hYY⟩ : ∃ Y2, Y2 = W := ⟨_, rfl⟩
    obtain ⟨Q3, hQ3⟩ : ∃ Q3, Q3 = Q2 := ⟨_, rfl⟩
    obtain ⟨R3, hR3e⟩ : ∃ R3, R3 = R2 := ⟨_, rfl⟩
    have hG3 := hGX.quiet (e := e) hxk hex (by omega)
    rw [← hQ3] at hG3 hHX hQ2 hvX
    have hY2 : DS S R3 (G.set y.1 y.2.1) Q3 Y2 := by rw [hYY, hQ3, hR3e]; exact hDW
    have hp3 := hWy
    rw [← hYY] at hp3
    rw [← hYY]
    have hH3 := hHX
    have hR3 : R3 ≠ T.length := by omega
    have hB3 := hvX
    refine hK2 _ _ (Y2, Q3, R3, k + 1) ⟨hY2, hG3, hH3, by simp only []; omega, by simp only []; omega, hp3, hR3, hB3⟩ (by simp only []; omega) ?_
    (try dsimp only)
    have hYl := take_len hY2.base
    exact Ghost.keep0 (by omega) ⟨⟨.refl _, .ref _ _ _ _ (by omega)⟩, ⟨.refl _, .ref _ _ _ _ (by omega)⟩, ⟨.refl _, .ref _ _ _ _ (lt_of_get hY2.hg)⟩, ⟨.refl _, .ptr _ _ (lt_of_get hY2.h2)⟩, ⟨.refl _, .ptr _ _ (lt_of_get hp3)⟩, ⟨.refl _, ids_mapE _⟩, ⟨.refl _, .int _ _⟩, ⟨by simp only [lk, Nat.reduceBEq, cond_true, cond_false]; rw [hwk]; exact .refl _, .int _ _⟩, trivial⟩ hY2.ids
  ·have hltk : ¬ ((k : Int) < (l.length : Int)) := by omega
   obtain rfl : k = l.length := by omega
   simp only [go_sem, simprocAttr, hltk, hE2]
   refine hK _ _ (X, Q2, R2, G.set y.1 y.2.1) ⟨hDX, GI.full hBk (Nat.le_refl _) hl1 hGX, hHX, by dsimp only; omega, hvX⟩ (by dsimp only; omega) ?_
   (try dsimp only)
   exact Ghost.keep0 (by omega) ⟨⟨.refl _, .ref _ _ _ _ (by omega)⟩, ⟨.refl _, .ref _ _ _ _ (by omega)⟩, ⟨.refl _, .ref _ _ _ _ (lt_of_get hDX.hg)⟩, ⟨.refl _, .ptr _ _ (lt_of_get hDX.h2)⟩, trivial⟩ hDX.ids
attribute [local go_sem] dr_sdist_0 e_sdist_0 dr_sdist_1 e_sdist_1
abbrev Bt := List (Option Nat × List (Nat × Int))
def cellB : Option Nat × List (Nat × Int) → AV
 | (none, _) => .slice .nil []
 | (some g, l) => .slice (.grow g) (l.map encP6)
structure BS (S : Store) (bt : Bt) (T : Store) : Prop where
 low : T.take S.length = S
 hW : T[S.length]? = some (.row (bt.map cellB))
 tk : ∀ (k : Nat) g l, bt[k]? = some (some g, l) → T[g]? = some (.grow 2 l.length)
 nil : ∀ (k : Nat) l, bt[k]? = some (none, l) → l = []
 inj : ∀ (i j : Nat) g l l', bt[i]? = some (some g, l) → bt[j]? = some (some g, l') → i = j
 gt : ∀ (k : Nat) g l, bt[k]? = some (some g, l) → S.length < g
 ids : IdsS T.length T
section
variable {S T : Store} {bt : Bt}
theorem BS.app (h : BS S bt T) (r : Store) (hi : IdsS (T ++ r).length (T ++ r)) : BS S bt (T ++ r) :=
 {h with
  low := by rw [List.take_append_of_le_length (take_len h.low)]; exact h.low
  hW := by rw [List.getElem?_append_left (lt_of_get h.hW)]; exact h.hW
  tk := fun k g l e => by have := h.tk k g l e; rw [List.getElem?_append_left (lt_of_get this)]; exact this
  ids := hi }
theorem ids_cellB {n : Nat} {bt : Bt} (h : ∀ (k : Nat) g l, bt[k]? = some (some g, l) → g < n) : IdsO n (.row (bt.map cellB)) := idsO_row fun v hv => by
 obtain ⟨⟨o, l⟩, hx, rfl⟩ := List.mem_map.1 hv
 obtain ⟨k, hk, e⟩ := List.mem_iff_getElem.1 hx
 cases o with
 | none => exact ids_nil _ (by simp)
 | some g => exact ids_growE (h k g l (by rw [List.getElem?_eq_getElem hk, e])) _
theorem BS.addNil (h : BS S bt T) {j : Nat} {l : List (Nat × Int)} (hj : bt[j]? = some (none, l)) (e : Nat × Int) : BS S (bt.set j (some T.length, [e])) ((T ++ [AObj.grow 2 1]).set S.length (AObj.row ((bt.set j (some T.length, [e])).map cellB))) := by
 have hWl := lt_of_get h.hW
 have hgl : ∀ (k : Nat) g l, bt[k]? = some (some g, l) → g < T.length := fun k g l q => lt_of_get (h.tk k g l q)
 refine { low := ?_, hW := ?_, tk := ?_, nil := ?_, inj := ?_, gt := ?_, ids := ?_ }
 ·rw [take_set_ge (Nat.le_refl _), List.take_append_of_le_length (by omega)]; exact h.low
 ·exact List.getElem?_set_self (by rw [List.length_append]; omega)
 ·intro k g l' q
  rcases get_set q with ⟨_, q⟩ | ⟨_, q⟩
  ·injection q with q1 q2; injection q1 with q1; subst q1; subst q2
   rw [List.getElem?_set_ne (by omega)]; simp
  ·have h1 := h.tk k g l' q
   have h2 := h.gt k g l' q
   rw [List.getElem?_set_ne (by omega), List.getElem?_append_left (lt_of_get h1)]; exact h1
 ·intro k l' q
  rcases get_set q with ⟨_, q⟩ | ⟨_, q⟩
  ·injection q with q1 q2; simp at q1
  ·exact h.nil k l' q
 ·intro i k g l1 l2 q1 q2
  rcases get_set q1 with ⟨e1, q1⟩ | ⟨e1, q1⟩ <;> rcases get_set q2 with ⟨e2, q2⟩ | ⟨e2, q2⟩
  ·omega
  ·injection q1 with q1 _; injection q1 with q1; subst q1
   have := hgl _ _ _ q2; omega
  ·injection q2 with q2 _; injection q2 with q2; subst q2
   have := hgl _ _ _ q1; omega
  ·exact h.inj i k g l1 l2 q1 q2
 ·intro k g l' q
  rcases get_set q with ⟨_, q⟩ | ⟨_, q⟩
  ·injection q with q1 _; injection q1 with q1; omega
  ·exact h.gt k g l' q
 ·rw [List.length_set]
  have h1 : IdsS (T ++ [AObj.grow 2 1]).length (T ++ [AObj.grow 2 1]) := idsS_push h.ids trivial
  refine idsS_put' h1 _ (ids_cellB fun k g l' q => ?_)
  rw [List.length_append, List.length_singleton]
  rcases get_set q with ⟨_, q⟩ | ⟨_, q⟩
  ·injection q with q1 _; injection q1 with q1; omega
  ·have := hgl _ _ _ q; omega
theorem BS.addGrow (h : BS S bt T) {j g : Nat} {l : List (Nat × Int)} (hj : bt[j]? = some (some g, l)) (e : Nat × Int) : BS S (bt.set j (some g, l ++ [e])) ((T.set g (AObj.grow 2 (l.length + 1))).set S.length (AObj.row ((bt.set j (some g, l ++ [e])).map cellB))) := by
 have hWl := lt_of_get h.hW
 have hg1 := h.gt j g l hj
 have hgT := lt_of_get (h.tk j g l hj)
 refine { low := ?_, hW := ?_, tk := ?_, nil := ?_, inj := ?_, gt := ?_, ids := ?_ }
 ·rw [take_set_ge (Nat.le_refl _), take_set_ge (by omega)]; exact h.low
 ·exact List.getElem?_set_self (by rw [List.length_set]; omega)
 ·intro k g' l' q
  rcases get_set q with ⟨_, q⟩ | ⟨hne, q⟩
  ·injection q with q1 q2; injection q1 with q1; subst q1; subst q2
   rw [List.getElem?_set_ne (by omega), List.getElem?_set_self hgT, List.length_append]; rfl
  ·have h1 := h.tk k g' l' q
   have h2 := h.gt k g' l' q
   have hgg : g ≠ g' := fun e => by subst e; exact hne (h.inj k j g l' l q hj).symm
   rw [List.getElem?_set_ne (by omega), List.getElem?_set_ne hgg]; exact h1
 ·intro k l' q
  rcases get_set q with ⟨_, q⟩ | ⟨_, q⟩
  ·injection q with q1 q2; simp at q1
  ·exact h.nil k l' q
 ·intro i k g' l1 l2 q1 q2
  rcases get_set q1 with ⟨e1, q1⟩ | ⟨e1, q1⟩ <;> rcases get_set q2 with ⟨e2, q2⟩ | ⟨e2, q2⟩
  ·omega
  ·injection q1 with q1 _; injection q1 with q1; subst q1
   exact absurd (h.inj k j _ l2 l q2 hj).symm e2
  ·injection q2 with q2 _; injection q2 with q2; subst q2
   exact absurd (h.inj i j _ l1 l q1 hj).symm e1
  ·exact h.inj i k g' l1 l2 q1 q2
 ·intro k g' l' q
  rcases get_set q with ⟨_, q⟩ | ⟨_, q⟩
  ·injection q with q1 _; injection q1 with q1; omega
  ·exact h.gt k g' l' q
 ·rw [List.length_set, List.length_set]
  have h1 : IdsS T.length (T.set g (.grow 2 (l.length + 1))) := idsS_put' h.ids _ trivial
  refine idsS_put' h1 _ (ids_cellB fun k g' l' q => ?_)
  rcases get_set q with ⟨_, q⟩ | ⟨_, q⟩
  ·injection q with q1 _; injection q1 with q1; omega
  ·exact lt_of_get (h.tk k g' l' q)
theorem BS.toU (h : BS S bt T) : WkL (bt.map cellB) ((bt.map (·.2)).map backU) := by
 have key : ∀ (l : Bt), (∀ x ∈ l, x.1 = none → x.2 = []) → WkL (l.map cellB) ((l.map (·.2)).map backU) := by
  intro l
  induction l with
  | nil => intro _; exact .nil
  | cons x l ih =>
   intro hx
   refine .cons ?_ (ih fun y hy => hx y (List.mem_cons_of_mem _ hy))
   obtain ⟨o, r⟩ := x
   cases o with
   | none =>
    have : r = [] := hx _ List.mem_cons_self rfl
    subst this; exact Wk.unk _ _
   | some g => exact Wk.unk _ _
 refine key bt fun x hx h0 => ?_
 obtain ⟨k, hk, e⟩ := List.mem_iff_getElem.1 hx
 obtain ⟨o, r⟩ := x
 simp only at h0
 subst h0
 exact h.nil k r (by rw [List.getElem?_eq_getElem hk, e])
end
theorem mem_len_sum : ∀ {bk : Bk} {j : Nat} {l : List (Nat × Int)}, bk[j]? = some l → l.length ≤ (bk.map List.length).sum
 | [], _, _, h => by simp at h
 | b :: bk, 0, l, h => by simp at h; subst h; simp
 | b :: bk, j + 1, l, h => by
  have := mem_len_sum (bk := bk) (j := j) (l := l) (by simpa using h)
  rw [List.map_cons, List.sum_cons]; omega
set_option maxHeartbeats 8000000 in
theorem dist_back (σ S : Store) (hσ : IdsS σ.length σ) (hS : IdsS S.length S) (hσS : S.take σ.length = σ) (hl : σ.length ≤ S.length) (nd ix bx : Nat) (t : FTask) (s : List Int) (m : List NS) (hVT : VT t) (hL : LOk t s (m.map (·.b)))
  (hnd : S[nd]? = some (.row (nR6 m))) (hix : S[ix]? = some (.map (encKM keyS (m.map (·.b))))) (hbx : S[bx]? = some (.row (encTask t))) (hT0 : S[0]? = some tabO) (hm : m.length ≤ 20000)
  (sl : Slots) (T0 : Store) (hT0' : T0.take S.length = S) (m3 : lk sl 3 = .ptr bx 0) (m9 : lk sl 9 = .ref nd 6 0 m.length) (m11 : lk sl 11 = .map ix) (RR : Cont) (hfin : RR (.tuple [.slice .fresh ((dRow m ((m.map (·.b)).map (optF t))).map encD6), .int .i64 0]) σ) :
  wpc Tryz.prog 205 σ.length r_sdist_0 (bodyK [.tmp 6, .tmp 7] σ.length 205 RR) sl T0 := by
 rw [r_sdist_0]
 simp only [go_sem, simprocAttr]
 rw [wpc_ghost]
 have hndl := lt_of_get hnd
 have hixl := lt_of_get hix
 have hbxl := lt_of_get hbx
 refine ⟨[(3, .ptr bx 0), (9, .ref nd 6 0 m.length), (11, .map ix)], S, Ghost.low hT0' hS ⟨⟨by rw [m3]; exact .refl _, .ptr _ _ hbxl⟩, ⟨by rw [m9]; exact .refl _, .ref _ _ _ _ hndl⟩, ⟨by rw [m11]; exact .refl _, .map _ hixl⟩, trivial⟩ hl, ?_⟩
 obtain ⟨L, hLq⟩ : ∃ L, L = m.map (·.b) := ⟨_, rfl⟩
 have hLl : L.length = m.length := by rw [hLq]; simp
 have hL' := hL
 rw [← hLq] at hL hix
 have hn0 : (0 : Int) ≤ (m.length : Int) := by omega
 have hbn : bigLen m.length 24 := big_ok (by omega) (by omega)
 have hrep : (List.replicate m.length [AV.slice .nil []]).flatten = (List.replicate m.length ((none : Option Nat), ([] : List (Nat × Int)))).map cellB := by rw [flat_rep, List.map_replicate]; rfl
 simp only [go_sem, simprocAttr, hn0, Int.toNat_natCast, hbn, aMkslice, hrep]
 refine ⟨Int.le_refl _, by omega, by omega, ?_⟩
 have hB0 : BS S (List.replicate m.length (none, [])) (S ++ [.row ((List.replicate m.length ((none : Option Nat), ([] : List (Nat × Int)))).map cellB)]) := by
  have hr : ∀ (k : Nat) x, (List.replicate m.length ((none : Option Nat), ([] : List (Nat × Int))))[k]? = some x → x = (none, []) := fun k x e => (List.mem_replicate.1 (List.mem_of_getElem? e)).2
  refine { low := List.take_left, hW := by simp, tk := fun k g l e => ?_, nil := fun k l e => ?_, inj := fun i j g l l' e _ => ?_, gt := fun k g l e => ?_, ids := idsS_push hS (ids_cellB fun k g l e => ?_) }
  ·have := hr k _ e; simp at this
  ·have := hr k _ e; simpa using this
  ·have := hr i _ e; simp at this
  ·have := hr k _ e; simp at this
  ·have := hr k _ e; simp at this
 refine wpc_while (α := Store × Bt × Nat) (fun z => [(3, .ptr bx 0), (9, .ref nd 6 0 m.length), (11, .map ix), (14, .ref S.length 1 0 m.length), (65, .ref nd 6 0 m.length), (66, .int .i64 m.length), (67, .int .i64 (z.2.2 : Nat))]) (fun z => z.1)
  (fun z => BS S z.2.1 z.1 ∧ BkI t L (z.2.1.map (·.2)) z.2.2 0 ∧ z.2.2 ≤ m.length) (fun z => m.length - z.2.2) (_, _, 0) ⟨hB0, by rw [List.map_replicate, ← hLl]; exact BkI.start t L, Nat.zero_le _⟩ ?_ ?_
 ·(try dsimp only)
  exact Ghost.keep0 (by simp; omega) ⟨⟨.refl _, .ptr _ _ (by simp; omega)⟩, ⟨.refl _, .ref _ _ _ _ (by simp; omega)⟩, ⟨.refl _, .map _ (by simp; omega)⟩, ⟨.refl _, .ref _ _ _ _ (by simp)⟩, ⟨.refl _, .ref _ _ _ _ (by simp; omega)⟩, ⟨.refl _, .int _ _⟩, ⟨.refl _, .int _ _⟩, trivial⟩ hB0.ids
 rintro ⟨T, bt, i⟩ ⟨hB, hBk, hi⟩ K hK hE hR
 dsimp only at hB hBk hi ⊢
 have hTl := take_len hB.low
 have hTS := lt_of_get hB.hW
 by_cases h : i < m.length
 ·obtain ⟨x, hx⟩ := get_ex h; have hlt : ((i : Int) < (m.length : Int)) := (by omega); have hw := wrapS (i := i) (by omega)
  have hndT := take_low hB.low hnd
  have hsub := nR6_sub hx
  simp only [encN6] at hsub
  have hlen : i * 6 + 6 ≤ (nR6 m).length := by rw [nR6_len]; omega
  have hi0 : (0 : Int) ≤ (i : Int) := by omega
  have hsA : setAll [AV.slice Tok.nil [], .int .i64 0, .int .i64 0, .int .i64 0, .int .i64 0, .bool false] 0 [AV.slice .fresh (x.b.map Ahl.encI), .int .i64 x.cost, .int .i64 x.len, .int .i64 x.fr, .int .i64 x.act, .bool x.cl] = encN6 x := rfl
  simp only [encN6] at hsA
  simp only [go_sem, simprocAttr, hlt, hndT, hsub, hlen, hi0, h, hsA, Int.toNat_natCast, Nat.zero_add]
  have hZi : IdsS (T ++ [AObj.row (encN6 x)]).length (T ++ [AObj.row (encN6 x)]) := idsS_push hB.ids (idsO_row (ids_encN6 _ _))
  have hBZ := hB.app _ hZi
  obtain ⟨Z, hZ⟩ : ∃ Z, Z = T ++ [AObj.row (encN6 x)] := ⟨_, rfl⟩
  have hZl : Z.length = T.length + 1 := by rw [hZ]; simp
  have hZp : Z[T.length]? = some (.row (encN6 x)) := by rw [hZ]; simp
  rw [← hZ] at hBZ hZi
  simp only [encN6] at hZ hZp
  rw [← hZ, wpc_ghost]
  refine ⟨[(3, .ptr bx 0), (9, .ref nd 6 0 m.length), (11, .map ix), (14, .ref S.length 1 0 m.length), (65, .ref nd 6 0 m.length), (66, .int .i64 m.length), (67, .int .i64 (i : Nat)), (15, .int .i64 (i : Nat)), (16, .ptr T.length 0)], Z, Ghost.keep0 (by omega) ⟨⟨.refl _, .ptr _ _ (by omega)⟩, ⟨.refl _, .ref _ _ _ _ (by omega)⟩, ⟨.refl _, .map _ (by omega)⟩, ⟨.refl _, .ref _ _ _ _ (by omega)⟩, ⟨.refl _, .ref _ _ _ _ (by omega)⟩, ⟨.refl _, .int _ _⟩, ⟨.refl _, .int _ _⟩, ⟨.refl _, .int _ _⟩, ⟨.refl _, .ptr _ _ (by omega)⟩, trivial⟩ hZi, ?_⟩
  have hub : L[i]? = some x.b := by rw [hLq, List.getElem?_map, hx]; rfl
  have hxr := (hL.rl.2 x.b).1 (List.mem_of_getElem? hub)
  obtain ⟨hul, hug, hup⟩ := st_rng hVT hxr.1
  have hbxZ := take_low hBZ.low hbx
  simp only [encTask] at hbxZ
  simp only [go_sem, simprocAttr, hbxZ, Int.toNat_natCast, Nat.zero_add]
  refine wpc_while (α := Store × Bt × Nat) (fun z => [(3, .ptr bx 0), (9, .ref nd 6 0 m.length), (11, .map ix), (14, .ref S.length 1 0 m.length), (65, .ref nd 6 0 m.length), (66, .int .i64 m.length), (67, .int .i64 (i : Nat)), (15, .int .i64 (i : Nat)), (16, .ptr T.length 0), (73, .slice .unk (t.actions.map encA)), (74, .int .i64 t.actions.length), (75, .int .i64 (z.2.2 : Nat))]) (fun z => z.1)
   (fun z => BS S z.2.1 z.1 ∧ BkI t L (z.2.1.map (·.2)) i z.2.2 ∧ z.2.2 ≤ t.actions.length ∧ z.1[T.length]? = some (.row (encN6 x))) (fun z => t.actions.length - z.2.2) (Z, bt, 0) ⟨hBZ, hBk, Nat.zero_le _, hZp⟩ ?_ ?_
  ·(try dsimp only)
   exact Ghost.keep0 (by omega) ⟨⟨.refl _, .ptr _ _ (by omega)⟩, ⟨.refl _, .ref _ _ _ _ (by omega)⟩, ⟨.refl _, .map _ (by omega)⟩, ⟨.refl _, .ref _ _ _ _ (by omega)⟩, ⟨.refl _, .ref _ _ _ _ (by omega)⟩, ⟨.refl _, .int _ _⟩, ⟨.refl _, .int _ _⟩, ⟨.refl _, .int _ _⟩, ⟨.refl _, .ptr _ _ (by omega)⟩, ⟨.refl _, ids_map ids_encA _⟩, ⟨.refl _, .int _ _⟩, ⟨.refl _, .int _ _⟩, trivial⟩ hZi
  rintro ⟨X, bX, k⟩ ⟨hBX, hBkX, hk0, hXp⟩ K2 hK2 hE2 hR2
  dsimp only at hBX hBkX hk0 hXp ⊢
  have hna := hVT.na
  have hXl := take_len hBX.low
  have hXTl := lt_of_get hXp
  by_cases hk : k < t.actions.length
  ·obtain ⟨a, hxk⟩ := get_ex hk; have hltk : ((k : Int) < (t.actions.length : Int)) := (by omega); have hwk := wrapS (i := k) (by omega)
   have ham : a ∈ t.actions := List.mem_of_getElem? hxk
   have hco : coO t k = a.cost := by unfold coO; rw [hxk]
   have hsA4 : setAll [AV.str (bys []), .int .i64 0, .slice .nil [], .slice .nil []] 0 (encA a) = encA a := rfl
   have hk00 : (0 : Int) ≤ (k : Int) := by omega
   simp only [encA] at hsA4
   simp only [go_sem, simprocAttr, hltk, hxk, hk00, encA, hsA4, Int.toNat_natCast]
   have hWi : IdsS (X ++ [AObj.row (encA a)]).length (X ++ [AObj.row (encA a)]) := idsS_push hBX.ids (idsO_row (ids_encA a))
   have hBW := hBX.app _ hWi
   obtain ⟨W, hW⟩ : ∃ W, W = X ++ [AObj.row (encA a)] := ⟨_, rfl⟩
   have hWl : W.length = X.length + 1 := by rw [hW]; simp
   have hWp : W[X.length]? = some (.row (encA a)) := by rw [hW]; simp
   have hWx : W[T.length]? = some (.row (encN6 x)) := by rw [hW, List.getElem?_append_left hXTl]; exact hXp
   rw [← hW] at hBW hWi
   simp only [encA] at hW hWp
   rw [← hW, wpc_ghost]
   refine ⟨[(3, .ptr bx 0), (9, .ref nd 6 0 m.length), (11, .map ix), (14, .ref S.length 1 0 m.length), (65, .ref nd 6 0 m.length), (66, .int .i64 m.length), (67, .int .i64 (i : Nat)), (15, .int .i64 (i : Nat)), (16, .ptr T.length 0), (73, .slice .unk (t.actions.map encA)), (74, .int .i64 t.actions.length), (75, .int .i64 (k : Nat)), (18, .ptr X.length 0)], W, Ghost.keep0 (by omega) ⟨⟨.refl _, .ptr _ _ (by omega)⟩, ⟨.refl _, .ref _ _ _ _ (by omega)⟩, ⟨.refl _, .map _ (by omega)⟩, ⟨.refl _, .ref _ _ _ _ (by omega)⟩, ⟨.refl _, .ref _ _ _ _ (by omega)⟩, ⟨.refl _, .int _ _⟩, ⟨.refl _, .int _ _⟩, ⟨.refl _, .int _ _⟩, ⟨.refl _, .ptr _ _ (by omega)⟩, ⟨.refl _, ids_map ids_encA _⟩, ⟨.refl _, .int _ _⟩, ⟨.refl _, .int _ _⟩, ⟨.refl _, .ptr _ _ (by omega)⟩, trivial⟩ hWi, ?_⟩
   simp only [encN6] at hWx
   have next : ∀ (Y : Store) (bY : Bt), BS S bY Y → BkI t L (bY.map (·.2)) i (k + 1) → Y[T.length]? = some (.row (encN6 x)) → ∀ sl, lk sl 3 = .ptr bx 0 → lk sl 9 = .ref nd 6 0 m.length → lk sl 11 = .map ix → lk sl 14 = .ref S.length 1 0 m.length → lk sl 65 = .ref nd 6 0 m.length → lk sl 66 = .int .i64 m.length → lk sl 67 = .int .i64 (i : Nat) → lk sl 15 = .int .i64 (i : Nat) → lk sl 16 = .ptr T.length 0 → lk sl 73 = .slice .unk (t.actions.map encA) → lk sl 74 = .int .i64 t.actions.length → lk sl 75 = .int .i64 ((k + 1 : Nat) : Int) → K2 .normal sl Y := by
    intro Y bY hBY hBkY hYp sl q1 q2 q3 q4 q5 q6 q7 q8 q9 q10 q11 q12
    have hYl := take_len hBY.low
    have hYT := lt_of_get hYp
    refine hK2 _ _ (Y, bY, k + 1) ⟨hBY, hBkY, by dsimp only; omega, hYp⟩ (by dsimp only; omega) ?_
    (try dsimp only)
    exact Ghost.keep0 (by omega) ⟨⟨by rw [q1]; exact .refl _, .ptr _ _ (by omega)⟩, ⟨by rw [q2]; exact .refl _, .ref _ _ _ _ (by omega)⟩, ⟨by rw [q3]; exact .refl _, .map _ (by omega)⟩, ⟨by rw [q4]; exact .refl _, .ref _ _ _ _ (lt_of_get hBY.hW)⟩, ⟨by rw [q5]; exact .refl _, .ref _ _ _ _ (by omega)⟩, ⟨by rw [q6]; exact .refl _, .int _ _⟩, ⟨by rw [q7]; exact .refl _, .int _ _⟩, ⟨by rw [q8]; exact .refl _, .int _ _⟩, ⟨by rw [q9]; exact .refl _, .ptr _ _ (by omega)⟩, ⟨by rw [q10]; exact .refl _, ids_map ids_encA _⟩, ⟨by rw [q11]; exact .refl _, .int _ _⟩, ⟨by rw [q12]; exact .refl _, .int _ _⟩, trivial⟩ hBY.ids
   simp only [go_sem, simprocAttr, hWp, hWx]
   refine (sTrue_spec x.b a.pre .fresh .unk _ (by omega) hup (by have := hVT.sb.pre a ham; omega)).is ?_
   cases hc : condHolds x.b a.pre
   ·have hs : stO t x.b k = none := by unfold stO; rw [hxk]; simp only; rw [hc]; simp
    simp only [go_sem, simprocAttr, hwk]
    exact next W bX hBW (hBkX.skip hub hs) hWx _ rfl rfl rfl rfl rfl rfl rfl rfl rfl rfl rfl rfl
   obtain ⟨u, hu⟩ : ∃ u, u = afterS x.b a.effects := ⟨_, rfl⟩
   have hs : stO t x.b k = some u := by unfold stO; rw [hxk]; simp only; rw [hc, if_pos rfl, hu]
   have huk := rchO_step hVT hxr hk hs
   obtain ⟨hvl, hvg, hvp⟩ := st_rng hVT huk.1
   have hum : u ∈ L := (hL.rl.2 u).2 huk
   have haft := fun σ => sAfter_specF x.b a .fresh σ (by omega) hup (by have := hVT.sb.effs a ham; omega) (fun e he => by have := hVT.sb.whens a ham e he; omega)
   rw [← hu] at haft
   simp only [encA] at haft
   have hixW := take_low hBW.low hix
   have hfind := findK (key := keyS) u L 0 0 (fun y hy hyk => by
    obtain ⟨_, q2, _⟩ := st_rng hVT ((hL.rl.2 y).1 hy).1
    exact keyS_inj q2 hvg hyk)
   rw [show encKF keyS 0 L = encKM keyS L from rfl, if_pos hum] at hfind
   simp only [Nat.zero_add] at hfind
   obtain ⟨j, hj⟩ : ∃ j, j = L.idxOf u := ⟨_, rfl⟩
   have hju := at_idx hum
   rw [← hj] at hfind hju
   have hjl := lt_of_get hju
   simp only [go_sem, simprocAttr, hWp, hWx]
   refine (haft _).is ?_
   simp only [go_sem, simprocAttr]
   refine (skey_spec u .fresh _ hvl hvg (take_low hBW.low hT0)).is ?_
   simp only [go_sem, simprocAttr, hixW, hfind]
   rw [wpc_ghost]
   refine ⟨[(3, .ptr bx 0), (9, .ref nd 6 0 m.length), (11, .map ix), (14, .ref S.length 1 0 m.length), (65, .ref nd 6 0 m.length), (66, .int .i64 m.length), (67, .int .i64 (i : Nat)), (15, .int .i64 (i : Nat)), (16, .ptr T.length 0), (73, .slice .unk (t.actions.map encA)), (74, .int .i64 t.actions.length), (75, .int .i64 (k : Nat)), (18, .ptr X.length 0), (19, .int .i64 (j : Nat))], W, Ghost.keep0 (by omega) ⟨⟨.refl _, .ptr _ _ (by omega)⟩, ⟨.refl _, .ref _ _ _ _ (by omega)⟩, ⟨.refl _, .map _ (by omega)⟩, ⟨.refl _, .ref _ _ _ _ (by omega)⟩, ⟨.refl _, .ref _ _ _ _ (by omega)⟩, ⟨.refl _, .int _ _⟩, ⟨.refl _, .int _ _⟩, ⟨.refl _, .int _ _⟩, ⟨.refl _, .ptr _ _ (by omega)⟩, ⟨.refl _, ids_map ids_encA _⟩, ⟨.refl _, .int _ _⟩, ⟨.refl _, .int _ _⟩, ⟨.refl _, .ptr _ _ (by omega)⟩, ⟨.refl _, .int _ _⟩, trivial⟩ hWi, ?_⟩
   have hbl : bX.length = L.length := by have := hBkX.len; rwa [List.length_map] at this
   obtain ⟨⟨o, lj⟩, hjb⟩ := get_ex (show j < bX.length by omega)
   have hjb2 : (bX.map (·.2))[j]? = some lj := by rw [List.getElem?_map, hjb]; rfl
   have hcell : (bX.map cellB)[j]? = some (cellB (o, lj)) := by rw [List.getElem?_map, hjb]; rfl
   have hWW := hBW.hW
   have hj0 : (0 : Int) ≤ ((j : Nat) : Int) := by omega
   have hjm : j < m.length := by omega
   have hjm1 : j + 1 ≤ m.length := by omega
   have hcl : (bX.map cellB).length = m.length := by rw [List.length_map]; omega
   have hadd := hBkX.add hL.rl.nd hub hk hs hju hjb2
   have hmset : ∀ v, (bX.set j v).map (·.2) = (bX.map (·.2)).set j v.2 := fun v => List.map_set
   have hcset : ∀ v, (bX.map cellB).set j (cellB v) = (bX.set j v).map cellB := fun v => List.map_set.symm
   cases o with
   | none =>
    have hlj := hBW.nil j lj hjb
    subst hlj
    have hb1 : bigLen 1 16 := big_ok (by omega) (by omega)
    have hBY := hBW.addNil hjb (i, coO t k)
    have hBkY : BkI t L ((bX.set j (some W.length, [(i, coO t k)])).map (·.2)) i (k + 1) := by rw [hmset]; exact hadd
    have hcs := hcset (some W.length, [(i, coO t k)])
    simp only [cellB] at hcell hcs
    rw [show ([(i, coO t k)] : List (Nat × Int)).map encP6 = [[AV.int .i64 ((i : Nat) : Int), .int .i64 a.cost]] by rw [hco]; rfl] at hcs
    have gW : ∀ o, (W ++ [o])[S.length]? = W[S.length]? := fun o => List.getElem?_append_left (lt_of_get hWW)
    simp only [go_sem, simprocAttr, hWp, hWW, gW, hcell, hj0, hjm, hjm1, hcl, hb1, hcs, Int.toNat_natCast, Nat.zero_add]
    refine next _ _ hBY hBkY ?_ _ rfl rfl rfl rfl rfl rfl rfl rfl rfl rfl rfl (by simp only [lk, Nat.reduceBEq, cond_true, cond_false]; rw [hwk])
    rw [List.getElem?_set_ne (by omega), List.getElem?_append_left (by omega)]; exact hWx
   | some g =>
    have htk := hBW.tk j g lj hjb
    have hgt := hBW.gt j g lj hjb
    have hljl : lj.length ≤ 1000 * 20000 + 1000 := by
     have h1 := hBkX.tot
     have h2 : t.actions.length * i ≤ 1000 * 20000 := Nat.mul_le_mul hna (by omega)
     have h3 := mem_len_sum hjb2
     omega
    have hb1 : bigLen (lj.length + 1) 16 := big_ok (by omega) (by omega)
    have hBY := hBW.addGrow hjb (i, coO t k)
    have hBkY : BkI t L ((bX.set j (some g, lj ++ [(i, coO t k)])).map (·.2)) i (k + 1) := by rw [hmset]; exact hadd
    have hcs := hcset (some g, lj ++ [(i, coO t k)])
    simp only [cellB] at hcell hcs
    rw [show (lj ++ [(i, coO t k)]).map encP6 = lj.map encP6 ++ [[AV.int .i64 ((i : Nat) : Int), .int .i64 a.cost]] by rw [List.map_append, hco]; rfl] at hcs
    have gW : ∀ o, (W.set g o)[S.length]? = W[S.length]? := fun o => List.getElem?_set_ne (by omega)
    simp only [go_sem, simprocAttr, hWp, hWW, gW, hcell, htk, hj0, hjm, hjm1, hcl, hb1, hcs, Int.toNat_natCast, Nat.zero_add]
    have hgT : g ≠ T.length := fun e => by rw [e, hWx] at htk; simp at htk
    refine next _ _ hBY hBkY ?_ _ rfl rfl rfl rfl rfl rfl rfl rfl rfl rfl rfl (by simp only [lk, Nat.reduceBEq, cond_true, cond_false]; rw [hwk])
    rw [List.getElem?_set_ne (by omega), List.getElem?_set_ne hgT]; exact hWx
  ·have hltk : ¬ ((k : Int) < (t.actions.length : Int)) := by omega
   obtain rfl : k = t.actions.length := by omega
   simp only [go_sem, simprocAttr, hltk, hE2]
   refine hK _ _ (X, bX, i + 1) ⟨hBX, hBkX.next, by dsimp only; omega⟩ (by dsimp only; omega) ?_
   (try dsimp only)
   rw [hw]
   exact Ghost.keep0 (by omega) ⟨⟨.refl _, .ptr _ _ (by omega)⟩, ⟨.refl _, .ref _ _ _ _ (by omega)⟩, ⟨.refl _, .map _ (by omega)⟩, ⟨.refl _, .ref _ _ _ _ (by omega)⟩, ⟨.refl _, .ref _ _ _ _ (by omega)⟩, ⟨.refl _, .int _ _⟩, ⟨.refl _, .int _ _⟩, trivial⟩ hBX.ids
 ·have hlt : ¬ ((i : Int) < (m.length : Int)) := by omega
  obtain rfl : i = m.length := by omega
  simp only [go_sem, simprocAttr, hlt, hE]
  obtain ⟨bk, hbk⟩ : ∃ bk, bk = bt.map (·.2) := ⟨_, rfl⟩
  rw [← hbk] at hBk
  have hwk := hB.toU
  rw [← hbk] at hwk
  have hSB : ∀ {i : Nat} {o : AObj}, S[i]? = some o → (S ++ [AObj.row (bk.map backU)])[i]? = some o := fun e => by rw [List.getElem?_append_left (lt_of_get e)]; exact e
  have hTB : (T.set S.length (.row (bk.map backU))).take (S ++ [AObj.row (bk.map backU)]).length = S ++ [AObj.row (bk.map backU)] := by
   rw [List.length_append, List.length_singleton, List.take_add_one, take_set_ge (Nat.le_refl _), hB.low, List.getElem?_set_self hTS]; rfl
  have hSBi : IdsS (S ++ [AObj.row (bk.map backU)]).length (S ++ [AObj.row (bk.map backU)]) := idsS_push hS (idsO_row fun v hv => by
   obtain ⟨z, _, rfl⟩ := List.mem_map.1 hv; exact ids_mapE _)
  refine dist_mid σ (S ++ [.row (bk.map backU)]) hσ hSBi (by rw [List.take_append_of_le_length hl]; exact hσS) (by simp; omega) nd S.length bx t s m bk hVT hL' (by rw [← hLq, hLl]; exact hBk) (hSB hnd) (by simp) (hSB hbx) hm _ T ?_ RR hfin
  refine Ghost.trans (Ghost.rewk S.length hB.hW hwk) ?_
  exact Ghost.low hTB hSBi ⟨⟨.refl _, .ptr _ _ (by simp; omega)⟩, ⟨.refl _, .ref _ _ _ _ (by simp; omega)⟩, ⟨.refl _, .ref _ _ _ _ (by simp)⟩, trivial⟩ (by simp; omega)
attribute [local go_sem] dr_sdist_0 e_sdist_0 dr_sdist_1 e_sdist_1
noncomputable def dL6 (t : FTask) (s : List Int) (L : List (List Int)) : List (List Int × Int × Int) := L.map fun u => (u, frF t s u, optF t u)
def DistR (t : FTask) (s : List Int) (most : Int) (r : AV) : Prop :=
 (fineS t s most ≠ 0 ∧ r = .tuple [.slice .nil [], .int .i64 (fineS t s most)]) ∨
 (fineS t s most = 0 ∧ ((r = .tuple [.slice .nil [], .int .i64 3] ∧ ManyS t s most) ∨ ∃ L, r = .tuple [.slice .fresh ((dL6 t s L).map encD6), .int .i64 0] ∧ RchL t s L ∧ (L.length : Int) ≤ most))
theorem dRow_eq {t : FTask} {s : List Int} {m : List NS} (h : ∀ x ∈ m, x.cost = frF t s x.b) : dRow m ((m.map (·.b)).map (optF t)) = dL6 t s (m.map (·.b)) := by
 apply List.ext_getElem?
 intro i
 unfold dL6
 rw [List.getElem?_map, List.getElem?_map]
 rcases Nat.lt_or_ge i m.length with hi | hi
 ·obtain ⟨x, hx⟩ := get_ex hi
  rw [dRow_at hx (g := optF t x.b) (by rw [List.getElem?_map, List.getElem?_map, hx]; rfl), hx, Option.map_some, Option.map_some, h x (List.mem_of_getElem? hx)]
 ·rw [List.getElem?_eq_none (by rw [dRow_len (by simp)]; exact hi), List.getElem?_eq_none hi]; rfl
set_option maxHeartbeats 4000000 in
theorem sdist_spec (t : FTask) (s : List Int) (most : Int) (tok : Tok) (σ : Store) (hT : σ[0]? = some tabO) (ht : TB t) (hl : s.length ≤ 140737488355328) :
  ACalls Tryz.prog 26 [.agg (encTask t), .slice tok (s.map Ahl.encI), .int .i64 most] σ fun r σ' => σ' = σ ∧ DistR t s most r := by
 refine ACalls.intro (rs := [(.tmp 6), (.tmp 7)]) (by kernel_rfl) { own := [(14, 2), (26, 2), (27, 0), (49, 11)], ghosts := [14, 18, 21, 23, 26, 31, 37, 42, 45], cold := [(23, 10), (49, 10)] } Tryz.func26 (c := Tryz.f26.body.getD .skip) (by kernel_rfl) (by decide) (by rw [show Tryz.f26.ntmps = 205 by kernel_rfl]; exact Nat.le_of_ble_eq_true rfl) (by kernel_rfl) ?_
 intro hσ hids
 rw [show comp Tryz.prog { own := [(14, 2), (26, 2), (27, 0), (49, 11)], ghosts := [14, 18, 21, 23, 26, 31, 37, 42, 45], cold := [(23, 10), (49, 10)] } (Tryz.f26.body.getD .skip) = c_sdist by kernel_rfl, show Tryz.f26.ntmps = 205 by kernel_rfl]
 unfold c_sdist
 have hil : Ids σ.length (.slice tok (s.map Ahl.encI)) := hids _ (by simp)
 have hf := fun σ => sfine_spec t s most tok σ ht hl
 simp only [encTask] at hf
 have hT2 : ∀ r, (σ ++ r)[0]? = some tabO := fun r => by rw [List.getElem?_append_left (lt_of_get hT)]; exact hT
 simp only [go_sem, simprocAttr, encTask]
 refine (hf _).is ?_
 by_cases h0 : fineS t s most = 0
 rotate_left
 ·have h0' : (fineS t s most != 0) = true := by simpa using h0
  simp only [go_sem, simprocAttr, h0']
  exact ret2 (.slice .nil []) (.int .i64 (fineS t s most)) List.take_left ⟨rfl, .inl ⟨h0, rfl⟩⟩
 obtain ⟨hv, hst, hm1, hm2⟩ := fineS_ok h0
 have hVT := valid_VT ht hv
 have hex := fun τ hτ => explored_spec t s most tok τ hτ hVT hst hm1 hm2
 simp only [encTask] at hex
 have h0' : (fineS t s most != 0) = false := by simpa using h0
 simp only [go_sem, simprocAttr, h0']
 refine (hex _ (hT2 _)).mono ?_
 rintro _ _ ⟨ns, ok, rfl, rfl, hr⟩
 rcases hr with ⟨rfl, hmany⟩ | ⟨rfl, hm, S0, hI⟩
 ·simp only [go_sem, simprocAttr]
  exact ret2 (.slice .nil []) (.int .i64 3) List.take_left ⟨rfl, .inr ⟨h0, .inl ⟨rfl, hmany⟩⟩⟩
 have hfew := hI.few
 have e0 : (σ ++ [AObj.row [AV.slice Tok.unk (t.facts.map encT), AV.slice Tok.unk (t.init.map Ahl.encI), AV.slice Tok.unk (t.goal.map encLit), AV.slice Tok.unk (t.actions.map encA)]]).length = σ.length + 1 := by simp
 simp only [go_sem, simprocAttr, e0]
 refine (sortNd_spec (σ.length + 1) ns (fun x hx => by have := (st_rng hVT (inv_rch hI hx).1).1; omega) (inv_nd hI) _ (by rw [List.getElem?_append_right (by omega), Nat.add_sub_cancel_left]; rfl) (by omega)).mono ?_
 rintro _ _ ⟨rfl, m, hp, hsrt, rfl⟩
 have hml : m.length = ns.length := hp.length_eq
 obtain ⟨L, hLq⟩ : ∃ L, L = m.map (·.b) := ⟨_, rfl⟩
 have hLm : ∀ u, u ∈ L ↔ RchO t s u := fun u => by
  rw [hLq, ← inv_all hI u]; exact (hp.map _).mem_iff
 have hL : LOk t s L := ⟨⟨by rw [hLq]; exact hsrt, hLm⟩, by rw [hLq, List.length_map]; omega⟩
 have hcost : ∀ x ∈ m, x.cost = frF t s x.b := fun x hx => inv_cost hVT hI (hp.mem_iff.1 hx)
 have hLl : L.length = m.length := by rw [hLq]; simp
 rw [← hml]
 have hset : (σ ++ [AObj.row [AV.slice Tok.unk (t.facts.map encT), AV.slice Tok.unk (t.init.map Ahl.encI), AV.slice Tok.unk (t.goal.map encLit), AV.slice Tok.unk (t.actions.map encA)], AObj.row (nR6 ns)]).set (σ.length + 1) (.row (nR6 m)) = σ ++ [AObj.row (encTask t), .row (nR6 m)] := by
  rw [List.set_append_right _ _ (by omega), Nat.add_sub_cancel_left]; rfl
 rw [hset]
 obtain ⟨S, hS⟩ : ∃ S, S = σ ++ [AObj.row (encTask t), AObj.row (nR6 m)] := ⟨_, rfl⟩
 have hSl : S.length = σ.length + 2 := by rw [hS]; simp
 have hSt : S.take σ.length = σ := by rw [hS]; simp
 have hrow : IdsS S.length S := by rw [hS]; exact idsS_app _ hσ (all_cons' (idsO_row (ids_encTask t)) (all_cons' (ids_nR6 _) all_nil'))
 have hSg : ∀ g, (S ++ g)[σ.length + 1]? = some (.row (nR6 m)) := fun g => by rw [hS, List.append_assoc, List.getElem?_append_right (by omega), Nat.add_sub_cancel_left]; rfl
 have hSb : ∀ g, (S ++ g)[σ.length]? = some (.row (encTask t)) := fun g => by rw [hS, List.append_assoc, List.getElem?_append_right (by omega), Nat.sub_self]; rfl
 have hS0 : ∀ g, (S ++ g)[0]? = some tabO := fun g => by rw [hS, List.append_assoc]; exact hT2 _
 have hS2 : ∀ q : List (List Int), IdsS (S ++ [AObj.map (encKM keyS q)]).length (S ++ [AObj.map (encKM keyS q)]) := fun q => idsS_push hrow (idsO_encKM _ _ _)
 rw [← hS]
 have hnd := hL.rl.nd
 simp only [go_sem, simprocAttr]
 refine wpc_while (fun (i : Nat) => [(3, .ptr σ.length 0), (9, .ref (σ.length + 1) 6 0 m.length), (11, .map S.length), (49, .ref (σ.length + 1) 6 0 m.length), (50, .int .i64 m.length), (51, .int .i64 (i : Nat))]) (fun i => S ++ [.map (encKM keyS (L.take i))]) (fun i => i ≤ m.length) (fun i => m.length - i) 0 (Nat.zero_le _) ?_ ?_
 ·(try dsimp only)
  exact ghP0 (hS2 [])
 intro i hi K hK hE hR
 by_cases h : i < m.length
 ·obtain ⟨x, hx⟩ := get_ex h; have hlt : ((i : Int) < (m.length : Int)) := (by omega); have hw := wrapS (i := i) (by omega)
  have hsub := nR6_sub hx
  simp only [encN6] at hsub
  have hlen : i * 6 + 6 ≤ (nR6 m).length := by rw [nR6_len]; omega
  have hi0 : (0 : Int) ≤ (i : Int) := by omega
  have hsA : setAll [AV.slice Tok.nil [], .int .i64 0, .int .i64 0, .int .i64 0, .int .i64 0, .bool false] 0 [AV.slice .fresh (x.b.map Ahl.encI), .int .i64 x.cost, .int .i64 x.len, .int .i64 x.fr, .int .i64 x.act, .bool x.cl] = encN6 x := rfl
  simp only [encN6] at hsA
  have hub : L[i]? = some x.b := by rw [hLq, List.getElem?_map, hx]; rfl
  obtain ⟨hul, hug, hup⟩ := st_rng hVT ((hLm x.b).1 (List.mem_of_getElem? hub)).1
  have hun : x.b ∉ L.take i := fun q => by
   obtain ⟨k, hk, e⟩ := List.mem_iff_getElem.1 q
   rw [List.length_take] at hk
   rw [List.getElem_take] at e
   have h1 := List.getElem?_eq_getElem (l := L) (i := k) (by omega)
   rw [e, ← hub] at h1
   have := (List.getElem?_inj (by omega) hnd).1 h1
   omega
  have hfind := findK (key := keyS) x.b (L.take i) 0 0 (fun y hy hyk => by
   obtain ⟨_, q2, _⟩ := st_rng hVT ((hLm y).1 (List.mem_of_mem_take hy)).1
   exact keyS_inj q2 hug hyk)
  rw [show encKF keyS 0 (L.take i) = encKM keyS (L.take i) from rfl, if_neg hun] at hfind
  have hmr : encKM keyS (L.take i) ++ [(AV.str (keyS x.b), AV.int .i64 ((i : Nat) : Int))] = encKM keyS (L.take (i + 1)) := by
   have := encKM_snoc keyS (L.take i) x.b
   rw [List.length_take_of_le (by omega), ← take_succ' hub] at this
   exact this
  simp only [go_sem, simprocAttr, hlt, hSg, hsub, hlen, hi0, h, hsA, Int.toNat_natCast, Nat.zero_add]
  refine (skey_spec x.b .fresh _ hul hug (hS0 _)).is ?_
  simp only [go_sem, simprocAttr, hfind]
  rw [hmr]
  refine hK _ _ (i + 1) (by omega) (by omega) ?_
  (try dsimp only)
  rw [hw]
  exact ghP (hS2 _)
 ·have hlt : ¬ ((i : Int) < (m.length : Int)) := by omega
  obtain rfl : i = m.length := by omega
  rw [show L.take m.length = L from List.take_of_length_le (by omega)]
  simp only [go_sem, simprocAttr, hlt, hE]
  refine dist_back σ (S ++ [.map (encKM keyS L)]) hσ (hS2 _) (by rw [List.take_append_of_le_length (by omega)]; exact hSt) (by simp; omega) (σ.length + 1) S.length σ.length t s m hVT (by rw [← hLq]; exact hL) (hSg _) (by rw [← hLq]; simp) (hSb _) (hS0 _) (by omega) [(52, .bool false), (3, .ptr σ.length 0), (9, .ref (σ.length + 1) 6 0 m.length), (11, .map S.length), (49, .ref (σ.length + 1) 6 0 m.length), (50, .int .i64 m.length), (51, .int .i64 m.length)] (S ++ [.map (encKM keyS L)]) List.take_length rfl rfl rfl (fun r σ' => σ' = σ ∧ DistR t s most r) ?_
  rw [dRow_eq hcost, ← hLq]
  exact ⟨rfl, .inr ⟨h0, .inr ⟨L, rfl, hL.rl, by omega⟩⟩⟩
def t6 : FTask := ⟨[bys [104, 101, 114, 101], bys [116, 104, 101, 114, 101]], [0], [⟨1, false⟩], [⟨bys [103, 111], 2, [⟨0, false⟩], [⟨[], ⟨0, true⟩⟩, ⟨[], ⟨1, false⟩⟩]⟩]⟩
theorem t6_TB : TB t6 := ⟨by decide, by decide, by decide, by decide, by decide, by decide, by decide, by decide, by decide⟩
theorem t6_v : validB t6 = true := by kernel_rfl
theorem t6_VT : VT t6 := valid_VT t6_TB t6_v
theorem t6_f10 : fineS t6 [0] 10 = 0 := by kernel_rfl
theorem t6_f2 : fineS t6 [0] 2 = 0 := by kernel_rfl
theorem t6_f1 : fineS t6 [0] 1 = 0 := by kernel_rfl
theorem t6_s0 : stO t6 [0] 0 = some [1] := by kernel_rfl
theorem t6_s1 : stO t6 [1] 0 = none := by kernel_rfl
theorem t6_g0 : goalT t6 [0] = false := by kernel_rfl
theorem t6_g1 : goalT t6 [1] = true := by kernel_rfl
theorem t6_ok : StOk t6 [0] := by show risingB t6.facts.length (-1) [0] = true; kernel_rfl
theorem t6_run1 {l : List Nat} {v : List Int} {c : Int} (h : RunT t6 l [1] v c) : l = [] ∧ v = [1] ∧ c = 0 := by
 cases l with
 | nil => obtain ⟨h1, h2⟩ := run_nil h; exact ⟨rfl, h1, h2⟩
 | cons a l =>
  obtain ⟨u, c', ha, hs, _⟩ := run_cons h
  have : a = 0 := by have : t6.actions.length = 1 := rfl; omega
  subst this
  rw [t6_s1] at hs; simp at hs
theorem t6_run {l : List Nat} {v : List Int} {c : Int} (h : RunT t6 l [0] v c) : (l = [] ∧ v = [0] ∧ c = 0) ∨ (l = [0] ∧ v = [1] ∧ c = 2) := by
 cases l with
 | nil => obtain ⟨h1, h2⟩ := run_nil h; exact .inl ⟨rfl, h1, h2⟩
 | cons a l =>
  obtain ⟨u, c', ha, hs, hr, hc⟩ := run_cons h
  have : a = 0 := by have : t6.actions.length = 1 := rfl; omega
  subst this
  rw [t6_s0] at hs; injection hs with hs; subst hs
  obtain ⟨rfl, rfl, rfl⟩ := t6_run1 hr
  exact .inr ⟨rfl, rfl, hc⟩
theorem t6_one : RunT t6 [0] [0] [1] 2 := by
 have h : RunT t6 [] [1] [1] 0 := rfl
 exact run_mk (by decide) t6_s0 h
theorem t6_rl : RchL t6 [0] [[0], [1]] := by
 refine ⟨?_, fun u => ?_⟩
 ·refine List.pairwise_cons.2 ⟨fun x hx => ?_, List.pairwise_cons.2 ⟨by simp, .nil⟩⟩
  simp at hx; subst hx
  exact (cmpS6_lt _ _).1 (by decide)
 ·constructor
  ·intro hu
   simp at hu
   rcases hu with rfl | rfl
   ·exact ⟨t6_ok, [], 0, rfl⟩
   ·exact ⟨stO_ok t6_VT t6_ok t6_s0, [0], 2, t6_one⟩
  ·rintro ⟨_, l, k, e⟩
   rcases t6_run e with ⟨_, rfl, _⟩ | ⟨_, rfl, _⟩ <;> simp
theorem t6_many {m : Int} (hm : 2 ≤ m) : ¬ ManyS t6 [0] m := fun h => by
 have := h.not t6_rl
 simp at this; omega
theorem t6_found {sh : Bool} {r : AV} (h : SearchR sh t6 [0] 10 r) : ∃ p : List Int, p.length = 1 ∧ r = .tuple [.agg (ansC 2 p), .int .i64 0] := by
 rcases h with ⟨h, _⟩ | ⟨_, h⟩
 ·exact absurd t6_f10 h
 ·rcases h with ⟨_, h | h⟩ | ⟨_, h⟩ | ⟨c, l, rfl, ⟨⟨v, h1, h2⟩, _⟩, _⟩
  ·exact absurd h (t6_many (by omega))
  ·exact absurd h (t6_many (by omega))
  ·have := h [0] [1] 2 t6_one; rw [show condHolds [1] t6.goal = true from t6_g1] at this; simp at this
  ·rcases t6_run h1 with ⟨rfl, rfl, rfl⟩ | ⟨rfl, rfl, rfl⟩
   ·rw [show condHolds [0] t6.goal = false from t6_g0] at h2; simp at h2
   ·exact ⟨actI [0], rfl, rfl⟩
theorem t6_reach {r : AV} (h : ReachR t6 [0] 2 r) : r = .tuple [.slice .fresh ([[0], [1]].map encLf), .int .i64 0] := by
 rcases h with ⟨h, _⟩ | ⟨_, ⟨_, h⟩ | ⟨L, rfl, hL, _⟩⟩
 ·exact absurd t6_f2 h
 ·exact absurd h (t6_many (by omega))
 ·rw [hL.uniq t6_rl]
theorem t6_reach1 {r : AV} (h : ReachR t6 [0] 1 r) : r = .tuple [.slice .nil [], .int .i64 3] := by
 rcases h with ⟨h, _⟩ | ⟨_, ⟨rfl, _⟩ | ⟨L, rfl, hL, hl⟩⟩
 ·exact absurd t6_f1 h
 ·rfl
 ·rw [hL.uniq t6_rl] at hl; simp at hl
theorem t6_dist {r : AV} (h : DistR t6 [0] 2 r) : r = .tuple [.slice .fresh ([([0], 0, 2), ([1], 2, 0)].map encD6), .int .i64 0] := by
 rcases h with ⟨h, _⟩ | ⟨_, ⟨_, h⟩ | ⟨L, rfl, hL, _⟩⟩
 ·exact absurd t6_f2 h
 ·exact absurd h (t6_many (by omega))
 ·rw [hL.uniq t6_rl]
  have e1 : frF t6 [0] [0] = 0 := frF_eq (.inr ⟨Int.le_refl _, ⟨[], rfl⟩, fun c ⟨l, e⟩ => (runD_nn (coO_ok t6_VT) e).1⟩)
  have e2 : frF t6 [0] [1] = 2 := frF_eq (.inr ⟨by omega, ⟨[0], t6_one⟩, fun c ⟨l, e⟩ => by
   rcases t6_run e with ⟨_, h, _⟩ | ⟨_, _, h⟩
   ·simp at h
   ·omega⟩)
  have e3 : optF t6 [0] = 2 := optF_some ⟨[0], [1], t6_one, t6_g1⟩ fun l w k e g => by
   rcases t6_run e with ⟨_, rfl, _⟩ | ⟨_, _, h⟩
   ·rw [t6_g0] at g; simp at g
   ·omega
  have e4 : optF t6 [1] = 0 := optF_some ⟨[], [1], rfl, t6_g1⟩ fun l w k e g => (runD_nn (coO_ok t6_VT) e).1
  unfold dL6
  simp only [List.map_cons, List.map_nil, e1, e2, e3, e4]
theorem ret_cW {nt t id n : Nat} {s : Slots} {σ S : Store} {R : Cont} {c0 cells : List AV} (h1 : lk s t = .ptr id 0) (h2 : S[id]? = some (.row c0)) (hw : WkL c0 cells) (hn : cells.length = n) (ht : (S.set id (.row cells)).take σ.length = σ) (hσ : IdsS σ.length σ)
  (iv : Ids σ.length (.agg cells)) (h : R (.agg cells) σ) : bodyK [.cell (some n) t] σ.length nt R .ret s S := by
 refine ⟨s, S.set id (.row cells), Ghost.rewk id h2 hw, ?_⟩
 simp only [aRes, h1]
 rw [e_loadN_ptr, List.getElem?_set_self (lt_of_get h2), rowK_some]
 refine ⟨by omega, ?_⟩
 rw [List.drop_zero, ← hn, List.take_length]
 refine ⟨σ.length, Nat.le_refl _, ?_⟩
 rw [ht]
 exact ⟨hσ, iv, h⟩
def c_ex06 : CCode := .seq (.ops [oS 0 (.alloc (.agg [.slice .nil [], .slice .nil [], .slice .nil [], .slice .nil []]))]) (.seq (.ops [oS 1 (.bsliceC 1 [.lit (.str (bys [104, 101, 114, 101])), .lit (.str (bys [116, 104, 101, 114, 101]))]), oS 2 (.bsliceC 1 [.lit (.int .i64 0)]), oS 3 (.build [.int .i64 0, .bool false] [(0, 1, .lit (.int .i64 1))]), oS 4 (.bsliceC 2 [.tmp 3]), oS 5 (.build [.int .i64 0, .bool false] [(0, 1, .lit (.int .i64 0))]), oS 6 (.bsliceC 2 [.tmp 5]), oS 7 (.build [.int .i64 0, .bool false] [(0, 1, .lit (.int .i64 0)), (1, 1, .lit (.bool true))]), oS 8 (.build [.slice .nil [], .int .i64 0, .bool false] [(1, 2, .tmp 7)]), oS 9 (.build [.int .i64 0, .bool false] [(0, 1, .lit (.int .i64 1))]), oS 10 (.build [.slice .nil [], .int .i64 0, .bool false] [(1, 2, .tmp 9)]), oS 11 (.bsliceC 3 [.tmp 8, .tmp 10]), oS 12 (.build [.str (bys []), .int .i64 0, .slice .nil [], .slice .nil []] [(0, 1, .lit (.str (bys [103, 111]))), (1, 1, .lit (.int .i64 2)), (2, 1, .tmp 6), (3, 1, .tmp 11)]), oS 13 (.bsliceC 4 [.tmp 12]), oS 14 (.build [.slice .nil [], .slice .nil [], .slice .nil [], .slice .nil []] [(0, 1, .tmp 1), (1, 1, .tmp 2), (2, 1, .tmp 4), (3, 1, .tmp 13)]), oN (.store 4 (.tmp 0) (.tmp 14))]) .ret)
theorem ex06_spec (σ : Store) : ACalls Tryz.prog 38 [] σ (isR (.agg (encTask t6)) σ) := by
 refine ACalls.intro (rs := [(.cell (some 4) 0)]) (by kernel_rfl) { own := [], ghosts := [], cold := [(1, 0), (1, 1), (1, 3), (1, 5), (1, 10), (1, 12)] } Tryz.func38 (c := Tryz.f38.body.getD .skip) (by kernel_rfl) (by decide) (by rw [show Tryz.f38.ntmps = 15 by kernel_rfl]; exact Nat.le_of_ble_eq_true rfl) (by kernel_rfl) ?_
 intro hσ hids
 rw [show comp Tryz.prog { own := [], ghosts := [], cold := [(1, 0), (1, 1), (1, 3), (1, 5), (1, 10), (1, 12)] } (Tryz.f38.body.getD .skip) = c_ex06 by kernel_rfl, show Tryz.f38.ntmps = 15 by kernel_rfl]
 unfold c_ex06
 simp only [go_sem, simprocAttr]
 refine ret_cW (cells := encTask t6) rfl (List.getElem?_append_right (Nat.le_refl _) |>.trans (by rw [Nat.sub_self]; rfl)) ?_ rfl (by simp) hσ (.agg _ fun j y hy => ids_encTask t6 y (List.mem_of_getElem? hy)) ⟨rfl, rfl⟩
 ·refine .cons (.refl _) (.cons (.refl _) (.cons (.refl _) (.cons (Wk.slice _ (WkLL.one (.cons (.refl _) (.cons (.refl _) (.cons (.refl _) (WkL.one (Wk.slice _ (.cons (.cons (Wk.unk _ _) (WkL.refl _)) (WkLL.one (.cons (Wk.unk _ _) (WkL.refl _)))))))))) ) .nil)))
def e_guided_0 : List COp := [oS 71 (.move (.tmp 13)), oA 72 (.nilck (.tmp 71)) [0], oA 73 (.faddr 4 (.tmp 72)) [1], oA 74 (.load none (.tmp 73)) [2], oS 75 (.faddr 0 (.tmp 14)), oA 76 (.load none (.tmp 75)) [4], oA 77 (.iaddr 6 (.tmp 74) (.tmp 76)) [3, 5], oA 78 (.load (some 6) (.tmp 77)) [6], oS 15 (.alloc (.agg [.slice .nil [], .int .i64 0, .int .i64 0, .int .i64 0, .int .i64 0, .bool false])), ⟨none, .store 6 (.tmp 15) (.tmp 78), none, [8, 7, 0, 1, 2, 3, 4, 5, 6, 7, 8]⟩]
def d_guided_0 : List COp := e_guided_0
theorem dr_guided_0 (P : Program) (nt n0 : Nat) (Q : Post) (s : Slots) (σ : Store) : wpc P nt n0 (.drawU d_guided_0 [[], [], [], [8], [], [8], [], [8], [3, 5, 7], []]) Q s σ = aOpsU P nt e_guided_0 [[], [], [], [8], [], [8], [], [8], [3, 5, 7], []] 0 [] [] (Q .normal) s σ := wpc_drawU _ _ (by decide)
def e_guided_1 : List COp := [oS 80 (.move (.tmp 13)), oA 81 (.nilck (.tmp 80)) [0], oA 82 (.faddr 7 (.tmp 81)) [1], oA 83 (.load none (.tmp 82)) [2], oS 84 (.load (some 6) (.tmp 15)), oA 85 (.call (.tmp 83) [.tmp 84]) [3, 4], oA 79 (.move (.tmp 85)) [5], oA 86 (.extract (.tmp 79) 0) [6], oA 87 (.extract (.tmp 79) 1) [6], oA 16 (.move (.tmp 86)) [7, 5, 0, 1, 2, 3, 4, 5, 6, 7], oA 17 (.move (.tmp 87)) [8, 9, 0, 1, 2, 3, 4, 5, 6, 7, 8, 9]]
def d_guided_1 : List COp := e_guided_1
theorem dr_guided_1 (P : Program) (nt n0 : Nat) (Q : Post) (s : Slots) (σ : Store) : wpc P nt n0 (.draw d_guided_1) Q s σ = aOpsD P nt e_guided_1 (Q .normal) s σ := wpc_draw _ (by decide)
def e_guided_2 : List COp := [oS 102 (.move (.tmp 13)), oA 103 (.nilck (.tmp 102)) [0], oA 104 (.faddr 4 (.tmp 103)) [1], oA 105 (.load none (.tmp 104)) [2], oS 106 (.faddr 0 (.tmp 14)), oA 107 (.load none (.tmp 106)) [4], oA 108 (.iaddr 6 (.tmp 105) (.tmp 107)) [3, 5, 0, 1, 2, 3, 4, 5], oA 109 (.faddr 5 (.tmp 108)) [6, 0, 1, 2, 3, 4, 5], ⟨none, .store 1 (.tmp 109) (.lit (.bool true)), none, [7, 0, 1, 2, 3, 4, 5]⟩]
def d_guided_2 : List COp := e_guided_2
theorem dr_guided_2 (P : Program) (nt n0 : Nat) (Q : Post) (s : Slots) (σ : Store) : wpc P nt n0 (.draw d_guided_2) Q s σ = aOpsD P nt e_guided_2 (Q .normal) s σ := wpc_draw _ (by decide)
attribute [local go_sem] dr_guided_0 e_guided_0 dr_guided_1 e_guided_1 dr_guided_2 e_guided_2
def c_guided : CCode := .seq (.ops [oS 4 (.box (.tmp 0)), oS 7 (.box (.tmp 3)), oS 8 (.alloc (.agg [.bool false, .int .i64 0, .slice .nil []])), oS 9 (.move (.lit (.int .i64 0)))]) (.seq (.seq (.ops [oS 20 (.load (some 4) (.tmp 4)), oS 21 (.move (.tmp 1)), oS 22 (.move (.tmp 2)), oS 23 (.call (.lit (.func 47 [])) [.tmp 20, .tmp 21, .tmp 22]), oS 10 (.move (.tmp 23))]) (.seq (.ops [oS 24 (.move (.tmp 10)), oS 25 (.bin .neq .none (.tmp 24) (.lit (.int .i64 0)))]) (.cond (.tmp 25) (.seq (.ops [oS 26 (.build [.bool false, .int .i64 0, .slice .nil []] []), oS 27 (.move (.tmp 10)), oN (.store 3 (.tmp 8) (.tmp 26)), oS 9 (.move (.tmp 27))]) .ret) .skip))) (.seq (.seq (.ops [oS 28 (.load none (.tmp 7)), oS 29 (.bin .eql .func (.tmp 28) (.lit (.conc Value.nilFunc)))]) (.cond (.tmp 29) (.seq (.ops [oS 30 (.build [.bool false, .int .i64 0, .slice .nil []] []), oN (.store 3 (.tmp 8) (.tmp 30)), oS 9 (.move (.lit (.int .i64 1)))]) .ret) .skip)) (.seq (.ops [oS 31 .mkmap, oS 11 (.alloc .mapnil), oN (.store 1 (.tmp 11) (.tmp 31))]) (.seq (.ops [oS 32 (.mkfunc 48 [.tmp 11, .tmp 7]), oS 12 (.alloc (.conc Value.nilFunc)), oN (.store 1 (.tmp 12) (.tmp 32))]) (.seq (.ops [oS 33 (.load (some 4) (.tmp 4)), oS 34 (.move (.tmp 2)), oS 35 (.build [.slice .nil [], .slice .nil [], .slice .nil [], .slice .nil [], .slice .nil [], .mapnil, .conc Value.nilIface, .conc Value.nilFunc, .int .i64 0] [(0, 4, .tmp 33), (8, 1, .tmp 34)]), oS 36 (.box (.tmp 35)), oS 13 (.move (.tmp 36))]) (.seq (.ops [oS 37 (.move (.tmp 13)), oS 38 (.mkfunc 51 [.tmp 12]), oS 39 (.nilck (.tmp 37)), oS 40 (.faddr 7 (.tmp 39)), oN (.store 1 (.tmp 40) (.tmp 38))]) (.seq (.ops [oS 41 (.move (.tmp 13)), oS 42 .mkmap, oS 43 (.nilck (.tmp 41)), oS 44 (.faddr 5 (.tmp 43)), oN (.store 1 (.tmp 44) (.tmp 42))]) (.seq (.ops [oS 45 (.move (.tmp 13)), oS 46 (.bslice 3 [] false), oS 47 (.box (.tmp 46)), oS 48 (.mkif 107 (.tmp 47)), oS 49 (.build [.conc Value.nilIface] [(0, 1, .tmp 48)]), oS 50 (.nilck (.tmp 45)), oS 51 (.faddr 6 (.tmp 50)), oN (.store 1 (.tmp 51) (.tmp 49))]) (.seq (.ops [oS 52 (.move (.tmp 13)), oS 53 (.move (.tmp 1)), oS 54 (.call (.lit (.func 50 [])) [.tmp 53]), oS 55 (.build [.slice .nil [], .int .i64 0, .int .i64 0, .int .i64 0, .int .i64 0, .bool false] [(0, 1, .tmp 54), (3, 1, .lit (.int .i64 (-1)))]), oS 56 (.call (.lit (.func 52 [])) [.tmp 52, .tmp 55])]) (.seq (.block 0 (.loop (.seq (.seq (.ops [oS 57 (.move (.tmp 13)), oS 58 (.nilck (.tmp 57)), oS 59 (.faddr 6 (.tmp 58)), oS 60 (.faddr 0 (.tmp 59)), oS 61 (.load none (.tmp 60)), oS 62 (.inv [(17, 186, none), (107, 189, some none), (109, 189, none)] (.tmp 61) []), oS 63 (.bin .gtr .none (.tmp 62) (.lit (.int .i64 0)))]) (.cond (.tmp 63) .skip (.exit 0))) (.block 1 (.seq (.ops [oS 64 (.move (.tmp 13)), oS 65 (.nilck (.tmp 64)), oS 66 (.faddr 6 (.tmp 65)), oS 67 (.faddr 0 (.tmp 66)), oS 68 (.load none (.tmp 67)), oS 69 (.call (.lit (.func 53 [])) [.tmp 68]), oS 70 (.asrt 113 (.agg [.int .i64 0, .int .i64 0, .int .i64 0]) (.tmp 69) false), oS 14 (.alloc (.agg [.int .i64 0, .int .i64 0, .int .i64 0])), oN (.store 3 (.tmp 14) (.tmp 70))]) (.seq (.drawU d_guided_0 [[], [], [], [8], [], [8], [], [8], [3, 5, 7], []]) (.seq (.seq (.draw d_guided_1) (.seq (.ops [oS 88 (.move (.tmp 16)), oS 89 (.faddr 1 (.tmp 14)), oS 90 (.load none (.tmp 89)), oS 91 (.bin .neq .none (.tmp 88) (.tmp 90)), oS 92 (.move (.tmp 91)), oG 93 92 false (.move (.tmp 17)), oG 94 92 false (.faddr 2 (.tmp 14)), oG 95 92 false (.load none (.tmp 94)), oG 96 92 false (.bin .neq .none (.tmp 93) (.tmp 95)), oS 97 (.pick (.tmp 92) (.lit (.bool true)) (.tmp 96)), oS 98 (.move (.tmp 97)), oG 99 98 false (.faddr 5 (.tmp 15)), oG 100 98 false (.load none (.tmp 99)), oS 101 (.pick (.tmp 98) (.lit (.bool true)) (.tmp 100))]) (.cond (.tmp 101) (.exit 1) .skip))) (.seq (.draw d_guided_2) (.seq (.seq (.ops [oS 111 (.load none (.tmp 12)), oS 112 (.faddr 0 (.tmp 15)), oS 113 (.load none (.tmp 112)), oS 114 (.call (.tmp 111) [.tmp 113]), oS 110 (.move (.tmp 114)), oS 115 (.extract (.tmp 110) 0), oS 116 (.extract (.tmp 110) 1), oS 18 (.move (.tmp 115)), oS 19 (.move (.tmp 116))]) (.seq (.ops [oS 117 (.move (.tmp 19)), oS 118 (.un .not (.tmp 117))]) (.cond (.tmp 118) (.exit 1) .skip))) (.seq (.seq (.ops [oS 119 (.faddr 0 (.tmp 15)), oS 120 (.load none (.tmp 119)), oS 121 (.faddr 2 (.tmp 4)), oS 122 (.load none (.tmp 121)), oS 123 (.call (.lit (.func 54 [])) [.tmp 120, .tmp 122])]) (.cond (.tmp 123) (.seq (.ops [oS 124 (.move (.tmp 13)), oS 125 (.faddr 0 (.tmp 14)), oS 126 (.load none (.tmp 125)), oS 127 (.call (.lit (.func 55 [])) [.tmp 124, .tmp 126]), oS 128 (.extract (.tmp 127) 0), oS 129 (.extract (.tmp 127) 1), oN (.store 3 (.tmp 8) (.tmp 128)), oS 9 (.move (.tmp 129))]) .ret) .skip)) (.seq (.ops [oS 130 (.move (.tmp 13)), oS 131 (.faddr 0 (.tmp 14)), oS 132 (.load none (.tmp 131)), oS 133 (.call (.lit (.func 56 [])) [.tmp 130, .tmp 132]), oS 134 (.un .not (.tmp 133))]) (.cond (.tmp 134) (.seq (.ops [oS 135 (.build [.bool false, .int .i64 0, .slice .nil []] []), oN (.store 3 (.tmp 8) (.tmp 135)), oS 9 (.move (.lit (.int .i64 3)))]) .ret) .skip)))))))))))) (.seq (.ops [oS 136 (.build [.bool false, .int .i64 0, .slice .nil []] []), oN (.store 3 (.tmp 8) (.tmp 136)), oS 9 (.move (.lit (.int .i64 0)))]) .ret)))))))))))
theorem guided_nil (t : FTask) (s : List Int) (most : Int) (tok : Tok) (σ : Store) (ht : TB t) (hl : s.length ≤ 140737488355328) :
  ACalls Tryz.prog 22 [.agg (encTask t), .slice tok (s.map Ahl.encI), .int .i64 most, .conc Value.nilFunc] σ (isR (.tuple [.agg zeroC, .int .i64 (if fineS t s most = 0 then 1 else fineS t s most)]) σ) := by
 refine ACalls.intro (rs := [(.cell (some 3) 8), (.tmp 9)]) (by kernel_rfl) { own := [], ghosts := [], free := [(15, [[], [], [], [8], [], [8], [], [8], [3, 5, 7], []])] } Tryz.func22 (c := Tryz.f22.body.getD .skip) (by kernel_rfl) (by decide) (by rw [show Tryz.f22.ntmps = 137 by kernel_rfl]; exact Nat.le_of_ble_eq_true rfl) (by kernel_rfl) ?_
 intro hσ hids
 rw [show comp Tryz.prog { own := [], ghosts := [], free := [(15, [[], [], [], [8], [], [8], [], [8], [3, 5, 7], []])] } (Tryz.f22.body.getD .skip) = c_guided by kernel_rfl, show Tryz.f22.ntmps = 137 by kernel_rfl]
 unfold c_guided
 have hil : Ids σ.length (.slice tok (s.map Ahl.encI)) := hids _ (by simp)
 have hf := fun σ => sfine_spec t s most tok σ ht hl
 simp only [encTask] at hf
 have hsA : setAll [AV.bool false, .int .i64 0, .slice .nil []] 0 [AV.bool false, .int .i64 0, .slice .nil []] = [AV.bool false, .int .i64 0, .slice .nil []] := rfl
 simp only [go_sem, simprocAttr, encTask]
 refine (hf _).is ?_
 by_cases h0 : fineS t s most = 0
 ·have h0' : (fineS t s most != 0) = false := by simpa using h0
  rw [if_pos h0]
  simp only [go_sem, simprocAttr, h0', hsA]
  refine ret_cN2 (x := .int .i64 1) (c0 := zeroC) (cells := zeroC) rfl ?_ (by omega) (WkL.refl _) rfl rfl ?_ hσ (ids_zeroC _) (.int _ _) ⟨rfl, rfl⟩
  ·simp [zeroC]
  ·simp
 ·have h0' : (fineS t s most != 0) = true := by simpa using h0
  rw [if_neg h0]
  simp only [go_sem, simprocAttr, h0', hsA]
  refine ret_cN2 (x := .int .i64 (fineS t s most)) (c0 := zeroC) (cells := zeroC) rfl ?_ (by omega) (WkL.refl _) rfl rfl ?_ hσ (ids_zeroC _) (.int _ _) ⟨rfl, rfl⟩
  ·simp [zeroC]
  ·simp
def c_awake06 : CCode := .seq (.ops [oS 0 (.move (.lit (.bool false)))]) (.seq (.ops [oS 14 (.call (.lit (.func 38 [])) []), oS 1 (.alloc (.agg [.slice .nil [], .slice .nil [], .slice .nil [], .slice .nil []])), oN (.store 4 (.tmp 1) (.tmp 14))]) (.seq (.ops [oS 16 (.load (some 4) (.tmp 1)), oS 17 (.faddr 1 (.tmp 1)), oS 18 (.load none (.tmp 17)), oS 19 (.call (.lit (.func 10 [])) [.tmp 16, .tmp 18, .lit (.int .i64 10)]), oS 15 (.move (.tmp 19)), oS 20 (.extract (.tmp 15) 0), oS 21 (.extract (.tmp 15) 1), oS 2 (.alloc (.agg [.bool false, .int .i64 0, .slice .nil []])), oN (.store 3 (.tmp 2) (.tmp 20)), oS 3 (.move (.tmp 21))]) (.seq (.ops [oS 23 (.load (some 4) (.tmp 1)), oS 24 (.faddr 1 (.tmp 1)), oS 25 (.load none (.tmp 24)), oS 26 (.call (.lit (.func 11 [])) [.tmp 23, .tmp 25, .lit (.int .i64 10)]), oS 22 (.move (.tmp 26)), oS 27 (.extract (.tmp 22) 0), oS 28 (.extract (.tmp 22) 1), oS 4 (.alloc (.agg [.bool false, .int .i64 0, .slice .nil []])), oN (.store 3 (.tmp 4) (.tmp 27)), oS 5 (.move (.tmp 28))]) (.seq (.ops [oS 30 (.load (some 4) (.tmp 1)), oS 31 (.faddr 1 (.tmp 1)), oS 32 (.load none (.tmp 31)), oS 33 (.call (.lit (.func 25 [])) [.tmp 30, .tmp 32, .lit (.int .i64 2)]), oS 29 (.move (.tmp 33)), oS 34 (.extract (.tmp 29) 0), oS 35 (.extract (.tmp 29) 1), oS 6 (.move (.tmp 34)), oS 7 (.move (.tmp 35))]) (.seq (.ops [oS 37 (.load (some 4) (.tmp 1)), oS 38 (.faddr 1 (.tmp 1)), oS 39 (.load none (.tmp 38)), oS 40 (.call (.lit (.func 26 [])) [.tmp 37, .tmp 39, .lit (.int .i64 2)]), oS 36 (.move (.tmp 40)), oS 41 (.extract (.tmp 36) 0), oS 42 (.extract (.tmp 36) 1), oS 8 (.move (.tmp 41)), oS 9 (.move (.tmp 42))]) (.seq (.ops [oS 44 (.load (some 4) (.tmp 1)), oS 45 (.faddr 1 (.tmp 1)), oS 46 (.load none (.tmp 45)), oS 47 (.call (.lit (.func 25 [])) [.tmp 44, .tmp 46, .lit (.int .i64 1)]), oS 43 (.move (.tmp 47)), oS 48 (.extract (.tmp 43) 0), oS 49 (.extract (.tmp 43) 1), oS 10 (.move (.tmp 48)), oS 11 (.move (.tmp 49))]) (.seq (.ops [oS 51 (.load (some 4) (.tmp 1)), oS 52 (.faddr 1 (.tmp 1)), oS 53 (.load none (.tmp 52)), oS 54 (.call (.lit (.func 22 [])) [.tmp 51, .tmp 53, .lit (.int .i64 10), .lit (.conc Value.nilFunc)]), oS 50 (.move (.tmp 54)), oS 55 (.extract (.tmp 50) 0), oS 56 (.extract (.tmp 50) 1), oS 12 (.alloc (.agg [.bool false, .int .i64 0, .slice .nil []])), oN (.store 3 (.tmp 12) (.tmp 55)), oS 13 (.move (.tmp 56))]) (.seq (.ops [oS 57 (.move (.tmp 3)), oS 58 (.bin .eql .none (.tmp 57) (.lit (.int .i64 0))), oS 59 (.move (.tmp 58)), oG 60 59 true (.faddr 0 (.tmp 2)), oG 61 59 true (.load none (.tmp 60)), oS 62 (.pick (.tmp 59) (.tmp 61) (.lit (.bool false))), oS 63 (.move (.tmp 62)), oG 64 63 true (.faddr 1 (.tmp 2)), oG 65 63 true (.load none (.tmp 64)), oG 66 63 true (.bin .eql .none (.tmp 65) (.lit (.int .i64 2))), oS 67 (.pick (.tmp 63) (.tmp 66) (.lit (.bool false))), oS 68 (.move (.tmp 67)), oG 69 68 true (.faddr 2 (.tmp 2)), oG 70 68 true (.load none (.tmp 69)), oG 71 68 true (.blen 1 (.tmp 70)), oG 72 68 true (.bin .eql .none (.tmp 71) (.lit (.int .i64 1))), oS 73 (.pick (.tmp 68) (.tmp 72) (.lit (.bool false))), oS 74 (.move (.tmp 73)), oG 75 74 true (.move (.tmp 5)), oG 76 74 true (.bin .eql .none (.tmp 75) (.lit (.int .i64 0))), oS 77 (.pick (.tmp 74) (.tmp 76) (.lit (.bool false))), oS 78 (.move (.tmp 77)), oG 79 78 true (.faddr 0 (.tmp 4)), oG 80 78 true (.load none (.tmp 79)), oS 81 (.pick (.tmp 78) (.tmp 80) (.lit (.bool false))), oS 82 (.move (.tmp 81)), oG 83 82 true (.faddr 1 (.tmp 4)), oG 84 82 true (.load none (.tmp 83)), oG 85 82 true (.bin .eql .none (.tmp 84) (.lit (.int .i64 2))), oS 86 (.pick (.tmp 82) (.tmp 85) (.lit (.bool false))), oS 87 (.move (.tmp 86)), oG 88 87 true (.move (.tmp 7)), oG 89 87 true (.bin .eql .none (.tmp 88) (.lit (.int .i64 0))), oS 90 (.pick (.tmp 87) (.tmp 89) (.lit (.bool false))), oS 91 (.move (.tmp 90)), oG 92 91 true (.move (.tmp 6)), oG 93 91 true (.blen 1 (.tmp 92)), oG 94 91 true (.bin .eql .none (.tmp 93) (.lit (.int .i64 2))), oS 95 (.pick (.tmp 91) (.tmp 94) (.lit (.bool false))), oS 96 (.move (.tmp 95)), oG 97 96 true (.move (.tmp 9)), oG 98 96 true (.bin .eql .none (.tmp 97) (.lit (.int .i64 0))), oS 99 (.pick (.tmp 96) (.tmp 98) (.lit (.bool false))), oS 100 (.move (.tmp 99)), oG 101 100 true (.move (.tmp 8)), oG 102 100 true (.blen 1 (.tmp 101)), oG 103 100 true (.bin .eql .none (.tmp 102) (.lit (.int .i64 2))), oS 104 (.pick (.tmp 100) (.tmp 103) (.lit (.bool false))), oS 105 (.move (.tmp 104)), oG 106 105 true (.move (.tmp 8)), oG 107 105 true (.iaddr 3 (.tmp 106) (.lit (.int .i64 0))), oG 108 105 true (.faddr 1 (.tmp 107)), oG 109 105 true (.load none (.tmp 108)), oG 110 105 true (.bin .eql .none (.tmp 109) (.lit (.int .i64 0))), oS 111 (.pick (.tmp 105) (.tmp 110) (.lit (.bool false))), oS 112 (.move (.tmp 111)), oG 113 112 true (.move (.tmp 8)), oG 114 112 true (.iaddr 3 (.tmp 113) (.lit (.int .i64 0))), oG 115 112 true (.faddr 2 (.tmp 114)), oG 116 112 true (.load none (.tmp 115)), oG 117 112 true (.bin .eql .none (.tmp 116) (.lit (.int .i64 2))), oS 118 (.pick (.tmp 112) (.tmp 117) (.lit (.bool false))), oS 119 (.move (.tmp 118)), oG 120 119 true (.move (.tmp 8)), oG 121 119 true (.iaddr 3 (.tmp 120) (.lit (.int .i64 1))), oG 122 119 true (.faddr 1 (.tmp 121)), oG 123 119 true (.load none (.tmp 122)), oG 124 119 true (.bin .eql .none (.tmp 123) (.lit (.int .i64 2))), oS 125 (.pick (.tmp 119) (.tmp 124) (.lit (.bool false))), oS 126 (.move (.tmp 125)), oG 127 126 true (.move (.tmp 8)), oG 128 126 true (.iaddr 3 (.tmp 127) (.lit (.int .i64 1))), oG 129 126 true (.faddr 2 (.tmp 128)), oG 130 126 true (.load none (.tmp 129)), oG 131 126 true (.bin .eql .none (.tmp 130) (.lit (.int .i64 0))), oS 132 (.pick (.tmp 126) (.tmp 131) (.lit (.bool false))), oS 133 (.move (.tmp 132)), oG 134 133 true (.move (.tmp 11)), oG 135 133 true (.bin .eql .none (.tmp 134) (.lit (.int .i64 3))), oS 136 (.pick (.tmp 133) (.tmp 135) (.lit (.bool false))), oS 137 (.move (.tmp 136)), oG 138 137 true (.move (.tmp 13)), oG 139 137 true (.bin .eql .none (.tmp 138) (.lit (.int .i64 1))), oS 140 (.pick (.tmp 137) (.tmp 139) (.lit (.bool false))), oS 0 (.move (.tmp 140))]) .ret))))))))
set_option maxHeartbeats 4000000 in
theorem awake06_spec (σ : Store) (hT : σ[0]? = some tabO) : ACalls Tryz.prog 9 [] σ (isR (.bool true) σ) := by
 refine ACalls.intro (rs := [(.tmp 0)]) (by kernel_rfl) { own := [], ghosts := [] } Tryz.func9 (c := Tryz.f9.body.getD .skip) (by kernel_rfl) (by decide) (by rw [show Tryz.f9.ntmps = 141 by kernel_rfl]; exact Nat.le_of_ble_eq_true rfl) (by kernel_rfl) ?_
 intro hσ hids
 rw [show comp Tryz.prog { own := [], ghosts := [] } (Tryz.f9.body.getD .skip) = c_awake06 by kernel_rfl, show Tryz.f9.ntmps = 141 by kernel_rfl]
 unfold c_awake06
 have hT2 : ∀ r, (σ ++ r)[0]? = some tabO := fun r => by rw [List.getElem?_append_left (lt_of_get hT)]; exact hT
 have hex := fun σ => ex06_spec σ
 simp only [encTask] at hex
 have hti : t6.init = [0] := rfl
 have hsA : ∀ b c tk es, setAll [AV.bool false, .int .i64 0, .slice .nil []] 0 [.bool b, .int .i64 c, .slice tk es] = [.bool b, .int .i64 c, .slice tk es] := fun _ _ _ _ => rfl
 have hsA4 : ∀ a b c d : AV, setAll [AV.slice .nil [], .slice .nil [], .slice .nil [], .slice .nil []] 0 [a, b, c, d] = [a, b, c, d] := fun _ _ _ _ => rfl
 have h1 := fun τ hτ => optimal_spec t6 [0] 10 .unk τ hτ t6_TB (by decide)
 have h2 := fun τ hτ => shortest_spec t6 [0] 10 .unk τ hτ t6_TB (by decide)
 have h3 := fun τ hτ => reach_spec t6 [0] 2 .unk τ hτ t6_TB (by decide)
 have h4 := fun τ hτ => sdist_spec t6 [0] 2 .unk τ hτ t6_TB (by decide)
 have h5 := fun τ hτ => reach_spec t6 [0] 1 .unk τ hτ t6_TB (by decide)
 have h6 := fun τ => guided_nil t6 [0] 10 .unk τ t6_TB (by decide)
 simp only [encTask] at h1 h2 h3 h4 h5 h6
 simp only [go_sem, simprocAttr]
 refine (hex _).is ?_
 simp only [go_sem, simprocAttr, hsA4, hti]
 refine (h1 _ (hT2 _)).mono ?_
 rintro r1 _ ⟨rfl, hr1⟩
 obtain ⟨p1, hp1, rfl⟩ := t6_found hr1
 simp only [go_sem, simprocAttr, ansC, hsA, hti]
 refine (h2 _ (hT2 _)).mono ?_
 rintro r2 _ ⟨rfl, hr2⟩
 obtain ⟨p2, hp2, rfl⟩ := t6_found hr2
 simp only [go_sem, simprocAttr, ansC, hsA, hti]
 refine (h3 _ (hT2 _)).mono ?_
 rintro r3 _ ⟨rfl, hr3⟩
 obtain rfl := t6_reach hr3
 simp only [go_sem, simprocAttr, hti]
 refine (h4 _ (hT2 _)).mono ?_
 rintro r4 _ ⟨rfl, hr4⟩
 obtain rfl := t6_dist hr4
 simp only [go_sem, simprocAttr, hti]
 refine (h5 _ (hT2 _)).mono ?_
 rintro r5 _ ⟨rfl, hr5⟩
 obtain rfl := t6_reach1 hr5
 simp only [go_sem, simprocAttr, hti]
 refine (h6 _).is ?_
 rw [if_pos t6_f10]
 have e0 : ((0 : Int) == 0) = true := rfl
 have e2 : ((2 : Int) == 2) = true := rfl
 have e3 : ((3 : Int) == 3) = true := rfl
 have e1 : ((1 : Int) == 1) = true := rfl
 have ep1 : (((p1.length : Nat) : Int) == 1) = true := by rw [hp1]; rfl
 have el2 : (((2 : Nat) : Int) == 2) = true := rfl
 simp only [go_sem, simprocAttr, zeroC, hsA, e0, e1, e2, e3, ep1, el2, encD6, encLf]
 exact rt (.bool true) ⟨rfl, rfl⟩
def Few6 (t : FTask) (s : List Int) (b : Bool) : Prop := b = true → fewT 400 t = true ∧ s.length ≤ 400 ∧ (validB t = true → StOk t s → ∃ all : List (List Int), all.Nodup ∧ all.length ≤ 600 ∧ ∀ u, u ∈ all ↔ RchO t s u)
def c_few06 : CCode := .seq (.ops [oS 2 (.box (.tmp 0)), oS 4 (.move (.lit (.bool false)))]) (.seq (.seq (.ops [oS 7 (.load (some 4) (.tmp 2)), oS 8 (.call (.lit (.func 34 [])) [.tmp 7, .lit (.int .i64 400)]), oS 9 (.un .not (.tmp 8)), oS 10 (.move (.tmp 9)), oG 11 10 false (.move (.tmp 1)), oG 12 10 false (.blen 1 (.tmp 11)), oG 13 10 false (.bin .gtr .none (.tmp 12) (.lit (.int .i64 400))), oS 14 (.pick (.tmp 10) (.lit (.bool true)) (.tmp 13))]) (.cond (.tmp 14) (.seq (.ops [oS 4 (.move (.lit (.bool false)))]) .ret) .skip)) (.seq (.seq (.ops [oS 15 (.load (some 4) (.tmp 2)), oS 16 (.call (.lit (.func 35 [])) [.tmp 15]), oS 17 (.un .not (.tmp 16)), oS 18 (.move (.tmp 17)), oG 19 18 false (.load (some 4) (.tmp 2)), oG 20 18 false (.move (.tmp 1)), oG 21 18 false (.call (.lit (.func 36 [])) [.tmp 19, .tmp 20]), oG 22 18 false (.un .not (.tmp 21)), oS 23 (.pick (.tmp 18) (.lit (.bool true)) (.tmp 22))]) (.cond (.tmp 23) (.seq (.ops [oS 4 (.move (.lit (.bool true)))]) .ret) .skip)) (.seq (.ops [oS 25 (.load (some 4) (.tmp 2)), oS 26 (.move (.tmp 1)), oS 27 (.call (.lit (.func 37 [])) [.tmp 25, .tmp 26, .lit (.int .i64 600)]), oS 24 (.move (.tmp 27)), oS 28 (.extract (.tmp 24) 0), oS 29 (.extract (.tmp 24) 1), oS 5 (.move (.tmp 28)), oS 6 (.move (.tmp 29))]) (.seq (.ops [oS 30 (.move (.tmp 6)), oS 4 (.move (.tmp 30))]) .ret))))
theorem few06_spec (t : FTask) (s : List Int) (tok : Tok) (σ : Store) (ht : TB t) (hl : s.length ≤ 140737488355328) :
  ACalls Tryz.prog 8 [.agg (encTask t), .slice tok (s.map Ahl.encI)] σ fun r σ' => σ' = σ ∧ ∃ b, r = .bool b ∧ Few6 t s b := by
 refine ACalls.intro (rs := [(.tmp 4)]) (by kernel_rfl) { own := [], ghosts := [] } Tryz.func8 (c := Tryz.f8.body.getD .skip) (by kernel_rfl) (by decide) (by rw [show Tryz.f8.ntmps = 31 by kernel_rfl]; exact Nat.le_of_ble_eq_true rfl) (by kernel_rfl) ?_
 intro hσ hids
 rw [show comp Tryz.prog { own := [], ghosts := [] } (Tryz.f8.body.getD .skip) = c_few06 by kernel_rfl, show Tryz.f8.ntmps = 31 by kernel_rfl]
 unfold c_few06
 have hil : Ids σ.length (.slice tok (s.map Ahl.encI)) := hids _ (by simp)
 have hfw := fun σ => few01_spec t 400 σ ht (by omega)
 simp only [encTask] at hfw
 simp only [go_sem, simprocAttr, encTask]
 refine (hfw _).is ?_
 cases h1 : fewT 400 t
 ·simp only [go_sem, simprocAttr]
  exact rt (.bool false) ⟨rfl, false, rfl, fun h => by simp at h⟩
 by_cases h2 : ((s.length : Int) > 400)
 ·simp only [go_sem, simprocAttr, h2]
  exact rt (.bool false) ⟨rfl, false, rfl, fun h => by simp at h⟩
 have his := fun σ => is01_spec t σ ht
 simp only [encTask] at his
 simp only [go_sem, simprocAttr, h2, encTask]
 refine (his _).is ?_
 cases hv : validB t
 ·simp only [go_sem, simprocAttr]
  exact rt (.bool true) ⟨rfl, true, rfl, fun _ => ⟨h1, by omega, fun h => by rw [hv] at h; simp at h⟩⟩
 have hst := fun σ => state02_spec t s tok σ hl
 simp only [encTask] at hst
 simp only [go_sem, simprocAttr, encTask]
 refine (hst _).is ?_
 cases hr : risingB t.facts.length (-1) s
 ·simp only [go_sem, simprocAttr]
  exact rt (.bool true) ⟨rfl, true, rfl, fun _ => ⟨h1, by omega, fun _ h => by rw [StOk, hr] at h; simp at h⟩⟩
 have hre := fun σ => reached_spec t s 600 tok σ (valid_VT ht hv) (valid_WhB hv) hr (by omega) (by omega)
 simp only [encTask] at hre
 simp only [go_sem, simprocAttr, encTask]
 refine (hre _).mono ?_
 rintro _ _ ⟨rfl, ⟨rfl, _⟩ | ⟨all, rfl, q1, q2, q3⟩⟩
 ·simp only [go_sem, simprocAttr]
  exact rt (.bool false) ⟨rfl, false, rfl, fun h => by simp at h⟩
 ·simp only [go_sem, simprocAttr]
  exact rt (.bool true) ⟨rfl, true, rfl, fun _ => ⟨h1, by omega, fun _ _ => ⟨all, q1, q2, q3⟩⟩⟩
def c_fault06 : CCode := .seq (.ops [oS 3 (.box (.tmp 0)), oS 6 (.move (.lit (.int .i64 0)))]) (.seq (.block 0 (.seq (.ops [oS 8 (.load (some 4) (.tmp 3)), oS 9 (.call (.lit (.func 35 [])) [.tmp 8]), oS 10 (.un .not (.tmp 9)), oS 7 (.move (.tmp 10))]) (.cond (.tmp 7) (.seq (.ops [oS 6 (.move (.lit (.int .i64 10)))]) .ret) (.seq (.ops [oS 12 (.load (some 4) (.tmp 3)), oS 13 (.move (.tmp 1)), oS 14 (.call (.lit (.func 36 [])) [.tmp 12, .tmp 13]), oS 15 (.un .not (.tmp 14)), oS 11 (.move (.tmp 15))]) (.cond (.tmp 11) (.seq (.ops [oS 6 (.move (.lit (.int .i64 20)))]) .ret) (.seq (.ops [oS 17 (.move (.tmp 2)), oS 18 (.bin .lss .none (.tmp 17) (.lit (.int .i64 1))), oS 19 (.move (.tmp 18)), oG 20 19 false (.move (.tmp 2)), oG 21 19 false (.bin .gtr .none (.tmp 20) (.lit (.int .i64 20000))), oS 22 (.pick (.tmp 19) (.lit (.bool true)) (.tmp 21)), oS 16 (.move (.tmp 22))]) (.cond (.tmp 16) (.seq (.ops [oS 6 (.move (.lit (.int .i64 1)))]) .ret) .skip))))))) (.seq (.ops [oS 6 (.move (.lit (.int .i64 0)))]) .ret))
theorem fault06_spec (t : FTask) (s : List Int) (n : Int) (tok : Tok) (σ : Store) (ht : TB t) (hl : s.length ≤ 140737488355328) :
  ACalls Tryz.prog 12 [.agg (encTask t), .slice tok (s.map Ahl.encI), .int .i64 n] σ (isR (.int .i64 (fineS t s n)) σ) := by
 refine ACalls.intro (rs := [(.tmp 6)]) (by kernel_rfl) { own := [], ghosts := [] } Tryz.func12 (c := Tryz.f12.body.getD .skip) (by kernel_rfl) (by decide) (by rw [show Tryz.f12.ntmps = 23 by kernel_rfl]; exact Nat.le_of_ble_eq_true rfl) (by kernel_rfl) ?_
 intro hσ hids
 rw [show comp Tryz.prog { own := [], ghosts := [] } (Tryz.f12.body.getD .skip) = c_fault06 by kernel_rfl, show Tryz.f12.ntmps = 23 by kernel_rfl]
 unfold c_fault06
 have hil : Ids σ.length (.slice tok (s.map Ahl.encI)) := hids _ (by simp)
 have his := fun σ => is01_spec t σ ht
 have hst := fun σ => state02_spec t s tok σ hl
 simp only [encTask] at his hst
 simp only [go_sem, simprocAttr, encTask]
 refine (his _).is ?_
 unfold fineS stE
 cases h1 : validB t
 ·simp only [go_sem, simprocAttr]
  exact rt (.int .i64 10) ⟨rfl, rfl⟩
 simp only [go_sem, simprocAttr, encTask]
 refine (hst _).is ?_
 cases h2 : risingB t.facts.length (-1) s
 ·simp only [go_sem, simprocAttr]
  exact rt (.int .i64 20) ⟨rfl, rfl⟩
 by_cases h3 : n < 1
 ·have hx : (n < 1 ∨ n > 20000) := .inl h3
  simp only [go_sem, simprocAttr, h3]
  exact rt (.int .i64 1) ⟨by simp [hx], rfl⟩
 ·by_cases h4 : n > 20000
  ·have hx : (n < 1 ∨ n > 20000) := .inr h4
   simp only [go_sem, simprocAttr, h3, h4]
   exact rt (.int .i64 1) ⟨by simp [hx], rfl⟩
  ·have hx : ¬ (n < 1 ∨ n > 20000) := by omega
   simp only [go_sem, simprocAttr, h3, h4]
   exact rt (.int .i64 0) ⟨by simp [hx], rfl⟩
end Go.Proofs.YtpabiedjneognaaGreatDoor
