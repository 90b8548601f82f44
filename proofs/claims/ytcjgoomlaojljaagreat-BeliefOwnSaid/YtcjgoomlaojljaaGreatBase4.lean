/- Contracts of the given program's functions, and an abstract layer over the model; no condition. -/
import Derived.Ground.SlgnProg
import Derived.Test.YtcjgoomlaojljaaGreatBase3
set_option maxRecDepth 20000
set_option linter.unusedVariables false
set_option linter.unusedSimpArgs false
namespace Go.Proofs
open Go.Shelf Go.RowKit Go.Lib Go.Sort
def YtcjgoomlaojljaaGreat.laysSI_ren : Go.Shelf.Ren := ⟨fun | 53 => 34 | 64 => 60 | 63 => 59 | 78 => 97 | 79 => 98 | 70 => 88 | 71 => 89 | 72 => 90 | 73 => 91 | 74 => 92 | 75 => 93 | 59 => 94 | 76 => 95 | 77 => 96 | 88 => 108 | 89 => 109 | 90 => 110 | 91 => 111 | 92 => 112 | 68 => 113 | 96 => 127 | n => n, fun | 22 => 23 | 23 => 3 | 3 => 3 | 51 => 109 | 0 => 0 | 67 => 144 | 69 => 146 | 4 => 4 | 61 => 137 | 60 => 136 | 44 => 54 | 5 => 5 | 9 => 9 | 75 => 154 | 79 => 158 | 83 => 166 | 84 => 167 | n => n, fun | n => n⟩
theorem YtcjgoomlaojljaaGreat.laysSI : Go.Proofs.SlLaysN.n53 Tryz.prog YtcjgoomlaojljaaGreat.laysSI_ren := {
 mixed := by kernel_rfl
 f53 := ⟨Tryz.f34.name, by decide, Tryz.func34.trans (congrArg some (by kernel_rfl))⟩
 f59 := ⟨Tryz.f94.name, by decide, Tryz.func94.trans (congrArg some (by kernel_rfl))⟩
 f63 := ⟨Tryz.f59.name, by decide, Tryz.func59.trans (congrArg some (by kernel_rfl))⟩
 f64 := Tryz.func60.trans (congrArg some (by kernel_rfl))
 f68 := ⟨Tryz.f113.name, by decide, Tryz.func113.trans (congrArg some (by kernel_rfl))⟩
 f70 := ⟨Tryz.f88.name, by decide, Tryz.func88.trans (congrArg some (by kernel_rfl))⟩
 f71 := ⟨Tryz.f89.name, by decide, Tryz.func89.trans (congrArg some (by kernel_rfl))⟩
 f72 := ⟨Tryz.f90.name, by decide, Tryz.func90.trans (congrArg some (by kernel_rfl))⟩
 f73 := ⟨Tryz.f91.name, by decide, Tryz.func91.trans (congrArg some (by kernel_rfl))⟩
 f74 := ⟨Tryz.f92.name, by decide, Tryz.func92.trans (congrArg some (by kernel_rfl))⟩
 f75 := ⟨Tryz.f93.name, by decide, Tryz.func93.trans (congrArg some (by kernel_rfl))⟩
 f76 := ⟨Tryz.f95.name, by decide, Tryz.func95.trans (congrArg some (by kernel_rfl))⟩
 f77 := ⟨Tryz.f96.name, by decide, Tryz.func96.trans (congrArg some (by kernel_rfl))⟩
 f78 := Tryz.func97.trans (congrArg some (by kernel_rfl))
 f79 := Tryz.func98.trans (congrArg some (by kernel_rfl))
 f88 := ⟨Tryz.f108.name, by decide, Tryz.func108.trans (congrArg some (by kernel_rfl))⟩
 f89 := Tryz.func109.trans (congrArg some (by kernel_rfl))
 f90 := Tryz.func110.trans (congrArg some (by kernel_rfl))
 f91 := ⟨Tryz.f111.name, by decide, Tryz.func111.trans (congrArg some (by kernel_rfl))⟩
 f92 := ⟨Tryz.f112.name, by decide, Tryz.func112.trans (congrArg some (by kernel_rfl))⟩
 f96 := ⟨Tryz.f127.name, by decide, Tryz.func127.trans (congrArg some (by kernel_rfl))⟩
 t0 := Tryz.underlying0
 a0 := Tryz.isAgg0
 z0 := Tryz.sizeOf0
 v0 := Tryz.zeroValue0
 t3 := Tryz.underlying3
 a3 := Tryz.isAgg3
 z3 := Tryz.sizeOf3
 v3 := Tryz.zeroValue3
 t4 := Tryz.underlying4
 a4 := Tryz.isAgg4
 z4 := Tryz.sizeOf4
 v4 := Tryz.zeroValue4
 t5 := Tryz.underlying5
 a5 := Tryz.isAgg5
 z5 := Tryz.sizeOf5
 v5 := Tryz.zeroValue5
 t9 := Tryz.underlying9
 a9 := Tryz.isAgg9
 z9 := Tryz.sizeOf9
 v9 := Tryz.zeroValue9
 t22 := Tryz.underlying23
 a22 := Tryz.isAgg23
 z22 := Tryz.sizeOf23
 v22 := Tryz.zeroValue23
 t23 := Tryz.underlying3
 a23 := Tryz.isAgg3
 z23 := Tryz.sizeOf3
 v23 := Tryz.zeroValue3
 t44 := Tryz.underlying54
 a44 := Tryz.isAgg54
 z44 := Tryz.sizeOf54
 v44 := Tryz.zeroValue54
 t51 := Tryz.underlying109
 a51 := Tryz.isAgg109
 z51 := Tryz.sizeOf109
 v51 := Tryz.zeroValue109
 t60 := Tryz.underlying136
 a60 := Tryz.isAgg136
 z60 := Tryz.sizeOf136
 v60 := Tryz.zeroValue136
 t61 := Tryz.underlying137
 a61 := Tryz.isAgg137
 z61 := Tryz.sizeOf137
 v61 := Tryz.zeroValue137
 t67 := Tryz.underlying144
 a67 := Tryz.isAgg144
 z67 := Tryz.sizeOf144
 v67 := Tryz.zeroValue144
 t69 := Tryz.underlying146
 a69 := Tryz.isAgg146
 z69 := Tryz.sizeOf146
 v69 := Tryz.zeroValue146
 t75 := Tryz.underlying154
 a75 := Tryz.isAgg154
 z75 := Tryz.sizeOf154
 v75 := Tryz.zeroValue154
 t79 := Tryz.underlying158
 a79 := Tryz.isAgg158
 z79 := Tryz.sizeOf158
 v79 := Tryz.zeroValue158
 t83 := Tryz.underlying166
 a83 := Tryz.isAgg166
 z83 := Tryz.sizeOf166
 v83 := Tryz.zeroValue166
 t84 := Tryz.underlying167
 a84 := Tryz.isAgg167
 z84 := Tryz.sizeOf167
 v84 := Tryz.zeroValue167 }
end Go.Proofs
namespace Go.Proofs.YtcjgoomlaojljaaGreat
open Go.Ahl
theorem sortI_spec (id : Nat) (l : List Int) (σ : Store) (hσ : σ[id]? = some (.row (l.map ai))) (hlen : l.length < 4611686018427387904) :
  ACalls Tryz.prog 34 [.ref id 1 0 l.length] σ fun r σ' => r = .tuple [] ∧ σ' = σ.set id (.row ((Ahl.sortI l).map ai)) :=
 sortInts laysSI (fn := Tryz.f34) Tryz.func34 (by kernel_rfl) (by decide) id l σ hσ hlen
def addOf (s : List Int) (es : List FEff) : List Int := es.foldl (fun l e => if condHolds s e.when_ && !e.lit.neg then insI l e.lit.fact else l) []
def dropOf (s : List Int) (es : List FEff) : List Int := es.foldl (fun l e => if condHolds s e.when_ && e.lit.neg then insI l e.lit.fact else l) []
theorem addOf_app (s : List Int) (es : List FEff) (e : FEff) : addOf s (es ++ [e]) = if condHolds s e.when_ && !e.lit.neg then insI (addOf s es) e.lit.fact else addOf s es := by unfold addOf; rw [List.foldl_append]; rfl
theorem dropOf_app (s : List Int) (es : List FEff) (e : FEff) : dropOf s (es ++ [e]) = if condHolds s e.when_ && e.lit.neg then insI (dropOf s es) e.lit.fact else dropOf s es := by unfold dropOf; rw [List.foldl_append]; rfl
def stayS (s : List Int) (es : List FEff) (x : Int) : Bool := !((dropOf s es).contains x) || (addOf s es).contains x
def afterS (s : List Int) (es : List FEff) : List Int := Ahl.sortI (s.filter (stayS s es) ++ (addOf s es).filter fun x => !(s.contains x))
theorem addOf_len (s : List Int) : ∀ es : List FEff, (addOf s es).length ≤ es.length := by
 intro es
 suffices h : ∀ (es : List FEff) (l : List Int), (es.foldl (fun l e => if condHolds s e.when_ && !e.lit.neg then insI l e.lit.fact else l) l).length ≤ l.length + es.length by
  have := h es []; simpa [addOf] using this
 intro es
 induction es with
 | nil => intro l; simp
 | cons e es ih =>
  intro l
  rw [List.foldl_cons]
  refine Nat.le_trans (ih _) ?_
  split
  ·unfold insI; split
   ·simp
   ·simp only [List.length_append, List.length_cons, List.length_nil]; omega
  ·simp
theorem map_ai (l : List Int) : (l.map Ahl.encI).flatten = l.map ai := by
 induction l with
 | nil => rfl
 | cons x l ih => rw [List.map_cons, List.flatten_cons, ih]; rfl
def c_sAfter : CCode := .seq (.ops [oS 3 (.box (.tmp 1)), oS 4 (.move (.lit (.slice .nil [])))]) (.seq (.ops [oS 13 .mkmap, oS 14 .mkmap, oS 5 (.move (.tmp 13)), oS 6 (.move (.tmp 14))]) (.seq (.seq (.ops [oS 15 (.faddr 3 (.tmp 3)), oS 16 (.load none (.tmp 15)), oS 17 (.blen 1 (.tmp 16)), oS 18 (.move (.lit (.int .i64 0)))]) (.block 0 (.loop (.seq (.ops [oS 19 (.bin .lss .none (.tmp 18) (.tmp 17))]) (.seq (.cond (.tmp 19) .skip (.exit 0)) (.seq (.block 1 (.seq (.ops [oS 20 (.iaddr 3 (.tmp 16) (.tmp 18)), oS 21 (.load (some 3) (.tmp 20)), oS 8 (.alloc (.agg [.slice .nil [], .int .i64 0, .bool false])), oN (.store 3 (.tmp 8) (.tmp 21))]) (.seq (.ops [oS 22 (.move (.tmp 0)), oS 23 (.faddr 0 (.tmp 8)), oS 24 (.load none (.tmp 23)), oS 25 (.call (.lit (.func 38 [])) [.tmp 22, .tmp 24])]) (.cond (.tmp 25) (.seq (.ops [oS 26 (.faddr 1 (.tmp 8)), oS 27 (.faddr 1 (.tmp 26)), oS 28 (.load none (.tmp 27))]) (.cond (.tmp 28) (.ops [oS 29 (.move (.tmp 6)), oS 30 (.faddr 1 (.tmp 8)), oS 31 (.faddr 0 (.tmp 30)), oS 32 (.load none (.tmp 31)), oN (.mapup false (.tmp 29) (.tmp 32) (.lit (.bool true)))]) (.ops [oS 33 (.move (.tmp 5)), oS 34 (.faddr 1 (.tmp 8)), oS 35 (.faddr 0 (.tmp 34)), oS 36 (.load none (.tmp 35)), oN (.mapup false (.tmp 33) (.tmp 36) (.lit (.bool true)))]))) .skip)))) (.ops [oS 37 (.bin .add .none (.tmp 18) (.lit (.int .i64 1))), oS 18 (.move (.tmp 37))]))))))) (.seq (.ops [oS 9 (.move (.lit (.slice .nil [])))]) (.seq (.seq (.ops [oS 38 (.move (.tmp 0)), oS 39 (.blen 1 (.tmp 38)), oS 40 (.move (.lit (.int .i64 0)))]) (.block 2 (.loop (.seq (.ops [oS 41 (.bin .lss .none (.tmp 40) (.tmp 39))]) (.seq (.cond (.tmp 41) .skip (.exit 2)) (.seq (.block 3 (.seq (.ops [oS 42 (.iaddr 1 (.tmp 38) (.tmp 40)), oS 43 (.load none (.tmp 42)), oS 11 (.move (.tmp 43))]) (.seq (.ops [oS 44 (.move (.tmp 6)), oS 45 (.move (.tmp 11)), oS 46 (.lookup false (.bool false) (.tmp 44) (.tmp 45) false), oS 47 (.un .not (.tmp 46)), oS 48 (.move (.tmp 47)), oG 49 48 false (.move (.tmp 5)), oG 50 48 false (.move (.tmp 11)), oG 51 48 false (.lookup false (.bool false) (.tmp 49) (.tmp 50) false), oS 52 (.pick (.tmp 48) (.lit (.bool true)) (.tmp 51))]) (.cond (.tmp 52) (.ops [oS 53 (.move (.tmp 9)), oS 54 (.move (.tmp 11)), oS 55 (.bslice 1 [.tmp 54] false), oS 56 (.bappend 1 8 (.tmp 53) (.tmp 55) false), oS 9 (.move (.tmp 56))]) .skip)))) (.ops [oS 57 (.bin .add .none (.tmp 40) (.lit (.int .i64 1))), oS 40 (.move (.tmp 57))]))))))) (.seq (.seq (.ops [oS 58 (.move (.tmp 5)), oS 59 (.rng (.tmp 58))]) (.block 4 (.loop (.seq (.ops [oS 60 (.nxt (.tmp 59)), oS 61 (.extract (.tmp 60) 0)]) (.seq (.cond (.tmp 61) .skip (.exit 4)) (.block 5 (.seq (.ops [oS 62 (.ent (.tmp 59)), oS 63 (.extract (.tmp 62) 0), oS 12 (.move (.tmp 63))]) (.seq (.ops [oS 64 (.move (.tmp 0)), oS 65 (.move (.tmp 12)), oS 66 (.call (.lit (.func 71 [])) [.tmp 64, .tmp 65]), oS 67 (.un .not (.tmp 66))]) (.cond (.tmp 67) (.ops [oS 68 (.move (.tmp 9)), oS 69 (.move (.tmp 12)), oS 70 (.bslice 1 [.tmp 69] false), oS 71 (.bappend 1 8 (.tmp 68) (.tmp 70) false), oS 9 (.move (.tmp 71))]) .skip))))))))) (.seq (.ops [oS 72 (.move (.tmp 9)), oS 73 (.call (.lit (.func 34 [])) [.tmp 72])]) (.seq (.ops [oS 74 (.move (.tmp 9)), oS 4 (.move (.tmp 74))]) .ret)))))))
set_option maxHeartbeats 2000000 in
theorem sAfter_specF (s : List Int) (a : FAct) (tok : Tok) (σ : Store) (hl : s.length ≤ 1000000) (hs : s.Pairwise (· < ·)) (he : a.effects.length ≤ 1000000) (hwh : ∀ e ∈ a.effects, e.when_.length ≤ 140737488355328) :
  ACalls Tryz.prog 78 [.slice tok (s.map Ahl.encI), .agg (encA a)] σ (isR (.slice .fresh ((afterS s a.effects).map Ahl.encI)) σ) := by
 refine ACalls.intro (rs := [(.tmp 4)]) (by kernel_rfl) { own := [], ghosts := [] } Tryz.func78 (c := Tryz.f78.body.getD .skip) (by kernel_rfl) (by decide) (by rw [show Tryz.f78.ntmps = 75 by kernel_rfl]; exact Nat.le_of_ble_eq_true rfl) (by kernel_rfl) ?_
 intro hσ hids
 rw [show comp Tryz.prog { own := [], ghosts := [] } (Tryz.f78.body.getD .skip) = c_sAfter by kernel_rfl, show Tryz.f78.ntmps = 75 by kernel_rfl]
 unfold c_sAfter
 have hil : Ids σ.length (.slice tok (s.map Ahl.encI)) := hids _ (by simp)
 have hS1 : ∀ x y, IdsS (σ ++ [AObj.row (encA a), .map (encSI x), .map (encSI y)]).length (σ ++ [AObj.row (encA a), .map (encSI x), .map (encSI y)]) := fun x y => idsS_app _ hσ (all_cons' (idsO_row (ids_encA a)) (all_cons' (ids_encSI _) (all_cons' (ids_encSI _) all_nil')))
 simp only [go_sem, simprocAttr, encA]
 refine wpc_while (fun i => [(0, .slice tok (s.map Ahl.encI)), (5, .map (σ.length + 1)), (6, .map (σ.length + 2)), (16, .slice .unk (a.effects.map encE)), (17, .int .i64 a.effects.length), (18, .int .i64 (i : Nat))])
  (fun i => σ ++ [.row (encA a), .map (encSI (addOf s (a.effects.take i))), .map (encSI (dropOf s (a.effects.take i)))])
  (fun i => i ≤ a.effects.length) (fun i => a.effects.length - i) 0 (Nat.zero_le _) (by (try dsimp only); first | exact ghL (hS1 [] []) | exact ghL0 (hS1 [] [])) ?_
 rintro i hi K hK hE hR
 by_cases h : i < a.effects.length
 ·obtain ⟨y, hx⟩ := get_ex h; have hlt : ((i : Int) < (a.effects.length : Int)) := (by omega); have hw := wrapS (i := i) (by omega)
  simp only [go_sem, simprocAttr, hlt, hx, encE]
  refine (sTrue_spec s y.when_ tok .unk _ (by omega) hs (hwh y (List.mem_of_getElem? hx))).is ?_
  cases h1 : condHolds s y.when_
  ·simp only [go_sem, simprocAttr]
   have e1 : addOf s (a.effects.take (i + 1)) = addOf s (a.effects.take i) := by rw [take_succ' hx, addOf_app, h1]; rfl
   have e2 : dropOf s (a.effects.take (i + 1)) = dropOf s (a.effects.take i) := by rw [take_succ' hx, dropOf_app, h1]; rfl
   rw [← e1, ← e2]
   refine hK _ _ (i + 1) (by omega) om ?_; (try dsimp only); (try simp only [ hw]); first | exact ghL (hS1 _ _) | exact ghL0 (hS1 _ _)
  ·have h1t := h1
   cases hn : y.lit.neg
   ·have e2 : dropOf s (a.effects.take (i + 1)) = dropOf s (a.effects.take i) := by rw [take_succ' hx, dropOf_app, h1, hn]; rfl
    rw [← e2]
    cases hc : (addOf s (a.effects.take i)).contains y.lit.fact
    ·have hj := findI_out _ _ 0 hc
     have e1 : addOf s (a.effects.take (i + 1)) = addOf s (a.effects.take i) ++ [y.lit.fact] := by rw [take_succ' hx, addOf_app, h1, hn]; simp only [Bool.not_false, Bool.and_self, if_true, insI, hc, Bool.false_eq_true, if_false]
     simp only [go_sem, simprocAttr, encE, hn, hj, encSI_app, ← e1]
     refine hK _ _ (i + 1) (by omega) om ?_; (try dsimp only); (try simp only [ hw]); first | exact ghL (hS1 _ _) | exact ghL0 (hS1 _ _)
    ·obtain ⟨j, hj, hjx⟩ := findI_in _ _ 0 hc
     have e1 : addOf s (a.effects.take (i + 1)) = addOf s (a.effects.take i) := by rw [take_succ' hx, addOf_app, h1, hn]; simp only [Bool.not_false, Bool.and_self, if_true, insI, hc]
     simp only [go_sem, simprocAttr, encE, hn, hj, Nat.zero_add, encSI_set hjx]
     rw [← e1]
     refine hK _ _ (i + 1) (by omega) om ?_; (try dsimp only); (try simp only [ hw]); first | exact ghL (hS1 _ _) | exact ghL0 (hS1 _ _)
   ·have e1 : addOf s (a.effects.take (i + 1)) = addOf s (a.effects.take i) := by rw [take_succ' hx, addOf_app, h1, hn]; rfl
    rw [← e1]
    cases hc : (dropOf s (a.effects.take i)).contains y.lit.fact
    ·have hj := findI_out _ _ 0 hc
     have e2 : dropOf s (a.effects.take (i + 1)) = dropOf s (a.effects.take i) ++ [y.lit.fact] := by rw [take_succ' hx, dropOf_app, h1, hn]; simp only [Bool.and_self, if_true, insI, hc, Bool.false_eq_true, if_false]
     simp only [go_sem, simprocAttr, encE, hn, hj, encSI_app, ← e2]
     refine hK _ _ (i + 1) (by omega) om ?_; (try dsimp only); (try simp only [ hw]); first | exact ghL (hS1 _ _) | exact ghL0 (hS1 _ _)
    ·obtain ⟨j, hj, hjx⟩ := findI_in _ _ 0 hc
     have e2 : dropOf s (a.effects.take (i + 1)) = dropOf s (a.effects.take i) := by rw [take_succ' hx, dropOf_app, h1, hn]; simp only [Bool.and_self, if_true, insI, hc]
     simp only [go_sem, simprocAttr, encE, hn, hj, Nat.zero_add, encSI_set hjx]
     rw [← e2]
     refine hK _ _ (i + 1) (by omega) om ?_; (try dsimp only); (try simp only [ hw]); first | exact ghL (hS1 _ _) | exact ghL0 (hS1 _ _)
 ·have hlt : ¬ ((i : Int) < (a.effects.length : Int)) := by omega
  rw [List.take_of_length_le (by omega : a.effects.length ≤ i)]
  simp only [go_sem, simprocAttr, hlt, hE]
  clear hK hE hR
  obtain ⟨S, hS⟩ : ∃ S, S = σ ++ [.row (encA a), .map (encSI (addOf s a.effects)), .map (encSI (dropOf s a.effects))] := ⟨_, rfl⟩
  have hSs : IdsS S.length S := by rw [hS]; exact hS1 _ _
  have hA : ∀ t, (S ++ t)[σ.length + 1]? = some (.map (encSI (addOf s a.effects))) := fun t => by rw [hS, List.append_assoc, List.getElem?_append_right (by omega), Nat.add_sub_cancel_left]; rfl
  have hD : ∀ t, (S ++ t)[σ.length + 2]? = some (.map (encSI (dropOf s a.effects))) := fun t => by rw [hS, List.append_assoc, List.getElem?_append_right (by omega), Nat.add_sub_cancel_left]; rfl
  have hSl : S.length = σ.length + 3 := by rw [hS]; simp
  have htk : S.take σ.length = σ := by rw [hS]; simp
  rw [← hS]
  have hS2 : ∀ w : List Int, IdsS (S ++ [AObj.row (w.map ai)]).length (S ++ [AObj.row (w.map ai)]) := fun w => idsS_push hSs (ids_ai w)
  refine wpc_while (fun i => [(0, .slice tok (s.map Ahl.encI)), (5, .map (σ.length + 1)), (6, .map (σ.length + 2)), (9, .ref S.length 1 0 ((s.take i).filter (stayS s a.effects)).length), (38, .slice tok (s.map Ahl.encI)), (39, .int .i64 s.length), (40, .int .i64 (i : Nat))])
   (fun i => S ++ [.row (((s.take i).filter (stayS s a.effects)).map ai)]) (fun i => i ≤ s.length) (fun i => s.length - i) 0 (Nat.zero_le _) (by
    refine Ghost.trans (Ghost.row0 9 1 0 (.inl rfl)) ?_
    exact ghP0 (hS2 [])) ?_
  rintro i hi K hK hE hR
  by_cases h : i < s.length
  ·obtain ⟨x, hx⟩ := get_ex h; have hlt : ((i : Int) < (s.length : Int)) := (by omega); have hw := wrapS (i := i) (by omega)
   have hst : stayS s a.effects x = (!((dropOf s a.effects).contains x) || (addOf s a.effects).contains x) := rfl
   have hle : ((s.take i).filter (stayS s a.effects)).length ≤ i := Nat.le_trans (List.length_filter_le _ _) (by simp; omega)
   have hbig : bigLen (((s.take i).filter (stayS s a.effects)).length + 1) 8 := big_ok (by omega) (by omega)
   have e0 : stayS s a.effects x = false → (s.take (i + 1)).filter (stayS s a.effects) = (s.take i).filter (stayS s a.effects) := fun q => by rw [take_succ' hx, List.filter_append, List.filter_cons, q]; simp
   have e1 : stayS s a.effects x = true → (s.take (i + 1)).filter (stayS s a.effects) = (s.take i).filter (stayS s a.effects) ++ [x] := fun q => by rw [take_succ' hx, List.filter_append, List.filter_cons, q]; simp
   cases hd : (dropOf s a.effects).contains x
   ·have hj := findI_out _ _ 0 hd
    have e1 := e1 (by rw [hst, hd]; rfl)
    simp only [go_sem, simprocAttr, hlt, hx, Ahl.encI, hD, hj, hbig]
    have hf : ((s.take i).filter (stayS s a.effects)).map ai ++ [[AV.int .i64 x]].flatten = ((s.take (i + 1)).filter (stayS s a.effects)).map ai := by rw [e1, List.map_append]; rfl
    have hn : ((s.take i).filter (stayS s a.effects)).length + 1 = ((s.take (i + 1)).filter (stayS s a.effects)).length := by rw [e1]; simp
    rw [hf, hn, hw]
    refine hK _ _ (i + 1) (by omega) (by omega) ?_
    (try dsimp only)
    exact ghPM 2 (hio := ids_ai _)
   ·obtain ⟨j, hj, _⟩ := findI_in _ _ 0 hd
    cases hc : (addOf s a.effects).contains x
    ·have hk := findI_out _ _ 0 hc
     have e0 := e0 (by rw [hst, hd, hc]; rfl)
     simp only [go_sem, simprocAttr, hlt, hx, Ahl.encI, hD, hj, hA, hk]
     refine hK _ _ (i + 1) (by omega) (by omega) ?_
     (try dsimp only)
     rw [hw, e0]
     exact ghP0 (hS2 _)
    ·obtain ⟨k, hk, _⟩ := findI_in _ _ 0 hc
     have e1 := e1 (by rw [hst, hd, hc]; rfl)
     simp only [go_sem, simprocAttr, hlt, hx, Ahl.encI, hD, hj, hA, hk, hbig]
     have hf : ((s.take i).filter (stayS s a.effects)).map ai ++ [[AV.int .i64 x]].flatten = ((s.take (i + 1)).filter (stayS s a.effects)).map ai := by rw [e1, List.map_append]; rfl
     have hn : ((s.take i).filter (stayS s a.effects)).length + 1 = ((s.take (i + 1)).filter (stayS s a.effects)).length := by rw [e1]; simp
     rw [hf, hn, hw]
     refine hK _ _ (i + 1) (by omega) (by omega) ?_
     (try dsimp only)
     exact ghPM 2 (hio := ids_ai _)
  ·have hlt : ¬ ((i : Int) < (s.length : Int)) := by omega
   rw [List.take_of_length_le (by omega : s.length ≤ i)]
   have hset : ∀ t, (S ++ t).set (σ.length + 1) .dead = S.set (σ.length + 1) .dead ++ t := fun t => List.set_append_left _ _ (by omega)
   simp only [go_sem, simprocAttr, hlt, hE, hA, hset]
   clear hK hE hR
   obtain ⟨S', hS'⟩ : ∃ S', S' = S.set (σ.length + 1) .dead := ⟨_, rfl⟩
   have hl' : S'.length = S.length := by rw [hS', List.length_set]
   have htk' : S'.take σ.length = σ := by rw [hS', List.take_set_of_le (by omega), htk]
   have hSs' : IdsS S'.length S' := by rw [hl', hS']; exact idsS_dead hSs _
   rw [← hS']
   clear hset hS' hA hD hS2
   obtain ⟨A, hAe⟩ : ∃ A, A = addOf s a.effects := ⟨_, rfl⟩
   have hAl : A.length ≤ 1000000 := by rw [hAe]; exact Nat.le_trans (addOf_len s _) he
   rw [← hAe]
   obtain ⟨T, hT⟩ : ∃ T : List Nat → Store, ∀ l, T l = S' ++ [.dead, .iter (encSI A) l] := ⟨_, fun _ => rfl⟩
   have hTl : ∀ l, (T l).length = S.length + 2 := fun l => by rw [hT, List.length_append, hl']; rfl
   have hTi : ∀ l t, (T l ++ t)[S.length + 1]? = some (.iter (encSI A) l) := fun l t => by rw [hT, List.append_assoc, List.getElem?_append_right (by omega), hl', Nat.add_sub_cancel_left]; rfl
   have hTs : ∀ l t k, (T l ++ t).set (S.length + 1) (.iter (encSI A) k) = T k ++ t := fun l t k => by rw [hT, hT, List.append_assoc, List.set_append_right _ _ (by omega), hl', Nat.add_sub_cancel_left]; simp
   have hTe : ∀ l x t, (T l ++ x :: t)[S.length + 2]? = some x := fun l x t => by rw [List.getElem?_append_right (by rw [hTl]; omega), hTl, Nat.sub_self]; rfl
   have hTu : ∀ l x t y, (T l ++ x :: t).set (S.length + 2) y = T l ++ y :: t := fun l x t y => by rw [List.set_append_right _ _ (by rw [hTl]; omega), hTl, Nat.sub_self]; rfl
   have hTd : ∀ l, IdsS (T l).length (T l) := fun l => by rw [hT]; exact idsS_app _ hSs' (all_cons' (by trivial) (all_cons' (ids_encSI A) all_nil'))
   have hTr : ∀ l (w : List Int), IdsS (T l ++ [AObj.row (w.map ai)]).length (T l ++ [AObj.row (w.map ai)]) := fun l w => idsS_push (hTd l) (ids_ai w)
   have hTl0 := hTl []
   obtain ⟨out, hout⟩ : ∃ out : List Nat → List Int, ∀ l, out l = s.filter (stayS s a.effects) ++ (l.filterMap fun i => A[i]?).filter fun x => !(s.contains x) := ⟨_, fun _ => rfl⟩
   have hout0 : out [] = s.filter (stayS s a.effects) := by simp [hout]
   refine wpc_while (fun l => [(0, .slice tok (s.map Ahl.encI)), (9, .ref (S.length + 2) 1 0 (out l).length), (59, .ptr (S.length + 1) 0)]) (fun l => T l ++ [.row ((out l).map ai)]) (fun l => l.Nodup ∧ ∀ i ∈ l, i < A.length) (unseen A.length) [] ⟨.nil, by simp⟩ (by
    refine Ghost.trans (Ghost.reown 9 (cells := (s.filter (stayS s a.effects)).map ai) rfl (by rw [← hl', List.getElem?_append_right (Nat.le_refl _), Nat.sub_self]; rfl)) ?_
    rw [show (S' ++ [AObj.row (List.map ai (List.filter (stayS s a.effects) s)), AObj.iter (encSI A) []]).set (List.length S) AObj.dead ++ [AObj.row (List.map ai (List.filter (stayS s a.effects) s))] = T [] ++ [.row ((out []).map ai)] by
     rw [hT, hout0, ← hl', List.set_append_right _ _ (Nat.le_refl _), Nat.sub_self]; simp, show (S' ++ [AObj.row (List.map ai (List.filter (stayS s a.effects) s)), AObj.iter (encSI A) []]).length = S.length + 2 by rw [List.length_append, hl']; rfl, ← hout0]
    exact ghP0 (hTr _ _)) ?_
   rintro l ⟨hnd, hlt⟩ K hK hE hR
   simp only [go_sem, simprocAttr, hTi]
   refine ⟨?_, ?_⟩
   ·intro i k v hik hns
    obtain ⟨x, hx, rfl, rfl⟩ : ∃ x, A[i]? = some x ∧ k = .int .i64 x ∧ v = .bool true := by
     simp only [encSI, List.getElem?_map, Option.map_eq_some_iff] at hik
     obtain ⟨x, hx, e⟩ := hik
     injection e with e1 e2
     exact ⟨x, hx, e1.symm, e2.symm⟩
    have hiA := lt_of_get hx
    have hTl1 := hTl (l ++ [i])
    have hJ : (l ++ [i]).Nodup ∧ ∀ j ∈ l ++ [i], j < A.length := by
     refine ⟨?_, fun j hj => ?_⟩
     ·rw [List.nodup_append]
      refine ⟨hnd, by simp, fun p hp q hq => ?_⟩
      simp only [List.mem_singleton] at hq; subst hq
      rintro rfl; exact hns hp
     ·rcases List.mem_append.1 hj with hj | hj
      ·exact hlt j hj
      ·simp only [List.mem_singleton] at hj; subst hj; exact hiA
    simp only [go_sem, simprocAttr, hTs, hTi]
    refine ⟨l, i, rfl, ?_⟩
    rw [encSI_get hx]
    simp only [go_sem, simprocAttr]
    refine (shas_spec s x tok _ (by omega) hs).is ?_
    have hfm : (l ++ [i]).filterMap (fun i => A[i]?) = l.filterMap (fun i => A[i]?) ++ [x] := by rw [List.filterMap_append]; simp [hx]
    cases hc : s.contains x
    ·have ho : out (l ++ [i]) = out l ++ [x] := by simp only [hout, hfm, List.filter_append, List.filter_cons, hc, Bool.not_false, if_true, List.filter_nil, List.append_assoc]
     have hol : (out l).length ≤ 2000000 := by
      have h1 := List.length_filter_le (stayS s a.effects) s
      have h2 := List.length_filter_le (fun x => !(s.contains x)) (l.filterMap fun i => A[i]?)
      have h3 := List.length_filterMap_le (fun i => A[i]?) l
      have h4 := nodup_below hnd hlt
      rw [hout, List.length_append]; omega
     have hbig : bigLen ((out l).length + 1) 8 := big_ok (by omega) (by omega)
     simp only [go_sem, simprocAttr, hTe, hTu, hTl, hbig]
     have hf : (out l).map ai ++ [[AV.int .i64 x]].flatten = (out (l ++ [i])).map ai := by rw [ho, List.map_append]; rfl
     have hn : (out l).length + 1 = (out (l ++ [i])).length := by rw [ho]; simp
     rw [hf, hn]
     refine hK _ _ (l ++ [i]) hJ (unseen_snoc hiA hns) ?_
     rw [← hTl1]
     exact ghPM 2 (hi := hTd _) (hio := ids_ai _)
    ·have ho : out (l ++ [i]) = out l := by simp only [hout, hfm, List.filter_append, List.filter_cons, hc, Bool.not_true, Bool.false_eq_true, if_false, List.filter_nil, List.append_nil]
     simp only [go_sem, simprocAttr]
     refine hK _ _ (l ++ [i]) hJ (unseen_snoc hiA hns) ?_
     (try dsimp only)
     rw [ho]
     exact ghP0 (hTr _ _)
   ·intro hall
    have hol : (out l).length < 4611686018427387904 := by
     have h1 := List.length_filter_le (stayS s a.effects) s
     have h2 := List.length_filter_le (fun x => !(s.contains x)) (l.filterMap fun i => A[i]?)
     have h3 := List.length_filterMap_le (fun i => A[i]?) l
     have h4 := nodup_below hnd hlt
     rw [hout, List.length_append]; omega
    have hp : (out l).Perm (s.filter (stayS s a.effects) ++ (addOf s a.effects).filter fun x => !(s.contains x)) := by
     rw [← hAe, hout]
     exact List.Perm.append_left _ ((perm_places A l hnd hlt (fun i hi => hall i (by simpa [encSI] using hi))).filter _)
    simp only [go_sem, simprocAttr, hE]
    refine (sortI_spec (S.length + 2) (out l) _ (hTe _ _ _) hol).mono ?_
    rintro _ _ ⟨rfl, rfl⟩
    simp only [go_sem, simprocAttr, hTu]
    have hTl1 := hTl l
    refine retRowF (id := S.length + 2) (len := (out l).length) (l := Ahl.sortI (out l)) ?_ ?_ ?_ ?_ ?_ ?_
    ·rw [hT, List.append_assoc, List.take_append_of_le_length (by omega), htk']
    ·rfl
    ·exact hTe _ _ _
    ·exact sortI_len _
    ·omega
    ·exact ⟨by rw [afterS, sortI_perm_eq hp], rfl⟩
def ab (b : Bool) : AV := .bool b
def genB (n : Nat) (p : Nat → Bool) : List Bool := (List.range n).map p
theorem genB_len (n : Nat) (p : Nat → Bool) : (genB n p).length = n := by simp [genB]
theorem genB_get {n : Nat} {p : Nat → Bool} {k : Nat} (h : k < n) : (genB n p)[k]? = some (p k) := by
 rw [genB, List.getElem?_map, List.getElem?_range h]; rfl
theorem genB_cong {n : Nat} {p q : Nat → Bool} (h : ∀ i, i < n → p i = q i) : genB n p = genB n q := by
 unfold genB
 exact List.map_congr_left fun i hi => h i (List.mem_range.1 hi)
theorem genB_set (n : Nat) (p : Nat → Bool) (k : Nat) (v : Bool) : (genB n p).set k v = genB n (fun i => if i = k then v else p i) := by
 apply List.ext_getElem?
 intro i
 by_cases hi : i < n
 ·rw [genB_get hi]
  by_cases hk : k = i
  ·subst hk
   rw [List.getElem?_set_self (by rw [genB_len]; exact hi), if_pos rfl]
  ·rw [List.getElem?_set_ne hk, genB_get hi, if_neg (Ne.symm hk)]
 ·rw [List.getElem?_eq_none (by rw [List.length_set, genB_len]; omega), List.getElem?_eq_none (by rw [genB_len]; omega)]
theorem bset (w : List Bool) (k : Nat) (b : Bool) : (w.map ab).set k (.bool b) = (w.set k b).map ab := by rw [List.map_set]; rfl
theorem rep_ab (n : Nat) : (List.replicate n [AV.bool false]).flatten = (genB n fun _ => false).map ab := by
 unfold genB
 induction n with
 | zero => rfl
 | succ n ih =>
  rw [List.replicate_succ', List.flatten_concat, ih, List.range_succ, List.map_append, List.map_append]; rfl
theorem ids_ab {n : Nat} (w : List Bool) : IdsO n (.row (w.map ab)) := idsO_row (by intro x hx; obtain ⟨y, _, rfl⟩ := List.mem_map.1 hx; exact .bool _)
def c_bits : CCode := .seq (.ops [oS 4 (.move (.lit (.slice .nil [])))]) (.seq (.ops [oS 8 (.move (.tmp 0)), oS 9 (.mkslice 1 1 [.bool false] (.tmp 8) (.tmp 8) true), oS 5 (.move (.tmp 9))]) (.seq (.seq (.ops [oS 10 (.move (.tmp 1)), oS 11 (.blen 1 (.tmp 10)), oS 12 (.move (.lit (.int .i64 0)))]) (.block 0 (.loop (.seq (.ops [oS 13 (.bin .lss .none (.tmp 12) (.tmp 11))]) (.seq (.cond (.tmp 13) .skip (.exit 0)) (.seq (.block 1 (.seq (.ops [oS 14 (.iaddr 1 (.tmp 10) (.tmp 12)), oS 15 (.load none (.tmp 14)), oS 7 (.move (.tmp 15))]) (.ops [oS 16 (.move (.tmp 5)), oS 17 (.move (.tmp 7)), oS 18 (.iaddr 1 (.tmp 16) (.tmp 17)), oN (.store 1 (.tmp 18) (.lit (.bool true)))]))) (.ops [oS 19 (.bin .add .none (.tmp 12) (.lit (.int .i64 1))), oS 12 (.move (.tmp 19))]))))))) (.seq (.ops [oS 20 (.move (.tmp 5)), oS 4 (.move (.tmp 20))]) .ret)))
theorem bits_spec (n : Nat) (s : List Int) (tok : Tok) (σ : Store) (hn : n ≤ 1048576) (hs : ∀ x ∈ s, 0 ≤ x ∧ x < n) (hl : s.length ≤ 1048576) :
  ACalls Tryz.prog 81 [.int .i64 n, .slice tok (s.map Ahl.encI)] σ (fun r σ' => r = .ref σ.length 1 0 n ∧ σ' = σ ++ [.row ((genB n fun i => s.contains (i : Int)).map ab)]) := by
 refine ACalls.intro (rs := [(.tmp 4)]) (by kernel_rfl) { own := [(0, 1), (1, 1), (2, 1), (3, 1)], ghosts := [] } Tryz.func81 (c := Tryz.f81.body.getD .skip) (by kernel_rfl) (by decide) (by rw [show Tryz.f81.ntmps = 21 by kernel_rfl]; exact Nat.le_of_ble_eq_true rfl) (by kernel_rfl) ?_
 intro hσ hids
 rw [show comp Tryz.prog { own := [(0, 1), (1, 1), (2, 1), (3, 1)], ghosts := [] } (Tryz.f81.body.getD .skip) = c_bits by kernel_rfl, show Tryz.f81.ntmps = 21 by kernel_rfl]
 unfold c_bits
 have hil : Ids σ.length (.slice tok (s.map Ahl.encI)) := hids _ (by simp)
 have hs1 : ∀ w : List Bool, IdsS (σ ++ [AObj.row (w.map ab)]).length (σ ++ [AObj.row (w.map ab)]) := fun w => idsS_push hσ (ids_ab w)
 simp only [go_sem, simprocAttr, aMkslice, rep_ab]
 refine ⟨Int.le_refl _, by omega, by omega, ?_⟩
 refine wpc_while (fun (i : Nat) => [(5, .ref σ.length 1 0 n), (10, .slice tok (s.map Ahl.encI)), (11, .int .i64 s.length), (12, .int .i64 i)]) (fun i => σ ++ [.row ((genB n fun k => (s.take i).contains (k : Int)).map ab)]) (fun i => i ≤ s.length) (fun i => s.length - i) 0 (Nat.zero_le _) (by (try dsimp only); simp only [List.take_zero, List.contains_nil]; first | exact ghL (hs1 _) | exact ghL0 (hs1 _)) ?_
 intro i hi K hK hE hR
 by_cases h : i < s.length
 ·obtain ⟨x, hx⟩ := get_ex h; have hlt : ((i : Int) < (s.length : Int)) := (by omega); have hw := wrapS (i := i) (by omega)
  obtain ⟨x0, x1⟩ := hs x (List.mem_of_getElem? hx)
  have x2 : x.toNat < n := by omega
  have x3 : x.toNat + 1 ≤ n := by omega
  simp only [go_sem, simprocAttr, hlt, hx, Ahl.encI, x0, x2, genB_len, x3, bset, genB_set]
  have hc : (genB n fun k => (s.take (i + 1)).contains (k : Int)) = genB n (fun k => if k = x.toNat then true else (s.take i).contains (k : Int)) := genB_cong fun k hk => by
   rw [take_succ' hx, List.contains_eq_mem, List.contains_eq_mem]
   by_cases e : k = x.toNat
   ·rw [if_pos e]; simp; right; omega
   ·rw [if_neg e]
    apply decide_eq_decide.2
    rw [List.mem_append, List.mem_singleton]
    constructor
    ·rintro (h | h)
     ·exact h
     ·omega
    ·exact .inl
  refine hK _ _ (i + 1) (by omega) (by omega) ?_
  (try dsimp only); simp only [hw, hc]; first | exact ghL (hs1 _) | exact ghL0 (hs1 _)
 ·have hlt : ¬ ((i : Int) < (s.length : Int)) := by omega
  simp only [go_sem, simprocAttr, hlt, hE]
  rw [List.take_of_length_le (by omega)]
  exact ret_gh (v := .ref σ.length 1 0 n) (σ' := σ ++ [.row ((genB n fun i => s.contains (i : Int)).map ab)]) (by first | exact ghL (hs1 _) | exact ghL0 (hs1 _)) (by simp) (hs1 _) (.ref _ _ _ _ (by simp)) ⟨rfl, rfl⟩
def listB : Nat → List Bool → List Int
 | _, [] => []
 | k, b :: r => if b then (k : Int) :: listB (k + 1) r else listB (k + 1) r
def c_listed : CCode := .seq (.ops [oS 2 (.move (.lit (.slice .nil [])))]) (.seq (.ops [oS 3 (.move (.lit (.slice .nil [])))]) (.seq (.seq (.ops [oS 6 (.move (.tmp 0)), oS 7 (.blen 1 (.tmp 6)), oS 8 (.move (.lit (.int .i64 0)))]) (.block 0 (.loop (.seq (.ops [oS 9 (.bin .lss .none (.tmp 8) (.tmp 7))]) (.seq (.cond (.tmp 9) .skip (.exit 0)) (.seq (.block 1 (.seq (.ops [oS 10 (.move (.tmp 8)), oS 11 (.iaddr 1 (.tmp 6) (.tmp 8)), oS 12 (.load none (.tmp 11)), oS 4 (.move (.tmp 10)), oS 5 (.move (.tmp 12))]) (.seq (.ops [oS 13 (.move (.tmp 5))]) (.cond (.tmp 13) (.ops [oS 14 (.move (.tmp 3)), oS 15 (.move (.tmp 4)), oS 16 (.bslice 1 [.tmp 15] false), oS 17 (.bappend 1 8 (.tmp 14) (.tmp 16) false), oS 3 (.move (.tmp 17))]) .skip)))) (.ops [oS 18 (.bin .add .none (.tmp 8) (.lit (.int .i64 1))), oS 8 (.move (.tmp 18))]))))))) (.seq (.ops [oS 19 (.move (.tmp 3)), oS 2 (.move (.tmp 19))]) .ret)))
theorem listed_spec (id : Nat) (w : List Bool) (σ : Store) (hid : σ[id]? = some (.row (w.map ab))) (hl : w.length ≤ 1048576) :
  ACalls Tryz.prog 82 [.ref id 1 0 w.length] σ (isR (.slice .unk ((listB 0 w).map Ahl.encI)) σ) := by
 refine ACalls.intro (rs := [(.tmp 2)]) (by kernel_rfl) { own := [], ghosts := [] } Tryz.func82 (c := Tryz.f82.body.getD .skip) (by kernel_rfl) (by decide) (by rw [show Tryz.f82.ntmps = 20 by kernel_rfl]; exact Nat.le_of_ble_eq_true rfl) (by kernel_rfl) ?_
 intro hσ hids
 rw [show comp Tryz.prog { own := [], ghosts := [] } (Tryz.f82.body.getD .skip) = c_listed by kernel_rfl, show Tryz.f82.ntmps = 20 by kernel_rfl]
 unfold c_listed
 have hs1 : ∀ k : Nat, IdsS (σ ++ [AObj.grow 1 k]).length (σ ++ [AObj.grow 1 k]) := fun k => idsS_push hσ trivial
 have iid := lt_of_get hid
 have hid' : ∀ l, (σ ++ l)[id]? = some (.row (w.map ab)) := fun l => by rw [List.getElem?_append_left iid]; exact hid
 simp only [go_sem, simprocAttr]
 refine wpc_while (fun (q : Nat × List Int) => [(3, .slice (.grow σ.length) (q.2.map Ahl.encI)), (6, .ref id 1 0 w.length), (7, .int .i64 w.length), (8, .int .i64 q.1)]) (fun q => σ ++ [.grow 1 q.2.length])
  (fun q => q.1 ≤ w.length ∧ q.2.length ≤ q.1 ∧ q.2 ++ listB q.1 (w.drop q.1) = listB 0 w) (fun q => w.length - q.1) (0, []) ⟨Nat.zero_le _, Nat.le_refl _, rfl⟩ (by first | exact .begin0 3 1 _ (Nat.le_refl _) tellT hσ | exact .begin 3 1 _ (Nat.le_refl _) tellT hσ) ?_
 rintro ⟨i, out⟩ ⟨hi, ho, hv⟩ K hK hE hR
 dsimp only at hi ho hv ⊢
 by_cases h : i < w.length
 ·obtain ⟨b, hx⟩ := get_ex h; have hlt : ((i : Int) < (w.length : Int)) := (by omega); have hw := wrapS (i := i) (by omega)
  have hb1 : bigLen (out.length + 1) 8 := big_ok (by omega) (by omega)
  rw [drop_cons hx, listB] at hv
  cases b
  ·rw [if_neg (by simp)] at hv
   simp only [go_sem, simprocAttr, hlt, h, hid', hx, ab]
   refine hK _ _ (i + 1, out) ⟨by simp only []; omega, by simp only []; omega, hv⟩ (by simp only []; omega) ?_
   (try dsimp only); simp only [hw]; first | exact ghL (hs1 _) | exact ghL0 (hs1 _)
  ·rw [if_pos rfl] at hv
   simp only [go_sem, simprocAttr, hlt, h, hid', hx, ab, hb1]
   have hc : out.map Ahl.encI ++ [[AV.int .i64 i]] = (out ++ [(i : Int)]).map Ahl.encI := by simp [Ahl.encI]
   refine hK _ _ (i + 1, out ++ [(i : Int)]) ⟨by simp only []; omega, by simp only []; simp; omega, by simp only []; rw [← hv]; simp⟩ (by simp only []; omega) ?_
   (try dsimp only); simp only [hw, hc, List.length_append, List.length_singleton]; exact ghL (l := [.grow 1 (out.length + 1)]) (hs1 _)
 ·have hlt : ¬ ((i : Int) < (w.length : Int)) := by omega
  rw [drop_len h, listB, List.append_nil] at hv
  simp only [go_sem, simprocAttr, hlt, hE]
  exact rt (.slice .unk (out.map Ahl.encI)) ⟨by rw [hv], rfl⟩
def hits (s : List Int) (neg : Bool) (es : List FEff) (i : Nat) : Bool := es.any fun e => (e.lit.neg == neg) && ((e.lit.fact == (i : Int)) && condHolds s e.when_)
theorem hits_succ {s : List Int} {neg : Bool} {es : List FEff} {j : Nat} {e : FEff} (h : es[j]? = some e) (i : Nat) : hits s neg (es.take (j + 1)) i = (hits s neg (es.take j) i || ((e.lit.neg == neg) && ((e.lit.fact == (i : Int)) && condHolds s e.when_))) := by
 rw [hits, take_succ' h, List.any_append]; simp [hits]
def afterB (n : Nat) (s : List Int) (a : FAct) : List Bool := genB n fun i => hits s false a.effects i || (s.contains (i : Int) && !hits s true a.effects i)
def afterL (n : Nat) (s : List Int) (a : FAct) : List Int := listB 0 (afterB n s a)
def c_after : CCode := .seq (.ops [oS 3 (.box (.tmp 0)), oS 6 (.move (.lit (.slice .nil [])))]) (.seq (.ops [oS 12 (.faddr 0 (.tmp 3)), oS 13 (.load none (.tmp 12)), oS 14 (.blen 1 (.tmp 13)), oS 15 (.move (.tmp 1)), oS 16 (.call (.lit (.func 81 [])) [.tmp 14, .tmp 15]), oS 7 (.move (.tmp 16))]) (.seq (.seq (.ops [oS 17 (.faddr 3 (.tmp 3)), oS 18 (.load none (.tmp 17)), oS 19 (.move (.tmp 2)), oS 20 (.iaddr 4 (.tmp 18) (.tmp 19)), oS 21 (.faddr 3 (.tmp 20)), oS 22 (.load none (.tmp 21)), oS 23 (.blen 1 (.tmp 22)), oS 24 (.move (.lit (.int .i64 0)))]) (.block 0 (.loop (.seq (.ops [oS 25 (.bin .lss .none (.tmp 24) (.tmp 23))]) (.seq (.cond (.tmp 25) .skip (.exit 0)) (.seq (.block 1 (.seq (.ops [oS 26 (.iaddr 3 (.tmp 22) (.tmp 24)), oS 27 (.load (some 3) (.tmp 26)), oS 9 (.alloc (.agg [.slice .nil [], .int .i64 0, .bool false])), oN (.store 3 (.tmp 9) (.tmp 27))]) (.seq (.ops [oS 28 (.faddr 1 (.tmp 9)), oS 29 (.faddr 1 (.tmp 28)), oS 30 (.load none (.tmp 29)), oS 31 (.move (.tmp 30)), oG 32 31 true (.move (.tmp 1)), oG 33 31 true (.faddr 0 (.tmp 9)), oG 34 31 true (.load none (.tmp 33)), oG 35 31 true (.call (.lit (.func 77 [])) [.tmp 32, .tmp 34]), oS 36 (.pick (.tmp 31) (.tmp 35) (.lit (.bool false)))]) (.cond (.tmp 36) (.ops [oS 37 (.move (.tmp 7)), oS 38 (.faddr 1 (.tmp 9)), oS 39 (.faddr 0 (.tmp 38)), oS 40 (.load none (.tmp 39)), oS 41 (.iaddr 1 (.tmp 37) (.tmp 40)), oN (.store 1 (.tmp 41) (.lit (.bool false)))]) .skip)))) (.ops [oS 42 (.bin .add .none (.tmp 24) (.lit (.int .i64 1))), oS 24 (.move (.tmp 42))]))))))) (.seq (.seq (.ops [oS 43 (.faddr 3 (.tmp 3)), oS 44 (.load none (.tmp 43)), oS 45 (.move (.tmp 2)), oS 46 (.iaddr 4 (.tmp 44) (.tmp 45)), oS 47 (.faddr 3 (.tmp 46)), oS 48 (.load none (.tmp 47)), oS 49 (.blen 1 (.tmp 48)), oS 50 (.move (.lit (.int .i64 0)))]) (.block 2 (.loop (.seq (.ops [oS 51 (.bin .lss .none (.tmp 50) (.tmp 49))]) (.seq (.cond (.tmp 51) .skip (.exit 2)) (.seq (.block 3 (.seq (.ops [oS 52 (.iaddr 3 (.tmp 48) (.tmp 50)), oS 53 (.load (some 3) (.tmp 52)), oS 11 (.alloc (.agg [.slice .nil [], .int .i64 0, .bool false])), oN (.store 3 (.tmp 11) (.tmp 53))]) (.seq (.ops [oS 54 (.faddr 1 (.tmp 11)), oS 55 (.faddr 1 (.tmp 54)), oS 56 (.load none (.tmp 55)), oS 57 (.un .not (.tmp 56)), oS 58 (.move (.tmp 57)), oG 59 58 true (.move (.tmp 1)), oG 60 58 true (.faddr 0 (.tmp 11)), oG 61 58 true (.load none (.tmp 60)), oG 62 58 true (.call (.lit (.func 77 [])) [.tmp 59, .tmp 61]), oS 63 (.pick (.tmp 58) (.tmp 62) (.lit (.bool false)))]) (.cond (.tmp 63) (.ops [oS 64 (.move (.tmp 7)), oS 65 (.faddr 1 (.tmp 11)), oS 66 (.faddr 0 (.tmp 65)), oS 67 (.load none (.tmp 66)), oS 68 (.iaddr 1 (.tmp 64) (.tmp 67)), oN (.store 1 (.tmp 68) (.lit (.bool true)))]) .skip)))) (.ops [oS 69 (.bin .add .none (.tmp 50) (.lit (.int .i64 1))), oS 50 (.move (.tmp 69))]))))))) (.seq (.ops [oS 70 (.move (.tmp 7)), oS 71 (.call (.lit (.func 82 [])) [.tmp 70]), oS 6 (.move (.tmp 71))]) .ret))))
set_option maxHeartbeats 1000000 in
theorem after_spec (t : FTask) (s : List Int) (k : Int) (a : FAct) (tok : Tok) (σ : Store) (hn : t.facts.length ≤ 1048576) (hs : ∀ x ∈ s, 0 ≤ x ∧ x < (t.facts.length : Int)) (hl : s.length ≤ 1048576) (hk : 0 ≤ k) (ha : t.actions[k.toNat]? = some a)
  (hae : a.effects.length ≤ 1048576) (he : ∀ e ∈ a.effects, e.when_.length ≤ 1048576 ∧ 0 ≤ e.lit.fact ∧ e.lit.fact < (t.facts.length : Int)) :
  ACalls Tryz.prog 47 [.agg (encTask t), .slice tok (s.map Ahl.encI), .int .i64 k] σ (isR (.slice .unk ((afterL t.facts.length s a).map Ahl.encI)) σ) := by
 refine ACalls.intro (rs := [(.tmp 6)]) (by kernel_rfl) { own := [], ghosts := [] } Tryz.func47 (c := Tryz.f47.body.getD .skip) (by kernel_rfl) (by decide) (by rw [show Tryz.f47.ntmps = 72 by kernel_rfl]; exact Nat.le_of_ble_eq_true rfl) (by kernel_rfl) ?_
 intro hσ hids
 rw [show comp Tryz.prog { own := [], ghosts := [] } (Tryz.f47.body.getD .skip) = c_after by kernel_rfl, show Tryz.f47.ntmps = 72 by kernel_rfl]
 unfold c_after
 have hil : Ids σ.length (.slice tok (s.map Ahl.encI)) := hids _ (by simp)
 have hs1 : ∀ w : List Bool, IdsS (σ ++ [AObj.row (encTask t), .row (w.map ab)]).length (σ ++ [AObj.row (encTask t), .row (w.map ab)]) := fun w => idsS_app _ hσ (by
  intro o ho
  simp only [List.mem_cons, List.not_mem_nil, or_false] at ho
  rcases ho with rfl | rfl
  ·exact idsO_row (ids_encTask t)
  ·exact ids_ab w)
 simp only [go_sem, simprocAttr, encTask]
 refine (bits_spec t.facts.length s tok _ hn hs hl).mono ?_
 rintro _ _ ⟨rfl, rfl⟩
 generalize hN : t.facts.length = n at *
 simp only [go_sem, simprocAttr, encTask, hk, ha, encA]
 refine wpc_while (fun (j : Nat) => [(1, .slice tok (s.map Ahl.encI)), (2, .int .i64 k), (3, .ptr σ.length 0), (7, .ref (σ.length + 1) 1 0 n), (22, .slice .unk (a.effects.map encE)), (23, .int .i64 a.effects.length), (24, .int .i64 j)])
  (fun j => σ ++ [.row (encTask t), .row ((genB n fun i => s.contains (i : Int) && !hits s true (a.effects.take j) i).map ab)]) (fun j => j ≤ a.effects.length) (fun j => a.effects.length - j) 0 (Nat.zero_le _) (by (try dsimp only); simp only [List.take_zero, hits, List.any_nil, Bool.not_false, Bool.and_true]; first | exact ghL (hs1 _) | exact ghL0 (hs1 _)) ?_
 intro j hj0 K hK hE hR
 by_cases hj : j < a.effects.length
 ·obtain ⟨e, hxj⟩ := get_ex hj; have hltj : ((j : Int) < (a.effects.length : Int)) := (by omega); have hwj := wrapS (i := j) (by omega)
  obtain ⟨e1, e2, e3⟩ := he e (List.mem_of_getElem? hxj)
  have e4 : e.lit.fact.toNat < n := by omega
  have e5 : e.lit.fact.toNat + 1 ≤ n := by omega
  cases hng : e.lit.neg
  ·simp only [go_sem, simprocAttr, hltj, hxj, encE, hng]
   have hc : (genB n fun i => s.contains (i : Int) && !hits s true (a.effects.take (j + 1)) i) = genB n fun i => s.contains (i : Int) && !hits s true (a.effects.take j) i := genB_cong fun i hi => by
    rw [hits_succ hxj, hng]; simp
   refine hK _ _ (j + 1) (by omega) (by omega) ?_
   (try dsimp only); simp only [hwj, hc]; first | exact ghL (hs1 _) | exact ghL0 (hs1 _)
  ·simp only [go_sem, simprocAttr, hltj, hxj, encE, hng]
   refine (holds02_spec s e.when_ tok .unk _ (by omega) (by omega)).is ?_
   cases hh : condHolds s e.when_
   ·simp only [go_sem, simprocAttr]
    have hc : (genB n fun i => s.contains (i : Int) && !hits s true (a.effects.take (j + 1)) i) = genB n fun i => s.contains (i : Int) && !hits s true (a.effects.take j) i := genB_cong fun i hi => by
     rw [hits_succ hxj, hng, hh]; simp
    refine hK _ _ (j + 1) (by omega) (by omega) ?_
    (try dsimp only); simp only [hwj, hc]; first | exact ghL (hs1 _) | exact ghL0 (hs1 _)
   ·simp only [go_sem, simprocAttr, e2, e4, genB_len, e5, bset, genB_set]
    have hc : (genB n fun i => s.contains (i : Int) && !hits s true (a.effects.take (j + 1)) i) = genB n (fun i => if i = e.lit.fact.toNat then false else s.contains (i : Int) && !hits s true (a.effects.take j) i) := genB_cong fun i hi => by
     rw [hits_succ hxj, hng, hh]
     by_cases q : i = e.lit.fact.toNat
     ·have : (e.lit.fact == (i : Int)) = true := by simp; omega
      rw [if_pos q, this]; simp
     ·have : (e.lit.fact == (i : Int)) = false := by simp; omega
      rw [if_neg q, this]; simp
    refine hK _ _ (j + 1) (by omega) (by omega) ?_
    (try dsimp only); simp only [hwj, hc]; first | exact ghL (hs1 _) | exact ghL0 (hs1 _)
 ·have hltj : ¬ ((j : Int) < (a.effects.length : Int)) := by omega
  have hje : j = a.effects.length := by omega
  subst hje
  simp only [go_sem, simprocAttr, hltj, hE, hk, ha, encA, encTask]
  clear hK hE hR
  refine wpc_while (fun (j : Nat) => [(1, .slice tok (s.map Ahl.encI)), (7, .ref (σ.length + 1) 1 0 n), (48, .slice .unk (a.effects.map encE)), (49, .int .i64 a.effects.length), (50, .int .i64 j)])
   (fun j => σ ++ [.row (encTask t), .row ((genB n fun i => hits s false (a.effects.take j) i || (s.contains (i : Int) && !hits s true a.effects i)).map ab)]) (fun j => j ≤ a.effects.length) (fun j => a.effects.length - j) 0 (Nat.zero_le _) (by (try dsimp only); simp only [List.take_zero, List.take_length]; have hz : ∀ i, hits s false [] i = false := (fun i => rfl); simp only [hz, Bool.false_or]; first | exact ghL (hs1 _) | exact ghL0 (hs1 _)) ?_
  intro j hj0 K hK hE hR
  by_cases hj : j < a.effects.length
  ·obtain ⟨e, hxj⟩ := get_ex hj; have hltj : ((j : Int) < (a.effects.length : Int)) := (by omega); have hwj := wrapS (i := j) (by omega)
   obtain ⟨e1, e2, e3⟩ := he e (List.mem_of_getElem? hxj)
   have e4 : e.lit.fact.toNat < n := by omega
   have e5 : e.lit.fact.toNat + 1 ≤ n := by omega
   cases hng : e.lit.neg
   ·simp only [go_sem, simprocAttr, hltj, hxj, encE, hng]
    refine (holds02_spec s e.when_ tok .unk _ (by omega) (by omega)).is ?_
    cases hh : condHolds s e.when_
    ·simp only [go_sem, simprocAttr]
     have hc : (genB n fun i => hits s false (a.effects.take (j + 1)) i || (s.contains (i : Int) && !hits s true a.effects i)) = genB n fun i => hits s false (a.effects.take j) i || (s.contains (i : Int) && !hits s true a.effects i) := genB_cong fun i hi => by
      rw [hits_succ hxj, hng, hh]; simp
     refine hK _ _ (j + 1) (by omega) (by omega) ?_
     (try dsimp only); simp only [hwj, hc]; first | exact ghL (hs1 _) | exact ghL0 (hs1 _)
    ·simp only [go_sem, simprocAttr, e2, e4, genB_len, e5, bset, genB_set]
     have hc : (genB n fun i => hits s false (a.effects.take (j + 1)) i || (s.contains (i : Int) && !hits s true a.effects i)) = genB n (fun i => if i = e.lit.fact.toNat then true else hits s false (a.effects.take j) i || (s.contains (i : Int) && !hits s true a.effects i)) := genB_cong fun i hi => by
      rw [hits_succ hxj, hng, hh]
      by_cases q : i = e.lit.fact.toNat
      ·have : (e.lit.fact == (i : Int)) = true := by simp; omega
       rw [if_pos q, this]; simp
      ·have : (e.lit.fact == (i : Int)) = false := by simp; omega
       rw [if_neg q, this]; simp
     refine hK _ _ (j + 1) (by omega) (by omega) ?_
     (try dsimp only); simp only [hwj, hc]; first | exact ghL (hs1 _) | exact ghL0 (hs1 _)
   ·simp only [go_sem, simprocAttr, hltj, hxj, encE, hng]
    have hc : (genB n fun i => hits s false (a.effects.take (j + 1)) i || (s.contains (i : Int) && !hits s true a.effects i)) = genB n fun i => hits s false (a.effects.take j) i || (s.contains (i : Int) && !hits s true a.effects i) := genB_cong fun i hi => by
     rw [hits_succ hxj, hng]; simp
    refine hK _ _ (j + 1) (by omega) (by omega) ?_
    (try dsimp only); simp only [hwj, hc]; first | exact ghL (hs1 _) | exact ghL0 (hs1 _)
  ·have hltj : ¬ ((j : Int) < (a.effects.length : Int)) := by omega
   have hje : j = a.effects.length := by omega
   subst hje
   rw [List.take_length]
   simp only [go_sem, simprocAttr, hltj, hE]
   have hL := listed_spec (σ.length + 1) (afterB n s a) (σ ++ [.row (encTask t), .row ((afterB n s a).map ab)]) (by rw [g_get]; rfl) (by rw [afterB, genB_len]; exact hn)
   rw [afterB, genB_len] at hL
   refine ACalls.is hL ?_
   simp only [go_sem, simprocAttr]
   exact rt (.slice .unk ((afterL n s a).map Ahl.encI)) ⟨rfl, rfl⟩
theorem risingB_len {n : Int} : ∀ (s : List Int) (p : Int), risingB n p s = true → s = [] ∨ (s.length : Int) + p < n
 | [], p, h => .inl rfl
 | x :: s, p, h => by
  rw [risingB, Bool.and_eq_true, Bool.and_eq_true, decide_eq_true_eq, decide_eq_true_eq] at h
  right
  rcases risingB_len s x h.2 with rfl | k
  ·simp; omega
  ·rw [List.length_cons]; omega
def valAt (w : List Int) (i : Int) : Int := (w[i.toNat]?).getD 0
def litV (w : List Int) (x : FLit) : Int := if x.neg then -valAt w x.fact else valAt w x.fact
def Tri (w : List Int) : Prop := ∀ y ∈ w, y = -1 ∨ y = 0 ∨ y = 1
def opens (w : List Int) : Nat := (w.filter (fun y => y == 0)).length
def Comp (w : List Int) (a : Int → Bool) : Prop := ∀ (i : Nat) y, w[i]? = some y → (y = 1 → a i = true) ∧ (y = -1 → a i = false)
def litT (a : Int → Bool) (x : FLit) : Bool := a x.fact != x.neg
def termT (a : Int → Bool) (l : List FLit) : Bool := l.all (litT a)
def ExtW (w w' : List Int) : Prop := w'.length = w.length ∧ ∀ (i : Nat) y, w[i]? = some y → y ≠ 0 → w'[i]? = some y
def sgn (x : FLit) : Int := if x.neg then -1 else 1
def inR (n : Nat) (x : FLit) : Prop := 0 ≤ x.fact ∧ x.fact < n
theorem ExtW.refl (w : List Int) : ExtW w w := ⟨rfl, fun _ _ h _ => h⟩
theorem ExtW.trans {a b c : List Int} (h : ExtW a b) (k : ExtW b c) : ExtW a c := ⟨k.1.trans h.1, fun i y e n => k.2 i y (h.2 i y e n) n⟩
theorem valAt_get {w : List Int} {x : FLit} (h : inR w.length x) : w[x.fact.toNat]? = some (valAt w x.fact) := by
 unfold valAt
 have : x.fact.toNat < w.length := by have := h.1; have := h.2; omega
 rw [List.getElem?_eq_getElem this]; rfl
theorem valAt_tri {w : List Int} (hw : Tri w) (i : Int) : valAt w i = -1 ∨ valAt w i = 0 ∨ valAt w i = 1 := by
 unfold valAt
 cases h : w[i.toNat]? with
 | none => exact .inr (.inl rfl)
 | some y => exact hw y (List.mem_of_getElem? h)
theorem litV_tri {w : List Int} (hw : Tri w) (x : FLit) : litV w x = -1 ∨ litV w x = 0 ∨ litV w x = 1 := by
 unfold litV
 rcases valAt_tri hw x.fact with h | h | h <;> rw [h] <;> split <;> simp
theorem sgn_ne (x : FLit) : sgn x = 1 ∨ sgn x = -1 := by unfold sgn; split <;> simp
theorem tri_set {w : List Int} (hw : Tri w) (i : Nat) {s : Int} (hs : s = -1 ∨ s = 0 ∨ s = 1) : Tri (w.set i s) := by
 intro y hy
 rcases List.mem_or_eq_of_mem_set hy with h | h
 ·exact hw y h
 ·subst h; exact hs
theorem opens_set {w : List Int} {i : Nat} (h : w[i]? = some 0) {s : Int} (hs : s ≠ 0) : opens (w.set i s) + 1 = opens w := by
 induction w generalizing i with
 | nil => simp at h
 | cons y w ih =>
  cases i with
  | zero =>
   simp at h; subst h
   have hs' : (s == 0) = false := by simpa using hs
   simp [opens, hs']
  | succ i =>
   simp at h
   have := ih h
   simp only [opens, List.set_cons_succ, List.filter_cons] at this ⊢
   split <;> (try simp only [List.length_cons]) <;> omega
theorem ext_set {w : List Int} {i : Nat} (h : w[i]? = some 0) (s : Int) : ExtW w (w.set i s) := by
 refine ⟨by simp, fun j y e n => ?_⟩
 by_cases hj : i = j
 ·subst hj; rw [h] at e; injection e with e; exact absurd e.symm n
 ·rw [List.getElem?_set_ne hj]; exact e
theorem comp_set {w : List Int} {a : Int → Bool} {x : FLit} (hx : inR w.length x) (h : Comp w a) (ht : litT a x = true) : Comp (w.set x.fact.toNat (sgn x)) a := by
 intro i y e
 rcases Go.Ahl.get_set e with ⟨rfl, rfl⟩ | ⟨_, e⟩
 ·have h3 : ((x.fact.toNat : Nat) : Int) = x.fact := by have := hx.1; omega
  rw [h3]
  unfold litT at ht
  unfold sgn
  cases hn : x.neg <;> rw [hn] at ht <;> simp at ht ⊢ <;> exact ht
 ·exact h i y e
theorem comp_neg {w : List Int} {a : Int → Bool} {x : FLit} (hx : inR w.length x) (h : Comp w a) (ht : litT a x = false) : Comp (w.set x.fact.toNat (-sgn x)) a := by
 intro i y e
 rcases Go.Ahl.get_set e with ⟨rfl, rfl⟩ | ⟨_, e⟩
 ·have h3 : ((x.fact.toNat : Nat) : Int) = x.fact := by have := hx.1; omega
  rw [h3]
  unfold litT at ht
  unfold sgn
  cases hn : x.neg <;> rw [hn] at ht <;> simp at ht ⊢ <;> exact ht
 ·exact h i y e
theorem comp_lit {w : List Int} {a : Int → Bool} {x : FLit} (hx : inR w.length x) (h : Comp w a) : (litV w x = 1 → litT a x = true) ∧ (litV w x = -1 → litT a x = false) := by
 have h3 : ((x.fact.toNat : Nat) : Int) = x.fact := by have := hx.1; omega
 have h4 := h _ _ (valAt_get hx)
 rw [h3] at h4
 unfold litV litT
 cases hn : x.neg
 ·simp only [Bool.false_eq_true, if_false, Bool.bne_false]; exact h4
 ·simp only [if_true, Bool.bne_true, Bool.not_eq_true', Bool.not_eq_false']
  exact ⟨fun e => h4.2 (by omega), fun e => h4.1 (by omega)⟩
def liveT (w : List Int) (l : List FLit) : Bool := !(l.any fun x => decide (litV w x < 0))
structure SPost (g : List (List FLit)) (w : List Int) (left : Int) (b : Bool) (w' : List Int) (left' : Int) : Prop where
 tri : Tri w'
 ext : ExtW w w'
 lo : left - (2 ^ opens w : Nat) ≤ left'
 hi : left' ≤ left
 yes : b = true → ∀ l ∈ g, ∃ x ∈ l, litV w' x < 0
 no : b = false → w' = w ∧ ∀ a, Comp w a → ∃ l ∈ g, termT a l = true
structure SLoop (g : List (List FLit)) (l : List FLit) (w0 : List Int) (left0 : Int) (j : Nat) (set : List Int) (w : List Int) (left : Int) : Prop where
 jl : j ≤ l.length
 tri : Tri w
 ext : ExtW w0 w
 ops : opens w + set.length = opens w0
 lo : left0 - 1 - (2 ^ opens w0 : Nat) + (2 ^ opens w : Nat) ≤ left
 hi : left ≤ left0
 old : ∀ f ∈ set, 0 ≤ f ∧ f < w0.length ∧ w0[f.toNat]? = some 0
 back : ∀ (i : Nat) y, w[i]? = some y → (∀ f ∈ set, f.toNat ≠ i) → w0[i]? = some y
 rest : ∀ x ∈ l.drop j, ∀ f ∈ set, f ≠ x.fact
 all : ∀ a, Comp w0 a → (∀ t ∈ g, termT a t = false) → Comp w a ∧ ∀ x ∈ l.take j, litT a x = true
theorem SLoop.begin {g : List (List FLit)} {l : List FLit} {w : List Int} {left : Int} (ht : Tri w) : SLoop g l w left 0 [] w (left - 1) where
 jl := Nat.zero_le _
 tri := ht
 ext := .refl _
 ops := rfl
 lo := by omega
 hi := by omega
 old := by simp
 back := fun i y e _ => e
 rest := by simp
 all := fun a hc _ => ⟨hc, by simp⟩
theorem liveT_nn {w : List Int} {l : List FLit} (h : liveT w l = true) {x : FLit} (hx : x ∈ l) : 0 ≤ litV w x := by
 unfold liveT at h
 simp only [Bool.not_eq_true', List.any_eq_false, decide_eq_true_eq] at h
 have := h x hx; omega
theorem SLoop.skip {g : List (List FLit)} {l : List FLit} {w0 : List Int} {left0 : Int} {j : Nat} {set w : List Int} {left : Int} (h : SLoop g l w0 left0 j set w left) {x : FLit} (hx : l[j]? = some x) (hr : inR w0.length x)
  (hl : liveT w0 l = true) (hv : litV w x ≠ 0) : SLoop g l w0 left0 (j + 1) set w left where
 jl := lt_of_get hx
 tri := h.tri
 ext := h.ext
 ops := h.ops
 lo := h.lo
 hi := h.hi
 old := h.old
 back := h.back
 rest := fun y hy => h.rest y (by rw [drop_cons hx]; exact List.mem_cons_of_mem _ hy)
 all := by
  intro a hc hg
  obtain ⟨h1, h2⟩ := h.all a hc hg
  refine ⟨h1, fun y hy => ?_⟩
  rw [take_succ' hx] at hy
  rcases List.mem_append.1 hy with hy | hy
  ·exact h2 y hy
  ·rw [List.mem_singleton] at hy; subst hy
   have hr' : inR w.length y := ⟨hr.1, by rw [h.ext.1]; exact hr.2⟩
   have hn := liveT_nn hl (List.mem_of_getElem? hx)
   have hno : ∀ f ∈ set, f.toNat ≠ y.fact.toNat := by
    intro f hf e
    have h3 := h.rest y (by rw [drop_cons hx]; exact List.mem_cons_self) f hf
    have h4 := (h.old f hf).1
    have := hr.1; omega
   have h5 := h.back _ _ (valAt_get hr') hno
   have h6 : valAt w0 y.fact = valAt w y.fact := by unfold valAt at h5 ⊢; rw [h5]; rfl
   have h7 : litV w0 y = litV w y := by unfold litV; rw [h6]
   rcases litV_tri h.tri y with h8 | h8 | h8
   ·omega
   ·exact absurd h8 hv
   ·exact (comp_lit hr' h1).1 h8
theorem cond_apart {n : Int} : ∀ {l : List FLit} {p : Int}, condB n p l = true → (∀ x ∈ l, p < x.fact ∧ x.fact < n) ∧ ∀ (j : Nat) x, l[j]? = some x → ∀ y ∈ l.drop (j + 1), x.fact ≠ y.fact
 | [], p, h => ⟨by simp, by simp⟩
 | z :: l, p, h => by
  rw [condB, Bool.and_eq_true, Bool.and_eq_true, decide_eq_true_eq, decide_eq_true_eq] at h
  obtain ⟨⟨h1, h2⟩, h3⟩ := h
  obtain ⟨h4, h5⟩ := cond_apart h3
  refine ⟨fun x hx => ?_, fun j x hx y hy => ?_⟩
  ·rcases List.mem_cons.1 hx with rfl | hx
   ·exact ⟨h1, h2⟩
   ·have := h4 x hx; omega
  ·cases j with
   | zero => simp at hx hy; subst hx; have := h4 y hy; omega
   | succ j => simp at hx hy; exact h5 j x hx y hy
theorem SLoop.step {g : List (List FLit)} {l : List FLit} {w0 : List Int} {left0 : Int} {j : Nat} {set w : List Int} {left : Int} (h : SLoop g l w0 left0 j set w left) {x : FLit} (hx : l[j]? = some x) (hr : inR w0.length x)
  {n : Int} (hc : condB n (-1) l = true) (hv : litV w x = 0) {w' : List Int} {left' : Int} (hp : SPost g (w.set x.fact.toNat (-sgn x)) left false w' left') :
  SLoop g l w0 left0 (j + 1) (set ++ [x.fact]) (w'.set x.fact.toNat (sgn x)) left' := by
 have hr' : inR w.length x := ⟨hr.1, by rw [h.ext.1]; exact hr.2⟩
 have hk : x.fact.toNat < w.length := by have := hr'.1; have := hr'.2; omega
 have h0 : valAt w x.fact = 0 := by unfold litV at hv; split at hv <;> omega
 have hg0 : w[x.fact.toNat]? = some 0 := by rw [valAt_get hr', h0]
 have hs := sgn_ne x
 obtain ⟨rfl, hno⟩ := hp.no rfl
 rw [List.set_set]
 have ho1 := opens_set (s := -sgn x) hg0 (by omega)
 have ho2 := opens_set (s := sgn x) hg0 (by omega)
 have hpow : (2 : Nat) ^ opens w = 2 ^ opens (w.set x.fact.toNat (sgn x)) + 2 ^ opens (w.set x.fact.toNat (sgn x)) := by
  rw [← ho2, Nat.pow_succ]; omega
 have hpe : opens (w.set x.fact.toNat (-sgn x)) = opens (w.set x.fact.toNat (sgn x)) := by omega
 have hlo := hp.lo
 rw [hpe] at hlo
 refine ⟨lt_of_get hx, tri_set h.tri _ (by omega), h.ext.trans (ext_set hg0 _), by rw [List.length_append, List.length_singleton]; have := h.ops; omega, ?_, by have := hp.hi; have := h.hi; omega, ?_, ?_, ?_, ?_⟩
 ·have := h.lo; omega
 ·intro f hf
  rcases List.mem_append.1 hf with hf | hf
  ·exact h.old f hf
  ·rw [List.mem_singleton] at hf; subst hf
   refine ⟨hr.1, hr.2, ?_⟩
   refine h.back _ _ hg0 (fun f hf e => ?_)
   have h3 := h.rest x (by rw [drop_cons hx]; exact List.mem_cons_self) f hf
   have h4 := (h.old f hf).1
   have := hr.1; omega
 ·intro i y e hf
  rcases Go.Ahl.get_set e with ⟨rfl, _⟩ | ⟨hne, e⟩
  ·exact absurd rfl (hf x.fact (by simp))
  ·exact h.back i y e (fun f hq => hf f (List.mem_append_left _ hq))
 ·intro y hy f hf
  rcases List.mem_append.1 hf with hf | hf
  ·exact h.rest y (by rw [drop_cons hx]; exact List.mem_cons_of_mem _ hy) f hf
  ·rw [List.mem_singleton] at hf; subst hf
   exact (cond_apart hc).2 j x hx y hy
 ·intro a hca hga
  obtain ⟨h1, h2⟩ := h.all a hca hga
  have htx : litT a x = true := by
   cases hq : litT a x with
   | true => rfl
   | false =>
    obtain ⟨t, ht, e⟩ := hno a (comp_neg hr' h1 hq)
    rw [hga t ht] at e; exact absurd e (by simp)
  refine ⟨comp_set hr' h1 htx, fun y hy => ?_⟩
  rw [take_succ' hx] at hy
  rcases List.mem_append.1 hy with hy | hy
  ·exact h2 y hy
  ·rw [List.mem_singleton] at hy; subst hy; exact htx
theorem SLoop.ahead {g : List (List FLit)} {l : List FLit} {w0 : List Int} {left0 : Int} {j : Nat} {set w : List Int} {left : Int} (h : SLoop g l w0 left0 j set w left) {x : FLit} (hr : inR w0.length x) (hv : litV w x = 0) (h0 : ((2 ^ opens w0 : Nat) : Int) ≤ left0) :
  Tri (w.set x.fact.toNat (-sgn x)) ∧ opens (w.set x.fact.toNat (-sgn x)) < opens w0 ∧ ((2 ^ opens (w.set x.fact.toNat (-sgn x)) : Nat) : Int) ≤ left ∧ (w.set x.fact.toNat (-sgn x)).length = w0.length := by
 have hr' : inR w.length x := ⟨hr.1, by rw [h.ext.1]; exact hr.2⟩
 have hg0 : valAt w x.fact = 0 := by unfold litV at hv; split at hv <;> omega
 have hg0 : w[x.fact.toNat]? = some 0 := by rw [valAt_get hr', hg0]
 have hs := sgn_ne x
 have ho1 := opens_set (s := -sgn x) hg0 (by omega)
 have hpow : (2 : Nat) ^ opens w = 2 ^ opens (w.set x.fact.toNat (-sgn x)) + 2 ^ opens (w.set x.fact.toNat (-sgn x)) := by
  rw [← ho1, Nat.pow_succ]; omega
 have hpp : 0 < 2 ^ opens (w.set x.fact.toNat (-sgn x)) := Nat.pow_pos (by omega)
 refine ⟨tri_set h.tri _ (by omega), by have := h.ops; omega, by have := h.lo; omega, by rw [List.length_set]; exact h.ext.1⟩
theorem SLoop.done {g : List (List FLit)} {l : List FLit} {w0 : List Int} {left0 : Int} {set w : List Int} {left : Int} (h : SLoop g l w0 left0 l.length set w left) (hl : l ∈ g) (ht : Tri w0) : SPost g w0 left0 false w0 left := by
 refine ⟨ht, .refl _, ?_, h.hi, by simp, fun _ => ⟨rfl, fun a hc => ?_⟩⟩
 ·have := h.lo
  have hpp : 0 < 2 ^ opens w := Nat.pow_pos (by omega)
  omega
 ·by_cases hg : ∀ t ∈ g, termT a t = false
  ·refine ⟨l, hl, ?_⟩
   have h2 := (h.all a hc hg).2
   rw [List.take_length] at h2
   exact List.all_eq_true.2 h2
  ·have ⟨t, hq⟩ := Classical.not_forall.1 hg
   have ⟨h3, h4⟩ := Classical.not_imp.1 hq
   exact ⟨t, h3, by simpa using h4⟩
theorem reducedL_idem {n : Int} {f : List (List FLit)} (hf : vF n f) : reducedL (reducedL f) = reducedL f :=
 strict_unique (reducedL_strict _) (reducedL_strict _) fun x => by
  rw [reducedL_minimal (reducedL_V hf)]
  constructor
  ·exact fun h => h.1
  ·intro h
   exact ⟨h, fun m hm hw => ((reducedL_minimal hf x).1 h).2 m (reducedL_mem hm) hw⟩
def RedF (n : Int) (h : List (List FLit)) : Prop := ∃ k, vF n k ∧ h = reducedL k
theorem RedF.V {n : Int} {h : List (List FLit)} (r : RedF n h) : vF n h := by obtain ⟨k, hk, rfl⟩ := r; exact reducedL_V hk
theorem RedF.good {n : Int} {h : List (List FLit)} (r : RedF n h) (hl : h.length ≤ 400) : goodB n h = true := by
 have hv := r.V
 obtain ⟨k, hk, rfl⟩ := r
 rw [goodB, isForm, refRed_eq hv, reducedL_idem hk]
 have : formB n (reducedL k) = true := List.all_eq_true.2 fun l hl => hv l hl
 rw [this]; simp [hl]
theorem listB_mem : ∀ (w : List Bool) (k : Nat) (x : Int), x ∈ listB k w ↔ ∃ j : Nat, x = ((k + j : Nat) : Int) ∧ w[j]? = some true
 | [], k, x => by simp [listB]
 | b :: w, k, x => by
  have ih := listB_mem w (k + 1) x
  have key : x ∈ listB (k + 1) w ↔ ∃ j : Nat, x = ((k + (j + 1) : Nat) : Int) ∧ (b :: w)[j + 1]? = some true := by
   rw [ih]
   constructor
   ·rintro ⟨j, h1, h2⟩; exact ⟨j, by rw [h1]; omega, by simpa using h2⟩
   ·rintro ⟨j, h1, h2⟩; exact ⟨j, by rw [h1]; omega, by simpa using h2⟩
  rw [listB]
  split
  ·rename_i hb
   rw [List.mem_cons, key]
   constructor
   ·rintro (rfl | ⟨j, h1, h2⟩)
    ·exact ⟨0, by simp, by simp [hb]⟩
    ·exact ⟨j + 1, h1, h2⟩
   ·rintro ⟨j, h1, h2⟩
    cases j with
    | zero => left; simpa using h1
    | succ j => right; exact ⟨j, h1, h2⟩
  ·rename_i hb
   rw [key]
   constructor
   ·rintro ⟨j, h1, h2⟩; exact ⟨j + 1, h1, h2⟩
   ·rintro ⟨j, h1, h2⟩
    cases j with
    | zero => simp at h2; exact absurd h2 hb
    | succ j => exact ⟨j, h1, h2⟩
theorem listB_rising (n : Int) : ∀ (w : List Bool) (k : Nat) (p : Int), p < k → (k : Int) + w.length ≤ n → risingB n p (listB k w) = true
 | [], k, p, h, hn => rfl
 | b :: w, k, p, h, hn => by
  rw [List.length_cons] at hn
  rw [listB]
  split
  ·rw [risingB, Bool.and_eq_true, Bool.and_eq_true]
   exact ⟨⟨by simpa using h, by simp; omega⟩, listB_rising n w (k + 1) k (by omega) (by omega)⟩
  ·exact listB_rising n w (k + 1) p (by omega) (by omega)
theorem afterL_len {n : Nat} (s : List Int) (c : FAct) : (afterL n s c).length ≤ n := by
 have h := listB_rising n (afterB n s c) 0 (-1) (by omega) (by rw [afterB, genB_len]; omega)
 rcases risingB_len _ _ h with h | h
 ·rw [afterL, h]; simp
 ·rw [afterL]; omega
theorem foldI_mem (p : FEff → Bool) (x : Int) : ∀ (es : List FEff) (l : List Int), x ∈ es.foldl (fun l e => if p e then insI l e.lit.fact else l) l ↔ x ∈ l ∨ ∃ e ∈ es, p e = true ∧ e.lit.fact = x
 | [], l => by simp
 | e :: es, l => by
  rw [List.foldl_cons, foldI_mem p x es]
  constructor
  ·rintro (h | ⟨e', he, h⟩)
   ·split at h
    ·rcases insI_mem.1 h with h | rfl
     ·exact .inl h
     ·exact .inr ⟨e, List.mem_cons_self, ‹_›, rfl⟩
    ·exact .inl h
   ·exact .inr ⟨e', List.mem_cons_of_mem _ he, h⟩
  ·rintro (h | ⟨e', he, h1, h2⟩)
   ·left; split
    ·exact insI_mem.2 (.inl h)
    ·exact h
   ·rcases List.mem_cons.1 he with rfl | he
    ·left; rw [if_pos h1]; exact insI_mem.2 (.inr h2.symm)
    ·exact .inr ⟨e', he, h1, h2⟩
theorem foldI_nodup (p : FEff → Bool) : ∀ (es : List FEff) (l : List Int), l.Nodup → (es.foldl (fun l e => if p e then insI l e.lit.fact else l) l).Nodup
 | [], l, h => h
 | e :: es, l, h => by
  rw [List.foldl_cons]
  refine foldI_nodup p es _ ?_
  split
  ·exact insI_nodup h
  ·exact h
theorem hits_iff (s : List Int) (neg : Bool) (es : List FEff) (i : Nat) : hits s neg es i = true ↔ ∃ e ∈ es, condHolds s e.when_ = true ∧ e.lit.neg = neg ∧ e.lit.fact = (i : Int) := by
 unfold hits
 rw [List.any_eq_true]
 constructor
 ·rintro ⟨e, he, h⟩
  simp only [Bool.and_eq_true, beq_iff_eq] at h
  exact ⟨e, he, h.2.2, h.1, h.2.1⟩
 ·rintro ⟨e, he, h1, h2, h3⟩
  exact ⟨e, he, by simp [h1, h2, h3]⟩
theorem addOf_mem {s : List Int} {es : List FEff} {i : Nat} : (i : Int) ∈ addOf s es ↔ hits s false es i = true := by
 rw [hits_iff, addOf, foldI_mem]
 simp only [List.not_mem_nil, false_or, Bool.and_eq_true, Bool.not_eq_true']
 constructor
 ·rintro ⟨e, h, ⟨h1, h2⟩, h3⟩; exact ⟨e, h, h1, h2, h3⟩
 ·rintro ⟨e, h, h1, h2, h3⟩; exact ⟨e, h, ⟨h1, h2⟩, h3⟩
theorem dropOf_mem {s : List Int} {es : List FEff} {i : Nat} : (i : Int) ∈ dropOf s es ↔ hits s true es i = true := by
 rw [hits_iff, dropOf, foldI_mem]
 simp only [List.not_mem_nil, false_or, Bool.and_eq_true]
 constructor
 ·rintro ⟨e, h, ⟨h1, h2⟩, h3⟩; exact ⟨e, h, h1, h2, h3⟩
 ·rintro ⟨e, h, h1, h2, h3⟩; exact ⟨e, h, ⟨h1, h2⟩, h3⟩
theorem afterL_rising (n : Nat) (s : List Int) (a : FAct) : risingB n (-1) (afterL n s a) = true := listB_rising n (afterB n s a) 0 (-1) (by omega) (by rw [afterB, genB_len]; omega)
theorem afterL_mem {n : Nat} {s : List Int} {a : FAct} {i : Nat} : (i : Int) ∈ afterL n s a ↔ i < n ∧ (hits s false a.effects i = true ∨ ((i : Int) ∈ s ∧ ¬ hits s true a.effects i = true)) := by
 rw [afterL, listB_mem]
 constructor
 ·rintro ⟨j, h1, h2⟩
  obtain rfl : j = i := by omega
  have hl := lt_of_get h2
  rw [afterB, genB_len] at hl
  rw [afterB, genB_get hl] at h2
  simp only [Option.some.injEq, Bool.or_eq_true, Bool.and_eq_true, Bool.not_eq_true'] at h2
  refine ⟨hl, ?_⟩
  rcases h2 with h2 | ⟨h2, h3⟩
  ·exact .inl h2
  ·exact .inr ⟨List.contains_iff_mem.1 h2, by rw [h3]; simp⟩
 ·rintro ⟨h1, h2⟩
  refine ⟨i, by simp, ?_⟩
  rw [afterB, genB_get h1]
  simp only [Option.some.injEq, Bool.or_eq_true, Bool.and_eq_true, Bool.not_eq_true']
  rcases h2 with h2 | ⟨h2, h3⟩
  ·exact .inl h2
  ·exact .inr ⟨List.contains_iff_mem.2 h2, by simpa using h3⟩
theorem afterS_eq {n : Nat} {s : List Int} {a : FAct} (hs : risingB n (-1) s = true) (he : ∀ e ∈ a.effects, 0 ≤ e.lit.fact ∧ e.lit.fact < n) : afterS s a.effects = afterL n s a := by
 obtain ⟨hp, hb⟩ := rising_pw hs
 have hadd : ∀ x ∈ addOf s a.effects, 0 ≤ x ∧ x < n := by
  intro x hx
  rw [addOf, foldI_mem] at hx
  rcases hx with hx | ⟨e, h, _, rfl⟩
  ·simp at hx
  ·exact he e h
 have hr := rising_pw (afterL_rising n s a)
 refine sortI_eq ?_ (hr.1.imp (fun h => by omega))
 have hnd : (s.filter (stayS s a.effects) ++ (addOf s a.effects).filter fun x => !(s.contains x)).Nodup := by
  rw [List.nodup_append]
  refine ⟨(hp.imp (fun h => by omega)).filter _, (foldI_nodup _ _ _ .nil).filter _, ?_⟩
  rintro x hx _ hy rfl
  have h1 := (List.mem_filter.1 hx).1
  have h2 := (List.mem_filter.1 hy).2
  rw [List.contains_iff_mem.2 h1] at h2; simp at h2
 rw [List.perm_ext_iff_of_nodup (hr.1.imp (fun h => by omega)) hnd]
 intro x
 have hx0 : (x ∈ afterL n s a → 0 ≤ x) := fun h => by have := (hr.2 x h).1; omega
 by_cases h0 : 0 ≤ x
 ·obtain ⟨i, rfl⟩ : ∃ i : Nat, x = (i : Int) := ⟨x.toNat, by omega⟩
  rw [afterL_mem, List.mem_append, List.mem_filter, List.mem_filter, ← addOf_mem, ← dropOf_mem]
  have hst : stayS s a.effects (i : Int) = true ↔ ¬ (i : Int) ∈ dropOf s a.effects ∨ (i : Int) ∈ addOf s a.effects := by
   unfold stayS; simp
  rw [hst]
  have hsb : (i : Int) ∈ s → i < n := fun h => by have := (hb _ h).2; omega
  have hab : (i : Int) ∈ addOf s a.effects → i < n := fun h => by have := (hadd _ h).2; omega
  have hc : (!(s.contains (i : Int))) = true ↔ ¬ (i : Int) ∈ s := by simp
  rw [hc]
  constructor
  ·rintro ⟨h1, h2 | ⟨h2, h3⟩⟩
   ·by_cases h4 : (i : Int) ∈ s
    ·exact .inl ⟨h4, .inr h2⟩
    ·exact .inr ⟨h2, h4⟩
   ·exact .inl ⟨h2, .inl h3⟩
  ·rintro (⟨h1, h2⟩ | ⟨h1, h2⟩)
   ·refine ⟨hsb h1, ?_⟩
    by_cases h3 : (i : Int) ∈ addOf s a.effects
    ·exact .inl h3
    ·exact .inr ⟨h1, h2.resolve_right h3⟩
   ·exact ⟨hab h1, .inl h1⟩
 ·constructor
  ·intro h; exact absurd (hx0 h) h0
  ·intro h
   rcases List.mem_append.1 h with h | h
   ·have := (hb x (List.mem_filter.1 h).1).1; omega
   ·have := (hadd x (List.mem_filter.1 h).1).1; omega
section
variable {α : Type} (ini : α → Bool) (K : List α → α → Bool)
end
end Go.Proofs.YtcjgoomlaojljaaGreat
namespace Go.Proofs.YtcjgoomlaojljaaGreat
open Go.Ahl
section
variable (L : Int → Int → Bool)
def bkLoop (rec : List Int → List Int → List Int → List (List Int)) (g : List Int) : List Int → List Int → List (List Int)
 | [], _ => []
 | x :: r, tried => rec (g ++ [x]) (r.filter (L x)) (tried.filter (L x)) ++ bkLoop rec g r (tried ++ [x])
def bkHead (g may tried : List Int) : List (List Int) := if may.length = 0 ∧ tried.length = 0 ∧ 1 < g.length then [Ahl.sortI g] else []
def bk : Nat → List Int → List Int → List Int → List (List Int)
 | 0, _, _, _ => []
 | f + 1, g, may, tried => bkHead g may tried ++ bkLoop L (bk f) g may tried
structure BK (n : Int) (g may tried : List Int) : Prop where
 gn : g.Nodup
 gr : ∀ v ∈ g, 0 ≤ v ∧ v < n
 gc : ∀ a ∈ g, ∀ b ∈ g, a ≠ b → L a b = true
 com : ∀ v, (v ∈ may ∨ v ∈ tried) ↔ (0 ≤ v ∧ v < n ∧ v ∉ g ∧ ∀ a ∈ g, L v a = true)
 mn : may.Nodup
 dis : ∀ v ∈ may, v ∉ tried
variable {L}
theorem BK.step (hsym : ∀ a b, L a b = L b a) (hirr : ∀ a, L a a = false) {n : Int} {g r tried : List Int} {x : Int} (h : BK L n g (x :: r) tried) : BK L n (g ++ [x]) (r.filter (L x)) (tried.filter (L x)) := by
 obtain ⟨hx0, hxn, hxg, hxa⟩ := (h.com x).1 (.inl List.mem_cons_self)
 have hnd := List.nodup_cons.1 h.mn
 refine ⟨?_, ?_, ?_, ?_, hnd.2.filter _, ?_⟩
 ·rw [List.nodup_append]
  refine ⟨h.gn, by simp, fun a ha b hb => ?_⟩
  simp only [List.mem_singleton] at hb; subst hb
  rintro rfl; exact hxg ha
 ·intro v hv
  rcases List.mem_append.1 hv with hv | hv
  ·exact h.gr v hv
  ·simp only [List.mem_singleton] at hv; subst hv; exact ⟨hx0, hxn⟩
 ·intro a ha b hb hab
  simp only [List.mem_append, List.mem_singleton] at ha hb
  rcases ha with ha | rfl <;> rcases hb with hb | rfl
  ·exact h.gc a ha b hb hab
  ·rw [hsym]; exact hxa a ha
  ·exact hxa b hb
  ·exact absurd rfl hab
 ·intro v
  rw [List.mem_filter, List.mem_filter]
  constructor
  ·intro hv
   have hL : L x v = true := by rcases hv with hv | hv <;> exact hv.2
   have hvm : v ∈ x :: r ∨ v ∈ tried := by
    rcases hv with hv | hv
    ·exact .inl (List.mem_cons_of_mem _ hv.1)
    ·exact .inr hv.1
   obtain ⟨h1, h2, h3, h4⟩ := (h.com v).1 hvm
   have hvx : v ≠ x := by rintro rfl; rw [hirr] at hL; simp at hL
   refine ⟨h1, h2, by simp [h3, hvx], ?_⟩
   intro a ha
   rcases List.mem_append.1 ha with ha | ha
   ·exact h4 a ha
   ·simp only [List.mem_singleton] at ha; subst ha; rw [hsym]; exact hL
  ·rintro ⟨h1, h2, h3, h4⟩
   simp only [List.mem_append, List.mem_singleton, not_or] at h3
   have hL : L x v = true := by rw [hsym]; exact h4 x (by simp)
   rcases (h.com v).2 ⟨h1, h2, h3.1, fun a ha => h4 a (List.mem_append_left _ ha)⟩ with hv | hv
   ·rcases List.mem_cons.1 hv with rfl | hv
    ·exact absurd rfl h3.2
    ·exact .inl ⟨hv, hL⟩
   ·exact .inr ⟨hv, hL⟩
 ·intro v hv hv'
  exact h.dis v (List.mem_cons_of_mem _ (List.mem_filter.1 hv).1) (List.mem_filter.1 hv').1
theorem BK.next {n : Int} {g r tried : List Int} {x : Int} (h : BK L n g (x :: r) tried) : BK L n g r (tried ++ [x]) := by
 have hnd := List.nodup_cons.1 h.mn
 refine ⟨h.gn, h.gr, h.gc, fun v => ?_, hnd.2, fun v hv hv' => ?_⟩
 ·rw [← h.com v]
  simp only [List.mem_cons, List.mem_append, List.not_mem_nil, or_false]
  constructor
  ·rintro (h | h | h)
   ·exact .inl (.inr h)
   ·exact .inr h
   ·exact .inl (.inl h)
  ·rintro ((h | h) | h)
   ·exact .inr (.inr h)
   ·exact .inl h
   ·exact .inr (.inl h)
 ·rcases List.mem_append.1 hv' with h' | h'
  ·exact h.dis v (List.mem_cons_of_mem _ hv) h'
  ·simp only [List.mem_singleton] at h'; subst h'; exact hnd.1 hv
end
def cmpInts : List Int → List Int → Int
 | [], [] => 0
 | [], _ :: _ => -1
 | _ :: _, [] => 1
 | a :: l, b :: r => if a < b then -1 else if b < a then 1 else cmpInts l r
theorem cmpInts_refl : ∀ a, cmpInts a a = 0
 | [] => rfl
 | x :: l => by rw [cmpInts, if_neg (by omega), if_neg (by omega), cmpInts_refl l]
theorem cmpInts_anti : ∀ {a b : List Int}, cmpInts a b = 0 → a = b
 | [], [], _ => rfl
 | [], _ :: _, h => by simp [cmpInts] at h
 | _ :: _, [], h => by simp [cmpInts] at h
 | x :: l, y :: r, h => by
  rw [cmpInts] at h
  split at h
  ·omega
  ·split at h
   ·omega
   ·rw [cmpInts_anti h]; congr 1; omega
theorem cmpInts_swap : ∀ {a b : List Int}, cmpInts a b < 0 ↔ 0 < cmpInts b a
 | [], [] => by simp [cmpInts]
 | [], _ :: _ => by simp [cmpInts]
 | _ :: _, [] => by simp [cmpInts]
 | x :: l, y :: r => by
  rw [cmpInts, cmpInts]
  by_cases h1 : x < y
  ·rw [if_pos h1, if_neg (by omega), if_pos h1]; omega
  ·rw [if_neg h1]
   by_cases h2 : y < x
   ·rw [if_pos h2, if_pos h2]; omega
   ·rw [if_neg h2, if_neg h2, if_neg h1]; exact cmpInts_swap
theorem cmpInts_trans : ∀ {a b c : List Int}, cmpInts a b < 0 → cmpInts b c < 0 → cmpInts a c < 0
 | [], [], _, h, _ => by simp [cmpInts] at h
 | [], _ :: _, [], _, k => by simp [cmpInts] at k
 | [], _ :: _, _ :: _, _, _ => by simp [cmpInts]
 | _ :: _, [], _, h, _ => by simp [cmpInts] at h
 | _ :: _, _ :: _, [], _, k => by simp [cmpInts] at k
 | x :: l, y :: r, z :: t, h, k => by
  rw [cmpInts] at h k ⊢
  by_cases h1 : x < y
  ·by_cases k1 : y < z
   ·rw [if_pos (by omega)]; omega
   ·rw [if_neg k1] at k
    by_cases k2 : z < y
    ·rw [if_pos k2] at k; omega
    ·rw [if_pos (by omega)]; omega
  ·rw [if_neg h1] at h
   by_cases h2 : y < x
   ·rw [if_pos h2] at h; omega
   ·rw [if_neg h2] at h
    by_cases k1 : y < z
    ·rw [if_pos (by omega)]; omega
    ·rw [if_neg k1] at k
     by_cases k2 : z < y
     ·rw [if_pos k2] at k; omega
     ·rw [if_neg k2] at k
      rw [if_neg (by omega), if_neg (by omega)]; exact cmpInts_trans h k
def ltL (a b : List Int) : Prop := cmpInts a b < 0
theorem ltL_irrefl (a : List Int) : ¬ ltL a a := by unfold ltL; rw [cmpInts_refl]; omega
theorem ltL_unique : ∀ {a b : List (List Int)}, a.Pairwise ltL → b.Pairwise ltL → (∀ x, x ∈ a ↔ x ∈ b) → a = b
 | [], [], _, _, _ => rfl
 | [], y :: b, _, _, h => by have := (h y).2 List.mem_cons_self; simp at this
 | x :: a, [], _, _, h => by have := (h x).1 List.mem_cons_self; simp at this
 | x :: a, y :: b, ha, hb, h => by
  obtain ⟨ha1, ha2⟩ := List.pairwise_cons.1 ha
  obtain ⟨hb1, hb2⟩ := List.pairwise_cons.1 hb
  have hxy : x = y := by
   rcases List.mem_cons.1 ((h x).1 List.mem_cons_self) with e | e
   ·exact e
   ·rcases List.mem_cons.1 ((h y).2 List.mem_cons_self) with e' | e'
    ·exact e'.symm
    ·exact absurd (cmpInts_trans (hb1 x e) (ha1 y e')) (ltL_irrefl y)
  subst hxy
  rw [ltL_unique ha2 hb2 fun z => ?_]
  constructor
  ·intro hz
   rcases List.mem_cons.1 ((h z).1 (List.mem_cons_of_mem _ hz)) with rfl | e
   ·exact absurd (ha1 z hz) (ltL_irrefl z)
   ·exact e
  ·intro hz
   rcases List.mem_cons.1 ((h z).2 (List.mem_cons_of_mem _ hz)) with rfl | e
   ·exact absurd (hb1 z hz) (ltL_irrefl z)
   ·exact e
def insAt (l : List (List Int)) (s : List Int) : Nat := (l.takeWhile fun x => decide (cmpInts x s < 0)).length
def insL (l : List (List Int)) (s : List Int) : List (List Int) := l.take (insAt l s) ++ [s] ++ l.drop (insAt l s)
theorem insL_mem {l : List (List Int)} {s x : List Int} : x ∈ insL l s ↔ x ∈ l ∨ x = s := by
 unfold insL
 rw [List.mem_append, List.mem_append, List.mem_singleton]
 constructor
 ·rintro ((h | h) | h)
  ·exact .inl (List.mem_of_mem_take h)
  ·exact .inr h
  ·exact .inl (List.mem_of_mem_drop h)
 ·rintro (h | h)
  ·rw [← List.take_append_drop (insAt l s) l, List.mem_append] at h
   rcases h with h | h
   ·exact .inl (.inl h)
   ·exact .inr h
  ·exact .inl (.inr h)
theorem insL_cons (x : List Int) (l : List (List Int)) (s : List Int) : insL (x :: l) s = if cmpInts x s < 0 then x :: insL l s else s :: x :: l := by
 unfold insL insAt
 rw [List.takeWhile_cons]
 by_cases h : cmpInts x s < 0
 ·simp [h]
 ·simp [h]
theorem insL_strict : ∀ {l : List (List Int)} {s : List Int}, l.Pairwise ltL → s ∉ l → (insL l s).Pairwise ltL
 | [], s, _, _ => by simp [insL, insAt]
 | x :: l, s, h, hs => by
  obtain ⟨h1, h2⟩ := List.pairwise_cons.1 h
  rw [insL_cons]
  have hsx : s ≠ x := fun e => hs (by rw [e]; exact List.mem_cons_self)
  split
  ·rename_i hx
   refine List.pairwise_cons.2 ⟨fun y hy => ?_, insL_strict h2 (fun q => hs (List.mem_cons_of_mem _ q))⟩
   rcases insL_mem.1 hy with hy | rfl
   ·exact h1 y hy
   ·exact hx
  ·rename_i hx
   have hlt : cmpInts s x < 0 := by
    rcases Int.lt_trichotomy (cmpInts x s) 0 with q | q | q
    ·exact absurd q hx
    ·exact absurd (cmpInts_anti q).symm hsx
    ·exact cmpInts_swap.2 q
   refine List.pairwise_cons.2 ⟨fun y hy => ?_, h⟩
   rcases List.mem_cons.1 hy with rfl | hy
   ·exact hlt
   ·exact cmpInts_trans hlt (h1 y hy)
end Go.Proofs.YtcjgoomlaojljaaGreat
namespace Go.Proofs
open Go.Shelf Go.RowKit Go.Lib Go.Sort
def YtcjgoomlaojljaaGreat.laysLL_ren : Go.Shelf.Ren := ⟨fun | 6 => 61 | 15 => 60 | 14 => 99 | 28 => 97 | 29 => 98 | 20 => 114 | 21 => 115 | 22 => 116 | 23 => 117 | 24 => 118 | 25 => 119 | 26 => 120 | 27 => 121 | 46 => 128 | 47 => 109 | 48 => 110 | 49 => 129 | 50 => 130 | 57 => 131 | n => n, fun | 22 => 28 | 24 => 23 | 25 => 111 | 3 => 3 | 39 => 109 | 0 => 0 | 53 => 144 | 55 => 146 | 4 => 4 | 46 => 137 | 45 => 136 | 50 => 54 | 5 => 5 | 9 => 9 | 66 => 154 | 70 => 158 | 76 => 166 | 77 => 167 | n => n, fun | n => n⟩
theorem YtcjgoomlaojljaaGreat.laysLL : Go.Proofs.SlLaysF.n6 Tryz.prog YtcjgoomlaojljaaGreat.laysLL_ren := {
 mixed := by kernel_rfl
 f6 := ⟨Tryz.f61.name, by decide, Tryz.func61.trans (congrArg some (by kernel_rfl))⟩
 f14 := ⟨Tryz.f99.name, by decide, Tryz.func99.trans (congrArg some (by kernel_rfl))⟩
 f15 := Tryz.func60.trans (congrArg some (by kernel_rfl))
 f20 := ⟨Tryz.f114.name, by decide, Tryz.func114.trans (congrArg some (by kernel_rfl))⟩
 f21 := ⟨Tryz.f115.name, by decide, Tryz.func115.trans (congrArg some (by kernel_rfl))⟩
 f22 := ⟨Tryz.f116.name, by decide, Tryz.func116.trans (congrArg some (by kernel_rfl))⟩
 f23 := ⟨Tryz.f117.name, by decide, Tryz.func117.trans (congrArg some (by kernel_rfl))⟩
 f24 := ⟨Tryz.f118.name, by decide, Tryz.func118.trans (congrArg some (by kernel_rfl))⟩
 f25 := ⟨Tryz.f119.name, by decide, Tryz.func119.trans (congrArg some (by kernel_rfl))⟩
 f26 := ⟨Tryz.f120.name, by decide, Tryz.func120.trans (congrArg some (by kernel_rfl))⟩
 f27 := ⟨Tryz.f121.name, by decide, Tryz.func121.trans (congrArg some (by kernel_rfl))⟩
 f28 := Tryz.func97.trans (congrArg some (by kernel_rfl))
 f29 := Tryz.func98.trans (congrArg some (by kernel_rfl))
 f46 := ⟨Tryz.f128.name, by decide, Tryz.func128.trans (congrArg some (by kernel_rfl))⟩
 f47 := Tryz.func109.trans (congrArg some (by kernel_rfl))
 f48 := Tryz.func110.trans (congrArg some (by kernel_rfl))
 f49 := ⟨Tryz.f129.name, by decide, Tryz.func129.trans (congrArg some (by kernel_rfl))⟩
 f50 := ⟨Tryz.f130.name, by decide, Tryz.func130.trans (congrArg some (by kernel_rfl))⟩
 f57 := ⟨Tryz.f131.name, by decide, Tryz.func131.trans (congrArg some (by kernel_rfl))⟩
 t0 := Tryz.underlying0
 a0 := Tryz.isAgg0
 z0 := Tryz.sizeOf0
 v0 := Tryz.zeroValue0
 t3 := Tryz.underlying3
 a3 := Tryz.isAgg3
 z3 := Tryz.sizeOf3
 v3 := Tryz.zeroValue3
 t4 := Tryz.underlying4
 a4 := Tryz.isAgg4
 z4 := Tryz.sizeOf4
 v4 := Tryz.zeroValue4
 t5 := Tryz.underlying5
 a5 := Tryz.isAgg5
 z5 := Tryz.sizeOf5
 v5 := Tryz.zeroValue5
 t9 := Tryz.underlying9
 a9 := Tryz.isAgg9
 z9 := Tryz.sizeOf9
 v9 := Tryz.zeroValue9
 t22 := Tryz.underlying28
 a22 := Tryz.isAgg28
 z22 := Tryz.sizeOf28
 v22 := Tryz.zeroValue28
 a24 := Tryz.isAgg23
 z24 := Tryz.sizeOf23
 t25 := Tryz.underlying111
 a25 := Tryz.isAgg111
 z25 := Tryz.sizeOf111
 v25 := Tryz.zeroValue111
 t39 := Tryz.underlying109
 a39 := Tryz.isAgg109
 z39 := Tryz.sizeOf109
 v39 := Tryz.zeroValue109
 t45 := Tryz.underlying136
 a45 := Tryz.isAgg136
 z45 := Tryz.sizeOf136
 v45 := Tryz.zeroValue136
 t46 := Tryz.underlying137
 a46 := Tryz.isAgg137
 z46 := Tryz.sizeOf137
 v46 := Tryz.zeroValue137
 t50 := Tryz.underlying54
 a50 := Tryz.isAgg54
 z50 := Tryz.sizeOf54
 v50 := Tryz.zeroValue54
 t53 := Tryz.underlying144
 a53 := Tryz.isAgg144
 z53 := Tryz.sizeOf144
 v53 := Tryz.zeroValue144
 t55 := Tryz.underlying146
 a55 := Tryz.isAgg146
 z55 := Tryz.sizeOf146
 v55 := Tryz.zeroValue146
 t66 := Tryz.underlying154
 a66 := Tryz.isAgg154
 z66 := Tryz.sizeOf154
 v66 := Tryz.zeroValue154
 t70 := Tryz.underlying158
 a70 := Tryz.isAgg158
 z70 := Tryz.sizeOf158
 v70 := Tryz.zeroValue158
 t76 := Tryz.underlying166
 a76 := Tryz.isAgg166
 z76 := Tryz.sizeOf166
 v76 := Tryz.zeroValue166
 t77 := Tryz.underlying167
 a77 := Tryz.isAgg167
 z77 := Tryz.sizeOf167
 v77 := Tryz.zeroValue167 }
end Go.Proofs
namespace Go.Proofs.YtcjgoomlaojljaaGreat
open Go.Ahl
def c_cmpI : CCode := .seq (.ops [oS 4 (.move (.lit (.int .i64 0)))]) (.seq (.ops [oS 7 (.move (.tmp 0)), oS 8 (.call (.lit (.func 113 [])) [.tmp 7]), oS 5 (.move (.tmp 8))]) (.seq (.ops [oS 9 (.move (.tmp 1)), oS 10 (.call (.lit (.func 113 [])) [.tmp 9]), oS 6 (.move (.tmp 10))]) (.seq (.seq (.ops [oS 11 (.move (.tmp 5))]) (.cond (.tmp 11) (.seq (.seq (.ops [oS 12 (.move (.tmp 6))]) (.cond (.tmp 12) (.seq (.ops [oS 4 (.move (.lit (.int .i64 0)))]) .ret) .skip)) (.seq (.ops [oS 4 (.move (.lit (.int .i64 (-1))))]) .ret)) .skip)) (.seq (.seq (.ops [oS 13 (.move (.tmp 6))]) (.cond (.tmp 13) (.seq (.ops [oS 4 (.move (.lit (.int .i64 1)))]) .ret) .skip)) (.seq (.seq (.ops [oS 14 (.move (.tmp 0)), oS 15 (.move (.tmp 1)), oS 16 (.bin .lss .none (.tmp 14) (.tmp 15))]) (.cond (.tmp 16) (.seq (.ops [oS 4 (.move (.lit (.int .i64 (-1))))]) .ret) .skip)) (.seq (.seq (.ops [oS 17 (.move (.tmp 0)), oS 18 (.move (.tmp 1)), oS 19 (.bin .gtr .none (.tmp 17) (.tmp 18))]) (.cond (.tmp 19) (.seq (.ops [oS 4 (.move (.lit (.int .i64 1)))]) .ret) .skip)) (.seq (.ops [oS 4 (.move (.lit (.int .i64 0)))]) .ret)))))))
theorem cmpI_spec (x y : Int) (σ : Store) : ACalls Tryz.prog 100 [.int .i64 x, .int .i64 y] σ (isR (.int .i64 (if x < y then -1 else if y < x then 1 else 0)) σ) := by
 refine ACalls.intro (rs := [(.tmp 4)]) (by kernel_rfl) { own := [], ghosts := [] } Tryz.func100 (c := Tryz.f100.body.getD .skip) (by kernel_rfl) (by decide) (by rw [show Tryz.f100.ntmps = 20 by kernel_rfl]; exact Nat.le_of_ble_eq_true rfl) (by kernel_rfl) ?_
 intro hσ hids
 rw [show comp Tryz.prog { own := [], ghosts := [] } (Tryz.f100.body.getD .skip) = c_cmpI by kernel_rfl, show Tryz.f100.ntmps = 20 by kernel_rfl]
 unfold c_cmpI
 simp only [go_sem, simprocAttr]
 refine (cNaN_spec x σ).is ?_
 simp only [go_sem, simprocAttr]
 refine (cNaN_spec y σ).is ?_
 simp only [go_sem, simprocAttr]
 by_cases h1 : x < y
 ·simp only [go_sem, simprocAttr, h1]
  exact rt (.int .i64 (-1)) ⟨rfl, rfl⟩
 ·by_cases h2 : x > y
  ·simp only [go_sem, simprocAttr, h1, h2]
   exact rt (.int .i64 1) ⟨rfl, rfl⟩
  ·simp only [go_sem, simprocAttr, h1, h2]
   exact rt (.int .i64 0) ⟨rfl, rfl⟩
def c_slCmp : CCode := .seq (.ops [oS 4 (.move (.lit (.int .i64 0)))]) (.seq (.seq (.ops [oS 9 (.move (.tmp 0)), oS 10 (.blen 1 (.tmp 9)), oS 11 (.move (.lit (.int .i64 0)))]) (.block 0 (.loop (.seq (.ops [oS 12 (.bin .lss .none (.tmp 11) (.tmp 10))]) (.seq (.cond (.tmp 12) .skip (.exit 0)) (.seq (.block 1 (.seq (.ops [oS 13 (.move (.tmp 11)), oS 14 (.iaddr 1 (.tmp 9) (.tmp 11)), oS 15 (.load none (.tmp 14)), oS 5 (.move (.tmp 13)), oS 6 (.move (.tmp 15))]) (.seq (.seq (.ops [oS 16 (.move (.tmp 5)), oS 17 (.move (.tmp 1)), oS 18 (.blen 1 (.tmp 17)), oS 19 (.bin .geq .none (.tmp 16) (.tmp 18))]) (.cond (.tmp 19) (.seq (.ops [oS 4 (.move (.lit (.int .i64 1)))]) .ret) .skip)) (.seq (.ops [oS 20 (.move (.tmp 1)), oS 21 (.move (.tmp 5)), oS 22 (.iaddr 1 (.tmp 20) (.tmp 21)), oS 23 (.load none (.tmp 22)), oS 7 (.move (.tmp 23))]) (.seq (.ops [oS 24 (.move (.tmp 6)), oS 25 (.move (.tmp 7)), oS 26 (.call (.lit (.func 100 [])) [.tmp 24, .tmp 25]), oS 8 (.move (.tmp 26))]) (.seq (.ops [oS 27 (.move (.tmp 8)), oS 28 (.bin .neq .none (.tmp 27) (.lit (.int .i64 0)))]) (.cond (.tmp 28) (.seq (.ops [oS 29 (.move (.tmp 8)), oS 4 (.move (.tmp 29))]) .ret) .skip))))))) (.ops [oS 30 (.bin .add .none (.tmp 11) (.lit (.int .i64 1))), oS 11 (.move (.tmp 30))]))))))) (.seq (.seq (.ops [oS 31 (.move (.tmp 0)), oS 32 (.blen 1 (.tmp 31)), oS 33 (.move (.tmp 1)), oS 34 (.blen 1 (.tmp 33)), oS 35 (.bin .lss .none (.tmp 32) (.tmp 34))]) (.cond (.tmp 35) (.seq (.ops [oS 4 (.move (.lit (.int .i64 (-1))))]) .ret) .skip)) (.seq (.ops [oS 4 (.move (.lit (.int .i64 0)))]) .ret)))
theorem slCmp_spec (l m : List Int) (tok tok' : Tok) (σ : Store) (hl : l.length ≤ 140737488355328) (hm : m.length ≤ 140737488355328) :
  ACalls Tryz.prog 62 [.slice tok (l.map Ahl.encI), .slice tok' (m.map Ahl.encI)] σ (isR (.int .i64 (cmpInts l m)) σ) := by
 refine ACalls.intro (rs := [(.tmp 4)]) (by kernel_rfl) { own := [], ghosts := [] } Tryz.func62 (c := Tryz.f62.body.getD .skip) (by kernel_rfl) (by decide) (by rw [show Tryz.f62.ntmps = 36 by kernel_rfl]; exact Nat.le_of_ble_eq_true rfl) (by kernel_rfl) ?_
 intro hσ hids
 rw [show comp Tryz.prog { own := [], ghosts := [] } (Tryz.f62.body.getD .skip) = c_slCmp by kernel_rfl, show Tryz.f62.ntmps = 36 by kernel_rfl]
 unfold c_slCmp
 have hil : Ids σ.length (.slice tok (l.map Ahl.encI)) := hids _ (by simp)
 have him : Ids σ.length (.slice tok' (m.map Ahl.encI)) := hids _ (by simp)
 simp only [go_sem, simprocAttr]
 refine wpc_while (fun (i : Nat) => [(0, .slice tok (l.map Ahl.encI)), (1, .slice tok' (m.map Ahl.encI)), (9, .slice tok (l.map Ahl.encI)), (10, .int .i64 l.length), (11, .int .i64 i)]) (fun _ => σ) (fun i => i ≤ l.length ∧ i ≤ m.length ∧ cmpInts l m = cmpInts (l.drop i) (m.drop i)) (fun i => l.length - i) 0 ⟨Nat.zero_le _, Nat.zero_le _, rfl⟩ (by (try dsimp only); exact ghA) ?_
 rintro i ⟨hi, hi2, hv⟩ K hK hE hR
 by_cases h : i < l.length
 ·obtain ⟨x, hx⟩ := get_ex h; have hlt : ((i : Int) < (l.length : Int)) := (by omega); have hw := wrapS (i := i) (by omega)
  by_cases h2 : i < m.length
  ·obtain ⟨y, hy⟩ := get_ex h2
   have hge : ¬ ((i : Int) ≥ (m.length : Int)) := by omega
   rw [drop_cons hx, drop_cons hy, cmpInts] at hv
   simp only [go_sem, simprocAttr, hlt, hge, hx, hy, Ahl.encI]
   refine (cmpI_spec x y σ).is ?_
   by_cases h3 : x < y
   ·rw [if_pos h3] at hv ⊢
    have hne : ((-1 : Int) != 0) = true := rfl
    simp only [go_sem, simprocAttr, hne, hR]
    exact rt (.int .i64 (-1)) ⟨by rw [hv], rfl⟩
   ·by_cases h4 : y < x
    ·rw [if_neg h3, if_pos h4] at hv ⊢
     have hne : ((1 : Int) != 0) = true := rfl
     simp only [go_sem, simprocAttr, hne, hR]
     exact rt (.int .i64 1) ⟨by rw [hv], rfl⟩
    ·rw [if_neg h3, if_neg h4] at hv ⊢
     have hne : ((0 : Int) != 0) = false := rfl
     simp only [go_sem, simprocAttr, hne]
     refine hK _ _ (i + 1) (⟨by omega, by omega, hv⟩) om ?_; (try dsimp only); (try simp only [ hw]); exact ghA
  ·have hge : ((i : Int) ≥ (m.length : Int)) := by omega
   rw [drop_cons hx, drop_len h2] at hv
   simp only [go_sem, simprocAttr, hlt, hge, hx, hR, Ahl.encI]
   exact rt (.int .i64 1) ⟨by rw [hv]; rfl, rfl⟩
 ·have hlt : ¬ ((i : Int) < (l.length : Int)) := by omega
  rw [drop_len h] at hv
  by_cases h2 : (l.length : Int) < (m.length : Int)
  ·obtain ⟨y, hy⟩ := get_ex (show i < m.length by omega)
   rw [drop_cons hy] at hv
   simp only [go_sem, simprocAttr, hlt, hE, h2]
   exact rt (.int .i64 (-1)) ⟨by rw [hv]; rfl, rfl⟩
  ·rw [drop_len (show ¬ i < m.length by omega)] at hv
   simp only [go_sem, simprocAttr, hlt, hE, h2]
   exact rt (.int .i64 0) ⟨by rw [hv]; rfl, rfl⟩
theorem cmpInts_total {a b : List Int} (h : ¬ cmpInts a b < 0) : cmpInts b a < 0 ∨ a = b := by
 rcases Int.lt_trichotomy (cmpInts a b) 0 with q | q | q
 ·exact absurd q h
 ·exact .inr (cmpInts_anti q)
 ·exact .inl (cmpInts_swap.2 q)
end Go.Proofs.YtcjgoomlaojljaaGreat
namespace Go.Ahl
theorem own_row (l : Loc) (a b : List AV) : own l (.row a) = own l (.row b) := by cases l <;> rfl
theorem SRel.trunc {m : Mem} {loc : List Loc} {σ : Store} {w : World} (h : SRel m loc σ w) (id k : Nat) {cells : List AV} (hs : σ[id]? = some (.row cells)) : SRel m loc (σ.set id (.row (cells.take k))) w where
 len := by simp [h.len]
 im := h.im
 bs := h.bs
 obj := by
  intro i l o h1 h2
  rcases get_set h2 with ⟨rfl, rfl⟩ | ⟨_, h2⟩
  ·have := h.obj _ l _ h1 hs
   cases l with
   | nowhere => have e : cells = [] := this; subst e; show List.take k [] = []; simp
   | tok sz f => exact this.elim
   | blk b =>
    obtain ⟨arr, t, h1, h2, h3, h4, h5⟩ := this
    exact ⟨arr, t, h1, h2, Nat.le_trans (by rw [List.length_take]; omega) h3, fun j x v e1 e2 => h4 j x v (get_take e1).2 e2, h5⟩
  ·exact h.obj i l o h1 h2
 inj := by
  intro i j l l' o o' b h1 h2 h3 h4 w1 w2
  have fix : ∀ {i : Nat} {l : Loc} {o : AObj}, (σ.set id (.row (cells.take k)))[i]? = some o → own l o = some b → ∃ o2, σ[i]? = some o2 ∧ own l o2 = some b := by
   intro i l o h3 w1
   rcases get_set h3 with ⟨rfl, rfl⟩ | ⟨_, h3⟩
   ·exact ⟨_, hs, by rw [own_row l cells (cells.take k)]; exact w1⟩
   ·exact ⟨_, h3, w1⟩
  obtain ⟨o2, q1, q2⟩ := fix h3 w1
  obtain ⟨o3, q3, q4⟩ := fix h4 w2
  exact h.inj i j l l' o2 o3 b h1 h2 q1 q3 q2 q4
 lt := h.lt
 mp := h.mp
 mpo := by
  intro i l o b h1 h2 w1
  rcases get_set h2 with ⟨rfl, rfl⟩ | ⟨_, h2⟩
  ·exact h.mpo _ l _ b h1 hs (by rw [own_row l cells (cells.take k)]; exact w1)
  ·exact h.mpo i l o b h1 h2 w1
 ok := h.ok
theorem Ghost.trunc {n0 nt : Nat} {s : Slots} {σ : Store} (id k : Nat) {cells : List AV} (hs : σ[id]? = some (.row cells)) : Ghost n0 nt s σ s (σ.set id (.row (cells.take k))) :=
 fun m loc w t _ h1 h2 => ⟨m, loc, h1.trunc id k hs, h2, .refl _ _ _ _⟩
theorem ACalls.to {P : Program} {f : FuncId} {args : List AV} {σ τ : Store} {v : AV} {K : Cont} (h : ACalls P f args σ (isR v τ)) (k : K v τ) : ACalls P f args σ K :=
 h.mono fun r σ' hr => by obtain ⟨rfl, rfl⟩ := hr; exact k
theorem ACalls.ghost {P : Program} {f : FuncId} {args : List AV} {σ τ τ' : Store} {a b : AV} (h : ACalls P f args σ (isR a τ)) (hg : IdsS σ.length σ → Ghost σ.length 1 [(0, a)] τ [(0, b)] τ') : ACalls P f args σ (isR b τ') := by
 intro m loc w vs hs ha
 have key : ∀ v w', ARet loc m w (isR a τ) v w' → ARet loc m w (isR b τ') v w' := by
  rintro v w' ⟨r, σ', m', loc', ⟨rfl, rfl⟩, h2, h3, h4⟩
  have hn : σ.length ≤ loc'.length := by
   have := h4.len (Nat.le_refl _)
   rw [← hs.len]; exact this
  obtain ⟨m2, loc2, g1, g2, g3⟩ := hg hs.ids m' loc' w' #[v] hn h3 ⟨rfl, fun i => by
   cases i with
   | zero => exact h2
   | succ i => exact .any _⟩
  refine ⟨b, τ', m2, loc2, ⟨rfl, rfl⟩, g2.rel 0, g1, ?_⟩
  rw [← hs.len] at g3
  exact h4.trans g3
 rcases h m loc w vs hs ha with ⟨fn, h1, h2, h3, h4⟩ | ⟨v, w', h1, h2⟩
 ·exact .inl ⟨fn, h1, h2, h3, h4.mono fun e w' ⟨v, e1, e2⟩ => ⟨v, e1, key _ _ e2⟩⟩
 ·exact .inr ⟨v, w', h1, key _ _ h2⟩
end Go.Ahl
namespace Go.Ahl
theorem SRel.right {m : Mem} {loc : List Loc} {σ : Store} {w : World} (h : SRel m loc σ w) (n0 sz len : Nat) {b i0 : Nat} {arr : Array Value} {ty : TypeId} (hl : loc[i0]? = some (.blk b)) (h1 : w.heap[b]? = some (.cells arr ty (0, 0))) (h2 : m.bs b = some arr.size)
  (h3 : ∀ o, sz * len ≤ o → m.im b o = none) (hno : ∀ (i : Nat) l o, loc[i]? = some l → σ[i]? = some o → own l o ≠ some b) :
  SRel m (loc ++ [.tok sz fun k => if k = len then some (some b) else none]) (σ ++ [.grow sz len]) w ∧ Ext n0 m loc w m (loc ++ [.tok sz fun k => if k = len then some (some b) else none]) w := by
 have hfl : (fun k => if k = len then some (some b) else none : Nat → Option (Option Nat)) len = some (some b) := by simp
 have hown : ∀ b', own (.tok sz fun k => if k = len then some (some b) else none) (.grow sz len) = some b' → b' = b := by
  intro b' e; simp [own] at e; exact e.symm
 have hnam : ∀ b', Names (loc ++ [.tok sz fun k => if k = len then some (some b) else none]) b' → Names loc b' := by
  intro b' e
  rcases e.app with e | e | ⟨sz', f, k, e, hk⟩
  ·exact e
  ·simp at e
  ·injection e with e1 e2
   subst e2
   simp only at hk
   split at hk
   ·simp at hk; subst hk; exact ⟨i0, .inl hl⟩
   ·simp at hk
 refine ⟨⟨by simp [h.len], h.im, h.bs, ?_, ?_, fun b' e => h.lt b' (hnam b' e), h.mp, ?_, h.ok.names hnam⟩, ⟨rfl, rfl, rfl, Nat.le_refl _, Nat.le_refl _, .refl m, .app _ _ _, fun b' e => .inl (hnam b' e), fun _ _ _ _ => rfl, fun _ _ _ e => .inl e⟩⟩
 ·intro i l o e1 e2
  rcases get_app e1 with e1 | ⟨hi, e1⟩
  ·rcases get_app e2 with e2 | ⟨hi2, e2⟩
   ·exact (h.obj i l o e1 e2).mono (.refl m) (.app _ _ _) (fun _ _ => rfl) (fun _ _ _ => rfl)
   ·have := lt_of_get e1; have := h.len; omega
  ·rcases get_app e2 with e2 | ⟨hi2, e2⟩
   ·have := lt_of_get e2; have := h.len; omega
   ·subst e1; subst e2
    exact ⟨rfl, fun k hk => by show (if k = len then some (some b) else none) = none; rw [if_neg (by omega)], .inr ⟨b, arr, ty, hfl, h1, h2, h3⟩⟩
 ·intro i j l1 l2 o1 o2 b' e1 e2 e3 e4 w1 w2
  rcases get_app e1 with f1 | ⟨hi, f1⟩ <;> rcases get_app e2 with f2 | ⟨hj, f2⟩
  ·rcases get_app e3 with f3 | ⟨hi3, f3⟩
   ·rcases get_app e4 with f4 | ⟨hi4, f4⟩
    ·exact h.inj i j l1 l2 o1 o2 b' f1 f2 f3 f4 w1 w2
    ·have := lt_of_get f2; have := h.len; omega
   ·have := lt_of_get f1; have := h.len; omega
  ·rcases get_app e3 with f3 | ⟨hi3, f3⟩
   ·rcases get_app e4 with f4 | ⟨hi4, f4⟩
    ·have := lt_of_get f4; have := h.len; omega
    ·subst f2; subst f4
     have := hown _ w2; subst this
     exact absurd w1 (hno i l1 o1 f1 f3)
   ·have := lt_of_get f1; have := h.len; omega
  ·rcases get_app e4 with f4 | ⟨hi4, f4⟩
   ·rcases get_app e3 with f3 | ⟨hi3, f3⟩
    ·have := lt_of_get f3; have := h.len; omega
    ·subst f1; subst f3
     have := hown _ w1; subst this
     exact absurd w2 (hno j l2 o2 f2 f4)
   ·have := lt_of_get f2; have := h.len; omega
  ·omega
 ·intro i l o b' e1 e2 w1
  rcases get_app e1 with e1 | ⟨hi, e1⟩
  ·rcases get_app e2 with e2 | ⟨hi2, e2⟩
   ·exact h.mpo i l o b' e1 e2 w1
   ·have := lt_of_get e1; have := h.len; omega
  ·rcases get_app e2 with e2 | ⟨hi2, e2⟩
   ·have := lt_of_get e2; have := h.len; omega
   ·subst e1; subst e2
    have := hown _ w1; subst this
    cases hq : m.mp b' with
    | none => rfl
    | some e => have := h.mp b' e hq; rw [h1] at this; simp at this
end Go.Ahl
namespace Go.Ahl
theorem bit_and {k x : Nat} (hk : k < 1152921504606846976) (hx : x < 60) : IntKind.i64.wrap ((BitVec.ofInt 64 ((k : Int).fdiv (2 ^ min x 64)) &&& BitVec.ofInt 64 1).toNat : Int) = if k.testBit x then 1 else 0 := by
 have h1 : (k : Int).fdiv (2 ^ min x 64) = ((k / 2 ^ x : Nat) : Int) := by
  rw [Nat.min_eq_left (by omega), Int.fdiv_eq_ediv_of_nonneg _ (by exact Int.le_of_lt (Int.pow_pos (by omega)))]
  simp
 have hlt : k / 2 ^ x < 2 ^ 64 := Nat.lt_of_le_of_lt (Nat.div_le_self _ _) (by omega)
 rw [h1, BitVec.toNat_and]
 have h2 : (BitVec.ofInt 64 ((k / 2 ^ x : Nat) : Int)).toNat = k / 2 ^ x := by
  rw [BitVec.ofInt_natCast, BitVec.toNat_ofNat, Nat.mod_eq_of_lt hlt]
 have h3 : (BitVec.ofInt 64 1).toNat = 1 := by decide
 rw [h2, h3, Nat.and_one_is_mod, Nat.testBit_eq_decide_div_mod_eq]
 by_cases h : k / 2 ^ x % 2 = 1
 ·rw [decide_eq_true h, h]; decide
 ·have h0 : k / 2 ^ x % 2 = 0 := by omega
  rw [h0]; simp; decide
end Go.Ahl
namespace Go.Ahl
end Go.Ahl
namespace Go.Ahl
end Go.Ahl
namespace Go.Ahl
theorem ret_cN {nt t id n : Nat} {s : Slots} {σ S : Store} {R : Cont} {cells : List AV} (h1 : lk s t = .ptr id 0) (h2 : S[id]? = some (.row cells)) (hn : cells.length = n) (ht : S.take σ.length = σ) (hσ : IdsS σ.length σ)
  (iv : Ids σ.length (.agg cells)) (h : R (.agg cells) σ) : bodyK [.cell (some n) t] σ.length nt R .ret s S := by
 refine ⟨s, S, Ghost.refl _ _ _ _, ?_⟩
 simp only [aRes, h1]
 rw [e_loadN_ptr, h2, rowK_some]
 refine ⟨by omega, ?_⟩
 rw [List.drop_zero, ← hn, List.take_length]
 refine ⟨σ.length, Nat.le_refl _, ?_⟩
 rw [ht]
 exact ⟨hσ, iv, h⟩
end Go.Ahl
namespace Go.Ahl
section
variable {m : Mem} {loc : List Loc} {σ : Store} {w : World}
theorem SRel.place (h : SRel m loc σ w) (n0 : Nat) (l : Loc) (o : AObj) (hnm : ∀ b, (l = .blk b ∨ ∃ sz g k, l = .tok sz g ∧ g k = some (some b)) → Names loc b)
  (ho : ObjRel m (loc ++ [l]) w l o) (hno : ∀ b, own l o = some b → (∀ (i : Nat) l' o', loc[i]? = some l' → σ[i]? = some o' → own l' o' ≠ some b) ∧ m.mp b = none) :
  SRel m (loc ++ [l]) (σ ++ [o]) w ∧ Ext n0 m loc w m (loc ++ [l]) w := by
 have hnam : ∀ b, Names (loc ++ [l]) b → Names loc b := by
  intro b e
  rcases e.app with e | e | e
  ·exact e
  ·exact hnm b (.inl e)
  ·exact hnm b (.inr e)
 refine ⟨⟨by simp [h.len], h.im, h.bs, ?_, ?_, fun b' e => h.lt b' (hnam b' e), h.mp, ?_, h.ok.names hnam⟩, ⟨rfl, rfl, rfl, Nat.le_refl _, Nat.le_refl _, .refl m, .app _ _ _, fun b' e => .inl (hnam b' e), fun _ _ _ _ => rfl, fun _ _ _ e => .inl e⟩⟩
 ·intro i l' o' e1 e2
  rcases get_app e1 with f1 | ⟨hi, f1⟩
  ·rcases get_app e2 with f2 | ⟨hi2, f2⟩
   ·exact (h.obj i l' o' f1 f2).mono (.refl m) (.app _ _ _) (fun _ _ => rfl) (fun _ _ _ => rfl)
   ·have := lt_of_get f1; have := h.len; omega
  ·rcases get_app e2 with f2 | ⟨hi2, f2⟩
   ·have := lt_of_get f2; have := h.len; omega
   ·subst f1; subst f2; exact ho
 ·intro i j l1 l2 o1 o2 b e1 e2 e3 e4 w1 w2
  have hl := h.len
  rcases get_app e1 with f1 | ⟨hi, f1⟩ <;> rcases get_app e2 with f2 | ⟨hj, f2⟩ <;> rcases get_app e3 with f3 | ⟨hi3, f3⟩ <;> rcases get_app e4 with f4 | ⟨hi4, f4⟩
  ·exact h.inj i j l1 l2 o1 o2 b f1 f2 f3 f4 w1 w2
  ·have := lt_of_get f2; omega
  ·have := lt_of_get f1; omega
  ·have := lt_of_get f1; omega
  ·have := lt_of_get f4; omega
  ·subst f2; subst f4; exact absurd w1 ((hno b w2).1 i l1 o1 f1 f3)
  ·have := lt_of_get f1; omega
  ·have := lt_of_get f1; omega
  ·have := lt_of_get f3; omega
  ·have := lt_of_get f2; omega
  ·subst f1; subst f3; exact absurd w2 ((hno b w1).1 j l2 o2 f2 f4)
  ·have := lt_of_get f2; omega
  ·omega
  ·omega
  ·omega
  ·omega
 ·intro i l' o' b e1 e2 w1
  rcases get_app e1 with f1 | ⟨hi, f1⟩
  ·rcases get_app e2 with f2 | ⟨hi2, f2⟩
   ·exact h.mpo i l' o' b f1 f2 w1
   ·have := lt_of_get f1; have := h.len; omega
  ·rcases get_app e2 with f2 | ⟨hi2, f2⟩
   ·have := lt_of_get f2; have := h.len; omega
   ·subst f1; subst f2; exact (hno b w1).2
end
end Go.Ahl
namespace Go.Ahl
def kindV : Value → Option Kind
 | .int k _ => some (.int k)
 | .string _ => some .str
 | .bool _ => some .bool
 | _ => none
theorem kindV_is {v : Value} {K : Kind} (h : kindV v = some K) : K.is v := by
 cases v <;> simp [kindV] at h <;> subst h <;> exact ⟨_, rfl⟩
inductive Wkn : AV → AV → Prop where
 | int (k : IntKind) (n : Int) : Wkn (.int k n) (.cell (.int k))
 | str (s : ByteArray) : Wkn (.str s) (.cell .str)
 | bool (b : Bool) : Wkn (.bool b) (.cell .bool)
 | nil : Wkn (.slice .nil []) (.wslice [])
 | slice (es es' : List (List AV)) (hl : es.length = es'.length) (hle : ∀ (i : Nat) e e', es[i]? = some e → es'[i]? = some e' → e.length = e'.length)
   (h : ∀ (i : Nat) e e', es[i]? = some e → es'[i]? = some e' → ∀ (j : Nat) x y, e[j]? = some x → e'[j]? = some y → Wkn x y) : Wkn (.slice .fresh es) (.wslice es')
def Mem.weaken (m m1 : Mem) (n : Nat) : Mem where
 im b o := if b < n then m.im b o else (m1.im b o).bind fun v => if (kindV v).isSome then none else some v
 bs := m.bs
 mp := m.mp
 base := m.base
 wk b o := if b < n then m.wk b o else (m1.im b o).bind kindV
theorem get_both {α β : Type} {l : List α} {l' : List β} {i : Nat} {y : β} (h : l.length = l'.length) (e : l'[i]? = some y) : ∃ x, l[i]? = some x :=
 ⟨l[i]'(by rw [h]; exact lt_of_get e), List.getElem?_eq_getElem _⟩
theorem Wkn.rel {m m1 : Mem} {loc loc1 : List Loc} {n : Nat} (hb : m1.base = n) (hl0 : 0 < loc.length) {a b : AV} (h : Wkn a b) : ∀ {v : Value}, Rel m1 loc1 a v →
  Rel (m.weaken m1 n) loc b v ∧ (∀ K, b = .cell K → kindV v = some K) ∧ (b.isCell = false → kindV v = none) := by
 induction h with
 | int k i => intro v hr; cases hr; exact ⟨.cell _ _ ⟨_, rfl⟩, by rintro K e; injection e with e; subst e; rfl, by simp [AV.isCell]⟩
 | str s => intro v hr; cases hr; exact ⟨.cell _ _ ⟨_, rfl⟩, by rintro K e; injection e with e; subst e; rfl, by simp [AV.isCell]⟩
 | bool b => intro v hr; cases hr; exact ⟨.cell _ _ ⟨_, rfl⟩, by rintro K e; injection e with e; subst e; rfl, by simp [AV.isCell]⟩
 | nil =>
  intro v hr
  cases hr with
  | slice _ _ a cap sz b o f hcap htok hsz ha hc hr =>
   exact ⟨.wslice [] a cap 0 0 0 (fun _ _ => undef) hl0 hcap (by simp) (fun h => absurd rfl h) (by simp) (by simp) (by simp), by simp, fun _ => rfl⟩
 | slice es es' hl hle h ih =>
  intro v hr
  cases hr with
  | slice _ _ a cap sz b o f hcap htok hsz ha hc hr =>
   refine ⟨?_, by simp, fun _ => rfl⟩
   rw [hl]
   have hne : es' ≠ [] → es ≠ [] := fun q q' => by subst q'; exact q (List.length_eq_zero_iff.1 hl.symm)
   have hn : ∀ (i : Nat) e', es'[i]? = some e' → ¬ b < n := fun i e' he => by
    have hi := lt_of_get he
    have hq : es ≠ [] := by intro q; subst q; simp at hl; omega
    have := htok (by omega) b o (ha hq)
    omega
   have hcell : ∀ (i : Nat) e', es'[i]? = some e' → ∀ (j : Nat) y, e'[j]? = some y → ∃ x e, es[i]? = some e ∧ e[j]? = some x ∧ m1.im b (o + (i * sz + j)) = some (f i j) := fun i e' he j y hy => by
    obtain ⟨e, he1⟩ := get_both hl he
    obtain ⟨x, hx⟩ := get_both (hle i e e' he1 he) hy
    exact ⟨x, e, he1, hx, hc i (lt_of_get he1) j (by rw [← hsz e (List.mem_of_getElem? he1)]; exact lt_of_get hx)⟩
   refine .wslice es' a cap sz b o f hl0 (by omega) (fun e' he' => ?_) (fun q => ha (hne q)) (fun i e' he j K hK => ?_) (fun i e' he j y hy hyc => ?_) (fun i e' he j y hy hyc => ?_)
   ·obtain ⟨i, hi, rfl⟩ := List.mem_iff_getElem.1 he'
    obtain ⟨e, he1⟩ := get_both hl (List.getElem?_eq_getElem hi)
    rw [← hle i e _ he1 (List.getElem?_eq_getElem hi)]; exact hsz e (List.mem_of_getElem? he1)
   ·obtain ⟨x, e, h1, h2, h3⟩ := hcell i e' he j _ hK
    obtain ⟨_, q, _⟩ := ih i e e' h1 he j x _ h2 hK (hr i e h1 j x h2)
    simp only [Mem.weaken]; rw [if_neg (hn i e' he), h3]; exact q K rfl
   ·obtain ⟨x, e, h1, h2, h3⟩ := hcell i e' he j _ hy
    obtain ⟨_, _, q⟩ := ih i e e' h1 he j x _ h2 hy (hr i e h1 j x h2)
    simp only [Mem.weaken]; rw [if_neg (hn i e' he), h3]; simp [q hyc]
   ·obtain ⟨x, e, h1, h2, h3⟩ := hcell i e' he j _ hy
    exact (ih i e e' h1 he j x _ h2 hy (hr i e h1 j x h2)).1
def Unf (a : AV) : Prop := ∀ m v n, Rel m [] a v → Rel { m with base := n } [] a v
def UnfL (l : List AV) : Prop := ∀ x ∈ l, Unf x
theorem Unf.int (k : IntKind) (n : Int) : Unf (.int k n) := fun m v n h => by cases h; exact .int _ _
theorem Unf.str (s : ByteArray) : Unf (.str s) := fun m v n h => by cases h; exact .str _
theorem Unf.bool (b : Bool) : Unf (.bool b) := fun m v n h => by cases h; exact .bool _
theorem Unf.slice {t : Tok} (ht : t = .unk ∨ t = .nil ∨ t = .zero) {es : List (List AV)} (h : ∀ e ∈ es, UnfL e) : Unf (.slice t es) := fun m v n hr => by
 cases hr with
 | slice _ _ a cap sz b o f hcap htok hsz ha hc hr =>
  refine .slice t es a cap sz b o f hcap ?_ hsz ha hc (fun i e he j x hx => h e (List.mem_of_getElem? he) x (List.mem_of_getElem? hx) m _ n (hr i e he j x hx))
  rcases ht with rfl | rfl | rfl <;> exact htok
theorem Unf.map {α : Type} {enc : α → List AV} (h : ∀ x, UnfL (enc x)) (l : List α) : Unf (.slice .unk (l.map enc)) :=
 .slice (.inl rfl) fun e he => by obtain ⟨x, _, rfl⟩ := List.mem_map.1 he; exact h x
theorem Unf.nil : Unf (.slice .nil []) := .slice (.inr (.inl rfl)) (by simp)
theorem Unf.agg {l : List AV} (h : UnfL l) : Unf (.agg l) := fun m v n hr => by
 cases hr with
 | agg _ vs hlen hr => exact .agg _ vs hlen fun j x v e1 e2 => h x (List.mem_of_getElem? e1) m v n (hr j x v e1 e2)
theorem UnfL.nil : UnfL [] := fun x h => by simp at h
theorem UnfL.cons {x : AV} {l : List AV} (h : Unf x) (k : UnfL l) : UnfL (x :: l) := fun y hy => by
 rcases List.mem_cons.1 hy with rfl | hy
 ·exact h
 ·exact k y hy
theorem UnfL.app {l k : List AV} (h : UnfL l) (h' : UnfL k) : UnfL (l ++ k) := fun y hy => by
 rcases List.mem_append.1 hy with hy | hy
 ·exact h y hy
 ·exact h' y hy
def AV.flat : AV → Bool
 | .int .. | .bool _ | .str _ => true
 | _ => false
def Wkn1 (x y : AV) : Prop := Wkn x y ∨ (x = y ∧ x.flat = true)
def WknT (a b : AV) : Prop := Wkn1 a b ∨ ∃ xs ys, a = .tuple xs ∧ b = .tuple ys ∧ xs.length = ys.length ∧ ∀ (j : Nat) x y, xs[j]? = some x → ys[j]? = some y → Wkn1 x y
theorem Wkn1.rel {m m1 : Mem} {loc loc1 : List Loc} {n : Nat} (hb : m1.base = n) (hl0 : 0 < loc.length) {a b : AV} (h : Wkn1 a b) {v : Value} (hr : Rel m1 loc1 a v) : Rel (m.weaken m1 n) loc b v := by
 rcases h with h | ⟨rfl, h⟩
 ·exact (h.rel hb hl0 hr).1
 ·cases hr <;> simp [AV.flat] at h <;> constructor
theorem WknT.rel {m m1 : Mem} {loc loc1 : List Loc} {n : Nat} (hb : m1.base = n) (hl0 : 0 < loc.length) {a b : AV} (h : WknT a b) {v : Value} (hr : Rel m1 loc1 a v) : Rel (m.weaken m1 n) loc b v := by
 rcases h with h | ⟨xs, ys, rfl, rfl, hl, h⟩
 ·exact h.rel hb hl0 hr
 ·cases hr with
  | tuple _ vs hlen hr =>
   refine .tuple ys vs (by omega) fun j y v e1 e2 => ?_
   obtain ⟨x, hx⟩ := get_both hl e1
   exact (h j x y hx e1).rel hb hl0 (hr j x v hx e2)
theorem ACalls.weak {P : Program} {f : FuncId} {args : List AV} {R : Cont} {Q : AV → Prop} (h : ACalls P f args [] R) (hab : ∀ r σ', R r σ' → ∃ b, WknT r b ∧ Q b) (hi : ∀ x ∈ args, Ids 0 x) (hu : UnfL args) (σ : Store) :
  ACalls P f args σ (fun r σ' => Q r ∧ σ' = σ ++ [.dead]) := by
 intro m loc w vs hs ha
 let m0 : Mem := { m.strip with base := w.heap.size }
 have hS0 : SRel m0 [] [] w := by
  have h1 := (srel_base hs).strip fun _ _ q => q.strip
  exact ⟨h1.len, h1.im, h1.bs, by intro i l o e; simp at e, by intro i j l l' o o' b e; simp at e, h1.lt, h1.mp, by intro i l o b e; simp at e,
   ⟨Nat.le_refl _, by rintro b ⟨i, e | ⟨_, _, _, e, _⟩⟩ <;> simp at e, fun b o K e => by simp [m0, Mem.strip] at e, fun b o v q e => by
    have := hs.im_lt (b := b) (o := o) (v := v) e
    have q : w.heap.size ≤ b := q
    omega⟩⟩
 have hA : ArgsRel m0 [] args vs := by
  refine ⟨ha.1, fun j x v e1 e2 => ?_⟩
  have h1 := (ha.2 j x v e1 e2).take (n := 0) (hi x (List.mem_of_getElem? e1))
  rw [List.take_zero] at h1
  exact hu x (List.mem_of_getElem? e1) _ _ _ h1.strip
 have key : ∀ v w', ARet [] m0 w R v w' → ARet loc m w (fun r σ' => Q r ∧ σ' = σ ++ [.dead]) v w' := by
  rintro v w' ⟨r, σ', m1, loc1, hR, hrel, hsr, hext⟩
  obtain ⟨b, hb1, hb2⟩ := hab r σ' hR
  have hbase : m1.base = w.heap.size := hext.mem.base
  have hfr : ∀ k, k < w.heap.size → w'.heap[k]? = w.heap[k]? := fun k hk => hext.frame k hk (by rintro ⟨i, e | ⟨_, _, _, e, _⟩⟩ <;> simp at e) (fun _ => rfl)
  let m2 := m.weaken m1 w.heap.size
  have him : ∀ k o, k < w.heap.size → m2.im k o = m.im k o := fun k o hk => if_pos hk
  have hwk : ∀ k o, k < w.heap.size → m2.wk k o = m.wk k o := fun k o hk => if_pos hk
  have hwlt : ∀ k o K, m.wk k o = some K → k < w.heap.size := fun k o K e => by
   obtain ⟨_, _, arr, t, fz, v, h3, _⟩ := hs.ok.wk k o K e
   exact lt_of_heap h3
  have hle : m.le m2 := ⟨fun k o v e => by rw [him k o (hs.im_lt e)]; exact e, fun _ _ e => e, fun _ _ e => e, fun k o K e => by rw [hwk k o (hwlt k o K e)]; exact e, rfl⟩
  have hnew : ∀ k o v, ¬ k < w.heap.size → m2.im k o = some v → m1.im k o = some v := fun k o v hk e => by
   simp only [m2, Mem.weaken] at e
   rw [if_neg hk] at e
   cases e1 : m1.im k o with
   | none => rw [e1] at e; simp at e
   | some u =>
    rw [e1] at e; simp only [Option.bind_some] at e
    split at e
    ·simp at e
    ·exact e
  have hS2 : SRel m2 loc σ w' := by
   refine ⟨hs.len, ?_, ?_, ?_, hs.inj, fun b e => Nat.lt_of_lt_of_le (hs.lt b e) hext.size, ?_, hs.mpo, ?_⟩
   ·intro k o v e
    by_cases hk : k < w.heap.size
    ·rw [him k o hk] at e
     have := hs.im k o v e
     simpa [World.cell?, hfr k hk] using this
    ·exact hsr.im k o v (hnew k o v hk e)
   ·intro k n e
    rw [hfr k (hs.bs_lt (b := k) (n := n) e)]; exact hs.bs k n e
   ·intro i l o e1 e2
    exact (hs.obj i l o e1 e2).mono hle (.refl _ _) (fun k e => hfr k (hs.lt k (own_names e1 e))) (fun k off e => him k off (hs.lt k (own_names e1 e)))
   ·intro k e q
    rw [hfr k (hs.mp_lt (b := k) (e := e) q)]; exact hs.mp k e q
   ·refine ⟨Nat.le_trans hs.ok.low hext.size, hs.ok.own, fun k o K e => ?_, fun k o v q e => ?_⟩
    ·by_cases hk : k < w.heap.size
     ·rw [hwk k o hk] at e
      obtain ⟨h1, h2, arr, t, fz, v, h3, h4, h5, h6⟩ := hs.ok.wk k o K e
      exact ⟨h1, by rw [him k o hk]; exact h2, arr, t, fz, v, by rw [hfr k hk]; exact h3, h4, h5, by rw [frozen_same (hfr k hk)]; exact h6⟩
     ·simp only [m2, Mem.weaken] at e
      rw [if_neg hk] at e
      cases e1 : m1.im k o with
      | none => rw [e1] at e; simp at e
      | some u =>
       rw [e1] at e; simp only [Option.bind_some] at e
       have hc := hsr.im k o u e1
       refine ⟨fun q => hk (hs.lt k q), ?_, ?_⟩
       ·simp only [m2, Mem.weaken]; rw [if_neg hk, e1]; simp [e]
       ·have hz := hsr.ok.fz k o u (by rw [hbase]; omega) e1
        unfold World.cell? at hc
        split at hc
        ·rename_i arr t fz hh
         simp at hc
         exact ⟨arr, t, fz, u, hh, hc, kindV_is e, hz⟩
        ·simp at hc
    ·by_cases hk : k < w.heap.size
     ·rw [him k o hk] at e
      rw [frozen_same (hfr k hk)]; exact hs.ok.fz k o v q e
     ·exact hsr.ok.fz k o v (by rw [hbase]; omega) (hnew k o v hk e)
  have hE2 : Ext loc.length m loc w m2 loc w' := ⟨hext.os, hext.tape, hext.output, hext.drawn, hext.size, hle, .refl _ _, fun _ e => .inl e, fun k hk _ _ => hfr k hk, fun k o K e => by
   by_cases hk : k < w.heap.size
   ·rw [hwk k o hk] at e; exact .inl e
   ·exact .inr (by omega)⟩
  obtain ⟨g1, g2⟩ := hS2.ghost loc.length .nowhere .dead (by rintro b (e | ⟨_, _, _, e, _⟩) <;> simp at e) (by intro b; simp [own]) trivial
  exact ⟨b, _, m2, _, ⟨hb2, rfl⟩, hb1.rel hbase (by simp) hrel, g1, hE2.trans g2⟩
 rcases h m0 [] w vs hS0 hA with ⟨fn, h1, h2, h3, h4⟩ | ⟨v, w', h1, h2⟩
 ·exact .inl ⟨fn, h1, h2, h3, h4.mono fun e w' ⟨v, e1, e2⟩ => ⟨v, e1, key _ _ e2⟩⟩
 ·exact .inr ⟨v, w', h1, key _ _ h2⟩
theorem Wkn.map {α : Type} {enc enc' : α → List AV} (hl : ∀ x, (enc x).length = (enc' x).length) (h : ∀ x (j : Nat) a b, (enc x)[j]? = some a → (enc' x)[j]? = some b → Wkn a b) (l : List α) :
  Wkn (.slice .fresh (l.map enc)) (.wslice (l.map enc')) := by
 have hx : ∀ (i : Nat) e e', (l.map enc)[i]? = some e → (l.map enc')[i]? = some e' → ∃ x, e = enc x ∧ e' = enc' x := by
  intro i e e' h1 h2
  rw [List.getElem?_map] at h1 h2
  cases q : l[i]? with
  | none => rw [q] at h1; simp at h1
  | some x => rw [q] at h1 h2; simp at h1 h2; exact ⟨x, h1.symm, h2.symm⟩
 refine .slice _ _ (by simp) (fun i e e' h1 h2 => ?_) (fun i e e' h1 h2 j x y h3 h4 => ?_)
 ·obtain ⟨x, rfl, rfl⟩ := hx i e e' h1 h2; exact hl x
 ·obtain ⟨z, rfl, rfl⟩ := hx i e e' h1 h2; exact h z j x y h3 h4
def wLit (_ : FLit) : List AV := [.cell (.int .i64), .cell .bool]
def wI (_ : Int) : List AV := [.cell (.int .i64)]
def wL (l : List Int) : List AV := [.wslice (l.map wI)]
theorem wkn_lits (l : List FLit) : Wkn (.slice .fresh (l.map encLit)) (.wslice (l.map wLit)) :=
 Wkn.map (enc := encLit) (enc' := wLit) (fun _ => rfl) (fun x j a b h1 h2 => by
  match j with
  | 0 => simp [encLit, wLit] at h1 h2; subst h1; subst h2; exact .int _ _
  | 1 => simp [encLit, wLit] at h1 h2; subst h1; subst h2; exact .bool _
  | j + 2 => simp [encLit] at h1) l
theorem wkn_ints (l : List Int) : Wkn (.slice .fresh (l.map encI)) (.wslice (l.map wI)) :=
 Wkn.map (enc := encI) (enc' := wI) (fun _ => rfl) (fun x j a b h1 h2 => by
  match j with
  | 0 => simp [encI, wI] at h1 h2; subst h1; subst h2; exact .int _ _
  | j + 1 => simp [encI] at h1) l
theorem wkn_lists (f : List (List Int)) : Wkn (.slice .fresh (f.map encLf)) (.wslice (f.map wL)) :=
 Wkn.map (enc := encLf) (enc' := wL) (fun _ => rfl) (fun x j a b h1 h2 => by
  match j with
  | 0 => simp [encLf, wL] at h1 h2; subst h1; subst h2; exact wkn_ints x
  | j + 1 => simp [encLf] at h1) f
theorem WknT.of {a b : AV} (h : Wkn a b) : WknT a b := .inl (.inl h)
theorem WknT.tuple {xs ys : List AV} (hl : xs.length = ys.length) (h : ∀ (j : Nat) x y, xs[j]? = some x → ys[j]? = some y → Wkn1 x y) : WknT (.tuple xs) (.tuple ys) := .inr ⟨xs, ys, rfl, rfl, hl, h⟩
theorem WknT.two {a b c d : AV} (h : Wkn1 a c) (k : Wkn1 b d) : WknT (.tuple [a, b]) (.tuple [c, d]) := .tuple rfl fun j x y h1 h2 => by
 match j with
 | 0 => simp at h1 h2; subst h1; subst h2; exact h
 | 1 => simp at h1 h2; subst h1; subst h2; exact k
 | j + 2 => simp at h1
theorem WknT.three {a b c d e f : AV} (h : Wkn1 a d) (k : Wkn1 b e) (l : Wkn1 c f) : WknT (.tuple [a, b, c]) (.tuple [d, e, f]) := .tuple rfl fun j x y h1 h2 => by
 match j with
 | 0 => simp at h1 h2; subst h1; subst h2; exact h
 | 1 => simp at h1 h2; subst h1; subst h2; exact k
 | 2 => simp at h1 h2; subst h1; subst h2; exact l
 | j + 3 => simp at h1
theorem Wkn1.flat {a : AV} (h : a.flat = true) : Wkn1 a a := .inr ⟨rfl, h⟩
theorem unf_encLit (x : FLit) : UnfL (encLit x) := .cons (.int _ _) (.cons (.bool _) .nil)
theorem unf_encI (x : Int) : UnfL (encI x) := .cons (.int _ _) .nil
theorem unf_encT (x : ByteArray) : UnfL (encT x) := .cons (.str _) .nil
theorem unf_encL (x : List Int) : UnfL (encL x) := .cons (.map unf_encI x) .nil
theorem unf_encE (x : FEff) : UnfL (encE x) := .cons (.map unf_encLit _) (.cons (.int _ _) (.cons (.bool _) .nil))
theorem unf_encA (x : FAct) : UnfL (encA x) := .cons (.str _) (.cons (.int _ _) (.cons (.map unf_encLit _) (.cons (.map unf_encE _) .nil)))
theorem unf_task (t : FTask) : Unf (.agg (encTask t)) := .agg (.cons (.map unf_encT _) (.cons (.map unf_encI _) (.cons (.map unf_encLit _) (.cons (.map unf_encA _) .nil))))
end Go.Ahl
namespace Go.Ahl
theorem SRel.rewk {m : Mem} {loc : List Loc} {σ : Store} {w : World} (h : SRel m loc σ w) (id : Nat) {xs ys : List AV} (hs : σ[id]? = some (.row xs)) (hw : WkL xs ys) : SRel m loc (σ.set id (.row ys)) w where
 len := by simp [h.len]
 im := h.im
 bs := h.bs
 obj := by
  intro i l o h1 h2
  rcases get_set h2 with ⟨rfl, rfl⟩ | ⟨_, h2⟩
  ·have := h.obj _ l _ h1 hs
   cases l with
   | nowhere =>
    have e : xs = [] := this
    subst e
    cases hw
    exact rfl
   | tok sz f => exact this.elim
   | blk b =>
    obtain ⟨arr, t, h1, h2, h3, h4, h5⟩ := this
    refine ⟨arr, t, h1, h2, by rw [← hw.len]; exact h3, fun j z v e1 e2 => ?_, h5⟩
    obtain ⟨x, q1, q2⟩ := hw.get j z e1
    exact q2 _ _ _ (h4 j x v q1 e2)
  ·exact h.obj i l o h1 h2
 inj := by
  intro i j l l' o o' b h1 h2 h3 h4 w1 w2
  have fix : ∀ {i : Nat} {l : Loc} {o : AObj}, (σ.set id (.row ys))[i]? = some o → own l o = some b → ∃ o2, σ[i]? = some o2 ∧ own l o2 = some b := by
   intro i l o h3 w1
   rcases get_set h3 with ⟨rfl, rfl⟩ | ⟨_, h3⟩
   ·exact ⟨_, hs, by rw [own_row l xs ys]; exact w1⟩
   ·exact ⟨_, h3, w1⟩
  obtain ⟨o2, q1, q2⟩ := fix h3 w1
  obtain ⟨o3, q3, q4⟩ := fix h4 w2
  exact h.inj i j l l' o2 o3 b h1 h2 q1 q3 q2 q4
 lt := h.lt
 mp := h.mp
 mpo := by
  intro i l o b h1 h2 w1
  rcases get_set h2 with ⟨rfl, rfl⟩ | ⟨_, h2⟩
  ·exact h.mpo _ l _ b h1 hs (by rw [own_row l xs ys]; exact w1)
  ·exact h.mpo i l o b h1 h2 w1
 ok := h.ok
theorem Ghost.rewk {n0 nt : Nat} {s : Slots} {σ : Store} (id : Nat) {xs ys : List AV} (hs : σ[id]? = some (.row xs)) (hw : WkL xs ys) : Ghost n0 nt s σ s (σ.set id (.row ys)) :=
 fun m loc w t _ h1 h2 => ⟨m, loc, h1.rewk id hs hw, h2, .refl _ _ _ _⟩
theorem Ghost.tokRow {n0 nt : Nat} {s : Slots} {σ : Store} (id off sz : Nat) {cells : List AV} (hs : σ[id]? = some (.row cells)) (hx : cells[off]? = some (.slice .nil [])) :
  Ghost n0 nt s σ s ((σ ++ [AObj.grow sz 0]).set id (AObj.row (cells.set off (AV.slice (.grow σ.length) [])))) := by
 intro m loc w tm hl hS hr
 obtain ⟨g1, g2⟩ := hS.tok0 n0 sz
 have hid := lt_of_get hs
 have hid2 : id < loc.length := by rw [hS.len]; exact hid
 have hs' : (σ ++ [AObj.grow sz 0])[id]? = some (.row cells) := by rw [List.getElem?_append_left hid]; exact hs
 have hloc : (loc ++ [.tok sz Ahl.tok0])[id]? = some (loc[id]) := by rw [List.getElem?_append_left hid2]; exact List.getElem?_eq_getElem hid2
 have hobj := g1.obj id _ _ hloc hs'
 generalize loc[id] = l at hloc hobj
 cases l with
 | blk b =>
  obtain ⟨arr, t, e1, e2, e3, e4, e5⟩ := hobj
  have key := g1.turn n0 (m' := m) (w' := w) (l' := .blk b) (.row (cells.set off (.slice (.grow σ.length) []))) hloc hs' (.refl m) (.refl _) (fun _ _ _ => rfl) (Nat.le_refl _) (fun _ _ _ _ => rfl) ?_ ?_ ?_ (fun b' q => .inl q) ?_ rfl rfl rfl (Nat.le_refl _)
  ·rw [set_same hloc] at key
   exact ⟨m, _, key.1, ⟨hr.size, fun i => (hr.rel i).mono (.refl m) (.app _ _ _)⟩, g2.trans key.2⟩
  ·intro k off v hk e'
   refine ⟨g1.im k off v e', g1.ok.fz k off v ?_ e'⟩
   rcases hk with hk | hk
   ·exact g1.ok.own k (own_names hloc hk)
   ·exact Nat.le_trans g1.ok.low hk
  ·intro k n hn
   obtain ⟨arr', t', fz, q1, q2⟩ := g1.bs k n hn
   exact .inr ⟨arr', t', fz, q1, q2⟩
  ·rintro b' ⟨sz', f, k, q, _⟩; simp at q
  ·rw [set_same hloc]
   refine ⟨arr, t, e1, e2, by simpa using e3, ?_, e5⟩
   intro j x v hj hv
   rcases get_set hj with ⟨rfl, rfl⟩ | ⟨_, hj⟩
   ·have h1 := e4 off (.slice .nil []) v hx hv
    cases h1 with
    | slice _ _ ad cap sz' bb o f hcap htok =>
     obtain ⟨h1, h2⟩ := htok
     subst h1; subst h2
     exact rel_tok0 sz none hS
   ·exact e4 j x v hj hv
 | nowhere => have e : cells = [] := hobj; subst e; simp at hx
 | tok _ _ => exact hobj.elim
theorem Ghost.beginT {nt : Nat} {s : Slots} {σ : Store} (l : Store) (t sz : Nat) (r : Slots) (h1 : TellW s (σ.length + l.length) ((t, .slice .nil []) :: r)) (h2 : IdsS (σ ++ l).length (σ ++ l)) :
  Ghost σ.length nt s (σ ++ l) ((t, .slice (.grow (σ.length + l.length)) []) :: r) (σ ++ (l ++ [.grow sz 0])) := by
 have := Ghost.begin0 (nt := nt) (n0 := σ.length) (σ := σ ++ l) t sz r (by simp) (by rw [List.length_append]; exact h1) h2
 rw [List.length_append, List.append_assoc] at this
 exact this
end Go.Ahl
namespace Go.Ahl
theorem AYld.is {P : Program} {id : Nat} {args : List AV} {σ σ' : Store} {v : AV} {K : Cont} (h : AYld P id args σ (isR v σ')) (k : K v σ') : AYld P id args σ K :=
 h.mono fun _ _ e => by rw [e.1, e.2]; exact k
def yldC (P : Program) (args : List AV) (σ : Store) (K : Cont) : AV → Prop
 | .yld id => AYld P id args σ K
 | _ => False
theorem i_callY (P : Program) (s : Slots) (σ : Store) (K : Cont) (f : Opd) (args : List Opd) : aI P (.callY f args) s σ K = yldC P (evs s args) σ K (aev s f) := by
 simp only [aI]; cases aev s f <;> rfl
theorem yldC_yld (P : Program) (args : List AV) (σ : Store) (K : Cont) (id : Nat) : yldC P args σ K (.yld id) = AYld P id args σ K := rfl
theorem putAll_cons (s : Slots) (p : Nat) (ps : List Nat) (x : AV) (xs : List AV) : putAll s (p :: ps) (x :: xs) = putAll ((p, x) :: s) ps xs := rfl
theorem putAll_nil (s : Slots) (xs : List AV) : putAll s [] xs = s := by cases xs <;> rfl
attribute [go_sem] i_callY yldC_yld putAll_cons putAll_nil
section
variable {P : Program} {nt n0 : Nat} {Q : Post} {s : Slots} {σ : Store}
end
end Go.Ahl
namespace Go.Ahl
section
variable {P : Program} {nt n0 : Nat} {Q : Post} {s : Slots} {σ : Store}
end
end Go.Ahl
namespace Go.Ahl
end Go.Ahl
namespace Go.Ahl
theorem idsS_put' {n : Nat} {σ : Store} (h : IdsS n σ) (i : Nat) {o : AObj} (ho : IdsO n o) : IdsS n (σ.set i o) := by
 intro j x e
 rcases get_set e with ⟨_, rfl⟩ | ⟨_, e⟩
 ·exact ho
 ·exact h j x e
end Go.Ahl
namespace Go.Proofs.YtcjgoomlaojljaaGreat
open Go.Ahl
def byteOf (f : Int) : UInt8 := UInt8.ofNat (IntKind.u8.wrap f).toNat
def encB8 (f : Int) : List AV := encU8 (byteOf f)
instance : IdE encB8 := ⟨fun _ _ => idsL_cons (.int _ _) idsL_nil⟩
structure SB (t : FTask) : Prop where
 acts : t.actions.length ≤ 1000000
 pre : ∀ a ∈ t.actions, a.pre.length ≤ 140737488355328
 effs : ∀ a ∈ t.actions, a.effects.length ≤ 1000000
 whens : ∀ a ∈ t.actions, ∀ e ∈ a.effects, e.when_.length ≤ 140737488355328
def c_cloneI : CCode := .seq (.ops [oS 2 (.move (.lit (.slice .nil [])))]) (.seq (.seq (.ops [oS 3 (.move (.tmp 0)), oS 4 (.bin .eql .slice (.tmp 3) (.lit (.slice .nil [])))]) (.cond (.tmp 4) (.seq (.ops [oS 2 (.move (.lit (.slice .nil [])))]) .ret) .skip)) (.seq (.ops [oS 5 (.bslice 1 [] false), oS 6 (.move (.tmp 0)), oS 7 (.bappend 1 8 (.tmp 5) (.tmp 6) false), oS 2 (.move (.tmp 7))]) .ret))
theorem cloneI_specF (f : List Int) (tok : Tok) (σ : Store) (hf : f.length ≤ 1073741824) :
  ACalls Tryz.prog 33 [.slice tok (f.map Ahl.encI)] σ (isR (.slice .fresh (f.map Ahl.encI)) σ) := by
 refine ACalls.intro (rs := [(.tmp 2)]) (by kernel_rfl) { own := [], ghosts := [] } Tryz.func33 (c := Tryz.f33.body.getD .skip) (by kernel_rfl) (by decide) (by rw [show Tryz.f33.ntmps = 8 by kernel_rfl]; exact Nat.le_of_ble_eq_true rfl) (by kernel_rfl) ?_
 intro hσ hids
 rw [show comp Tryz.prog { own := [], ghosts := [] } (Tryz.f33.body.getD .skip) = c_cloneI by kernel_rfl, show Tryz.f33.ntmps = 8 by kernel_rfl]
 unfold c_cloneI
 have hbig : bigLen f.length 8 := big_ok (by omega) (by omega)
 simp only [go_sem, simprocAttr]
 intro b hb _
 cases b
 ·have hall : ∀ x ∈ f, (Ahl.encI x).length = 1 ∧ (Ahl.encI x).all AV.one = true := fun x _ => ⟨rfl, rfl⟩
  simp only [go_sem, simprocAttr, hbig]
  refine ⟨hall, ?_⟩
  exact rt (.slice .fresh (f.map Ahl.encI)) ⟨rfl, rfl⟩
 ·have hl0 : f = [] := by
   cases f with
   | nil => rfl
   | cons x l => exact absurd (hb (by simp)) (by simp)
  subst hl0
  simp only [go_sem, simprocAttr]
  exact rt (.slice .fresh []) ⟨rfl, rfl⟩
def c_idxS : CCode := .seq (.ops [oS 4 (.move (.lit (.int .i64 0)))]) (.seq (.seq (.ops [oS 6 (.move (.tmp 0)), oS 7 (.blen 1 (.tmp 6)), oS 8 (.move (.lit (.int .i64 0)))]) (.block 0 (.loop (.seq (.ops [oS 9 (.bin .lss .none (.tmp 8) (.tmp 7))]) (.seq (.cond (.tmp 9) .skip (.exit 0)) (.seq (.block 1 (.seq (.ops [oS 10 (.move (.tmp 8)), oS 5 (.move (.tmp 10))]) (.seq (.ops [oS 11 (.move (.tmp 1)), oS 12 (.move (.tmp 0)), oS 13 (.move (.tmp 5)), oS 14 (.iaddr 1 (.tmp 12) (.tmp 13)), oS 15 (.load none (.tmp 14)), oS 16 (.call (.tmp 11) [.tmp 15])]) (.cond (.tmp 16) (.seq (.ops [oS 17 (.move (.tmp 5)), oS 4 (.move (.tmp 17))]) .ret) .skip)))) (.ops [oS 18 (.bin .add .none (.tmp 8) (.lit (.int .i64 1))), oS 8 (.move (.tmp 18))]))))))) (.seq (.ops [oS 4 (.move (.lit (.int .i64 (-1))))]) .ret))
theorem idxS_spec (l : List Int) (g : FuncId) (cap : List AV) (p : Int → Bool) (tok : Tok) (σ : Store) (hl : l.length ≤ 140737488355328)
  (hp : ∀ x ∈ l, ACalls Tryz.prog g (.int .i64 x :: cap) σ (isR (.bool (p x)) σ)) :
  ACalls Tryz.prog 105 [.slice tok (l.map Ahl.encI), .func g cap] σ (isR (.int .i64 (idxFrom p 0 l)) σ) := by
 refine ACalls.intro (rs := [(.tmp 4)]) (by kernel_rfl) { own := [], ghosts := [] } Tryz.func105 (c := Tryz.f105.body.getD .skip) (by kernel_rfl) (by decide) (by rw [show Tryz.f105.ntmps = 19 by kernel_rfl]; exact Nat.le_of_ble_eq_true rfl) (by kernel_rfl) ?_
 intro hσ hids
 rw [show comp Tryz.prog { own := [], ghosts := [] } (Tryz.f105.body.getD .skip) = c_idxS by kernel_rfl, show Tryz.f105.ntmps = 19 by kernel_rfl]
 unfold c_idxS
 have hil : Ids σ.length (.slice tok (l.map Ahl.encI)) := hids _ (by simp)
 have hif : Ids σ.length (.func g cap) := hids _ (by simp)
 simp only [go_sem, simprocAttr]
 refine wpc_while (fun i => [(0, .slice tok (l.map Ahl.encI)), (1, .func g cap), (7, .int .i64 l.length), (8, .int .i64 (i : Nat))]) (fun _ => σ) (fun i => i ≤ l.length ∧ idxFrom p 0 l = idxFrom p i (l.drop i)) (fun i => l.length - i) 0 ⟨Nat.zero_le _, rfl⟩ (by (try dsimp only); exact ghA) ?_
 rintro i ⟨hi, hv⟩ K hK hE hR
 by_cases h : i < l.length
 ·obtain ⟨y, hx⟩ := get_ex h; have hlt : ((i : Int) < (l.length : Int)) := (by omega); have hw := wrapS (i := i) (by omega)
  rw [drop_cons hx, idxFrom] at hv
  simp only [go_sem, simprocAttr, hlt, hx, Ahl.encI]
  refine (hp y (List.mem_of_getElem? hx)).is ?_
  cases h1 : p y
  ·simp only [go_sem, simprocAttr]
   rw [h1, if_neg (by simp)] at hv
   refine hK _ _ (i + 1) (⟨by omega, by rw [hv]; norm_cast⟩) om ?_; (try dsimp only); (try simp only [ hw]); exact ghA
  ·rw [h1, if_pos rfl] at hv
   simp only [go_sem, simprocAttr, hR]
   exact rt (.int .i64 i) ⟨by rw [hv], rfl⟩
 ·have hlt : ¬ ((i : Int) < (l.length : Int)) := by omega
  rw [drop_len h, idxFrom] at hv
  simp only [go_sem, simprocAttr, hlt, hE]
  exact rt (.int .i64 (-1)) ⟨by rw [hv], rfl⟩
def c_contS : CCode := .seq (.ops [oS 4 (.move (.lit (.bool false)))]) (.seq (.ops [oS 5 (.move (.tmp 0)), oS 6 (.move (.tmp 1)), oS 7 (.call (.lit (.func 105 [])) [.tmp 5, .tmp 6]), oS 8 (.bin .geq .none (.tmp 7) (.lit (.int .i64 0))), oS 4 (.move (.tmp 8))]) .ret)
theorem contS_spec (l : List Int) (g : FuncId) (cap : List AV) (p : Int → Bool) (tok : Tok) (σ : Store) (hl : l.length ≤ 140737488355328)
  (hp : ∀ x ∈ l, ACalls Tryz.prog g (.int .i64 x :: cap) σ (isR (.bool (p x)) σ)) :
  ACalls Tryz.prog 79 [.slice tok (l.map Ahl.encI), .func g cap] σ (isR (.bool (l.any p)) σ) := by
 refine ACalls.intro (rs := [(.tmp 4)]) (by kernel_rfl) { own := [], ghosts := [] } Tryz.func79 (c := Tryz.f79.body.getD .skip) (by kernel_rfl) (by decide) (by rw [show Tryz.f79.ntmps = 9 by kernel_rfl]; exact Nat.le_of_ble_eq_true rfl) (by kernel_rfl) ?_
 intro hσ hids
 rw [show comp Tryz.prog { own := [], ghosts := [] } (Tryz.f79.body.getD .skip) = c_contS by kernel_rfl, show Tryz.f79.ntmps = 9 by kernel_rfl]
 unfold c_contS
 simp only [go_sem, simprocAttr]
 refine (idxS_spec l g cap p tok σ hl hp).is ?_
 simp only [go_sem, simprocAttr, idxFrom_ge p l 0 (Int.le_refl _)]
 first | exact rtw (v := .bool _) wkS ⟨rfl, rfl⟩ | exact rtw0 (v := .bool _) wkS ⟨rfl, rfl⟩
def offB (t : FTask) (x : Int) : Bool := decide (x < 0) || decide (x ≥ t.actions.length)
def c_slisted1 : CCode := .seq (.ops [oS 3 (.move (.lit (.bool false)))]) (.seq (.ops [oS 4 (.move (.tmp 0)), oS 5 (.bin .lss .none (.tmp 4) (.lit (.int .i64 0))), oS 6 (.move (.tmp 5)), oG 7 6 false (.move (.tmp 0)), oG 8 6 false (.faddr 3 (.tmp 1)), oG 9 6 false (.load none (.tmp 8)), oG 10 6 false (.blen 1 (.tmp 9)), oG 11 6 false (.bin .geq .none (.tmp 7) (.tmp 10)), oS 12 (.pick (.tmp 6) (.lit (.bool true)) (.tmp 11)), oS 3 (.move (.tmp 12))]) .ret)
theorem slisted1_spec (t : FTask) (x : Int) (T : Nat) (σ : Store) (hT : σ[T]? = some (.row (encTask t))) :
  ACalls Tryz.prog 80 [.int .i64 x, .ptr T 0] σ (isR (.bool (offB t x)) σ) := by
 refine ACalls.intro (rs := [(.tmp 3)]) (by kernel_rfl) { own := [], ghosts := [] } Tryz.func80 (c := Tryz.f80.body.getD .skip) (by kernel_rfl) (by decide) (by rw [show Tryz.f80.ntmps = 13 by kernel_rfl]; exact Nat.le_of_ble_eq_true rfl) (by kernel_rfl) ?_
 intro hσ hids
 rw [show comp Tryz.prog { own := [], ghosts := [] } (Tryz.f80.body.getD .skip) = c_slisted1 by kernel_rfl, show Tryz.f80.ntmps = 13 by kernel_rfl]
 unfold c_slisted1
 have ht := lt_of_get hT
 cases h : decide (x < 0)
 ·simp only [go_sem, simprocAttr, h, hT, encTask]
  first | exact rtw (v := .bool _) wkS ⟨by unfold offB; rw [h]; rfl, rfl⟩ | exact rtw0 (v := .bool _) wkS ⟨by unfold offB; rw [h]; rfl, rfl⟩
 ·simp only [go_sem, simprocAttr, h, hT, encTask]
  first | exact rtw (v := .bool _) wkS ⟨by unfold offB; rw [h]; rfl, rfl⟩ | exact rtw0 (v := .bool _) wkS ⟨by unfold offB; rw [h]; rfl, rfl⟩
def slistedB (t : FTask) (p : List Int) : Bool := decide (p.length ≤ 10000) && !(p.any (offB t))
def c_slisted : CCode := .seq (.ops [oS 2 (.box (.tmp 0)), oS 4 (.move (.lit (.bool false)))]) (.seq (.ops [oS 5 (.move (.tmp 1)), oS 6 (.blen 1 (.tmp 5)), oS 7 (.bin .leq .none (.tmp 6) (.lit (.int .i64 10000))), oS 8 (.move (.tmp 7)), oG 9 8 true (.move (.tmp 1)), oG 10 8 true (.mkfunc 80 [.tmp 2]), oG 11 8 true (.call (.lit (.func 79 [])) [.tmp 9, .tmp 10]), oG 12 8 true (.un .not (.tmp 11)), oS 13 (.pick (.tmp 8) (.tmp 12) (.lit (.bool false))), oS 4 (.move (.tmp 13))]) .ret)
theorem slisted_spec (t : FTask) (p : List Int) (σ : Store) (hp : p.length ≤ 1000000) :
  ACalls Tryz.prog 46 [.agg (encTask t), .slice .unk (p.map Ahl.encI)] σ (isR (.bool (slistedB t p)) σ) := by
 refine ACalls.intro (rs := [(.tmp 4)]) (by kernel_rfl) { own := [], ghosts := [] } Tryz.func46 (c := Tryz.f46.body.getD .skip) (by kernel_rfl) (by decide) (by rw [show Tryz.f46.ntmps = 14 by kernel_rfl]; exact Nat.le_of_ble_eq_true rfl) (by kernel_rfl) ?_
 intro hσ hids
 rw [show comp Tryz.prog { own := [], ghosts := [] } (Tryz.f46.body.getD .skip) = c_slisted by kernel_rfl, show Tryz.f46.ntmps = 14 by kernel_rfl]
 unfold c_slisted
 cases h : decide ((p.length : Int) ≤ 10000)
 ·simp only [go_sem, simprocAttr, h, encTask]
  have : slistedB t p = false := by unfold slistedB; rw [show decide (p.length ≤ 10000) = false by rw [decide_eq_false_iff_not] at h ⊢; omega]; rfl
  first | exact rtw (v := .bool _) wkS ⟨by rw [this], rfl⟩ | exact rtw0 (v := .bool _) wkS ⟨by rw [this], rfl⟩
 ·simp only [go_sem, simprocAttr, h, encTask]
  refine (contS_spec p _ _ (offB t) .unk _ (by omega) (fun x _ => slisted1_spec t x σ.length _ (by simp [encTask]))).is ?_
  simp only [go_sem, simprocAttr]
  have : slistedB t p = !(p.any (offB t)) := by unfold slistedB; rw [show decide (p.length ≤ 10000) = true by rw [decide_eq_true_eq] at h ⊢; omega]; rfl
  first | exact rtw (v := .bool _) wkS ⟨by rw [this], rfl⟩ | exact rtw0 (v := .bool _) wkS ⟨by rw [this], rfl⟩
structure EOk (t : FTask) : Prop where
 rng : ∀ a ∈ t.actions, ∀ e ∈ a.effects, 0 ≤ e.lit.fact ∧ e.lit.fact < (t.facts.length : Int)
theorem rising_len {n : Nat} : ∀ {s : List Int} {p : Int}, risingB n p s = true → -1 ≤ p → p + s.length < n ∨ s = []
 | [], _, _, _ => .inr rfl
 | x :: s, p, h, hp => by
  rw [risingB, Bool.and_eq_true, Bool.and_eq_true] at h
  have h1 : p < x := of_decide_eq_true h.1.1
  have h2 : x < n := of_decide_eq_true h.1.2
  refine .inl ?_
  rw [List.length_cons]
  rcases rising_len h.2 (by omega) with q | q
  ·push_cast; omega
  ·subst q; simp; omega
theorem dec_drop {α : Type} [DecidableEq α] {l m : List α} {i : Nat} {x y : α} (hx : l[i]? = some x) (hy : m[i]? = some y) : decide (l.drop i = m.drop i) = (decide (x = y) && decide (l.drop (i + 1) = m.drop (i + 1))) := by
 rw [drop_cons hx, drop_cons hy, dec_cons]
def e_eqInts_0 : List COp := [oS 16 (.move (.tmp 0)), oS 17 (.move (.tmp 5)), oA 18 (.iaddr 1 (.tmp 16) (.tmp 17)) [0, 1], oA 19 (.load none (.tmp 18)) [2], oS 20 (.move (.tmp 1)), oS 21 (.move (.tmp 5)), oA 22 (.iaddr 1 (.tmp 20) (.tmp 21)) [4, 5], oA 23 (.load none (.tmp 22)) [6], oA 24 (.bin .neq .none (.tmp 19) (.tmp 23)) [3, 7]]
def d_eqInts_0 : List COp := e_eqInts_0
theorem dr_eqInts_0 (P : Program) (nt n0 : Nat) (Q : Post) (s : Slots) (σ : Store) : wpc P nt n0 (.draw d_eqInts_0) Q s σ = aOpsD P nt e_eqInts_0 (Q .normal) s σ := wpc_draw _ (by decide)
attribute [local go_sem] dr_eqInts_0 e_eqInts_0
def c_eqInts : CCode := .seq (.ops [oS 4 (.move (.lit (.bool false)))]) (.seq (.seq (.ops [oS 6 (.move (.tmp 0)), oS 7 (.blen 1 (.tmp 6)), oS 8 (.move (.tmp 1)), oS 9 (.blen 1 (.tmp 8)), oS 10 (.bin .neq .none (.tmp 7) (.tmp 9))]) (.cond (.tmp 10) (.seq (.ops [oS 4 (.move (.lit (.bool false)))]) .ret) .skip)) (.seq (.seq (.ops [oS 11 (.move (.tmp 0)), oS 12 (.blen 1 (.tmp 11)), oS 13 (.move (.lit (.int .i64 0)))]) (.block 0 (.loop (.seq (.ops [oS 14 (.bin .lss .none (.tmp 13) (.tmp 12))]) (.seq (.cond (.tmp 14) .skip (.exit 0)) (.seq (.block 1 (.seq (.ops [oS 15 (.move (.tmp 13)), oS 5 (.move (.tmp 15))]) (.seq (.draw d_eqInts_0) (.cond (.tmp 24) (.seq (.ops [oS 4 (.move (.lit (.bool false)))]) .ret) .skip)))) (.ops [oS 25 (.bin .add .none (.tmp 13) (.lit (.int .i64 1))), oS 13 (.move (.tmp 25))]))))))) (.seq (.ops [oS 4 (.move (.lit (.bool true)))]) .ret)))
theorem eqInts_spec (l m : List Int) (tok tok' : Tok) (σ : Store) (hl : l.length ≤ 140737488355328) (hm : m.length ≤ 140737488355328) :
  ACalls Tryz.prog 65 [.slice tok (l.map Ahl.encI), .slice tok' (m.map Ahl.encI)] σ (isR (.bool (decide (l = m))) σ) := by
 refine ACalls.intro (rs := [(.tmp 4)]) (by kernel_rfl) { own := [], ghosts := [] } Tryz.func65 (c := Tryz.f65.body.getD .skip) (by kernel_rfl) (by decide) (by rw [show Tryz.f65.ntmps = 26 by kernel_rfl]; exact Nat.le_of_ble_eq_true rfl) (by kernel_rfl) ?_
 intro hσ hids
 rw [show comp Tryz.prog { own := [], ghosts := [] } (Tryz.f65.body.getD .skip) = c_eqInts by kernel_rfl, show Tryz.f65.ntmps = 26 by kernel_rfl]
 unfold c_eqInts
 have hil : Ids σ.length (.slice tok (l.map Ahl.encI)) := hids _ (by simp)
 have him : Ids σ.length (.slice tok' (m.map Ahl.encI)) := hids _ (by simp)
 by_cases hlm : l.length = m.length
 ·have h0 : ((l.length : Int) != (m.length : Int)) = false := by simp [hlm]
  simp only [go_sem, simprocAttr, h0]
  refine wpc_while (fun (i : Nat) => [(0, .slice tok (l.map Ahl.encI)), (1, .slice tok' (m.map Ahl.encI)), (12, .int .i64 l.length), (13, .int .i64 (i : Nat))]) (fun _ => σ) (fun i => i ≤ l.length ∧ decide (l = m) = decide (l.drop i = m.drop i)) (fun i => l.length - i) 0 ⟨Nat.zero_le _, rfl⟩ (by (try dsimp only); exact ghA) ?_
  rintro i ⟨hi, hv⟩ K hK hE hR
  by_cases h : i < l.length
  ·obtain ⟨x, hx⟩ := get_ex h; have hlt : ((i : Int) < (l.length : Int)) := (by omega); have hw := wrapS (i := i) (by omega)
   obtain ⟨y, hy⟩ := get_ex (show i < m.length by omega)
   rw [dec_drop hx hy] at hv
   by_cases hxy : x = y
   ·have h1 : (x != y) = false := by simp [hxy]
    rw [decide_eq_true hxy, Bool.true_and] at hv
    simp only [go_sem, simprocAttr, hlt, hx, hy, Ahl.encI, h1]
    refine hK _ _ (i + 1) (⟨by omega, hv⟩) om ?_; (try dsimp only); (try simp only [ hw]); exact ghA
   ·have h1 : (x != y) = true := by simp [hxy]
    rw [decide_eq_false hxy, Bool.false_and] at hv
    simp only [go_sem, simprocAttr, hlt, hx, hy, Ahl.encI, h1, hR]
    exact rt (.bool false) ⟨by rw [hv], rfl⟩
  ·have hlt : ¬ ((i : Int) < (l.length : Int)) := by omega
   rw [drop_len h, drop_len (show ¬ i < m.length by omega)] at hv
   simp only [go_sem, simprocAttr, hlt, hE]
   exact rt (.bool true) ⟨by rw [hv]; simp, rfl⟩
 ·have h0 : ((l.length : Int) != (m.length : Int)) = true := by simp; omega
  have hv : decide (l = m) = false := decide_eq_false fun e => hlm (by rw [e])
  simp only [go_sem, simprocAttr, h0]
  exact rt (.bool false) ⟨by rw [hv], rfl⟩
def LB (g : List (List Int)) : Prop := g.length ≤ 1000000 ∧ ∀ l ∈ g, l.length ≤ 1000000
section
variable {α : Type} [DecidableEq α]
def dd : α → List α → List α
 | _, [] => []
 | p, y :: r => if y = p then dd p r else y :: dd y r
def dedupL : List α → List α
 | [] => []
 | x :: r => x :: dd x r
theorem dd_snoc (y : α) : ∀ (m : List α) (p : α), dd p (m ++ [y]) = dd p m ++ if y = m.getLastD p then [] else [y]
 | [], p => by
  show dd p [y] = [] ++ if y = p then [] else [y]
  rw [dd, List.nil_append]; rfl
 | z :: m, p => by
  rw [List.cons_append, dd, dd, List.getLastD_cons]
  by_cases h : z = p
  ·subst h; rw [if_pos rfl, if_pos rfl, dd_snoc y m z]
  ·rw [if_neg h, if_neg h, dd_snoc y m z, List.cons_append]
theorem dedup_snoc (y z : α) (m : List α) (hz : m.getLast? = some z) : dedupL (m ++ [y]) = dedupL m ++ if y = z then [] else [y] := by
 cases m with
 | nil => simp at hz
 | cons x r =>
  rw [List.cons_append, dedupL, dedupL, dd_snoc, List.cons_append]
  have : r.getLastD x = z := by
   rw [List.getLast?_cons] at hz
   simpa using hz
  rw [this]
theorem dedup_take {l : List α} {k : Nat} {x z : α} (hx : l[k + 1]? = some x) (hz : l[k]? = some z) : dedupL (l.take (k + 2)) = dedupL (l.take (k + 1)) ++ if x = z then [] else [x] := by
 rw [take_succ' hx]
 refine dedup_snoc x z _ ?_
 rw [take_succ' hz]; simp
theorem dd_len : ∀ (m : List α) (p : α), (dd p m).length ≤ m.length
 | [], p => by simp [dd]
 | z :: m, p => by
  rw [dd]
  split
  ·have := dd_len m p; simp; omega
  ·have := dd_len m z; simp; omega
theorem dedup_len : ∀ (l : List α), (dedupL l).length ≤ l.length
 | [] => by simp [dedupL]
 | x :: r => by have := dd_len r x; simp [dedupL]; omega
theorem dd_mem : ∀ (m : List α) (p x : α), x ∈ p :: m ↔ x = p ∨ x ∈ dd p m
 | [], p, x => by simp [dd]
 | z :: m, p, x => by
  rw [dd]
  split
  ·rename_i h; subst h
   have := dd_mem m z x
   simp only [List.mem_cons] at this ⊢
   constructor
   ·rintro (h | h | h)
    ·exact .inl h
    ·exact .inl h
    ·exact this.1 (.inr h)
   ·intro h
    rcases this.2 h with h | h
    ·exact .inl h
    ·exact .inr (.inr h)
  ·have := dd_mem m z x
   simp only [List.mem_cons] at this ⊢
   rw [this]
theorem dedup_mem (l : List α) (x : α) : x ∈ dedupL l ↔ x ∈ l := by
 cases l with
 | nil => simp [dedupL]
 | cons y r => rw [dedupL, List.mem_cons, dd_mem r y x]
end
theorem dd_strict : ∀ (m : List (List Int)) (p : List Int), (p :: m).Pairwise (fun x y => ¬ cmpInts y x < 0) → (dd p m).Pairwise ltL ∧ ∀ x ∈ dd p m, ltL p x
 | [], p, _ => ⟨.nil, by simp [dd]⟩
 | z :: m, p, h => by
  obtain ⟨h1, h2⟩ := List.pairwise_cons.1 h
  rw [dd]
  split
  ·rename_i e; subst e; exact dd_strict m z h2
  ·rename_i e
   obtain ⟨q1, q2⟩ := dd_strict m z h2
   have hpz : ltL p z := by
    rcases cmpInts_total (h1 z List.mem_cons_self) with q | q
    ·exact q
    ·exact absurd q e
   refine ⟨List.pairwise_cons.2 ⟨q2, q1⟩, fun x hx => ?_⟩
   rcases List.mem_cons.1 hx with rfl | hx
   ·exact hpz
   ·exact cmpInts_trans hpz (q2 x hx)
theorem dedup_strict {l : List (List Int)} (h : l.Pairwise (fun x y => ¬ cmpInts y x < 0)) : (dedupL l).Pairwise ltL := by
 cases l with
 | nil => exact .nil
 | cons p m =>
  obtain ⟨q1, q2⟩ := dd_strict m p h
  exact List.pairwise_cons.2 ⟨q2, q1⟩
def vN (l : List Int) : AV := .slice .fresh (l.map Ahl.encI)
theorem ids_vN (n : Nat) (x : List Int) : Ids n (vN x) := ids_mapf ids_encI x
theorem idsO_rowN (n : Nat) {c : List AV} (h : ∀ x ∈ c, Ids n x) : IdsO n (.row c) := fun j x hj => h x (List.mem_of_getElem? hj)
theorem set_take_snoc {α : Type} {C : List α} {k : Nat} (y : α) (hk : k < C.length) : (C.set k y).take (k + 1) = C.take k ++ [y] := by
 rw [List.take_add_one, List.take_set_of_le (Nat.le_refl _), List.getElem?_set_self hk]; rfl
theorem set_drop_ge {α : Type} {C : List α} {k m : Nat} (y : α) (h : k < m) : (C.set k y).drop m = C.drop m := List.drop_set_of_lt h
theorem setAll_eq : ∀ (xs l : List AV) (k : Nat), k + xs.length ≤ l.length → setAll l k xs = l.take k ++ xs ++ l.drop (k + xs.length)
 | [], l, k, _ => by rw [setAll]; simp
 | x :: xs, l, k, h => by
  simp only [List.length_cons] at h
  rw [setAll, setAll_eq xs (l.set k x) (k + 1) (by simp; omega), set_take_snoc x (by omega), List.drop_set_of_lt (by omega), List.length_cons]
  simp [Nat.add_assoc, Nat.add_comm 1]
theorem flat_rep (n : Nat) (v : AV) : (List.replicate n [v]).flatten = List.replicate n v := by
 induction n with
 | zero => rfl
 | succ n ih => rw [List.replicate_succ, List.flatten_cons, ih, List.replicate_succ]; rfl
def e_compact_0 : List COp := [oS 18 (.move (.tmp 1)), oS 19 (.move (.tmp 0)), oS 20 (.move (.tmp 5)), oA 21 (.iaddr 1 (.tmp 19) (.tmp 20)) [1, 2], oA 22 (.load none (.tmp 21)) [3], oS 23 (.move (.tmp 0)), oS 24 (.move (.tmp 5)), oA 25 (.bin .sub .none (.tmp 24) (.lit (.int .i64 1))) [6], oA 26 (.iaddr 1 (.tmp 23) (.tmp 25)) [5, 7], oA 27 (.load none (.tmp 26)) [8], oA 28 (.call (.tmp 18) [.tmp 22, .tmp 27]) [0, 4, 9]]
def d_compact_0 : List COp := e_compact_0
theorem dr_compact_0 (P : Program) (nt n0 : Nat) (Q : Post) (s : Slots) (σ : Store) : wpc P nt n0 (.draw d_compact_0) Q s σ = aOpsD P nt e_compact_0 (Q .normal) s σ := wpc_draw _ (by decide)
def e_compact_1 : List COp := [oS 38 (.move (.tmp 1)), oS 39 (.move (.tmp 6)), oS 40 (.move (.tmp 7)), oA 41 (.iaddr 1 (.tmp 39) (.tmp 40)) [1, 2], oA 42 (.load none (.tmp 41)) [3], oS 43 (.move (.tmp 6)), oS 44 (.move (.tmp 7)), oA 45 (.bin .sub .none (.tmp 44) (.lit (.int .i64 1))) [6], oA 46 (.iaddr 1 (.tmp 43) (.tmp 45)) [5, 7], oA 47 (.load none (.tmp 46)) [8], oA 48 (.call (.tmp 38) [.tmp 42, .tmp 47]) [0, 4, 9], oA 49 (.un .not (.tmp 48)) [10]]
def d_compact_1 : List COp := e_compact_1
theorem dr_compact_1 (P : Program) (nt n0 : Nat) (Q : Post) (s : Slots) (σ : Store) : wpc P nt n0 (.draw d_compact_1) Q s σ = aOpsD P nt e_compact_1 (Q .normal) s σ := wpc_draw _ (by decide)
attribute [local go_sem] dr_compact_0 e_compact_0 dr_compact_1 e_compact_1
def c_compact : CCode := .seq (.ops [oS 4 (.move (.lit (.slice .nil [])))]) (.seq (.seq (.ops [oS 8 (.move (.tmp 0)), oS 9 (.blen 1 (.tmp 8)), oS 10 (.bin .lss .none (.tmp 9) (.lit (.int .i64 2)))]) (.cond (.tmp 10) (.seq (.ops [oS 11 (.move (.tmp 0)), oS 4 (.move (.tmp 11))]) .ret) .skip)) (.seq (.seq (.ops [oS 5 (.move (.lit (.int .i64 1)))]) (.block 0 (.loop (.seq (.seq (.ops [oS 12 (.move (.tmp 5)), oS 13 (.move (.tmp 0)), oS 14 (.blen 1 (.tmp 13)), oS 15 (.bin .lss .none (.tmp 12) (.tmp 14))]) (.cond (.tmp 15) .skip (.exit 0))) (.seq (.block 1 (.seq (.draw d_compact_0) (.cond (.tmp 28) (.seq (.ops [oS 29 (.move (.tmp 0)), oS 30 (.move (.tmp 5)), oS 31 (.slc 1 (.tmp 29) (some (.tmp 30)) none none), oS 6 (.move (.tmp 31))]) (.seq (.seq (.ops [oS 7 (.move (.lit (.int .i64 1)))]) (.block 2 (.loop (.seq (.seq (.ops [oS 32 (.move (.tmp 7)), oS 33 (.move (.tmp 6)), oS 34 (.blen 1 (.tmp 33)), oS 35 (.bin .lss .none (.tmp 32) (.tmp 34))]) (.cond (.tmp 35) .skip (.exit 2))) (.seq (.block 3 (.seq (.draw d_compact_1) (.cond (.tmp 49) (.seq (.ops [oS 50 (.move (.tmp 0)), oS 51 (.move (.tmp 5)), oS 52 (.move (.tmp 6)), oS 53 (.move (.tmp 7)), oS 54 (.iaddr 1 (.tmp 52) (.tmp 53)), oS 55 (.load none (.tmp 54)), oS 56 (.iaddr 1 (.tmp 50) (.tmp 51)), oN (.store 1 (.tmp 56) (.tmp 55))]) (.ops [oS 57 (.move (.tmp 5)), oS 58 (.bin .add .none (.tmp 57) (.lit (.int .i64 1))), oS 5 (.move (.tmp 58))])) .skip))) (.ops [oS 36 (.move (.tmp 7)), oS 37 (.bin .add .none (.tmp 36) (.lit (.int .i64 1))), oS 7 (.move (.tmp 37))])))))) (.seq (.ops [oS 59 (.move (.tmp 0)), oS 60 (.move (.tmp 5)), oS 61 (.slc 1 (.tmp 59) (some (.tmp 60)) none none), oN (.bclear [.slice .nil []] (.tmp 61))]) (.seq (.ops [oS 62 (.move (.tmp 0)), oS 63 (.move (.tmp 5)), oS 64 (.slc 1 (.tmp 62) none (some (.tmp 63)) none), oS 4 (.move (.tmp 64))]) .ret)))) .skip))) (.ops [oS 16 (.move (.tmp 5)), oS 17 (.bin .add .none (.tmp 16) (.lit (.int .i64 1))), oS 5 (.move (.tmp 17))])))))) (.seq (.ops [oS 65 (.move (.tmp 0)), oS 4 (.move (.tmp 65))]) .ret)))
set_option maxHeartbeats 2000000 in
theorem compact_spec (id : Nat) (l : List (List Int)) (g : FuncId) (cap : List AV) (σ : Store) (hl : l.length ≤ 1000000) (hr : σ[id]? = some (.row (l.map vN)))
  (hg : ∀ x y τ, x ∈ l → y ∈ l → ACalls Tryz.prog g ([vN x, vN y] ++ cap) τ (isR (.bool (decide (x = y))) τ)) :
  ACalls Tryz.prog 63 [.ref id 1 0 l.length, .func g cap] σ (isR (.ref id 1 0 (dedupL l).length) (σ.set id (.row ((dedupL l).map vN ++ List.replicate (l.length - (dedupL l).length) (.slice .nil []))))) := by
 refine ACalls.intro (rs := [(.tmp 4)]) (by kernel_rfl) { own := [], ghosts := [] } Tryz.func63 (c := Tryz.f63.body.getD .skip) (by kernel_rfl) (by decide) (by rw [show Tryz.f63.ntmps = 66 by kernel_rfl]; exact Nat.le_of_ble_eq_true rfl) (by kernel_rfl) ?_
 intro hσ hids
 rw [show comp Tryz.prog { own := [], ghosts := [] } (Tryz.f63.body.getD .skip) = c_compact by kernel_rfl, show Tryz.f63.ntmps = 66 by kernel_rfl]
 unfold c_compact
 have hif : Ids σ.length (.func g cap) := hids _ (by simp)
 have hid := lt_of_get hr
 have hsame : σ.set id (.row (l.map vN)) = σ := set_get_same hr
 have hids0 : ∀ c : List AV, (∀ x ∈ c, Ids σ.length x) → IdsS (σ.set id (.row c)).length (σ.set id (.row c)) := fun c hc => by
  rw [List.length_set]; exact idsS_put' hσ _ (idsO_rowN _ hc)
 have hend : ∀ (S : Slots) (k : Nat) (hS : lk S 4 = .ref id 1 0 k) (c : List AV), (∀ x ∈ c, Ids σ.length x) → k = (dedupL l).length → c = (dedupL l).map vN ++ List.replicate (l.length - (dedupL l).length) (.slice .nil []) →
   bodyK [.tmp 4] σ.length 66 (isR (.ref id 1 0 (dedupL l).length) (σ.set id (.row ((dedupL l).map vN ++ List.replicate (l.length - (dedupL l).length) (.slice .nil []))))) .ret S (σ.set id (.row c)) := by
  rintro S _ hS c hc rfl rfl
  have hi := hids0 _ hc
  exact ret_gh (v := .ref id 1 0 (dedupL l).length) (Ghost.keep0 (s' := [(4, .ref id 1 0 (dedupL l).length)]) (by simp) ⟨⟨by rw [hS]; exact .refl _, .ref _ _ _ _ (by simpa using hid)⟩, trivial⟩ hi) (by simp) hi (.ref _ _ _ _ (by simpa using hid)) ⟨rfl, rfl⟩
 have hmapi : ∀ x ∈ l.map vN, Ids σ.length x := by intro x hx; obtain ⟨y, _, rfl⟩ := List.mem_map.1 hx; exact ids_vN _ _
 have hall : ∀ S : Slots, lk S 4 = .ref id 1 0 l.length → dedupL l = l → bodyK [.tmp 4] σ.length 66 (isR (.ref id 1 0 (dedupL l).length) (σ.set id (.row ((dedupL l).map vN ++ List.replicate (l.length - (dedupL l).length) (.slice .nil []))))) .ret S σ := by
  intro S hS hd
  have := hend S l.length hS (l.map vN) hmapi (by rw [hd]) (by rw [hd]; simp)
  rwa [hsame] at this
 by_cases h2 : (l.length : Int) < 2
 ·simp only [go_sem, simprocAttr, h2]
  refine hall _ rfl ?_
  match l, h2 with
  | [], _ => rfl
  | [x], _ => rfl
  | _ :: _ :: _, h2 => simp only [List.length_cons] at h2; omega
 have hone : dedupL (l.take 1) = l.take 1 := by
  match l with
  | [] => rfl
  | x :: r => rfl
 simp only [go_sem, simprocAttr, h2]
 refine wpc_while (fun (k : Nat) => [(0, .ref id 1 0 l.length), (1, .func g cap), (5, .int .i64 (k : Nat))]) (fun _ => σ) (fun k => 1 ≤ k ∧ k ≤ l.length ∧ dedupL (l.take k) = l.take k) (fun k => l.length - k) 1 ⟨by omega, by omega, hone⟩ (by (try dsimp only); exact ghA) ?_
 rintro k ⟨hk1, hkl, hdk⟩ K hK hE hR
 by_cases h : k < l.length
 ·obtain ⟨x, hx⟩ := get_ex h
  obtain ⟨j, rfl⟩ : ∃ j, k = j + 1 := ⟨k - 1, by omega⟩
  obtain ⟨z, hz⟩ := get_ex (show j < l.length by omega)
  have hlt : ((j + 1 : Nat) : Int) < (l.length : Int) := by omega
  have hw : IntKind.i64.wrap (((j + 1 : Nat) : Int) + 1) = ((j + 2 : Nat) : Int) := by rw [wrap_ok (by omega)]; omega
  have hw1 : IntKind.i64.wrap (((j + 1 : Nat) : Int) - 1) = (j : Nat) := by rw [wrap_ok (by omega)]; omega
  have hdt := dedup_take hx hz
  have hxm := List.mem_of_getElem? hx
  have hzm := List.mem_of_getElem? hz
  simp only [go_sem, simprocAttr, hlt, hr, hx, hw1, hz, h, show j < l.length by omega]
  refine ⟨_, hg x z σ hxm hzm, ?_⟩
  by_cases hxz : x = z
  ·have hd : decide (x = z) = true := decide_eq_true hxz
   rw [if_pos hxz, List.append_nil, hdk] at hdt
   have hle : (0 : Int) ≤ ((j + 1 : Nat) : Int) := by omega
   simp only [go_sem, simprocAttr, hd, hle, Int.toNat_natCast, show j + 1 ≤ l.length by omega]
   have hmin : (l.take (j + 1)).length = j + 1 := by rw [List.length_take]; omega
   refine wpc_while (α := Nat × List AV) (fun q => [(0, .ref id 1 0 l.length), (1, .func g cap), (5, .int .i64 ((dedupL (l.take (j + 1 + q.1))).length : Nat)), (6, .ref id 1 (j + 1) (l.length - (j + 1))), (7, .int .i64 (q.1 : Nat))]) (fun q => σ.set id (.row q.2))
    (fun q => 1 ≤ q.1 ∧ q.1 ≤ l.length - (j + 1) ∧ q.2.length = l.length ∧ (dedupL (l.take (j + 1 + q.1))).length ≤ j + q.1 ∧ q.2.take (dedupL (l.take (j + 1 + q.1))).length = (dedupL (l.take (j + 1 + q.1))).map vN ∧ q.2.drop (j + q.1) = (l.drop (j + q.1)).map vN ∧ ∀ x ∈ q.2, Ids σ.length x)
    (fun q => l.length - q.1) (1, l.map vN) ⟨by simp, by simp only; omega, by simp, ?_, ?_, ?_, hmapi⟩ ?_ ?_
   ·simp only; rw [show j + 1 + 1 = j + 2 by omega, hdt, hmin]; exact Nat.le_refl _
   ·simp only; rw [show j + 1 + 1 = j + 2 by omega, hdt, hmin, List.map_take]
   ·simp only; rw [List.map_drop]
   ·simp only
    rw [hsame, show j + 1 + 1 = j + 2 by omega, hdt, hmin]
    exact Ghost.keep0 (Nat.le_refl _) tellT hσ
   have hgho : ∀ (S : Slots) (C' : List AV) (k k2 : Nat), (∀ x ∈ C', Ids σ.length x) → lk S 0 = .ref id 1 0 l.length → lk S 1 = .func g cap → lk S 5 = .int .i64 k → lk S 6 = .ref id 1 (j + 1) (l.length - (j + 1)) → lk S 7 = .int .i64 k2 →
     Ghost σ.length 66 S (σ.set id (.row C')) [(0, .ref id 1 0 l.length), (1, .func g cap), (5, .int .i64 k), (6, .ref id 1 (j + 1) (l.length - (j + 1))), (7, .int .i64 k2)] (σ.set id (.row C')) := by
    intro S C' k k2 hC h0 h1 h5 h6 h7
    refine Ghost.keep0 (by simp) ?_ (hids0 C' hC)
    rw [List.length_set]
    exact ⟨⟨by rw [h0]; exact .refl _, .ref _ _ _ _ hid⟩, ⟨by rw [h1]; exact .refl _, hif⟩, ⟨by rw [h5]; exact .refl _, .int _ _⟩, ⟨by rw [h6]; exact .refl _, .ref _ _ _ _ hid⟩, ⟨by rw [h7]; exact .refl _, .int _ _⟩, trivial⟩
   rintro ⟨k2, C⟩ ⟨q1, q2, q3, q4, q5, q6, q7⟩ K' hK' hE' hR'
   simp only at q1 q2 q3 q4 q5 q6 q7 ⊢
   have hCr : (σ.set id (.row C))[id]? = some (.row C) := by rw [List.getElem?_set_self hid]
   have hCi := hids0 C q7
   have hcast : ((l.length - (j + 1) : Nat) : Int) = (l.length : Int) - ((j : Int) + 1) := by omega
   by_cases hk2 : k2 < l.length - (j + 1)
   ·obtain ⟨x', hx'⟩ := get_ex (show j + k2 + 1 < l.length by omega)
    obtain ⟨z', hz'⟩ := get_ex (show j + k2 < l.length by omega)
    have hxm' := List.mem_of_getElem? hx'
    have hzm' := List.mem_of_getElem? hz'
    have hdt' := dedup_take hx' hz'
    rw [show j + k2 + 1 = j + 1 + k2 by omega, show j + k2 + 2 = j + 1 + (k2 + 1) by omega] at hdt'
    have hc0 : C[j + 1 + (k2 - 1)]? = some (vN z') := by
     rw [show j + 1 + (k2 - 1) = j + k2 + 0 by omega, ← List.getElem?_drop, q6, List.getElem?_map, List.getElem?_drop, Nat.add_zero, hz']; rfl
    have hc1 : C[j + 1 + k2]? = some (vN x') := by
     rw [show j + 1 + k2 = j + k2 + 1 by omega, ← List.getElem?_drop, q6, List.getElem?_map, List.getElem?_drop, hx']; rfl
    have hltk : (k2 : Int) < ((l.length - (j + 1) : Nat) : Int) := by omega
    have hwk1 : IntKind.i64.wrap ((k2 : Int) - 1) = ((k2 - 1 : Nat) : Int) := by rw [wrap_ok (by omega)]; omega
    have hwk2 := wrapS (i := k2) (by omega)
    have hk21 : k2 - 1 < l.length - (j + 1) := by omega
    simp only [go_sem, simprocAttr, hltk, hwk1, hCr, hc0, hc1, hk2, hk21]
    refine ⟨_, hg x' z' _ hxm' hzm', ?_⟩
    by_cases hxz' : x' = z'
    ·have hd' : decide (x' = z') = true := decide_eq_true hxz'
     rw [if_pos hxz', List.append_nil] at hdt'
     simp only [go_sem, simprocAttr, hd']
     refine hK' _ _ (k2 + 1, C) ⟨by simp only; omega, by simp only; omega, q3, by simp only; rw [hdt']; omega, by simp only; rw [hdt']; exact q5, ?_, q7⟩ (by simp only; omega) ?_
     ·simp only
      rw [show j + (k2 + 1) = j + k2 + 1 by omega, ← List.drop_drop, q6, ← List.map_drop, List.drop_drop]
     ·simp only [hdt', hwk2]
      exact hgho _ _ _ _ q7 rfl rfl rfl rfl rfl
    ·have hd' : decide (x' = z') = false := decide_eq_false hxz'
     rw [if_neg hxz'] at hdt'
     have hDk : (dedupL (l.take (j + 1 + k2))).length < l.length := by omega
     have hwd : IntKind.i64.wrap (((dedupL (l.take (j + 1 + k2))).length : Int) + 1) = (((dedupL (l.take (j + 1 + (k2 + 1)))).length : Nat) : Int) := by rw [hdt', List.length_append, List.length_singleton, wrap_ok (by omega)]; omega
     simp only [go_sem, simprocAttr, hd', hCr, hc1, hk2, hDk, q3, vN, List.set_set, hwk2]
     refine ⟨by omega, ?_⟩
     refine hK' _ _ (k2 + 1, C.set (dedupL (l.take (j + 1 + k2))).length (vN x')) ⟨by simp only; omega, by simp only; omega, by simp only [List.length_set]; exact q3, by simp only; rw [hdt', List.length_append, List.length_singleton]; omega, ?_, ?_, ?_⟩ (by simp only; omega) ?_
     ·simp only
      rw [hdt', List.length_append, List.length_singleton, set_take_snoc _ (by omega), q5, List.map_append]; rfl
     ·simp only
      rw [set_drop_ge _ (by omega), show j + (k2 + 1) = j + k2 + 1 by omega, ← List.drop_drop, q6, ← List.map_drop, List.drop_drop]
     ·simp only
      intro y hy
      rcases List.mem_or_eq_of_mem_set hy with hy | rfl
      ·exact q7 y hy
      ·exact ids_vN _ _
     ·refine hgho _ (C.set (dedupL (l.take (j + 1 + k2))).length (vN x')) _ _ ?_ rfl rfl ?_ rfl rfl
      ·intro y hy
       rcases List.mem_or_eq_of_mem_set hy with hy | rfl
       ·exact q7 y hy
       ·exact ids_vN _ _
      ·simp only [lk, Nat.reduceBEq, cond_true, cond_false]
       exact congrArg (AV.int .i64) hwd
   ·have hk2e : k2 = l.length - (j + 1) := by omega
    have hltk : ¬ (k2 : Int) < ((l.length - (j + 1) : Nat) : Int) := by omega
    have hfull : l.take (j + 1 + k2) = l := List.take_of_length_le (by omega)
    rw [hfull] at q4 q5
    have hdl := dedup_len l
    have hsa : setAll C (dedupL l).length (List.replicate (l.length - (dedupL l).length) [AV.slice .nil []]).flatten = (dedupL l).map vN ++ List.replicate (l.length - (dedupL l).length) (.slice .nil []) := by
     rw [flat_rep, setAll_eq _ _ _ (by rw [List.length_replicate]; omega), q5, List.length_replicate, List.drop_of_length_le (by omega), List.append_nil]
    simp only [go_sem, simprocAttr, hltk, hE', hfull, hdl, hCr, q3, List.set_set, hsa, show (dedupL l).length + (l.length - (dedupL l).length) * 1 ≤ l.length by omega]
    refine ⟨by omega, by omega, ?_⟩
    rw [hR]
    refine hend _ _ (by simp only [lk, Nat.reduceBEq, cond_true, cond_false, Nat.sub_zero]) _ ?_ rfl rfl
    intro y hy
    rcases List.mem_append.1 hy with hy | hy
    ·obtain ⟨z, _, rfl⟩ := List.mem_map.1 hy; exact ids_vN _ _
    ·rw [List.eq_of_mem_replicate hy]; exact ids_nil _ (by simp)
  ·have hd : decide (x = z) = false := decide_eq_false hxz
   rw [if_neg hxz, hdk, ← take_succ' hx] at hdt
   simp only [go_sem, simprocAttr, hd]
   refine hK _ _ (j + 2) (⟨by omega, by omega, hdt⟩) om ?_; (try dsimp only); (try simp only [ hw]); exact ghA
 ·have hkeq : k = l.length := by omega
  subst hkeq
  have hlt : ¬ ((l.length : Int) < (l.length : Int)) := by omega
  simp only [go_sem, simprocAttr, hlt, hE]
  refine hall _ rfl ?_
  rwa [List.take_length] at hdk
theorem sortNN_spec (id : Nat) (l : List (List Int)) (hl : ∀ x ∈ l, x.length ≤ 140737488355328) (σ : Store) (hσ : σ[id]? = some (.row (l.map vN))) (hlen : l.length ≤ 1073741824) :
  ACalls Tryz.prog 61 [.ref id 1 0 l.length, .func 62 []] σ fun r σ' => r = .tuple [] ∧ ∃ l' : List (List Int), l'.Perm l ∧ l'.Pairwise (fun x y => ¬ cmpInts y x < 0) ∧ σ' = σ.set id (.row (l'.map vN)) := by
 have h := sort1 laysLL (fn := Tryz.f61) (gn := Tryz.f62) Tryz.func61 (by kernel_rfl) (by decide) vN (fun x => x.length ≤ 140737488355328) cmpInts (fun _ => rfl) (fun l => ids_mapf ids_encI l) [] (.slice none 0 0) (by simp)
  (fun m => .slice .fresh [] none 0 0 0 0 (fun _ _ => undef) (Nat.le_refl _) (fun h => absurd h (by simp)) (by simp) (fun h => absurd rfl h) (fun i hi => absurd hi (by simp)) (by simp))
  (fun x _ => by rw [cmpInts_refl]; omega) (fun x y z _ _ _ => cmpInts_trans)
  (fun x y z _ _ _ h k => by
   rcases cmpInts_total h with q | rfl
   ·rcases cmpInts_total k with q' | rfl
    ·have := cmpInts_trans q' q
     intro hh; have := cmpInts_swap.1 hh; omega
    ·exact h
   ·exact k)
  62 Tryz.func62 (by kernel_rfl) (by kernel_rfl) (fun x y hx hy => slCmp_spec x y .fresh .fresh [] hx hy) id l hl σ hσ (by omega)
 refine h.mono ?_
 rintro r σ' ⟨rfl, l', hp, hs, rfl⟩
 exact ⟨rfl, l', hp, hs, rfl⟩
section
variable {nt t u id len : Nat} {s : Slots} {σ S : Store} {R : Cont} {x : AV} {cells : List AV} {es : List (List AV)}
theorem retRow2 (ht : S.take σ.length = σ) (hs : lk s t = .ref id 1 0 len) (hid : S[id]? = some (.row cells)) (hlen : es.length = len) (hge : σ.length ≤ id) (htu : (t == u) = false) (hu : lk s u = x) (hx : Ids σ.length x) (hi : Ids σ.length (.slice .fresh es))
  (hes : ∀ (i : Nat) e, es[i]? = some e → e.length = 1 ∧ ∀ j, j < 1 → cells[0 + (i * 1 + j)]? = e[j]?) (h : R (.tuple [.slice .fresh es, x]) σ) (hσ : IdsS σ.length σ := by assumption) :
  bodyK [.tmp t, .tmp u] σ.length nt R .ret s S := by
 refine ret_gh2 (v := .slice .fresh es) (x := x) (σ' := σ) ?_ htu (Nat.le_refl _) hσ hi hx h
 refine Ghost.trans (Ghost.freezeF t es hs hid hlen hes) ?_
 have ht' : (S.set id .dead).take σ.length = σ := by rw [List.take_set_of_le hge, ht]
 have := Ghost.cut (n0 := σ.length) (nt := nt) (σ := S.set id .dead) (s := (t, .slice .fresh es) :: s) [(t, .slice .fresh es), (u, x)] σ.length (Nat.le_refl _) ⟨⟨by simp only [Ahl.lk, beq_self_eq_true, cond_true]; exact Wk.refl _, hi⟩, ⟨by simp only [Ahl.lk, htu, cond_false]; rw [hu]; exact Wk.refl _, hx⟩, trivial⟩ (by rw [ht']; exact hσ)
 rwa [ht'] at this
end
def insN (out : List (List Int)) (x : List Int) : List (List Int) := if x ∈ out then out else insL out x
theorem insN_strict {out : List (List Int)} {x : List Int} (h : out.Pairwise ltL) : (insN out x).Pairwise ltL := by
 unfold insN; split
 ·exact h
 ·exact insL_strict h ‹_›
theorem insN_mem {out : List (List Int)} {x y : List Int} : y ∈ insN out x ↔ y ∈ out ∨ y = x := by
 unfold insN; split
 ·rename_i h
  constructor
  ·exact fun q => .inl q
  ·rintro (q | rfl)
   ·exact q
   ·exact h
 ·exact insL_mem
theorem foldN : ∀ (l out : List (List Int)), out.Pairwise ltL → (l.foldl insN out).Pairwise ltL ∧ ∀ y, y ∈ l.foldl insN out ↔ y ∈ out ∨ y ∈ l
 | [], out, h => ⟨h, by simp⟩
 | x :: l, out, h => by
  obtain ⟨h1, h2⟩ := foldN l (insN out x) (insN_strict h)
  refine ⟨h1, fun y => ?_⟩
  rw [List.foldl_cons, h2, insN_mem, List.mem_cons, or_assoc]
structure PB (t : FTask) : Prop where
 tb : TB t
 acts : t.actions.length ≤ 1000000
theorem valid_SB {t : FTask} (h : PB t) (hv : validB t = true) : SB t ∧ EOk t ∧ t.facts.length ≤ 200 := by
 have hf := valid_facts hv
 have hA : ∀ a ∈ t.actions, AV_ t.facts.length a := fun a ha => valid_act hv ha
 refine ⟨⟨h.acts, h.tb.pre, fun a ha => by have := (hA a ha).many; omega, fun a ha e he => ?_⟩, ⟨fun a ha e he => ?_⟩, by omega⟩
 ·rcases condB_len ((hA a ha).whens e he) with q | q
  ·rw [q]; simp
  ·omega
 ·have hv' := hv
  simp only [validB, Bool.and_eq_true] at hv'
  have := List.all_eq_true.1 hv'.2.2.2.2.2.2 a ha
  simp only [actB, Bool.and_eq_true, decide_eq_true_eq] at this
  have h5 := List.all_eq_true.1 this.2.2.2.2 e he
  simp only [effB, Bool.and_eq_true, decide_eq_true_eq] at h5
  exact ⟨h5.2.1, h5.2.2⟩
def e_sameInts_0 : List COp := [oS 16 (.move (.tmp 0)), oS 17 (.move (.tmp 5)), oA 18 (.iaddr 1 (.tmp 16) (.tmp 17)) [0, 1], oA 19 (.load none (.tmp 18)) [2], oS 20 (.move (.tmp 1)), oS 21 (.move (.tmp 5)), oA 22 (.iaddr 1 (.tmp 20) (.tmp 21)) [4, 5], oA 23 (.load none (.tmp 22)) [6], oA 24 (.bin .neq .none (.tmp 19) (.tmp 23)) [3, 7]]
def d_sameInts_0 : List COp := e_sameInts_0
theorem dr_sameInts_0 (P : Program) (nt n0 : Nat) (Q : Post) (s : Slots) (σ : Store) : wpc P nt n0 (.draw d_sameInts_0) Q s σ = aOpsD P nt e_sameInts_0 (Q .normal) s σ := wpc_draw _ (by decide)
attribute [local go_sem] dr_sameInts_0 e_sameInts_0
def c_sameInts : CCode := .seq (.ops [oS 4 (.move (.lit (.bool false)))]) (.seq (.seq (.ops [oS 6 (.move (.tmp 0)), oS 7 (.blen 1 (.tmp 6)), oS 8 (.move (.tmp 1)), oS 9 (.blen 1 (.tmp 8)), oS 10 (.bin .neq .none (.tmp 7) (.tmp 9))]) (.cond (.tmp 10) (.seq (.ops [oS 4 (.move (.lit (.bool false)))]) .ret) .skip)) (.seq (.seq (.ops [oS 11 (.move (.tmp 0)), oS 12 (.blen 1 (.tmp 11)), oS 13 (.move (.lit (.int .i64 0)))]) (.block 0 (.loop (.seq (.ops [oS 14 (.bin .lss .none (.tmp 13) (.tmp 12))]) (.seq (.cond (.tmp 14) .skip (.exit 0)) (.seq (.block 1 (.seq (.ops [oS 15 (.move (.tmp 13)), oS 5 (.move (.tmp 15))]) (.seq (.draw d_sameInts_0) (.cond (.tmp 24) (.seq (.ops [oS 4 (.move (.lit (.bool false)))]) .ret) .skip)))) (.ops [oS 25 (.bin .add .none (.tmp 13) (.lit (.int .i64 1))), oS 13 (.move (.tmp 25))]))))))) (.seq (.ops [oS 4 (.move (.lit (.bool true)))]) .ret)))
theorem sameInts_spec (l m : List Int) (tok tok' : Tok) (σ : Store) (hl : l.length ≤ 140737488355328) (hm : m.length ≤ 140737488355328) :
  ACalls Tryz.prog 42 [.slice tok (l.map Ahl.encI), .slice tok' (m.map Ahl.encI)] σ (isR (.bool (decide (l = m))) σ) := by
 refine ACalls.intro (rs := [(.tmp 4)]) (by kernel_rfl) { own := [], ghosts := [] } Tryz.func42 (c := Tryz.f42.body.getD .skip) (by kernel_rfl) (by decide) (by rw [show Tryz.f42.ntmps = 26 by kernel_rfl]; exact Nat.le_of_ble_eq_true rfl) (by kernel_rfl) ?_
 intro hσ hids
 rw [show comp Tryz.prog { own := [], ghosts := [] } (Tryz.f42.body.getD .skip) = c_sameInts by kernel_rfl, show Tryz.f42.ntmps = 26 by kernel_rfl]
 unfold c_sameInts
 have hil : Ids σ.length (.slice tok (l.map Ahl.encI)) := hids _ (by simp)
 have him : Ids σ.length (.slice tok' (m.map Ahl.encI)) := hids _ (by simp)
 by_cases hlen : l.length = m.length
 ·have h' : ((l.length : Int) != m.length) = false := by rw [hlen]; exact bne_self_eq_false _
  simp only [go_sem, simprocAttr, h']
  refine wpc_while (fun (i : Nat) => [(0, .slice tok (l.map Ahl.encI)), (1, .slice tok' (m.map Ahl.encI)), (12, .int .i64 l.length), (13, .int .i64 (i : Nat))]) (fun _ => σ) (fun i => i ≤ l.length ∧ decide (l = m) = decide (l.drop i = m.drop i)) (fun i => l.length - i) 0 ⟨Nat.zero_le _, rfl⟩ (by (try dsimp only); exact ghA) ?_
  rintro i ⟨hi, hv⟩ K hK hE hR
  by_cases h : i < l.length
  ·obtain ⟨x, hx⟩ := get_ex h; have hlt : ((i : Int) < (l.length : Int)) := (by omega); have hw := wrapS (i := i) (by omega)
   obtain ⟨y, hy⟩ : ∃ y, m[i]? = some y := get_ex (by omega)
   rw [drop_cons hx, drop_cons hy, dec_cons] at hv
   by_cases h1 : x = y
   ·have hf : (x != y) = false := by simpa using h1
    simp only [go_sem, simprocAttr, hlt, hx, hy, Ahl.encI, hf]
    rw [decide_eq_true h1, Bool.true_and] at hv
    refine hK _ _ (i + 1) (⟨by omega, hv⟩) om ?_; (try dsimp only); (try simp only [ hw]); exact ghA
   ·have hf : (x != y) = true := by simpa using h1
    simp only [go_sem, simprocAttr, hlt, hx, hy, Ahl.encI, hf, hR]
    rw [decide_eq_false h1, Bool.false_and] at hv
    exact rt (.bool false) ⟨by rw [hv], rfl⟩
  ·have hlt : ¬ ((i : Int) < (l.length : Int)) := by omega
   rw [drop_len h, drop_len (by omega : ¬ i < m.length)] at hv
   simp only [go_sem, simprocAttr, hlt, hE]
   exact rt (.bool true) ⟨by rw [hv]; rfl, rfl⟩
 ·have h' : ((l.length : Int) != m.length) = true := by simp; omega
  simp only [go_sem, simprocAttr, h']
  exact rt (.bool false) ⟨by rw [decide_eq_false (fun e => hlen (by rw [e]))], rfl⟩
theorem insAt_cons (x : List Int) (l : List (List Int)) (s : List Int) : insAt (x :: l) s = if cmpInts x s < 0 then insAt l s + 1 else 0 := by
 unfold insAt
 rw [List.takeWhile_cons]
 by_cases h : cmpInts x s < 0
 ·simp [h]
 ·simp [h]
def c_before13 : CCode := .seq (.ops [oS 4 (.move (.lit (.bool false)))]) (.seq (.seq (.ops [oS 7 (.move (.tmp 0)), oS 8 (.blen 1 (.tmp 7)), oS 9 (.move (.lit (.int .i64 0)))]) (.block 0 (.loop (.seq (.ops [oS 10 (.bin .lss .none (.tmp 9) (.tmp 8))]) (.seq (.cond (.tmp 10) .skip (.exit 0)) (.seq (.block 1 (.seq (.ops [oS 11 (.move (.tmp 9)), oS 12 (.iaddr 1 (.tmp 7) (.tmp 9)), oS 13 (.load none (.tmp 12)), oS 5 (.move (.tmp 11)), oS 6 (.move (.tmp 13))]) (.seq (.seq (.ops [oS 14 (.move (.tmp 5)), oS 15 (.move (.tmp 1)), oS 16 (.blen 1 (.tmp 15)), oS 17 (.bin .eql .none (.tmp 14) (.tmp 16)), oS 18 (.move (.tmp 17)), oG 19 18 false (.move (.tmp 6)), oG 20 18 false (.move (.tmp 1)), oG 21 18 false (.move (.tmp 5)), oG 22 18 false (.iaddr 1 (.tmp 20) (.tmp 21)), oG 23 18 false (.load none (.tmp 22)), oG 24 18 false (.bin .gtr .none (.tmp 19) (.tmp 23)), oS 25 (.pick (.tmp 18) (.lit (.bool true)) (.tmp 24))]) (.cond (.tmp 25) (.seq (.ops [oS 4 (.move (.lit (.bool false)))]) .ret) .skip)) (.seq (.ops [oS 26 (.move (.tmp 6)), oS 27 (.move (.tmp 1)), oS 28 (.move (.tmp 5)), oS 29 (.iaddr 1 (.tmp 27) (.tmp 28)), oS 30 (.load none (.tmp 29)), oS 31 (.bin .lss .none (.tmp 26) (.tmp 30))]) (.cond (.tmp 31) (.seq (.ops [oS 4 (.move (.lit (.bool true)))]) .ret) .skip))))) (.ops [oS 32 (.bin .add .none (.tmp 9) (.lit (.int .i64 1))), oS 9 (.move (.tmp 32))]))))))) (.seq (.ops [oS 33 (.move (.tmp 0)), oS 34 (.blen 1 (.tmp 33)), oS 35 (.move (.tmp 1)), oS 36 (.blen 1 (.tmp 35)), oS 37 (.bin .lss .none (.tmp 34) (.tmp 36)), oS 4 (.move (.tmp 37))]) .ret))
theorem before13_spec (l m : List Int) (tok tok' : Tok) (σ : Store) (hl : l.length ≤ 140737488355328) (hm : m.length ≤ 140737488355328) :
  ACalls Tryz.prog 75 [.slice tok (l.map Ahl.encI), .slice tok' (m.map Ahl.encI)] σ (isR (.bool (decide (cmpInts l m < 0))) σ) := by
 refine ACalls.intro (rs := [(.tmp 4)]) (by kernel_rfl) { own := [], ghosts := [] } Tryz.func75 (c := Tryz.f75.body.getD .skip) (by kernel_rfl) (by decide) (by rw [show Tryz.f75.ntmps = 38 by kernel_rfl]; exact Nat.le_of_ble_eq_true rfl) (by kernel_rfl) ?_
 intro hσ hids
 rw [show comp Tryz.prog { own := [], ghosts := [] } (Tryz.f75.body.getD .skip) = c_before13 by kernel_rfl, show Tryz.f75.ntmps = 38 by kernel_rfl]
 unfold c_before13
 have hil : Ids σ.length (.slice tok (l.map Ahl.encI)) := hids _ (by simp)
 have him : Ids σ.length (.slice tok' (m.map Ahl.encI)) := hids _ (by simp)
 simp only [go_sem, simprocAttr]
 refine wpc_while (fun (i : Nat) => [(0, .slice tok (l.map Ahl.encI)), (1, .slice tok' (m.map Ahl.encI)), (7, .slice tok (l.map Ahl.encI)), (8, .int .i64 l.length), (9, .int .i64 (i : Nat))]) (fun _ => σ) (fun i => i ≤ l.length ∧ i ≤ m.length ∧ cmpInts l m = cmpInts (l.drop i) (m.drop i)) (fun i => l.length - i) 0 ⟨Nat.zero_le _, Nat.zero_le _, rfl⟩ (by (try dsimp only); exact ghA) ?_
 rintro i ⟨hi, hi2, hv⟩ K hK hE hR
 by_cases h : i < l.length
 ·obtain ⟨x, hx⟩ := get_ex h; have hlt : ((i : Int) < (l.length : Int)) := (by omega); have hw := wrapS (i := i) (by omega)
  by_cases h2 : i < m.length
  ·obtain ⟨y, hy⟩ := get_ex h2
   have hne : ((i : Int) == (m.length : Int)) = false := by simp; omega
   rw [drop_cons hx, drop_cons hy, cmpInts] at hv
   by_cases h3 : x > y
   ·have hc : decide (cmpInts l m < 0) = false := by rw [hv, if_neg (by omega), if_pos (by omega)]; rfl
    simp only [go_sem, simprocAttr, hlt, hx, hy, Ahl.encI, hne, h3, hR]
    exact rt (.bool false) ⟨by rw [hc], rfl⟩
   ·by_cases h4 : x < y
    ·have hc : decide (cmpInts l m < 0) = true := by rw [hv, if_pos h4]; rfl
     simp only [go_sem, simprocAttr, hlt, hx, hy, Ahl.encI, hne, h3, h4, hR]
     exact rt (.bool true) ⟨by rw [hc], rfl⟩
    ·rw [if_neg h4, if_neg (by omega)] at hv
     simp only [go_sem, simprocAttr, hlt, hx, hy, Ahl.encI, hne, h3, h4]
     refine hK _ _ (i + 1) (⟨by omega, by omega, hv⟩) om ?_; (try dsimp only); (try simp only [ hw]); exact ghA
  ·have hne : ((i : Int) == (m.length : Int)) = true := by simp; omega
   have hc : decide (cmpInts l m < 0) = false := by rw [hv, drop_cons hx, drop_len h2]; rfl
   simp only [go_sem, simprocAttr, hlt, hx, Ahl.encI, hne, hR]
   exact rt (.bool false) ⟨by rw [hc], rfl⟩
 ·have hlt : ¬ ((i : Int) < (l.length : Int)) := by omega
  by_cases h2 : (l.length : Int) < (m.length : Int)
  ·obtain ⟨y, hy⟩ := get_ex (show i < m.length by omega)
   have hc : decide (cmpInts l m < 0) = true := by rw [hv, drop_len h, drop_cons hy]; rfl
   simp only [go_sem, simprocAttr, hlt, hE, h2]
   exact rt (.bool true) ⟨by rw [hc], rfl⟩
  ·have hc : decide (cmpInts l m < 0) = false := by rw [hv, drop_len h, drop_len (show ¬ i < m.length by omega)]; rfl
   simp only [go_sem, simprocAttr, hlt, hE, h2]
   exact rt (.bool false) ⟨by rw [hc], rfl⟩
theorem insAt_le (l : List (List Int)) (s : List Int) : insAt l s ≤ l.length := by
 unfold insAt; exact (List.takeWhile_sublist _).length_le
theorem insAt_mem {s : List Int} : ∀ {l : List (List Int)}, l.Pairwise ltL → (s ∈ l ↔ l[insAt l s]? = some s)
 | [], _ => by simp
 | x :: l, h => by
  obtain ⟨h1, h2⟩ := List.pairwise_cons.1 h
  rw [insAt_cons]
  by_cases hc : cmpInts x s < 0
  ·rw [if_pos hc, List.getElem?_cons_succ, ← insAt_mem h2, List.mem_cons]
   constructor
   ·rintro (rfl | q)
    ·rw [cmpInts_refl] at hc; omega
    ·exact q
   ·exact fun q => .inr q
  ·rw [if_neg hc, List.getElem?_cons_zero, List.mem_cons]
   constructor
   ·rintro (rfl | q)
    ·rfl
    ·exact absurd (h1 s q) hc
   ·intro e; injection e with e; exact .inl e.symm
def e_insert13_0 : List COp := [oS 34 (.bslice 1 [] false), oS 35 (.move (.tmp 0)), oS 36 (.move (.tmp 6)), oA 37 (.slc 1 (.tmp 35) none (some (.tmp 36)) none) [1, 2], oA 38 (.bappend 1 24 (.tmp 34) (.tmp 37) false) [0, 3], oS 39 (.move (.tmp 1)), oA 40 (.bsliceC 1 [.tmp 39]) [5], oA 41 (.bappend 1 24 (.tmp 38) (.tmp 40) false) [4, 6, 4], oS 42 (.move (.tmp 0)), oS 43 (.move (.tmp 6)), oA 44 (.slc 1 (.tmp 42) (some (.tmp 43)) none none) [8, 9], oA 45 (.bappend 1 24 (.tmp 41) (.tmp 44) false) [7, 10, 7], oA 4 (.move (.tmp 45)) [11, 11, 0, 1, 2, 3, 4, 5, 6, 7, 8, 9, 10, 11], oA 5 (.move (.lit (.bool true))) [12, 0, 1, 2, 3, 4, 5, 6, 7, 8, 9, 10, 11, 12]]
def d_insert13_0 : List COp := e_insert13_0
theorem dr_insert13_0 (P : Program) (nt n0 : Nat) (Q : Post) (s : Slots) (σ : Store) : wpc P nt n0 (.draw d_insert13_0) Q s σ = aOpsD P nt e_insert13_0 (Q .normal) s σ := wpc_draw _ (by decide)
attribute [local go_sem] dr_insert13_0 e_insert13_0
def c_insert13 : CCode := .seq (.ops [oS 4 (.move (.lit (.slice .nil []))), oS 5 (.move (.lit (.bool false)))]) (.seq (.ops [oS 6 (.move (.lit (.int .i64 0)))]) (.seq (.block 0 (.loop (.seq (.seq (.ops [oS 7 (.move (.tmp 6)), oS 8 (.move (.tmp 0)), oS 9 (.blen 1 (.tmp 8)), oS 10 (.bin .lss .none (.tmp 7) (.tmp 9)), oS 11 (.move (.tmp 10)), oG 12 11 true (.move (.tmp 0)), oG 13 11 true (.move (.tmp 6)), oG 14 11 true (.iaddr 1 (.tmp 12) (.tmp 13)), oG 15 11 true (.load none (.tmp 14)), oG 16 11 true (.move (.tmp 1)), oG 17 11 true (.call (.lit (.func 75 [])) [.tmp 15, .tmp 16]), oS 18 (.pick (.tmp 11) (.tmp 17) (.lit (.bool false)))]) (.cond (.tmp 18) .skip (.exit 0))) (.block 1 (.ops [oS 19 (.move (.tmp 6)), oS 20 (.bin .add .none (.tmp 19) (.lit (.int .i64 1))), oS 6 (.move (.tmp 20))]))))) (.seq (.seq (.ops [oS 21 (.move (.tmp 6)), oS 22 (.move (.tmp 0)), oS 23 (.blen 1 (.tmp 22)), oS 24 (.bin .lss .none (.tmp 21) (.tmp 23)), oS 25 (.move (.tmp 24)), oG 26 25 true (.move (.tmp 0)), oG 27 25 true (.move (.tmp 6)), oG 28 25 true (.iaddr 1 (.tmp 26) (.tmp 27)), oG 29 25 true (.load none (.tmp 28)), oG 30 25 true (.move (.tmp 1)), oG 31 25 true (.call (.lit (.func 42 [])) [.tmp 29, .tmp 30]), oS 32 (.pick (.tmp 25) (.tmp 31) (.lit (.bool false)))]) (.cond (.tmp 32) (.seq (.ops [oS 33 (.move (.tmp 0)), oS 4 (.move (.tmp 33)), oS 5 (.move (.lit (.bool false)))]) .ret) .skip)) (.seq (.draw d_insert13_0) .ret))))
theorem insert13_spec (l : List (List Int)) (s : List Int) (tok : Tok) (σ : Store) (hl : l.length ≤ 1000000) (hlm : ∀ x ∈ l, x.length ≤ 140737488355328) (hs : s.length ≤ 140737488355328) (hp : l.Pairwise ltL) :
  ACalls Tryz.prog 76 [.slice tok (l.map encL), .slice .unk (s.map Ahl.encI)] σ (isR (.tuple [.slice .unk ((insN l s).map encL), .bool (!(decide (s ∈ l)))]) σ) := by
 refine ACalls.intro (rs := [(.tmp 4), (.tmp 5)]) (by kernel_rfl) { own := [], ghosts := [], cold := [(6, 6)] } Tryz.func76 (c := Tryz.f76.body.getD .skip) (by kernel_rfl) (by decide) (by rw [show Tryz.f76.ntmps = 46 by kernel_rfl]; exact Nat.le_of_ble_eq_true rfl) (by kernel_rfl) ?_
 intro hσ hids
 rw [show comp Tryz.prog { own := [], ghosts := [], cold := [(6, 6)] } (Tryz.f76.body.getD .skip) = c_insert13 by kernel_rfl, show Tryz.f76.ntmps = 46 by kernel_rfl]
 unfold c_insert13
 have hil : Ids σ.length (.slice tok (l.map encL)) := hids _ (by simp)
 have his : Ids σ.length (.slice .unk (s.map Ahl.encI)) := hids _ (by simp)
 have hle := insAt_le l s
 have hmem := insAt_mem (s := s) hp
 simp only [go_sem, simprocAttr]
 refine wpc_while (fun (i : Nat) => [(0, .slice tok (l.map encL)), (1, .slice .unk (s.map Ahl.encI)), (6, .int .i64 (i : Nat))]) (fun _ => σ) (fun i => i ≤ l.length ∧ insAt l s = i + insAt (l.drop i) s) (fun i => l.length - i) 0 ⟨Nat.zero_le _, by simp⟩ (by (try dsimp only); exact ghA) ?_
 rintro i ⟨hi, hv⟩ K hK hE hR
 by_cases h : i < l.length
 ·obtain ⟨x, hx⟩ := get_ex h; have hlt : ((i : Int) < (l.length : Int)) := (by omega); have hw := wrapS (i := i) (by omega)
  rw [drop_cons hx, insAt_cons] at hv
  simp only [go_sem, simprocAttr, hlt, hx, encL]
  refine (before13_spec x s .unk .unk _ (hlm x (List.mem_of_getElem? hx)) hs).is ?_
  by_cases h1 : cmpInts x s < 0
  ·rw [decide_eq_true h1]
   rw [if_pos h1] at hv
   simp only [go_sem, simprocAttr]
   refine hK _ _ (i + 1) (⟨by omega, by omega⟩) om ?_; (try dsimp only); (try simp only [ hw]); exact ghA
  ·rw [decide_eq_false h1]
   rw [if_neg h1, Nat.add_zero] at hv
   rw [hv, hx] at hmem
   simp only [go_sem, simprocAttr, hE, hlt, hx, encL]
   refine (sameInts_spec x s .unk .unk _ (hlm x (List.mem_of_getElem? hx)) hs).is ?_
   by_cases h2 : x = s
   ·have hm : s ∈ l := hmem.2 (by rw [h2])
    have e1 : insN l s = l := if_pos hm
    rw [decide_eq_true h2]
    simp only [go_sem, simprocAttr]
    exact rT (.slice .unk (l.map encL)) (.bool false) ⟨by rw [e1, decide_eq_true hm]; rfl, rfl⟩
   ·have hm : s ∉ l := fun q => h2 (by have := hmem.1 q; injection this)
    have e1 : insN l s = insL l s := if_neg hm
    rw [decide_eq_false h2]
    simp only [go_sem, simprocAttr]
    have hdk : ((l.map encL).drop i).take (l.length - i) = (l.drop i).map encL := by rw [← List.map_drop, List.take_of_length_le (by simp)]
    have hlt1 : (l.take i).length = i := by rw [List.length_take]; omega
    have hl1 : ∀ k : List (List Int), ∀ e ∈ k.map encL, e.length = 1 ∧ e.all AV.one = true := fun k e he => by obtain ⟨x, _, rfl⟩ := List.mem_map.1 he; exact ⟨rfl, rfl⟩
    have hb1 : bigLen (l.take i).length 24 := big_ok (by omega) (by omega)
    have hb2 : bigLen ((l.take i).length + 1) 24 := big_ok (by omega) (by omega)
    have hb3 : bigLen ((l.take i).length + 1 + (l.drop i).length) 24 := big_ok (by omega) (by rw [List.length_drop]; omega)
    rw [Nat.sub_zero, ← List.map_take, hdk, List.length_map, List.length_map]
    refine ⟨by omega, hi, fun _ _ => rfl, hl1 _, hb1, hb2, hi, fun _ _ => rfl, hl1 _, hb3, ?_⟩
    have hfin : (l.take i).map encL ++ [AV.slice .unk (s.map Ahl.encI)] :: (l.drop i).map encL = (insL l s).map encL := by
     unfold insL
     rw [hv, List.map_append, List.map_append, List.append_assoc]; rfl
    rw [hfin]
    exact rT (.slice .unk ((insL l s).map encL)) (.bool true) ⟨by rw [e1, decide_eq_false hm]; rfl, rfl⟩
 ·have hlt : ¬ ((i : Int) < (l.length : Int)) := by omega
  have hd : l.drop i = [] := drop_len h
  have hv : insAt l s = i := by rw [hv, hd]; rfl
  have hm : s ∉ l := fun q => by have := hmem.1 q; rw [hv, List.getElem?_eq_none (by omega)] at this; simp at this
  have e1 : insN l s = insL l s := if_neg hm
  simp only [go_sem, simprocAttr, hlt, hE]
  have hdk : ((l.map encL).drop i).take (l.length - i) = (l.drop i).map encL := by rw [← List.map_drop, List.take_of_length_le (by simp)]
  have hlt1 : (l.take i).length = i := by rw [List.length_take]; omega
  have hl1 : ∀ k : List (List Int), ∀ e ∈ k.map encL, e.length = 1 ∧ e.all AV.one = true := fun k e he => by obtain ⟨x, _, rfl⟩ := List.mem_map.1 he; exact ⟨rfl, rfl⟩
  have hb1 : bigLen (l.take i).length 24 := big_ok (by omega) (by omega)
  have hb2 : bigLen ((l.take i).length + 1) 24 := big_ok (by omega) (by omega)
  have hb3 : bigLen ((l.take i).length + 1 + (l.drop i).length) 24 := big_ok (by omega) (by rw [List.length_drop]; omega)
  rw [Nat.sub_zero, ← List.map_take, hdk, List.length_map, List.length_map]
  refine ⟨by omega, hi, fun _ _ => rfl, hl1 _, hb1, hb2, hi, fun _ _ => rfl, hl1 _, hb3, ?_⟩
  have hfin : (l.take i).map encL ++ [AV.slice .unk (s.map Ahl.encI)] :: (l.drop i).map encL = (insL l s).map encL := by
   unfold insL
   rw [hv, List.map_append, List.map_append, List.append_assoc]; rfl
  rw [hfin]
  exact rT (.slice .unk ((insL l s).map encL)) (.bool true) ⟨by rw [e1, decide_eq_false hm]; rfl, rfl⟩
theorem insN_len (out : List (List Int)) (x : List Int) : (insN out x).length ≤ out.length + 1 := by
 unfold insN; split
 ·omega
 ·unfold insL
  have := insAt_le out x
  simp only [List.length_append, List.length_take, List.length_drop, List.length_singleton]; omega
def LT (b : List (List Int)) : Prop := b.length ≤ 140737488355328 ∧ ∀ s ∈ b, s.length ≤ 140737488355328
theorem LB.lt {b : List (List Int)} (h : LB b) : LT b := ⟨by have := h.1; omega, fun s hs => by have := h.2 s hs; omega⟩
def worldB (n : Nat) (b : List (List Int)) (i : Nat) (s : List Int) : Bool := risingB n (-1) s && (decide (i = 0) || decide (cmpInts (b.getD (i - 1) []) s < 0))
def belB (n : Nat) (b : List (List Int)) : Bool := ((List.range b.length).all fun i => worldB n b i (b.getD i [])) && (decide (1 ≤ b.length) && decide (b.length ≤ 64))
def bErr (t : FTask) (b : List (List Int)) : Int := if validB t then (if belB t.facts.length b then 0 else 170) else 10
def c_bvalid : CCode := .seq (.ops [oS 2 (.box (.tmp 0)), oS 4 (.move (.lit (.bool false)))]) (.seq (.seq (.ops [oS 7 (.move (.tmp 1)), oS 8 (.blen 1 (.tmp 7)), oS 9 (.move (.lit (.int .i64 0)))]) (.block 0 (.loop (.seq (.ops [oS 10 (.bin .lss .none (.tmp 9) (.tmp 8))]) (.seq (.cond (.tmp 10) .skip (.exit 0)) (.seq (.block 1 (.seq (.ops [oS 11 (.move (.tmp 9)), oS 12 (.iaddr 1 (.tmp 7) (.tmp 9)), oS 13 (.load none (.tmp 12)), oS 5 (.move (.tmp 11)), oS 6 (.move (.tmp 13))]) (.seq (.ops [oS 14 (.faddr 0 (.tmp 2)), oS 15 (.load none (.tmp 14)), oS 16 (.blen 1 (.tmp 15)), oS 17 (.move (.tmp 6)), oS 18 (.call (.lit (.func 57 [])) [.tmp 16, .tmp 17]), oS 19 (.un .not (.tmp 18)), oS 20 (.move (.tmp 19)), oG 21 20 false (.move (.tmp 5)), oG 22 20 false (.bin .gtr .none (.tmp 21) (.lit (.int .i64 0))), oG 23 20 false (.move (.tmp 22)), oG 24 23 true (.move (.tmp 1)), oG 25 23 true (.move (.tmp 5)), oG 26 23 true (.bin .sub .none (.tmp 25) (.lit (.int .i64 1))), oG 27 23 true (.iaddr 1 (.tmp 24) (.tmp 26)), oG 28 23 true (.load none (.tmp 27)), oG 29 23 true (.move (.tmp 6)), oG 30 23 true (.call (.lit (.func 62 [])) [.tmp 28, .tmp 29]), oG 31 23 true (.bin .geq .none (.tmp 30) (.lit (.int .i64 0))), oG 32 20 false (.pick (.tmp 23) (.tmp 31) (.lit (.bool false))), oS 33 (.pick (.tmp 20) (.lit (.bool true)) (.tmp 32))]) (.cond (.tmp 33) (.seq (.ops [oS 4 (.move (.lit (.bool false)))]) .ret) .skip)))) (.ops [oS 34 (.bin .add .none (.tmp 9) (.lit (.int .i64 1))), oS 9 (.move (.tmp 34))]))))))) (.seq (.ops [oS 35 (.move (.tmp 1)), oS 36 (.blen 1 (.tmp 35)), oS 37 (.bin .geq .none (.tmp 36) (.lit (.int .i64 1))), oS 38 (.move (.tmp 37)), oG 39 38 true (.move (.tmp 1)), oG 40 38 true (.blen 1 (.tmp 39)), oG 41 38 true (.bin .leq .none (.tmp 40) (.lit (.int .i64 64))), oS 42 (.pick (.tmp 38) (.tmp 41) (.lit (.bool false))), oS 4 (.move (.tmp 42))]) .ret))
theorem bvalid_spec (t : FTask) (b : List (List Int)) (tok : Tok) (σ : Store) (ht : TB t) (hb : LT b) :
  ACalls Tryz.prog 66 [.agg (encTask t), .slice tok (b.map encL)] σ (isR (.bool (belB t.facts.length b)) σ) := by
 refine ACalls.intro (rs := [(.tmp 4)]) (by kernel_rfl) { own := [], ghosts := [] } Tryz.func66 (c := Tryz.f66.body.getD .skip) (by kernel_rfl) (by decide) (by rw [show Tryz.f66.ntmps = 43 by kernel_rfl]; exact Nat.le_of_ble_eq_true rfl) (by kernel_rfl) ?_
 intro hσ hids
 rw [show comp Tryz.prog { own := [], ghosts := [] } (Tryz.f66.body.getD .skip) = c_bvalid by kernel_rfl, show Tryz.f66.ntmps = 43 by kernel_rfl]
 unfold c_bvalid
 have hil : Ids σ.length (.slice tok (b.map encL)) := hids _ (by simp)
 have hb1 := hb.1
 have hrowT : IdsS (σ ++ [AObj.row (encTask t)]).length (σ ++ [AObj.row (encTask t)]) := idsS_push hσ (idsO_row (ids_encTask t))
 simp only [encTask] at hrowT
 simp only [go_sem, simprocAttr, encTask]
 refine wpc_while (fun (i : Nat) => [(1, .slice tok (b.map encL)), (2, .ptr σ.length 0), (7, .slice tok (b.map encL)), (8, .int .i64 b.length), (9, .int .i64 (i : Nat))])
  (fun _ => σ ++ [.row (encTask t)]) (fun i => i ≤ b.length ∧ ∀ j, j < i → worldB t.facts.length b j (b.getD j []) = true) (fun i => b.length - i) 0 ⟨Nat.zero_le _, fun j hj => absurd hj (by simp)⟩ (by simp only [encTask]; exact ghL0 hrowT) ?_
 rintro i ⟨hi, hok⟩ K hK hE hR
 by_cases h : i < b.length
 ·obtain ⟨s, hx⟩ := get_ex h
  have hsl := hb.2 s (List.mem_of_getElem? hx)
  have hgd : b.getD i [] = s := by rw [List.getD_eq_getElem?_getD, hx]; rfl
  have hlt : ((i : Int) < (b.length : Int)) := by omega
  have hw1 := wrapS (i := i) (by omega)
  have hbad : worldB t.facts.length b i s = false → belB t.facts.length b = false := fun q => by
   unfold belB
   rw [show ((List.range b.length).all fun i => worldB t.facts.length b i (b.getD i [])) = false from List.all_eq_false.2 ⟨i, List.mem_range.2 h, by rw [hgd, q]; simp⟩]
   rfl
  have hok' : worldB t.facts.length b i s = true → ∀ j, j < i + 1 → worldB t.facts.length b j (b.getD j []) = true := fun q j hj => by
   rcases Nat.lt_or_ge j i with q2 | q2
   ·exact hok j q2
   ·have : j = i := by omega
    subst this; rw [hgd]; exact q
  simp only [go_sem, simprocAttr, hlt, hx, encL, encTask]
  refine (rising_spec s t.facts.length .unk _ (by omega)).is ?_
  cases hr : risingB t.facts.length (-1) s
  ·simp only [go_sem, simprocAttr, hR]
   exact rt (.bool false) ⟨by rw [hbad (by unfold worldB; rw [hr]; rfl)], rfl⟩
  by_cases hi0 : i = 0
  ·have hlt0 : ¬ ((i : Int) > 0) := by omega
   simp only [go_sem, simprocAttr, hlt0]
   refine hK _ _ (i + 1) ⟨by omega, hok' (by unfold worldB; rw [hr, decide_eq_true hi0]; rfl)⟩ (by omega) ?_
   rw [hw1]
   simp only [encTask]
   exact ghL0 hrowT
  ·have hlt0 : ((i : Int) > 0) := by omega
   obtain ⟨y, hy⟩ := get_ex (show i - 1 < b.length by omega)
   have hyl := hb.2 y (List.mem_of_getElem? hy)
   have hw2 : IntKind.i64.wrap ((i : Int) - 1) = ((i - 1 : Nat) : Int) := by rw [wrap_ok (by omega)]; omega
   have hgd2 : b.getD (i - 1) [] = y := by rw [List.getD_eq_getElem?_getD, hy]; rfl
   simp only [go_sem, simprocAttr, hlt0, hw2, hy, encL]
   refine (slCmp_spec y s .unk .unk _ (by omega) (by omega)).is ?_
   by_cases hcq : cmpInts y s ≥ 0
   ·simp only [go_sem, simprocAttr, hcq, hR]
    exact rt (.bool false) ⟨by rw [hbad (by unfold worldB; rw [hgd2, decide_eq_false hi0, decide_eq_false (by omega : ¬ cmpInts y s < 0)]; simp)], rfl⟩
   ·simp only [go_sem, simprocAttr, hcq]
    refine hK _ _ (i + 1) ⟨by omega, hok' (by unfold worldB; rw [hr, hgd2, decide_eq_true (by omega : cmpInts y s < 0)]; simp)⟩ (by omega) ?_
    rw [hw1]
    simp only [encTask]
    exact ghL0 hrowT
 ·have hlt : ¬ ((i : Int) < (b.length : Int)) := by omega
  have hv : belB t.facts.length b = (decide (1 ≤ b.length) && decide (b.length ≤ 64)) := by
   unfold belB
   rw [List.all_eq_true.2 fun j hj => hok j (by have := List.mem_range.1 hj; omega), Bool.true_and]
  by_cases h1 : ((b.length : Int) ≥ 1)
  ·have e1 : decide (1 ≤ b.length) = true := decide_eq_true (by omega)
   by_cases h2 : ((b.length : Int) ≤ 64)
   ·have e2 : decide (b.length ≤ 64) = true := decide_eq_true (by omega)
    simp only [go_sem, simprocAttr, hlt, hE, h1, h2]
    exact rt (.bool true) ⟨by rw [hv, e1, e2]; rfl, rfl⟩
   ·have e2 : decide (b.length ≤ 64) = false := decide_eq_false (by omega)
    simp only [go_sem, simprocAttr, hlt, hE, h1, h2]
    exact rt (.bool false) ⟨by rw [hv, e1, e2]; rfl, rfl⟩
  ·have e1 : decide (1 ≤ b.length) = false := decide_eq_false (by omega)
   simp only [go_sem, simprocAttr, hlt, hE, h1]
   exact rt (.bool false) ⟨by rw [hv, e1]; rfl, rfl⟩
def c_basks : CCode := .seq (.ops [oS 2 (.box (.tmp 0)), oS 4 (.move (.lit (.int .i64 0)))]) (.seq (.block 0 (.seq (.ops [oS 6 (.load (some 4) (.tmp 2)), oS 7 (.call (.lit (.func 31 [])) [.tmp 6]), oS 8 (.un .not (.tmp 7)), oS 5 (.move (.tmp 8))]) (.cond (.tmp 5) (.seq (.ops [oS 4 (.move (.lit (.int .i64 10)))]) .ret) (.seq (.ops [oS 10 (.load (some 4) (.tmp 2)), oS 11 (.move (.tmp 1)), oS 12 (.call (.lit (.func 66 [])) [.tmp 10, .tmp 11]), oS 13 (.un .not (.tmp 12)), oS 9 (.move (.tmp 13))]) (.cond (.tmp 9) (.seq (.ops [oS 4 (.move (.lit (.int .i64 170)))]) .ret) .skip))))) (.seq (.ops [oS 4 (.move (.lit (.int .i64 0)))]) .ret))
theorem basks_spec (t : FTask) (b : List (List Int)) (tok : Tok) (σ : Store) (ht : TB t) (hb : LT b) :
  ACalls Tryz.prog 36 [.agg (encTask t), .slice tok (b.map encL)] σ (isR (.int .i64 (bErr t b)) σ) := by
 refine ACalls.intro (rs := [(.tmp 4)]) (by kernel_rfl) { own := [], ghosts := [] } Tryz.func36 (c := Tryz.f36.body.getD .skip) (by kernel_rfl) (by decide) (by rw [show Tryz.f36.ntmps = 14 by kernel_rfl]; exact Nat.le_of_ble_eq_true rfl) (by kernel_rfl) ?_
 intro hσ hids
 rw [show comp Tryz.prog { own := [], ghosts := [] } (Tryz.f36.body.getD .skip) = c_basks by kernel_rfl, show Tryz.f36.ntmps = 14 by kernel_rfl]
 unfold c_basks
 have hil : Ids σ.length (.slice tok (b.map encL)) := hids _ (by simp)
 simp only [go_sem, simprocAttr, encTask]
 refine (valid_spec t _ ht).is ?_
 cases h1 : validB t
 ·simp only [go_sem, simprocAttr]
  exact rt (.int .i64 10) ⟨by unfold bErr; rw [h1]; rfl, rfl⟩
 simp only [go_sem, simprocAttr, encTask]
 refine (bvalid_spec t b tok _ ht hb).is ?_
 cases h2 : belB t.facts.length b
 ·simp only [go_sem, simprocAttr]
  exact rt (.int .i64 170) ⟨by unfold bErr; rw [h1, h2]; rfl, rfl⟩
 ·simp only [go_sem, simprocAttr]
  exact rt (.int .i64 0) ⟨by unfold bErr; rw [h1, h2]; rfl, rfl⟩
def c_bcheck : CCode := .seq (.ops [oS 2 (.box (.tmp 0)), oS 4 (.move (.lit (.int .i64 0)))]) (.seq (.ops [oS 5 (.load (some 4) (.tmp 2)), oS 6 (.move (.tmp 1)), oS 7 (.call (.lit (.func 36 [])) [.tmp 5, .tmp 6]), oS 4 (.move (.tmp 7))]) .ret)
theorem bcheck_spec (t : FTask) (b : List (List Int)) (tok : Tok) (σ : Store) (ht : TB t) (hb : LT b) :
  ACalls Tryz.prog 13 [.agg (encTask t), .slice tok (b.map encL)] σ (isR (.int .i64 (bErr t b)) σ) := by
 refine ACalls.intro (rs := [(.tmp 4)]) (by kernel_rfl) { own := [], ghosts := [] } Tryz.func13 (c := Tryz.f13.body.getD .skip) (by kernel_rfl) (by decide) (by rw [show Tryz.f13.ntmps = 8 by kernel_rfl]; exact Nat.le_of_ble_eq_true rfl) (by kernel_rfl) ?_
 intro hσ hids
 rw [show comp Tryz.prog { own := [], ghosts := [] } (Tryz.f13.body.getD .skip) = c_bcheck by kernel_rfl, show Tryz.f13.ntmps = 8 by kernel_rfl]
 unfold c_bcheck
 simp only [go_sem, simprocAttr, encTask]
 refine (basks_spec t b tok _ ht hb).is ?_
 simp only [go_sem, simprocAttr]
 exact rt (.int .i64 (bErr t b)) ⟨rfl, rfl⟩
def c_is17 : CCode := .seq (.ops [oS 2 (.box (.tmp 0)), oS 4 (.move (.lit (.bool false)))]) (.seq (.seq (.ops [oS 7 (.move (.tmp 1)), oS 8 (.blen 1 (.tmp 7)), oS 9 (.bin .lss .none (.tmp 8) (.lit (.int .i64 1))), oS 10 (.move (.tmp 9)), oG 11 10 false (.move (.tmp 1)), oG 12 10 false (.blen 1 (.tmp 11)), oG 13 10 false (.bin .gtr .none (.tmp 12) (.lit (.int .i64 64))), oS 14 (.pick (.tmp 10) (.lit (.bool true)) (.tmp 13))]) (.cond (.tmp 14) (.seq (.ops [oS 4 (.move (.lit (.bool false)))]) .ret) .skip)) (.seq (.seq (.ops [oS 15 (.move (.tmp 1)), oS 16 (.blen 1 (.tmp 15)), oS 17 (.move (.lit (.int .i64 0)))]) (.block 0 (.loop (.seq (.ops [oS 18 (.bin .lss .none (.tmp 17) (.tmp 16))]) (.seq (.cond (.tmp 18) .skip (.exit 0)) (.seq (.block 1 (.seq (.ops [oS 19 (.move (.tmp 17)), oS 20 (.iaddr 1 (.tmp 15) (.tmp 17)), oS 21 (.load none (.tmp 20)), oS 5 (.move (.tmp 19)), oS 6 (.move (.tmp 21))]) (.seq (.ops [oS 22 (.load (some 4) (.tmp 2)), oS 23 (.move (.tmp 6)), oS 24 (.call (.lit (.func 74 [])) [.tmp 22, .tmp 23]), oS 25 (.un .not (.tmp 24)), oS 26 (.move (.tmp 25)), oG 27 26 false (.move (.tmp 5)), oG 28 26 false (.bin .gtr .none (.tmp 27) (.lit (.int .i64 0))), oG 29 26 false (.move (.tmp 28)), oG 30 29 true (.move (.tmp 1)), oG 31 29 true (.move (.tmp 5)), oG 32 29 true (.bin .sub .none (.tmp 31) (.lit (.int .i64 1))), oG 33 29 true (.iaddr 1 (.tmp 30) (.tmp 32)), oG 34 29 true (.load none (.tmp 33)), oG 35 29 true (.move (.tmp 6)), oG 36 29 true (.call (.lit (.func 75 [])) [.tmp 34, .tmp 35]), oG 37 29 true (.un .not (.tmp 36)), oG 38 26 false (.pick (.tmp 29) (.tmp 37) (.lit (.bool false))), oS 39 (.pick (.tmp 26) (.lit (.bool true)) (.tmp 38))]) (.cond (.tmp 39) (.seq (.ops [oS 4 (.move (.lit (.bool false)))]) .ret) .skip)))) (.ops [oS 40 (.bin .add .none (.tmp 17) (.lit (.int .i64 1))), oS 17 (.move (.tmp 40))]))))))) (.seq (.ops [oS 4 (.move (.lit (.bool true)))]) .ret)))
theorem is17_spec (t : FTask) (b : List (List Int)) (tok : Tok) (σ : Store) (ht : TB t) (hb : LT b) :
  ACalls Tryz.prog 40 [.agg (encTask t), .slice tok (b.map encL)] σ (isR (.bool (belB t.facts.length b)) σ) := by
 refine ACalls.intro (rs := [(.tmp 4)]) (by kernel_rfl) { own := [], ghosts := [] } Tryz.func40 (c := Tryz.f40.body.getD .skip) (by kernel_rfl) (by decide) (by rw [show Tryz.f40.ntmps = 41 by kernel_rfl]; exact Nat.le_of_ble_eq_true rfl) (by kernel_rfl) ?_
 intro hσ hids
 rw [show comp Tryz.prog { own := [], ghosts := [] } (Tryz.f40.body.getD .skip) = c_is17 by kernel_rfl, show Tryz.f40.ntmps = 41 by kernel_rfl]
 unfold c_is17
 have hil : Ids σ.length (.slice tok (b.map encL)) := hids _ (by simp)
 have hb1 := hb.1
 have hrowT : IdsS (σ ++ [AObj.row (encTask t)]).length (σ ++ [AObj.row (encTask t)]) := idsS_push hσ (idsO_row (ids_encTask t))
 simp only [encTask] at hrowT
 by_cases h1 : ((b.length : Int) < 1)
 ·simp only [go_sem, simprocAttr, encTask, h1]
  exact rt (.bool false) ⟨by unfold belB; rw [decide_eq_false (by omega : ¬ 1 ≤ b.length)]; simp, rfl⟩
 by_cases h2 : ((b.length : Int) > 64)
 ·simp only [go_sem, simprocAttr, encTask, h1, h2]
  exact rt (.bool false) ⟨by unfold belB; rw [decide_eq_false (by omega : ¬ b.length ≤ 64)]; simp, rfl⟩
 simp only [go_sem, simprocAttr, encTask, h1, h2]
 refine wpc_while (fun (i : Nat) => [(1, .slice tok (b.map encL)), (2, .ptr σ.length 0), (15, .slice tok (b.map encL)), (16, .int .i64 b.length), (17, .int .i64 (i : Nat))])
  (fun _ => σ ++ [.row (encTask t)]) (fun i => i ≤ b.length ∧ ∀ j, j < i → worldB t.facts.length b j (b.getD j []) = true) (fun i => b.length - i) 0 ⟨Nat.zero_le _, fun j hj => absurd hj (by simp)⟩ (by simp only [encTask]; exact ghL0 hrowT) ?_
 rintro i ⟨hi, hok⟩ K hK hE hR
 by_cases h : i < b.length
 ·obtain ⟨s, hx⟩ := get_ex h
  have hsl := hb.2 s (List.mem_of_getElem? hx)
  have hgd : b.getD i [] = s := by rw [List.getD_eq_getElem?_getD, hx]; rfl
  have hlt : ((i : Int) < (b.length : Int)) := by omega
  have hw1 := wrapS (i := i) (by omega)
  have hbad : worldB t.facts.length b i s = false → belB t.facts.length b = false := fun q => by
   unfold belB
   rw [show ((List.range b.length).all fun i => worldB t.facts.length b i (b.getD i [])) = false from List.all_eq_false.2 ⟨i, List.mem_range.2 h, by rw [hgd, q]; simp⟩]
   rfl
  have hok' : worldB t.facts.length b i s = true → ∀ j, j < i + 1 → worldB t.facts.length b j (b.getD j []) = true := fun q j hj => by
   rcases Nat.lt_or_ge j i with q2 | q2
   ·exact hok j q2
   ·have : j = i := by omega
    subst this; rw [hgd]; exact q
  simp only [go_sem, simprocAttr, hlt, hx, encL, encTask]
  refine (state02_spec t s .unk _ (by omega)).is ?_
  cases hr : risingB t.facts.length (-1) s
  ·simp only [go_sem, simprocAttr, hR]
   exact rt (.bool false) ⟨by rw [hbad (by unfold worldB; rw [hr]; rfl)], rfl⟩
  by_cases hi0 : i = 0
  ·have hlt0 : ¬ ((i : Int) > 0) := by omega
   simp only [go_sem, simprocAttr, hlt0]
   refine hK _ _ (i + 1) ⟨by omega, hok' (by unfold worldB; rw [hr, decide_eq_true hi0]; rfl)⟩ (by omega) ?_
   rw [hw1]
   simp only [encTask]
   exact ghL0 hrowT
  ·have hlt0 : ((i : Int) > 0) := by omega
   obtain ⟨y, hy⟩ := get_ex (show i - 1 < b.length by omega)
   have hyl := hb.2 y (List.mem_of_getElem? hy)
   have hw2 : IntKind.i64.wrap ((i : Int) - 1) = ((i - 1 : Nat) : Int) := by rw [wrap_ok (by omega)]; omega
   have hgd2 : b.getD (i - 1) [] = y := by rw [List.getD_eq_getElem?_getD, hy]; rfl
   simp only [go_sem, simprocAttr, hlt0, hw2, hy, encL]
   refine (before13_spec y s .unk .unk _ (by omega) (by omega)).is ?_
   by_cases hcq : cmpInts y s < 0
   ·rw [decide_eq_true hcq]
    simp only [go_sem, simprocAttr]
    refine hK _ _ (i + 1) ⟨by omega, hok' (by unfold worldB; rw [hr, hgd2, decide_eq_true hcq]; simp)⟩ (by omega) ?_
    rw [hw1]
    simp only [encTask]
    exact ghL0 hrowT
   ·rw [decide_eq_false hcq]
    simp only [go_sem, simprocAttr, hR]
    exact rt (.bool false) ⟨by rw [hbad (by unfold worldB; rw [hgd2, decide_eq_false hi0, decide_eq_false hcq]; simp)], rfl⟩
 ·have hlt : ¬ ((i : Int) < (b.length : Int)) := by omega
  have hv : belB t.facts.length b = true := by
   unfold belB
   rw [List.all_eq_true.2 fun j hj => hok j (by have := List.mem_range.1 hj; omega), decide_eq_true (by omega : 1 ≤ b.length), decide_eq_true (by omega : b.length ≤ 64)]; rfl
  simp only [go_sem, simprocAttr, hlt, hE]
  exact rt (.bool true) ⟨by rw [hv], rfl⟩
def c_fault17 : CCode := .seq (.ops [oS 2 (.box (.tmp 0)), oS 4 (.move (.lit (.int .i64 0)))]) (.seq (.block 0 (.seq (.ops [oS 6 (.load (some 4) (.tmp 2)), oS 7 (.call (.lit (.func 39 [])) [.tmp 6]), oS 8 (.un .not (.tmp 7)), oS 5 (.move (.tmp 8))]) (.cond (.tmp 5) (.seq (.ops [oS 4 (.move (.lit (.int .i64 10)))]) .ret) (.seq (.ops [oS 10 (.load (some 4) (.tmp 2)), oS 11 (.move (.tmp 1)), oS 12 (.call (.lit (.func 40 [])) [.tmp 10, .tmp 11]), oS 13 (.un .not (.tmp 12)), oS 9 (.move (.tmp 13))]) (.cond (.tmp 9) (.seq (.ops [oS 4 (.move (.lit (.int .i64 170)))]) .ret) .skip))))) (.seq (.ops [oS 4 (.move (.lit (.int .i64 0)))]) .ret))
theorem fault17_spec (t : FTask) (b : List (List Int)) (tok : Tok) (σ : Store) (ht : TB t) (hb : LT b) :
  ACalls Tryz.prog 12 [.agg (encTask t), .slice tok (b.map encL)] σ (isR (.int .i64 (bErr t b)) σ) := by
 refine ACalls.intro (rs := [(.tmp 4)]) (by kernel_rfl) { own := [], ghosts := [] } Tryz.func12 (c := Tryz.f12.body.getD .skip) (by kernel_rfl) (by decide) (by rw [show Tryz.f12.ntmps = 14 by kernel_rfl]; exact Nat.le_of_ble_eq_true rfl) (by kernel_rfl) ?_
 intro hσ hids
 rw [show comp Tryz.prog { own := [], ghosts := [] } (Tryz.f12.body.getD .skip) = c_fault17 by kernel_rfl, show Tryz.f12.ntmps = 14 by kernel_rfl]
 unfold c_fault17
 have hil : Ids σ.length (.slice tok (b.map encL)) := hids _ (by simp)
 simp only [go_sem, simprocAttr, encTask]
 refine (is01_spec t _ ht).is ?_
 cases h1 : validB t
 ·simp only [go_sem, simprocAttr]
  exact rt (.int .i64 10) ⟨by unfold bErr; rw [h1]; rfl, rfl⟩
 simp only [go_sem, simprocAttr, encTask]
 refine (is17_spec t b tok _ ht hb).is ?_
 cases h2 : belB t.facts.length b
 ·simp only [go_sem, simprocAttr]
  exact rt (.int .i64 170) ⟨by unfold bErr; rw [h1, h2]; rfl, rfl⟩
 ·simp only [go_sem, simprocAttr]
  exact rt (.int .i64 0) ⟨by unfold bErr; rw [h1, h2]; rfl, rfl⟩
def c_idxW : CCode := .seq (.ops [oS 4 (.move (.lit (.int .i64 0)))]) (.seq (.seq (.ops [oS 6 (.move (.tmp 0)), oS 7 (.blen 1 (.tmp 6)), oS 8 (.move (.lit (.int .i64 0)))]) (.block 0 (.loop (.seq (.ops [oS 9 (.bin .lss .none (.tmp 8) (.tmp 7))]) (.seq (.cond (.tmp 9) .skip (.exit 0)) (.seq (.block 1 (.seq (.ops [oS 10 (.move (.tmp 8)), oS 5 (.move (.tmp 10))]) (.seq (.ops [oS 11 (.move (.tmp 1)), oS 12 (.move (.tmp 0)), oS 13 (.move (.tmp 5)), oS 14 (.iaddr 1 (.tmp 12) (.tmp 13)), oS 15 (.load none (.tmp 14)), oS 16 (.call (.tmp 11) [.tmp 15])]) (.cond (.tmp 16) (.seq (.ops [oS 17 (.move (.tmp 5)), oS 4 (.move (.tmp 17))]) .ret) .skip)))) (.ops [oS 18 (.bin .add .none (.tmp 8) (.lit (.int .i64 1))), oS 8 (.move (.tmp 18))]))))))) (.seq (.ops [oS 4 (.move (.lit (.int .i64 (-1))))]) .ret))
theorem idxW_spec (l : List (List Int)) (g : FuncId) (cap : List AV) (p : List Int → Bool) (tok : Tok) (σ : Store) (hl : l.length ≤ 140737488355328)
  (hp : ∀ x ∈ l, ACalls Tryz.prog g (.slice .unk (x.map Ahl.encI) :: cap) σ (isR (.bool (p x)) σ)) :
  ACalls Tryz.prog 101 [.slice tok (l.map encL), .func g cap] σ (isR (.int .i64 (idxFrom p 0 l)) σ) := by
 refine ACalls.intro (rs := [(.tmp 4)]) (by kernel_rfl) { own := [], ghosts := [] } Tryz.func101 (c := Tryz.f101.body.getD .skip) (by kernel_rfl) (by decide) (by rw [show Tryz.f101.ntmps = 19 by kernel_rfl]; exact Nat.le_of_ble_eq_true rfl) (by kernel_rfl) ?_
 intro hσ hids
 rw [show comp Tryz.prog { own := [], ghosts := [] } (Tryz.f101.body.getD .skip) = c_idxW by kernel_rfl, show Tryz.f101.ntmps = 19 by kernel_rfl]
 unfold c_idxW
 have hil : Ids σ.length (.slice tok (l.map encL)) := hids _ (by simp)
 have hif : Ids σ.length (.func g cap) := hids _ (by simp)
 simp only [go_sem, simprocAttr]
 refine wpc_while (fun i => [(0, .slice tok (l.map encL)), (1, .func g cap), (7, .int .i64 l.length), (8, .int .i64 (i : Nat))]) (fun _ => σ) (fun i => i ≤ l.length ∧ idxFrom p 0 l = idxFrom p i (l.drop i)) (fun i => l.length - i) 0 ⟨Nat.zero_le _, rfl⟩ (by (try dsimp only); exact ghA) ?_
 rintro i ⟨hi, hv⟩ K hK hE hR
 by_cases h : i < l.length
 ·obtain ⟨y, hx⟩ := get_ex h; have hlt : ((i : Int) < (l.length : Int)) := (by omega); have hw := wrapS (i := i) (by omega)
  rw [drop_cons hx, idxFrom] at hv
  simp only [go_sem, simprocAttr, hlt, hx, encL]
  refine (hp y (List.mem_of_getElem? hx)).is ?_
  cases h1 : p y
  ·simp only [go_sem, simprocAttr]
   rw [h1, if_neg (by simp)] at hv
   refine hK _ _ (i + 1) (⟨by omega, by rw [hv]; norm_cast⟩) om ?_; (try dsimp only); (try simp only [ hw]); exact ghA
  ·rw [h1, if_pos rfl] at hv
   simp only [go_sem, simprocAttr, hR]
   exact rt (.int .i64 i) ⟨by rw [hv], rfl⟩
 ·have hlt : ¬ ((i : Int) < (l.length : Int)) := by omega
  rw [drop_len h, idxFrom] at hv
  simp only [go_sem, simprocAttr, hlt, hE]
  exact rt (.int .i64 (-1)) ⟨by rw [hv], rfl⟩
def c_contW : CCode := .seq (.ops [oS 4 (.move (.lit (.bool false)))]) (.seq (.ops [oS 5 (.move (.tmp 0)), oS 6 (.move (.tmp 1)), oS 7 (.call (.lit (.func 101 [])) [.tmp 5, .tmp 6]), oS 8 (.bin .geq .none (.tmp 7) (.lit (.int .i64 0))), oS 4 (.move (.tmp 8))]) .ret)
theorem contW_spec (l : List (List Int)) (g : FuncId) (cap : List AV) (p : List Int → Bool) (tok : Tok) (σ : Store) (hl : l.length ≤ 140737488355328)
  (hp : ∀ x ∈ l, ACalls Tryz.prog g (.slice .unk (x.map Ahl.encI) :: cap) σ (isR (.bool (p x)) σ)) :
  ACalls Tryz.prog 67 [.slice tok (l.map encL), .func g cap] σ (isR (.bool (l.any p)) σ) := by
 refine ACalls.intro (rs := [(.tmp 4)]) (by kernel_rfl) { own := [], ghosts := [] } Tryz.func67 (c := Tryz.f67.body.getD .skip) (by kernel_rfl) (by decide) (by rw [show Tryz.f67.ntmps = 9 by kernel_rfl]; exact Nat.le_of_ble_eq_true rfl) (by kernel_rfl) ?_
 intro hσ hids
 rw [show comp Tryz.prog { own := [], ghosts := [] } (Tryz.f67.body.getD .skip) = c_contW by kernel_rfl, show Tryz.f67.ntmps = 9 by kernel_rfl]
 unfold c_contW
 simp only [go_sem, simprocAttr]
 refine (idxW_spec l g cap p tok _ hl hp).is ?_
 simp only [go_sem, simprocAttr, idxFrom_ge _ l 0 (Int.le_refl _)]
 first | exact rtw (v := .bool _) wkS ⟨rfl, rfl⟩ | exact rtw0 (v := .bool _) wkS ⟨rfl, rfl⟩
def allH (b : List (List Int)) (l : List FLit) : Bool := b.all fun s => condHolds s l
def c_bholds1 : CCode := .seq (.ops [oS 3 (.move (.lit (.bool false)))]) (.seq (.ops [oS 4 (.move (.tmp 0)), oS 5 (.load none (.tmp 1)), oS 6 (.call (.lit (.func 38 [])) [.tmp 4, .tmp 5]), oS 7 (.un .not (.tmp 6)), oS 3 (.move (.tmp 7))]) .ret)
theorem bholds1_spec (s : List Int) (l : List FLit) (id : Nat) (tok : Tok) (σ : Store) (hl : l.length ≤ 140737488355328) (hs : s.length ≤ 140737488355328) (hr : s.Pairwise (· < ·)) (hid : σ[id]? = some (.row [.slice tok (l.map encLit)])) :
  ACalls Tryz.prog 68 [.slice .unk (s.map Ahl.encI), .ptr id 0] σ (isR (.bool (!condHolds s l)) σ) := by
 refine ACalls.intro (rs := [(.tmp 3)]) (by kernel_rfl) { own := [], ghosts := [] } Tryz.func68 (c := Tryz.f68.body.getD .skip) (by kernel_rfl) (by decide) (by rw [show Tryz.f68.ntmps = 8 by kernel_rfl]; exact Nat.le_of_ble_eq_true rfl) (by kernel_rfl) ?_
 intro hσ hids
 rw [show comp Tryz.prog { own := [], ghosts := [] } (Tryz.f68.body.getD .skip) = c_bholds1 by kernel_rfl, show Tryz.f68.ntmps = 8 by kernel_rfl]
 unfold c_bholds1
 have hidl := lt_of_get hid
 simp only [go_sem, simprocAttr, hid]
 refine (sTrue_spec s l .unk tok _ hs hr hl).is ?_
 simp only [go_sem, simprocAttr]
 first | exact rtw (v := .bool _) wkS ⟨rfl, rfl⟩ | exact rtw0 (v := .bool _) wkS ⟨rfl, rfl⟩
def c_bholds : CCode := .seq (.ops [oS 3 (.box (.tmp 1)), oS 4 (.move (.lit (.bool false)))]) (.seq (.ops [oS 5 (.move (.tmp 0)), oS 6 (.mkfunc 68 [.tmp 3]), oS 7 (.call (.lit (.func 67 [])) [.tmp 5, .tmp 6]), oS 8 (.un .not (.tmp 7)), oS 4 (.move (.tmp 8))]) .ret)
theorem bholds_spec (b : List (List Int)) (l : List FLit) (tok tok' : Tok) (σ : Store) (hl : l.length ≤ 140737488355328) (hb : LB b) (hr : ∀ s ∈ b, s.Pairwise (· < ·)) :
  ACalls Tryz.prog 37 [.slice tok (b.map encL), .slice tok' (l.map encLit)] σ (isR (.bool (allH b l)) σ) := by
 refine ACalls.intro (rs := [(.tmp 4)]) (by kernel_rfl) { own := [], ghosts := [] } Tryz.func37 (c := Tryz.f37.body.getD .skip) (by kernel_rfl) (by decide) (by rw [show Tryz.f37.ntmps = 9 by kernel_rfl]; exact Nat.le_of_ble_eq_true rfl) (by kernel_rfl) ?_
 intro hσ hids
 rw [show comp Tryz.prog { own := [], ghosts := [] } (Tryz.f37.body.getD .skip) = c_bholds by kernel_rfl, show Tryz.f37.ntmps = 9 by kernel_rfl]
 unfold c_bholds
 have hb1 := hb.1
 simp only [go_sem, simprocAttr]
 refine (contW_spec b 68 [.ptr σ.length 0] (fun s => !condHolds s l) tok _ (by omega) (fun s hs => bholds1_spec s l σ.length tok' _ hl (by have := hb.2 s hs; omega) (hr s hs) (by simp))).is ?_
 have e : (!(b.any fun s => !condHolds s l)) = allH b l := by unfold allH; rw [List.all_eq_not_any_not]
 simp only [go_sem, simprocAttr, e]
 exact rt (.bool (allH b l)) ⟨rfl, rfl⟩
def c_holds17 : CCode := .seq (.ops [oS 4 (.move (.lit (.bool false)))]) (.seq (.seq (.ops [oS 7 (.move (.tmp 0)), oS 8 (.blen 1 (.tmp 7)), oS 9 (.move (.lit (.int .i64 0)))]) (.block 0 (.loop (.seq (.ops [oS 10 (.bin .lss .none (.tmp 9) (.tmp 8))]) (.seq (.cond (.tmp 10) .skip (.exit 0)) (.seq (.block 1 (.seq (.ops [oS 11 (.iaddr 1 (.tmp 7) (.tmp 9)), oS 12 (.load none (.tmp 11)), oS 6 (.move (.tmp 12))]) (.seq (.ops [oS 13 (.move (.tmp 6)), oS 14 (.move (.tmp 1)), oS 15 (.call (.lit (.func 77 [])) [.tmp 13, .tmp 14]), oS 16 (.un .not (.tmp 15))]) (.cond (.tmp 16) (.seq (.ops [oS 4 (.move (.lit (.bool false)))]) .ret) .skip)))) (.ops [oS 17 (.bin .add .none (.tmp 9) (.lit (.int .i64 1))), oS 9 (.move (.tmp 17))]))))))) (.seq (.ops [oS 4 (.move (.lit (.bool true)))]) .ret))
theorem holds17_spec (b : List (List Int)) (l : List FLit) (tok tok' : Tok) (σ : Store) (hl : l.length ≤ 140737488355328) (hb : LB b) :
  ACalls Tryz.prog 43 [.slice tok (b.map encL), .slice tok' (l.map encLit)] σ (isR (.bool (allH b l)) σ) := by
 refine ACalls.intro (rs := [(.tmp 4)]) (by kernel_rfl) { own := [], ghosts := [] } Tryz.func43 (c := Tryz.f43.body.getD .skip) (by kernel_rfl) (by decide) (by rw [show Tryz.f43.ntmps = 18 by kernel_rfl]; exact Nat.le_of_ble_eq_true rfl) (by kernel_rfl) ?_
 intro hσ hids
 rw [show comp Tryz.prog { own := [], ghosts := [] } (Tryz.f43.body.getD .skip) = c_holds17 by kernel_rfl, show Tryz.f43.ntmps = 18 by kernel_rfl]
 unfold c_holds17
 have hil : Ids σ.length (.slice tok (b.map encL)) := hids _ (by simp)
 have hil2 : Ids σ.length (.slice tok' (l.map encLit)) := hids _ (by simp)
 have hb1 := hb.1
 simp only [go_sem, simprocAttr]
 refine wpc_while (fun (i : Nat) => [(1, .slice tok' (l.map encLit)), (7, .slice tok (b.map encL)), (8, .int .i64 b.length), (9, .int .i64 (i : Nat))]) (fun _ => σ) (fun i => i ≤ b.length ∧ allH b l = allH (b.drop i) l) (fun i => b.length - i) 0 ⟨Nat.zero_le _, rfl⟩ (by (try dsimp only); exact ghA) ?_
 rintro i ⟨hi, hv⟩ K hK hE hR
 by_cases h : i < b.length
 ·obtain ⟨s, hx⟩ := get_ex h; have hlt : ((i : Int) < (b.length : Int)) := (by omega); have hw := wrapS (i := i) (by omega)
  have hsl := hb.2 s (List.mem_of_getElem? hx)
  have hv : allH b l = (condHolds s l && allH (b.drop (i + 1)) l) := by rw [hv, drop_cons hx]; rfl
  simp only [go_sem, simprocAttr, hlt, hx, encL]
  refine (holds02_spec s l .unk tok' _ (by omega) hl).is ?_
  cases h1 : condHolds s l
  ·simp only [go_sem, simprocAttr, hR]
   exact rt (.bool false) ⟨by rw [hv, h1]; rfl, rfl⟩
  ·simp only [go_sem, simprocAttr]
   refine hK _ _ (i + 1) (⟨by omega, by rw [hv, h1, Bool.true_and]⟩) om ?_; (try dsimp only); (try simp only [ hw]); exact ghA
 ·have hlt : ¬ ((i : Int) < (b.length : Int)) := by omega
  rw [drop_len h] at hv
  simp only [go_sem, simprocAttr, hlt, hE]
  exact rt (.bool true) ⟨by rw [hv]; rfl, rfl⟩
def knownOne (b : List (List Int)) (i j : Nat) : List FLit := (([false, true].take j).map fun neg => (⟨(i : Int), neg⟩ : FLit)).filter fun l => allH b [l]
def knownU (b : List (List Int)) (i j : Nat) : List FLit := ((List.range i).flatMap fun f => knownOne b f 2) ++ knownOne b i j
def knownL (n : Nat) (b : List (List Int)) : List FLit := knownU b n 0
theorem knownOne_zero (b : List (List Int)) (i : Nat) : knownOne b i 0 = [] := rfl
theorem knownU_two (b : List (List Int)) (i : Nat) : knownU b i 2 = knownU b (i + 1) 0 := by
 unfold knownU
 rw [knownOne_zero, List.append_nil, List.range_succ, List.flatMap_append]; simp
theorem knownU_step (b : List (List Int)) (i j : Nat) {neg : Bool} (h : [false, true][j]? = some neg) : knownU b i (j + 1) = knownU b i j ++ if allH b [⟨i, neg⟩] then [⟨i, neg⟩] else [] := by
 unfold knownU
 rw [List.append_assoc]
 congr 1
 unfold knownOne
 rw [take_succ' h, List.map_append, List.filter_append, List.map_singleton]
 congr 1
 cases hc : allH b [⟨i, neg⟩] <;> simp [List.filter_cons, hc]
theorem knownOne_len (b : List (List Int)) (i j : Nat) : (knownOne b i j).length ≤ 2 := by
 unfold knownOne
 refine Nat.le_trans (List.length_filter_le _ _) ?_
 rw [List.length_map, List.length_take]; simp only [List.length_cons, List.length_nil]; omega
theorem knownU_len (b : List (List Int)) : ∀ i j : Nat, (knownU b i j).length ≤ 2 * i + 2 := fun i j => by
 have h : ∀ i : Nat, ((List.range i).flatMap fun f => knownOne b f 2).length ≤ 2 * i := fun i => by
  induction i with
  | zero => simp
  | succ i ih =>
   rw [List.range_succ, List.flatMap_append, List.length_append]
   have := knownOne_len b i 2
   simp only [List.flatMap_cons, List.flatMap_nil, List.append_nil]; omega
 unfold knownU
 rw [List.length_append]
 have := h i; have := knownOne_len b i j; omega
def knownRes (t : FTask) (b : List (List Int)) : AV := if bErr t b = 0 then .tuple [.slice .fresh ((knownL t.facts.length b).map encLit), .int .i64 0] else .tuple [.slice .nil [], .int .i64 (bErr t b)]
theorem bErr_zero {t : FTask} {b : List (List Int)} (h : bErr t b = 0) : validB t = true ∧ belB t.facts.length b = true := by
 unfold bErr at h
 cases h1 : validB t
 ·rw [h1] at h; simp at h
 cases h2 : belB t.facts.length b
 ·rw [h1, h2] at h; simp at h
 exact ⟨rfl, rfl⟩
theorem bel_states {n : Nat} {b : List (List Int)} (h : belB n b = true) {s : List Int} (hs : s ∈ b) : risingB n (-1) s = true := by
 unfold belB at h
 rw [Bool.and_eq_true] at h
 obtain ⟨i, hi, rfl⟩ := List.mem_iff_getElem.1 hs
 have := List.all_eq_true.1 h.1 i (List.mem_range.2 hi)
 unfold worldB at this
 rw [Bool.and_eq_true, List.getD_eq_getElem?_getD, List.getElem?_eq_getElem hi] at this
 exact this.1
theorem bel_len {n : Nat} {b : List (List Int)} (h : belB n b = true) : 1 ≤ b.length ∧ b.length ≤ 64 := by
 unfold belB at h
 rw [Bool.and_eq_true, Bool.and_eq_true, decide_eq_true_eq, decide_eq_true_eq] at h
 exact h.2
theorem bel_lb {n : Nat} (hn : n ≤ 200) {b : List (List Int)} (h : belB n b = true) : LB b := by
 refine ⟨by have := bel_len h; omega, fun s hs => ?_⟩
 rcases rising_len (bel_states h hs) (by omega) with q | q
 ·omega
 ·rw [q]; simp
def c_bknown : CCode := .seq (.ops [oS 2 (.box (.tmp 0)), oS 4 (.move (.lit (.slice .nil []))), oS 5 (.move (.lit (.int .i64 0)))]) (.seq (.seq (.ops [oS 12 (.load (some 4) (.tmp 2)), oS 13 (.move (.tmp 1)), oS 14 (.call (.lit (.func 36 [])) [.tmp 12, .tmp 13]), oS 6 (.move (.tmp 14))]) (.seq (.ops [oS 15 (.move (.tmp 6)), oS 16 (.bin .neq .none (.tmp 15) (.lit (.int .i64 0)))]) (.cond (.tmp 16) (.seq (.ops [oS 17 (.move (.tmp 6)), oS 4 (.move (.lit (.slice .nil []))), oS 5 (.move (.tmp 17))]) .ret) .skip))) (.seq (.ops [oS 7 (.move (.lit (.slice .nil [])))]) (.seq (.seq (.ops [oS 18 (.faddr 0 (.tmp 2)), oS 19 (.load none (.tmp 18)), oS 20 (.blen 1 (.tmp 19)), oS 21 (.move (.lit (.int .i64 0)))]) (.block 0 (.loop (.seq (.ops [oS 22 (.bin .lss .none (.tmp 21) (.tmp 20))]) (.seq (.cond (.tmp 22) .skip (.exit 0)) (.seq (.block 1 (.seq (.ops [oS 23 (.move (.tmp 21)), oS 8 (.move (.tmp 23))]) (.seq (.ops [oS 24 (.bslice 1 [.lit (.bool false), .lit (.bool true)] false), oS 25 (.blen 1 (.tmp 24)), oS 26 (.move (.lit (.int .i64 0)))]) (.block 2 (.loop (.seq (.ops [oS 27 (.bin .lss .none (.tmp 26) (.tmp 25))]) (.seq (.cond (.tmp 27) .skip (.exit 2)) (.seq (.block 3 (.seq (.ops [oS 28 (.iaddr 1 (.tmp 24) (.tmp 26)), oS 29 (.load none (.tmp 28)), oS 10 (.move (.tmp 29))]) (.seq (.ops [oS 30 (.move (.tmp 8)), oS 31 (.move (.tmp 10)), oS 32 (.build [.int .i64 0, .bool false] [(0, 1, .tmp 30), (1, 1, .tmp 31)]), oS 11 (.alloc (.agg [.int .i64 0, .bool false])), oN (.store 2 (.tmp 11) (.tmp 32))]) (.seq (.ops [oS 33 (.move (.tmp 1)), oS 34 (.load (some 2) (.tmp 11)), oS 35 (.bslice 2 [.tmp 34] false), oS 36 (.call (.lit (.func 37 [])) [.tmp 33, .tmp 35])]) (.cond (.tmp 36) (.ops [oS 37 (.move (.tmp 7)), oS 38 (.load (some 2) (.tmp 11)), oS 39 (.bslice 2 [.tmp 38] false), oS 40 (.bappend 2 16 (.tmp 37) (.tmp 39) false), oS 7 (.move (.tmp 40))]) .skip))))) (.ops [oS 41 (.bin .add .none (.tmp 26) (.lit (.int .i64 1))), oS 26 (.move (.tmp 41))]))))))))) (.ops [oS 42 (.bin .add .none (.tmp 21) (.lit (.int .i64 1))), oS 21 (.move (.tmp 42))]))))))) (.seq (.ops [oS 43 (.move (.tmp 7)), oS 4 (.move (.tmp 43)), oS 5 (.move (.lit (.int .i64 0)))]) .ret))))
set_option maxHeartbeats 1000000 in
theorem known_specF (t : FTask) (b : List (List Int)) (tok : Tok) (σ : Store) (ht : TB t) (hb : LT b) :
  ACalls Tryz.prog 10 [.agg (encTask t), .slice tok (b.map encL)] σ (isR (knownRes t b) σ) := by
 refine ACalls.intro (rs := [(.tmp 4), (.tmp 5)]) (by kernel_rfl) { own := [], ghosts := [] } Tryz.func10 (c := Tryz.f10.body.getD .skip) (by kernel_rfl) (by decide) (by rw [show Tryz.f10.ntmps = 44 by kernel_rfl]; exact Nat.le_of_ble_eq_true rfl) (by kernel_rfl) ?_
 intro hσ hids
 rw [show comp Tryz.prog { own := [], ghosts := [] } (Tryz.f10.body.getD .skip) = c_bknown by kernel_rfl, show Tryz.f10.ntmps = 44 by kernel_rfl]
 unfold c_bknown
 have hil : Ids σ.length (.slice tok (b.map encL)) := hids _ (by simp)
 have hibo : Ids σ.length (.slice .unk [[AV.bool false], [AV.bool true]]) := .slice _ _ (by simp) (by
  intro i e he j x hx
  have h1 := List.mem_of_getElem? he
  have h2 := List.mem_of_getElem? hx
  simp only [List.mem_cons, List.not_mem_nil, or_false] at h1
  rcases h1 with rfl | rfl <;> simp only [List.mem_cons, List.not_mem_nil, or_false] at h2 <;> subst h2 <;> exact .bool _)
 have hs1 : ∀ k : Nat, IdsS (σ ++ [AObj.grow 2 k]).length (σ ++ [AObj.grow 2 k]) := fun k => idsS_push hσ trivial
 simp only [go_sem, simprocAttr, encTask]
 refine (basks_spec t b tok _ ht hb).is ?_
 by_cases h0 : ¬ bErr t b = 0
 ·have h1 : (bErr t b != 0) = true := by simpa using h0
  simp only [go_sem, simprocAttr, h1]
  exact rT (.slice .nil []) (.int .i64 (bErr t b)) ⟨by rw [knownRes, if_neg h0], rfl⟩
 replace h0 := Decidable.not_not.1 h0
 obtain ⟨hv, hbel⟩ := bErr_zero h0
 have hn := valid_facts hv
 have hpw : ∀ s ∈ b, s.Pairwise (· < ·) := fun s hs => (rising_pw (bel_states hbel hs)).1
 have hlb := bel_lb (by omega) hbel
 rw [h0]
 simp only [go_sem, simprocAttr, encTask]
 refine wpc_while (fun (i : Nat) => [(7, .slice (.grow σ.length) ((knownU b i 0).map encLit)), (1, .slice tok (b.map encL)), (20, .int .i64 t.facts.length), (21, .int .i64 (i : Nat))])
  (fun i => σ ++ [.grow 2 (knownU b i 0).length]) (fun i => i ≤ t.facts.length) (fun i => t.facts.length - i) 0 (Nat.zero_le _) (Ghost.begin 7 2 _ (Nat.le_refl _) tellT hσ) ?_
 intro i hi K hK hE hR
 by_cases h : i < t.facts.length
 ·have hlt : ((i : Int) < (t.facts.length : Int)) := by omega
  have hw := wrapS (i := i) (by omega)
  simp only [go_sem, simprocAttr, hlt]
  refine wpc_while (fun (j : Nat) => [(7, .slice (.grow σ.length) ((knownU b i j).map encLit)), (1, .slice tok (b.map encL)), (8, .int .i64 (i : Nat)), (20, .int .i64 t.facts.length), (21, .int .i64 (i : Nat)), (24, .slice .unk [[.bool false], [.bool true]]), (25, .int .i64 2), (26, .int .i64 (j : Nat))])
   (fun j => σ ++ [.grow 2 (knownU b i j).length]) (fun j => j ≤ 2) (fun j => 2 - j) 0 (Nat.zero_le _) ?_ ?_
  ·(try dsimp only)
   first | exact ghL0 (hs1 _) | exact ghL (l := [.grow 2 _]) (hs1 _)
  intro j hj0 K2 hK2 hE2 hR2
  by_cases hj : j < 2
  ·have hlt2 : ((j : Int) < 2) := by omega
   obtain ⟨neg, hneg⟩ : ∃ neg, [false, true][j]? = some neg := get_ex (by simpa using hj)
   have hneg' : ([[AV.bool false], [AV.bool true]] : List (List AV))[j]? = some [AV.bool neg] := by
    match j, hj with
    | 0, _ => simp at hneg; subst hneg; rfl
    | 1, _ => simp at hneg; subst hneg; rfl
   have hw2 := wrapS (i := j) (by omega)
   have hst := knownU_step b i j hneg
   have hul := knownU_len b i j
   obtain ⟨U, hU⟩ : ∃ U, U = knownU b i j := ⟨_, rfl⟩
   rw [← hU] at hst hul ⊢
   have hbig : bigLen (U.length + 1) 16 := big_ok (by omega) (by omega)
   simp only [go_sem, simprocAttr, hlt2, hneg']
   refine (bholds_spec b [⟨i, neg⟩] tok _ _ (by simp) hlb hpw).is ?_
   cases hh : allH b [⟨i, neg⟩]
   ·rw [hh, if_neg (by simp), List.append_nil] at hst
    simp only [go_sem, simprocAttr]
    refine hK2 _ _ (j + 1) (by omega) (by omega) ?_
    (try dsimp only)
    rw [hst, hw2]
    first | exact ghL0 (hs1 _) | exact ghL (l := [.grow 2 _]) (hs1 _)
   ·rw [hh, if_pos rfl] at hst
    have e3 : U.map encLit ++ [[AV.int .i64 (i : Int), AV.bool neg]] = (U ++ [(⟨i, neg⟩ : FLit)]).map encLit := by rw [List.map_append]; rfl
    have e4 : U.length + 1 = (U ++ [(⟨i, neg⟩ : FLit)]).length := by simp
    simp only [go_sem, simprocAttr, hbig]
    rw [e3, e4]
    refine hK2 _ _ (j + 1) (by omega) (by omega) ?_
    (try dsimp only)
    rw [hst, hw2]
    generalize U ++ [(⟨(i : Int), neg⟩ : FLit)] = V
    exact ghL (l := [.grow 2 _]) (hs1 _)
  ·have hlt2 : ¬ ((j : Int) < 2) := by omega
   obtain rfl : j = 2 := by omega
   rw [knownU_two]
   simp only [go_sem, simprocAttr, hlt2, hE2]
   refine hK _ _ (i + 1) (by omega) (by omega) ?_
   (try dsimp only)
   rw [hw]
   first | exact ghL0 (hs1 _) | exact ghL (l := [.grow 2 _]) (hs1 _)
 ·have hlt : ¬ ((i : Int) < (t.facts.length : Int)) := by omega
  obtain rfl : i = t.facts.length := by omega
  simp only [go_sem, simprocAttr, hlt, hE]
  exact rT (.slice .fresh ((knownL t.facts.length b).map encLit)) (.int .i64 0) ⟨by rw [knownRes, if_pos h0], rfl⟩
def yesL (b : List (List Int)) (f : Int) : List (List Int) := b.filter fun s => s.contains f
def noL (b : List (List Int)) (f : Int) : List (List Int) := b.filter fun s => !s.contains f
theorem yesL_step {b : List (List Int)} {i : Nat} {s : List Int} (f : Int) (h : b[i]? = some s) : yesL (b.take (i + 1)) f = yesL (b.take i) f ++ if s.contains f then [s] else [] := by
 unfold yesL; rw [take_succ' h, List.filter_append]; congr 1
 rw [List.filter_cons]
 cases s.contains f <;> rfl
theorem noL_step {b : List (List Int)} {i : Nat} {s : List Int} (f : Int) (h : b[i]? = some s) : noL (b.take (i + 1)) f = noL (b.take i) f ++ if s.contains f then [] else [s] := by
 unfold noL; rw [take_succ' h, List.filter_append]; congr 1
 rw [List.filter_cons]
 cases s.contains f <;> rfl
theorem yesL_len (b : List (List Int)) (f : Int) : (yesL b f).length ≤ b.length := List.length_filter_le _ _
theorem noL_len (b : List (List Int)) (f : Int) : (noL b f).length ≤ b.length := List.length_filter_le _ _
def revealRes (t : FTask) (b : List (List Int)) (f : Int) : AV := if bErr t b = 0 then (if 0 ≤ f ∧ f < t.facts.length then .tuple [.slice .fresh ((yesL b f).map encLf), .slice .fresh ((noL b f).map encLf), .int .i64 0] else .tuple [.slice .nil [], .slice .nil [], .int .i64 1])
 else .tuple [.slice .nil [], .slice .nil [], .int .i64 (bErr t b)]
theorem cond_one (s : List Int) (f : Int) : condHolds s [⟨f, false⟩] = s.contains f := by unfold condHolds; simp
def c_reveal : CCode := .seq (.ops [oS 3 (.box (.tmp 0)), oS 6 (.move (.lit (.slice .nil []))), oS 7 (.move (.lit (.slice .nil []))), oS 8 (.move (.lit (.int .i64 0)))]) (.seq (.seq (.ops [oS 12 (.load (some 4) (.tmp 3)), oS 13 (.move (.tmp 1)), oS 14 (.call (.lit (.func 36 [])) [.tmp 12, .tmp 13]), oS 9 (.move (.tmp 14))]) (.seq (.ops [oS 15 (.move (.tmp 9)), oS 16 (.bin .neq .none (.tmp 15) (.lit (.int .i64 0)))]) (.cond (.tmp 16) (.seq (.ops [oS 17 (.move (.tmp 9)), oS 6 (.move (.lit (.slice .nil []))), oS 7 (.move (.lit (.slice .nil []))), oS 8 (.move (.tmp 17))]) .ret) .skip))) (.seq (.seq (.ops [oS 18 (.move (.tmp 2)), oS 19 (.bin .lss .none (.tmp 18) (.lit (.int .i64 0))), oS 20 (.move (.tmp 19)), oG 21 20 false (.move (.tmp 2)), oG 22 20 false (.faddr 0 (.tmp 3)), oG 23 20 false (.load none (.tmp 22)), oG 24 20 false (.blen 1 (.tmp 23)), oG 25 20 false (.bin .geq .none (.tmp 21) (.tmp 24)), oS 26 (.pick (.tmp 20) (.lit (.bool true)) (.tmp 25))]) (.cond (.tmp 26) (.seq (.ops [oS 6 (.move (.lit (.slice .nil []))), oS 7 (.move (.lit (.slice .nil []))), oS 8 (.move (.lit (.int .i64 1)))]) .ret) .skip)) (.seq (.seq (.ops [oS 27 (.move (.tmp 1)), oS 28 (.blen 1 (.tmp 27)), oS 29 (.move (.lit (.int .i64 0)))]) (.block 0 (.loop (.seq (.ops [oS 30 (.bin .lss .none (.tmp 29) (.tmp 28))]) (.seq (.cond (.tmp 30) .skip (.exit 0)) (.seq (.block 1 (.seq (.ops [oS 31 (.iaddr 1 (.tmp 27) (.tmp 29)), oS 32 (.load none (.tmp 31)), oS 11 (.move (.tmp 32))]) (.seq (.ops [oS 33 (.move (.tmp 11)), oS 34 (.move (.tmp 2)), oS 35 (.build [.int .i64 0, .bool false] [(0, 1, .tmp 34)]), oS 36 (.bslice 2 [.tmp 35] false), oS 37 (.call (.lit (.func 38 [])) [.tmp 33, .tmp 36])]) (.cond (.tmp 37) (.ops [oS 38 (.move (.tmp 6)), oS 39 (.move (.tmp 11)), oS 40 (.call (.lit (.func 33 [])) [.tmp 39]), oS 41 (.bslice 1 [.tmp 40] false), oS 42 (.bappend 1 24 (.tmp 38) (.tmp 41) false), oS 6 (.move (.tmp 42))]) (.ops [oS 43 (.move (.tmp 7)), oS 44 (.move (.tmp 11)), oS 45 (.call (.lit (.func 33 [])) [.tmp 44]), oS 46 (.bslice 1 [.tmp 45] false), oS 47 (.bappend 1 24 (.tmp 43) (.tmp 46) false), oS 7 (.move (.tmp 47))]))))) (.ops [oS 48 (.bin .add .none (.tmp 29) (.lit (.int .i64 1))), oS 29 (.move (.tmp 48))]))))))) (.seq (.ops [oS 49 (.move (.tmp 6)), oS 50 (.move (.tmp 7)), oS 6 (.move (.tmp 49)), oS 7 (.move (.tmp 50)), oS 8 (.move (.lit (.int .i64 0)))]) .ret))))
set_option maxHeartbeats 1000000 in
theorem reveal_specF (t : FTask) (b : List (List Int)) (f : Int) (tok : Tok) (σ : Store) (ht : TB t) (hb : LT b) :
  ACalls Tryz.prog 11 [.agg (encTask t), .slice tok (b.map encL), .int .i64 f] σ (isR (revealRes t b f) σ) := by
 refine ACalls.intro (rs := [(.tmp 6), (.tmp 7), (.tmp 8)]) (by kernel_rfl) { own := [], ghosts := [] } Tryz.func11 (c := Tryz.f11.body.getD .skip) (by kernel_rfl) (by decide) (by rw [show Tryz.f11.ntmps = 51 by kernel_rfl]; exact Nat.le_of_ble_eq_true rfl) (by kernel_rfl) ?_
 intro hσ hids
 rw [show comp Tryz.prog { own := [], ghosts := [] } (Tryz.f11.body.getD .skip) = c_reveal by kernel_rfl, show Tryz.f11.ntmps = 51 by kernel_rfl]
 unfold c_reveal
 have hil : Ids σ.length (.slice tok (b.map encL)) := hids _ (by simp)
 have hs1 : ∀ k l : Nat, IdsS (σ ++ [AObj.grow 1 k, .grow 1 l]).length (σ ++ [AObj.grow 1 k, .grow 1 l]) := fun k l => idsS_app _ hσ (all_cons' trivial (all_cons' trivial all_nil'))
 simp only [go_sem, simprocAttr, encTask]
 refine (basks_spec t b tok _ ht hb).is ?_
 by_cases h0 : ¬ bErr t b = 0
 ·have h1 : (bErr t b != 0) = true := by simpa using h0
  simp only [go_sem, simprocAttr, h1]
  exact ret3 (.slice .nil []) (.slice .nil []) (.int .i64 (bErr t b)) List.take_left ⟨by rw [revealRes, if_neg h0], rfl⟩
 replace h0 := Decidable.not_not.1 h0
 obtain ⟨hv, hbel⟩ := bErr_zero h0
 have hn := valid_facts hv
 have hbl := bel_len hbel
 have hpw : ∀ s ∈ b, s.Pairwise (· < ·) := fun s hs => (rising_pw (bel_states hbel hs)).1
 rw [h0]
 by_cases hk0 : f < 0
 ·simp only [go_sem, simprocAttr, encTask, hk0]
  exact ret3 (.slice .nil []) (.slice .nil []) (.int .i64 1) List.take_left ⟨by rw [revealRes, if_pos h0, if_neg (by omega)], rfl⟩
 by_cases hk1 : f ≥ t.facts.length
 ·simp only [go_sem, simprocAttr, encTask, hk0, hk1]
  exact ret3 (.slice .nil []) (.slice .nil []) (.int .i64 1) List.take_left ⟨by rw [revealRes, if_pos h0, if_neg (by omega)], rfl⟩
 simp only [go_sem, simprocAttr, encTask, hk0, hk1]
 refine wpc_while (fun (i : Nat) => [(7, .slice (.grow (σ.length + 1)) ((noL (b.take i) f).map encLf)), (6, .slice (.grow σ.length) ((yesL (b.take i) f).map encLf)), (2, .int .i64 f), (27, .slice tok (b.map encL)), (28, .int .i64 b.length), (29, .int .i64 (i : Nat))])
  (fun i => σ ++ [.grow 1 (yesL (b.take i) f).length, .grow 1 (noL (b.take i) f).length]) (fun i => i ≤ b.length) (fun i => b.length - i) 0 (Nat.zero_le _) ?_ ?_
 ·(try dsimp only)
  refine Ghost.trans (Ghost.begin 6 1 [(7, .slice .nil []), (2, .int .i64 f), (27, .slice tok (b.map encL)), (28, .int .i64 b.length), (29, .int .i64 0)] (Nat.le_refl _) tellT hσ) ?_
  exact Ghost.begin1 7 1 _ (Nat.le_refl _) tellT (idsS_push hσ trivial)
 intro i hi K hK hE hR
 by_cases h : i < b.length
 ·obtain ⟨s, hx⟩ := get_ex h; have hlt : ((i : Int) < (b.length : Int)) := (by omega); have hw := wrapS (i := i) (by omega)
  have hsm := List.mem_of_getElem? hx
  have hsl := rising_len (bel_states hbel hsm) (by omega)
  have hsl2 : s.length ≤ 1000000 := by
   rcases hsl with q | q
   ·omega
   ·rw [q]; simp
  have hy := yesL_step f hx
  have hno := noL_step f hx
  have hyl := yesL_len (b.take i) f
  have hnl := noL_len (b.take i) f
  rw [List.length_take_of_le hi] at hyl hnl
  obtain ⟨Y, hY⟩ : ∃ Y, Y = yesL (b.take i) f := ⟨_, rfl⟩
  obtain ⟨N, hN⟩ : ∃ N, N = noL (b.take i) f := ⟨_, rfl⟩
  rw [← hY] at hy hyl ⊢
  rw [← hN] at hno hnl ⊢
  have hbY : bigLen (Y.length + 1) 24 := big_ok (by omega) (by omega)
  have hbN : bigLen (N.length + 1) 24 := big_ok (by omega) (by omega)
  simp only [go_sem, simprocAttr, hlt, hx, encL]
  refine (sTrue_spec s [⟨f, false⟩] .unk _ _ (by omega) (hpw s hsm) (by simp)).is ?_
  rw [cond_one]
  cases hc : s.contains f
  ·rw [hc, if_neg (by simp), List.append_nil] at hy
   rw [hc, if_neg (by simp)] at hno
   simp only [go_sem, simprocAttr]
   refine (cloneI_specF s .unk _ (by omega)).is ?_
   have e3 : N.map encLf ++ [[AV.slice .fresh (s.map Ahl.encI)]] = (N ++ [s]).map encLf := by rw [List.map_append]; rfl
   have e4 : N.length + 1 = (N ++ [s]).length := by simp
   simp only [go_sem, simprocAttr, hbN]
   rw [e3, e4]
   refine hK _ _ (i + 1) (by omega) (by omega) ?_
   (try dsimp only)
   rw [hy, hno, hw]
   generalize N ++ [s] = V
   exact ghL (l := [.grow 1 _, .grow 1 _]) (hs1 _ _)
  ·rw [hc, if_pos rfl] at hy
   rw [hc, if_pos rfl, List.append_nil] at hno
   simp only [go_sem, simprocAttr]
   refine (cloneI_specF s .unk _ (by omega)).is ?_
   have e3 : Y.map encLf ++ [[AV.slice .fresh (s.map Ahl.encI)]] = (Y ++ [s]).map encLf := by rw [List.map_append]; rfl
   have e4 : Y.length + 1 = (Y ++ [s]).length := by simp
   simp only [go_sem, simprocAttr, hbY]
   rw [e3, e4]
   refine hK _ _ (i + 1) (by omega) (by omega) ?_
   (try dsimp only)
   rw [hy, hno, hw]
   generalize Y ++ [s] = V
   exact ghL (l := [.grow 1 _, .grow 1 _]) (hs1 _ _)
 ·have hlt : ¬ ((i : Int) < (b.length : Int)) := by omega
  rw [List.take_of_length_le (by omega)]
  simp only [go_sem, simprocAttr, hlt, hE]
  exact ret3 (.slice .fresh ((yesL b f).map encLf)) (.slice .fresh ((noL b f).map encLf)) (.int .i64 0) List.take_left ⟨by rw [revealRes, if_pos h0, if_pos ⟨by omega, by omega⟩], rfl⟩
def mergeB (l : List (List Int)) : List (List Int) := l.foldl insN []
theorem merge_strict (l : List (List Int)) : (mergeB l).Pairwise ltL := (foldN _ [] .nil).1
theorem merge_mem {l : List (List Int)} {y : List Int} : y ∈ mergeB l ↔ y ∈ l := by unfold mergeB; rw [(foldN _ [] .nil).2]; simp
theorem merge_eq {l m : List (List Int)} (hp : m.Perm l) (hs : m.Pairwise (fun x y => ¬ cmpInts y x < 0)) : dedupL m = mergeB l := by
 refine ltL_unique (dedup_strict hs) (merge_strict l) fun x => ?_
 rw [dedup_mem, hp.mem_iff, merge_mem]
theorem merge_len (l : List (List Int)) : (mergeB l).length ≤ l.length := by
 have key : ∀ (m out : List (List Int)), (m.foldl insN out).length ≤ out.length + m.length := by
  intro m
  induction m with
  | nil => intro out; simp
  | cons x m ih => intro out; rw [List.foldl_cons, List.length_cons]; have := ih (insN out x); have := insN_len out x; omega
 have := key l []
 simpa [mergeB] using this
structure VT (t : FTask) : Prop where
 tb : TB t
 sb : SB t
 eok : EOk t
 nf : t.facts.length ≤ 200
 na : t.actions.length ≤ 1000
 cost : ∀ a ∈ t.actions, 0 ≤ a.cost ∧ a.cost ≤ 100000
theorem valid_VT {t : FTask} (ht : TB t) (hv : validB t = true) : VT t := by
 have hv' := hv
 simp only [validB, Bool.and_eq_true, decide_eq_true_eq] at hv'
 obtain ⟨h1, h2, h3⟩ := valid_SB ⟨ht, by have := hv'.2.1; omega⟩ hv
 refine ⟨ht, h1, h2, h3, hv'.2.1, fun a ha => ?_⟩
 have := List.all_eq_true.1 hv'.2.2.2.2.2.2 a ha
 simp only [actB, Bool.and_eq_true, decide_eq_true_eq] at this
 exact ⟨this.1, this.2.1⟩
def nextB (b : List (List Int)) (x : FAct) : List (List Int) := mergeB (b.map fun s => afterS s x.effects)
def stB (t : FTask) (b : List (List Int)) (a : Nat) : Option (List (List Int)) := match t.actions[a]? with
 | none => none
 | some x => if allH b x.pre then some (nextB b x) else none
structure BelOk (n : Nat) (b : List (List Int)) : Prop where
 ne : 1 ≤ b.length
 le : b.length ≤ 64
 st : ∀ s ∈ b, risingB n (-1) s = true
 ord : b.Pairwise ltL
theorem nextB_ok {t : FTask} (h : VT t) {b : List (List Int)} (hb : BelOk t.facts.length b) {x : FAct} (hx : x ∈ t.actions) : BelOk t.facts.length (nextB b x) where
 ne := by
  obtain ⟨s, hs⟩ : ∃ s, s ∈ b := List.exists_mem_of_length_pos (by have := hb.ne; omega)
  have : afterS s x.effects ∈ nextB b x := merge_mem.2 (List.mem_map.2 ⟨s, hs, rfl⟩)
  exact List.length_pos_of_mem this
 le := by have := merge_len (b.map fun s => afterS s x.effects); rw [List.length_map] at this; have := hb.le; unfold nextB; omega
 st := fun y hy => by
  obtain ⟨s, hs, rfl⟩ := List.mem_map.1 (merge_mem.1 hy)
  rw [afterS_eq (hb.st s hs) (h.eok.rng x hx)]
  exact afterL_rising _ _ _
 ord := merge_strict _
theorem stB_ok {t : FTask} (h : VT t) {b u : List (List Int)} (hb : BelOk t.facts.length b) {a : Nat} (hs : stB t b a = some u) : BelOk t.facts.length u := by
 unfold stB at hs
 cases hx : t.actions[a]? with
 | none => rw [hx] at hs; simp at hs
 | some x =>
  rw [hx] at hs
  simp only at hs
  split at hs
  ·injection hs with hs; subst hs; exact nextB_ok h hb (List.mem_of_getElem? hx)
  ·simp at hs
theorem rising_200 {n : Nat} (hn : n ≤ 200) {s : List Int} (hs : risingB n (-1) s = true) : s.length ≤ 200 := by
 rcases rising_len hs (by omega) with q | q
 ·omega
 ·rw [q]; simp
theorem BelOk.lb {n : Nat} (hn : n ≤ 200) {b : List (List Int)} (h : BelOk n b) : LB b := ⟨by have := h.le; omega, fun s hs => by have := rising_200 hn (h.st s hs); omega⟩
theorem bel_ok {n : Nat} {b : List (List Int)} (h : belB n b = true) : BelOk n b := by
 refine ⟨(bel_len h).1, (bel_len h).2, fun s hs => bel_states h hs, ?_⟩
 have key : ∀ i, i + 1 < b.length → ltL (b.getD i []) (b.getD (i + 1) []) := fun i hi => by
  unfold belB at h
  rw [Bool.and_eq_true] at h
  have := List.all_eq_true.1 h.1 (i + 1) (List.mem_range.2 hi)
  unfold worldB at this
  rw [Bool.and_eq_true, Bool.or_eq_true, decide_eq_true_eq, decide_eq_true_eq] at this
  rcases this.2 with q | q
  ·omega
  ·exact q
 have gen : ∀ l : List (List Int), (∀ i, i + 1 < l.length → ltL (l.getD i []) (l.getD (i + 1) [])) → l.Pairwise ltL := by
  intro l
  induction l with
  | nil => intro _; exact .nil
  | cons x l ih =>
   intro hl
   have hl' := ih fun i hi => by have := hl (i + 1) (by simp only [List.length_cons]; omega); simpa using this
   refine List.pairwise_cons.2 ⟨fun y hy => ?_, hl'⟩
   cases l with
   | nil => simp at hy
   | cons z l =>
    have hxz : ltL x z := by have := hl 0 (by simp); simpa using this
    rcases List.mem_cons.1 hy with rfl | hy
    ·exact hxz
    ·exact cmpInts_trans hxz ((List.pairwise_cons.1 hl').1 y hy)
 exact gen b key
def c_bmerged1 : CCode := .seq (.ops [oS 4 (.move (.lit (.bool false)))]) (.seq (.ops [oS 5 (.move (.tmp 0)), oS 6 (.move (.tmp 1)), oS 7 (.call (.lit (.func 65 [])) [.tmp 5, .tmp 6]), oS 4 (.move (.tmp 7))]) .ret)
theorem bmerged1_spec (x y : List Int) (tok tok' : Tok) (σ : Store) (hx : x.length ≤ 140737488355328) (hy : y.length ≤ 140737488355328) : ACalls Tryz.prog 64 [.slice tok (x.map Ahl.encI), .slice tok' (y.map Ahl.encI)] σ (isR (.bool (decide (x = y))) σ) := by
 refine ACalls.intro (rs := [(.tmp 4)]) (by kernel_rfl) { own := [], ghosts := [] } Tryz.func64 (c := Tryz.f64.body.getD .skip) (by kernel_rfl) (by decide) (by rw [show Tryz.f64.ntmps = 8 by kernel_rfl]; exact Nat.le_of_ble_eq_true rfl) (by kernel_rfl) ?_
 intro hσ hids
 rw [show comp Tryz.prog { own := [], ghosts := [] } (Tryz.f64.body.getD .skip) = c_bmerged1 by kernel_rfl, show Tryz.f64.ntmps = 8 by kernel_rfl]
 unfold c_bmerged1
 simp only [go_sem, simprocAttr]
 refine (eqInts_spec x y tok tok' _ hx hy).is ?_
 simp only [go_sem, simprocAttr]
 first | exact rtw (v := .bool _) wkS ⟨rfl, rfl⟩ | exact rtw0 (v := .bool _) wkS ⟨rfl, rfl⟩
def c_bmerged : CCode := .seq (.ops [oS 2 (.move (.lit (.slice .nil [])))]) (.seq (.ops [oS 3 (.move (.tmp 0)), oS 4 (.call (.lit (.func 61 [])) [.tmp 3, .lit (.func 62 [])])]) (.seq (.ops [oS 5 (.move (.tmp 0)), oS 6 (.call (.lit (.func 63 [])) [.tmp 5, .lit (.func 64 [])]), oS 2 (.move (.tmp 6))]) .ret))
theorem bmerged_spec (id : Nat) (l : List (List Int)) (σ : Store) (hl : ∀ x ∈ l, x.length ≤ 140737488355328) (hlen : l.length ≤ 1000000) (hid : σ[id]? = some (.row (l.map vN))) :
  ACalls Tryz.prog 35 [.ref id 1 0 l.length] σ (isR (.ref id 1 0 (mergeB l).length) (σ.set id (.row ((mergeB l).map vN ++ List.replicate (l.length - (mergeB l).length) (.slice .nil []))))) := by
 refine ACalls.intro (rs := [(.tmp 2)]) (by kernel_rfl) { own := [], ghosts := [] } Tryz.func35 (c := Tryz.f35.body.getD .skip) (by kernel_rfl) (by decide) (by rw [show Tryz.f35.ntmps = 7 by kernel_rfl]; exact Nat.le_of_ble_eq_true rfl) (by kernel_rfl) ?_
 intro hσ hids
 rw [show comp Tryz.prog { own := [], ghosts := [] } (Tryz.f35.body.getD .skip) = c_bmerged by kernel_rfl, show Tryz.f35.ntmps = 7 by kernel_rfl]
 unfold c_bmerged
 have hidl := lt_of_get hid
 simp only [go_sem, simprocAttr]
 refine (sortNN_spec id l hl _ hid (by omega)).mono ?_
 rintro _ _ ⟨rfl, m, hpm, hsm, rfl⟩
 have hml : m.length = l.length := hpm.length_eq
 have hmm : ∀ x ∈ m, x.length ≤ 140737488355328 := fun x hx => hl x (hpm.mem_iff.1 hx)
 simp only [go_sem, simprocAttr]
 rw [← hml]
 have hg : (σ.set id (.row (m.map vN)))[id]? = some (.row (m.map vN)) := by rw [List.getElem?_set_self hidl]
 refine (compact_spec id m 64 [] _ (by omega) hg (fun x y τ hx hy => bmerged1_spec x y .fresh .fresh τ (hmm x hx) (hmm y hy))).to ?_
 rw [merge_eq hpm hsm]
 have hi : IdsS (σ.set id (.row ((mergeB l).map vN ++ List.replicate (m.length - (mergeB l).length) (.slice .nil [])))).length (σ.set id (.row ((mergeB l).map vN ++ List.replicate (m.length - (mergeB l).length) (.slice .nil [])))) := by
  rw [List.length_set]
  refine idsS_put' hσ _ (idsO_rowN _ fun x hx => ?_)
  rcases List.mem_append.1 hx with hx | hx
  ·obtain ⟨z, _, rfl⟩ := List.mem_map.1 hx; exact ids_vN _ _
  ·rw [(List.mem_replicate.1 hx).2]; exact ids_nil _ (by simp)
 simp only [go_sem, simprocAttr, List.set_set]
 exact ret_gh (v := .ref id 1 0 (mergeB l).length) (Ghost.keep0 (s' := [(2, .ref id 1 0 (mergeB l).length)]) (by simp) ⟨⟨by simp only [lk, Nat.reduceBEq, cond_true, cond_false]; exact .refl _, .ref _ _ _ _ (by simpa using hidl)⟩, trivial⟩ hi) (by simp) hi (.ref _ _ _ _ (by simpa using hidl)) ⟨rfl, rfl⟩
def aftR (t : FTask) (b : List (List Int)) (a : Nat) : AV := match stB t b a with
 | none => .tuple [.slice .nil [], .bool false]
 | some u => .tuple [.slice .fresh (u.map encLf), .bool true]
def c_bafter : CCode := .seq (.ops [oS 3 (.box (.tmp 0)), oS 6 (.move (.lit (.slice .nil []))), oS 7 (.move (.lit (.bool false)))]) (.seq (.ops [oS 12 (.faddr 3 (.tmp 3)), oS 13 (.load none (.tmp 12)), oS 14 (.move (.tmp 2)), oS 15 (.iaddr 4 (.tmp 13) (.tmp 14)), oS 16 (.load (some 4) (.tmp 15)), oS 8 (.alloc (.agg [.str (bys []), .int .i64 0, .slice .nil [], .slice .nil []])), oN (.store 4 (.tmp 8) (.tmp 16))]) (.seq (.seq (.ops [oS 17 (.move (.tmp 1)), oS 18 (.faddr 2 (.tmp 8)), oS 19 (.load none (.tmp 18)), oS 20 (.call (.lit (.func 37 [])) [.tmp 17, .tmp 19]), oS 21 (.un .not (.tmp 20))]) (.cond (.tmp 21) (.seq (.ops [oS 6 (.move (.lit (.slice .nil []))), oS 7 (.move (.lit (.bool false)))]) .ret) .skip)) (.seq (.ops [oS 9 (.move (.lit (.slice .nil [])))]) (.seq (.seq (.ops [oS 22 (.move (.tmp 1)), oS 23 (.blen 1 (.tmp 22)), oS 24 (.move (.lit (.int .i64 0)))]) (.block 0 (.loop (.seq (.ops [oS 25 (.bin .lss .none (.tmp 24) (.tmp 23))]) (.seq (.cond (.tmp 25) .skip (.exit 0)) (.seq (.block 1 (.seq (.ops [oS 26 (.iaddr 1 (.tmp 22) (.tmp 24)), oS 27 (.load none (.tmp 26)), oS 11 (.move (.tmp 27))]) (.ops [oS 28 (.move (.tmp 9)), oS 29 (.move (.tmp 11)), oS 30 (.load (some 4) (.tmp 8)), oS 31 (.call (.lit (.func 78 [])) [.tmp 29, .tmp 30]), oS 32 (.bsliceC 1 [.tmp 31]), oS 33 (.bappend 1 24 (.tmp 28) (.tmp 32) true), oS 9 (.move (.tmp 33))]))) (.ops [oS 34 (.bin .add .none (.tmp 24) (.lit (.int .i64 1))), oS 24 (.move (.tmp 34))]))))))) (.seq (.ops [oS 35 (.move (.tmp 9)), oS 36 (.call (.lit (.func 35 [])) [.tmp 35]), oS 6 (.move (.tmp 36)), oS 7 (.move (.lit (.bool true)))]) .ret)))))
set_option maxHeartbeats 2000000 in
theorem bafter_specF (t : FTask) (b : List (List Int)) (a : Nat) (tok : Tok) (σ : Store) (ht : VT t) (hb : BelOk t.facts.length b) (ha : a < t.actions.length) :
  ACalls Tryz.prog 45 [.agg (encTask t), .slice tok (b.map encL), .int .i64 a] σ (isR (aftR t b a) σ) := by
 refine ACalls.intro (rs := [(.tmp 6), (.tmp 7)]) (by kernel_rfl) { own := [(8, 5)], ghosts := [], cold := [(8, 4)] } Tryz.func45 (c := Tryz.f45.body.getD .skip) (by kernel_rfl) (by decide) (by rw [show Tryz.f45.ntmps = 37 by kernel_rfl]; exact Nat.le_of_ble_eq_true rfl) (by kernel_rfl) ?_
 intro hσ hids
 rw [show comp Tryz.prog { own := [(8, 5)], ghosts := [], cold := [(8, 4)] } (Tryz.f45.body.getD .skip) = c_bafter by kernel_rfl, show Tryz.f45.ntmps = 37 by kernel_rfl]
 unfold c_bafter
 have hil : Ids σ.length (.slice tok (b.map encL)) := hids _ (by simp)
 have hbl := hb.le
 obtain ⟨x, hx⟩ := get_ex ha
 have hxm := List.mem_of_getElem? hx
 have hst : stB t b a = if allH b x.pre then some (nextB b x) else none := by unfold stB; rw [hx]
 have hpw : ∀ s ∈ b, s.Pairwise (· < ·) := fun s hs => (rising_pw (hb.st s hs)).1
 have ha0 : (0 : Int) ≤ (a : Int) := by omega
 simp only [go_sem, simprocAttr, encTask, hx, encA, ha0]
 refine (bholds_spec b x.pre tok .unk _ (ht.tb.pre x hxm) (hb.lb ht.nf) hpw).is ?_
 cases hc : allH b x.pre
 ·simp only [go_sem, simprocAttr]
  exact rT (.slice .nil []) (.bool false) ⟨by rw [aftR, hst, hc]; rfl, rfl⟩
 rw [hc, if_pos rfl] at hst
 simp only [go_sem, simprocAttr]
 have hrow : IdsS (σ ++ [AObj.row (encTask t), .row (encA x)]).length (σ ++ [AObj.row (encTask t), .row (encA x)]) := idsS_app _ hσ (all_cons' (idsO_row (ids_encTask t)) (all_cons' (idsO_row (ids_encA x)) all_nil'))
 obtain ⟨S, hS⟩ : ∃ S, S = σ ++ [AObj.row (encTask t), .row (encA x)] := ⟨_, rfl⟩
 have hSl : S.length = σ.length + 2 := by rw [hS]; simp
 have hSg : ∀ g, (S ++ g)[σ.length + 1]? = some (.row (encA x)) := fun g => by rw [hS]; simp
 have hSt : S.take σ.length = σ := by rw [hS]; simp
 rw [← hS] at hrow
 simp only [encTask, encA] at hS hSg
 rw [← hS]
 obtain ⟨F, hF⟩ : ∃ F, F = b.map fun s => afterS s x.effects := ⟨_, rfl⟩
 have hFl : F.length = b.length := by rw [hF, List.length_map]
 have hFm : ∀ y ∈ F, y.length ≤ 200 := fun y hy => by
  rw [hF] at hy
  obtain ⟨s, hs, rfl⟩ := List.mem_map.1 hy
  rw [afterS_eq (hb.st s hs) (ht.eok.rng x hxm)]
  have := afterL_len (n := t.facts.length) s x
  have := ht.nf; omega
 have hio : ∀ q : List (List Int), IdsO S.length (.row (q.map vN)) := fun q => idsO_rowN _ (by intro x hx; obtain ⟨z, _, rfl⟩ := List.mem_map.1 hx; exact ids_vN _ _)
 have hS2 : ∀ q : List (List Int), IdsS (S ++ [AObj.row (q.map vN)]).length (S ++ [AObj.row (q.map vN)]) := fun q => idsS_push hrow (by
  intro j x hj; exact ids_up (Nat.le_succ _) (hio q j x hj))
 refine wpc_while (fun (i : Nat) => [(8, .ptr (σ.length + 1) 0), (9, .ref S.length 1 0 i), (22, .slice tok (b.map encL)), (23, .int .i64 b.length), (24, .int .i64 (i : Nat))]) (fun i => S ++ [.row ((F.take i).map vN)]) (fun i => i ≤ b.length) (fun i => b.length - i) 0 (Nat.zero_le _) (by
  refine Ghost.trans (Ghost.row0 9 1 0 (.inl rfl)) ?_
  exact ghP0 (hS2 [])) ?_
 intro i hi K hK hE hR
 by_cases h : i < b.length
 ·obtain ⟨s, hx⟩ := get_ex h; have hlt : ((i : Int) < (b.length : Int)) := (by omega); have hw := wrapS (i := i) (by omega)
  have hsm := List.mem_of_getElem? hx
  have hsl := rising_200 ht.nf (hb.st s hsm)
  have hbig : bigLen (i + 1) 24 := big_ok (by omega) (by omega)
  have hlen : ((F.take i).map vN).length = i := by rw [List.length_map, List.length_take]; omega
  simp only [go_sem, simprocAttr, hlt, hx, hSg, encL]
  refine (sAfter_specF s x .unk _ (by omega) (hpw s hsm) (ht.sb.effs x hxm) (ht.sb.whens x hxm)).is ?_
  have hf : (F.take i).map vN ++ [[AV.slice Tok.fresh ((afterS s x.effects).map Ahl.encI)]].flatten = (F.take (i + 1)).map vN := by
   rw [take_succ' (x := afterS s x.effects) (by rw [hF, List.getElem?_map, hx]; rfl), List.map_append]; rfl
  simp only [go_sem, simprocAttr, hbig, hlen, hf, hw]
  refine hK _ _ (i + 1) (by omega) (by omega) ?_
  (try dsimp only)
  exact ghPM 1 (hio := hio _)
 ·have hlt : ¬ ((i : Int) < (b.length : Int)) := by omega
  have hil' : i = F.length := by omega
  have htk : F.take i = F := List.take_of_length_le (by omega)
  rw [htk]
  have hgetr : ∀ (q : List (List Int)) g, (S ++ .row (q.map vN) :: g)[S.length]? = some (.row (q.map vN)) := fun q g => by simp
  simp only [go_sem, simprocAttr, hlt, hE]
  rw [hil']
  refine (bmerged_spec S.length F _ (fun y hy => by have := hFm y hy; omega) (by omega) (hgetr F [])).to ?_
  have hnx : mergeB F = nextB b x := by rw [hF]; rfl
  rw [hnx]
  simp only [go_sem, simprocAttr]
  refine retRow2 (id := S.length) (cells := (nextB b x).map vN ++ List.replicate (F.length - (nextB b x).length) (.slice .nil [])) (es := (nextB b x).map encLf) (x := .bool true) ?_ rfl ?_ (by simp) (by omega) rfl rfl (.bool _) (ids_mapf (fun x => ids_encLf x) _) ?_ ⟨by rw [aftR, hst], rfl⟩
  ·rw [List.take_append_of_le_length (by omega), hSt]
  ·simp
  ·intro i e he'
   rw [List.getElem?_map] at he'
   obtain ⟨z, hz, rfl⟩ := Option.map_eq_some_iff.1 he'
   refine ⟨rfl, fun j hj => ?_⟩
   obtain rfl : j = 0 := by omega
   rw [Nat.zero_add, Nat.mul_one, Nat.add_zero, List.getElem?_append_left (by simpa using lt_of_get hz), List.getElem?_map, hz]; rfl
end Go.Proofs.YtcjgoomlaojljaaGreat
