/- For any task, belief, action and plan, Apply returns the belief after the action, and Plan whether the list is a conformant plan, and its cost, or the error, at every input of the form that the statement asks for. -/
import Derived.Test.YtcjgoomlaojljaaGreatBase6
set_option maxRecDepth 20000
set_option linter.unusedVariables false
set_option linter.unusedSimpArgs false
namespace Go.Ahl
section
variable {P : Program} {t : TypeId}
def encU (n : Int) : List AV := [.int .u8 n]
theorem Reads.u8 (ht : P.underlying t = some (.int .u8)) : Reads P t encU (fun n => 0 ≤ n ∧ n ≤ 255) := by
 intro H enc w fuel cs d ps h hw
 cases fuel with
 | zero => simp [DataW.trod] at h
 | succ n =>
  simp only [DataW.trod, ht] at h
  split at h <;> try (simp_all; done)
  rename_i k k' nn hk
  have hk : IntKind.u8 = k := by injection hk with q; injection q
  subst hk
  split at h
  ·rename_i hc
   obtain ⟨rfl, hwf⟩ := hc
   refine ⟨nn, ?_, cells_one (.int _ _)⟩
   simpa [Lit.wf, IntKind.min, IntKind.max, IntKind.signed, IntKind.bits] using hwf
  ·simp at h
end
end Go.Ahl
namespace Go.Proofs.YtcjgoomlaojljaaGreat
open Go.Ahl Go.ChangeShapes Go.WideShapes Go.ChangeAt Go.RowKit
theorem okLT2 {b : List (List Int)} (h : okL (okL okI) b) : LT b := ⟨h.1, fun s hs => (h.2 s hs).1⟩
def timesL (p : List Int) : Nat → List Int
 | 0 => []
 | k + 1 => timesL p k ++ p
theorem timesL_len (p : List Int) : ∀ k, (timesL p k).length = k * p.length
 | 0 => by simp [timesL]
 | k + 1 => by rw [timesL, List.length_append, timesL_len p k, Nat.succ_mul]
def c_law : CCode := .seq (.ops [oS 5 (.box (.tmp 0)), oS 10 (.move (.lit (.bool false)))]) (.seq (.seq (.ops [oS 23 (.load (some 4) (.tmp 5)), oS 24 (.move (.tmp 1)), oS 25 (.call (.lit (.func 7 [])) [.tmp 23, .tmp 24]), oS 26 (.un .not (.tmp 25)), oS 27 (.move (.tmp 26)), oG 28 27 false (.move (.tmp 3)), oG 29 27 false (.blen 1 (.tmp 28)), oG 30 27 false (.bin .gtr .none (.tmp 29) (.lit (.int .i64 300))), oS 31 (.pick (.tmp 27) (.lit (.bool true)) (.tmp 30))]) (.cond (.tmp 31) (.seq (.ops [oS 32 (.call (.lit (.func 8 [])) []), oS 10 (.move (.tmp 32))]) .ret) .skip)) (.seq (.ops [oS 11 (.move (.lit (.slice .nil [])))]) (.seq (.seq (.ops [oS 33 (.move (.tmp 4)), oS 34 (.conv .i64 (.tmp 33)), oS 35 (.bin .rem .none (.tmp 34) (.lit (.int .i64 40))), oS 36 (.bin .add .none (.lit (.int .i64 1)) (.tmp 35)), oS 37 (.move (.lit (.int .i64 0)))]) (.block 0 (.loop (.seq (.ops [oS 38 (.bin .lss .none (.tmp 37) (.tmp 36))]) (.seq (.cond (.tmp 38) .skip (.exit 0)) (.seq (.block 1 (.ops [oS 39 (.move (.tmp 11)), oS 40 (.move (.tmp 3)), oS 41 (.bappend 1 8 (.tmp 39) (.tmp 40) false), oS 11 (.move (.tmp 41))])) (.ops [oS 42 (.bin .add .none (.tmp 37) (.lit (.int .i64 1))), oS 37 (.move (.tmp 42))]))))))) (.seq (.ops [oS 44 (.load (some 4) (.tmp 5)), oS 45 (.move (.tmp 1)), oS 46 (.move (.tmp 2)), oS 47 (.call (.lit (.func 20 [])) [.tmp 44, .tmp 45, .tmp 46]), oS 43 (.move (.tmp 47)), oS 48 (.extract (.tmp 43) 0), oS 49 (.extract (.tmp 43) 1), oS 50 (.extract (.tmp 43) 2), oS 12 (.move (.tmp 48)), oS 13 (.move (.tmp 49)), oS 14 (.move (.tmp 50))]) (.seq (.ops [oS 52 (.load (some 4) (.tmp 5)), oS 53 (.move (.tmp 1)), oS 54 (.move (.tmp 11)), oS 55 (.call (.lit (.func 21 [])) [.tmp 52, .tmp 53, .tmp 54]), oS 51 (.move (.tmp 55)), oS 56 (.extract (.tmp 51) 0), oS 57 (.extract (.tmp 51) 1), oS 58 (.extract (.tmp 51) 2), oS 15 (.move (.tmp 56)), oS 16 (.move (.tmp 57)), oS 17 (.move (.tmp 58))]) (.seq (.ops [oS 59 (.load (some 4) (.tmp 5)), oS 60 (.move (.tmp 1)), oS 61 (.call (.lit (.func 12 [])) [.tmp 59, .tmp 60]), oS 18 (.move (.tmp 61))]) (.seq (.seq (.ops [oS 62 (.move (.tmp 18)), oS 63 (.bin .neq .none (.tmp 62) (.lit (.int .i64 0)))]) (.cond (.tmp 63) (.seq (.ops [oS 64 (.move (.tmp 14)), oS 65 (.move (.tmp 18)), oS 66 (.bin .eql .none (.tmp 64) (.tmp 65)), oS 67 (.move (.tmp 66)), oG 68 67 true (.move (.tmp 17)), oG 69 67 true (.move (.tmp 18)), oG 70 67 true (.bin .eql .none (.tmp 68) (.tmp 69)), oS 71 (.pick (.tmp 67) (.tmp 70) (.lit (.bool false))), oS 72 (.move (.tmp 71)), oG 73 72 true (.move (.tmp 13)), oG 74 72 true (.un .not (.tmp 73)), oS 75 (.pick (.tmp 72) (.tmp 74) (.lit (.bool false))), oS 76 (.move (.tmp 75)), oG 77 76 true (.move (.tmp 16)), oG 78 76 true (.un .not (.tmp 77)), oS 79 (.pick (.tmp 76) (.tmp 78) (.lit (.bool false))), oS 80 (.move (.tmp 79)), oG 81 80 true (.move (.tmp 15)), oG 82 80 true (.bin .eql .none (.tmp 81) (.lit (.int .i64 0))), oS 83 (.pick (.tmp 80) (.tmp 82) (.lit (.bool false))), oS 84 (.move (.tmp 83)), oG 85 84 true (.move (.tmp 12)), oG 86 84 true (.blen 1 (.tmp 85)), oG 87 84 true (.bin .eql .none (.tmp 86) (.lit (.int .i64 0))), oS 88 (.pick (.tmp 84) (.tmp 87) (.lit (.bool false))), oS 89 (.move (.tmp 88)), oG 90 89 true (.call (.lit (.func 8 [])) []), oS 91 (.pick (.tmp 89) (.tmp 90) (.lit (.bool false))), oS 10 (.move (.tmp 91))]) .ret) .skip)) (.seq (.seq (.ops [oS 92 (.move (.tmp 2)), oS 93 (.bin .lss .none (.tmp 92) (.lit (.int .i64 0))), oS 94 (.move (.tmp 93)), oG 95 94 false (.move (.tmp 2)), oG 96 94 false (.faddr 3 (.tmp 5)), oG 97 94 false (.load none (.tmp 96)), oG 98 94 false (.blen 1 (.tmp 97)), oG 99 94 false (.bin .geq .none (.tmp 95) (.tmp 98)), oS 100 (.pick (.tmp 94) (.lit (.bool true)) (.tmp 99))]) (.cond (.tmp 100) (.seq (.ops [oS 101 (.move (.tmp 14)), oS 102 (.bin .neq .none (.tmp 101) (.lit (.int .i64 1))), oS 103 (.move (.tmp 102)), oG 104 103 false (.move (.tmp 13)), oS 105 (.pick (.tmp 103) (.lit (.bool true)) (.tmp 104)), oS 106 (.move (.tmp 105)), oG 107 106 false (.move (.tmp 12)), oG 108 106 false (.blen 1 (.tmp 107)), oG 109 106 false (.bin .gtr .none (.tmp 108) (.lit (.int .i64 0))), oS 110 (.pick (.tmp 106) (.lit (.bool true)) (.tmp 109))]) (.cond (.tmp 110) (.seq (.ops [oS 10 (.move (.lit (.bool false)))]) .ret) .skip)) (.seq (.ops [oS 112 (.load (some 4) (.tmp 5)), oS 113 (.move (.tmp 1)), oS 114 (.move (.tmp 2)), oS 115 (.call (.lit (.func 22 [])) [.tmp 112, .tmp 113, .tmp 114]), oS 111 (.move (.tmp 115)), oS 116 (.extract (.tmp 111) 0), oS 117 (.extract (.tmp 111) 1), oS 19 (.move (.tmp 116)), oS 20 (.move (.tmp 117))]) (.seq (.ops [oS 118 (.move (.tmp 14)), oS 119 (.bin .neq .none (.tmp 118) (.lit (.int .i64 0))), oS 120 (.move (.tmp 119)), oG 121 120 false (.move (.tmp 13)), oG 122 120 false (.move (.tmp 20)), oG 123 120 false (.bin .neq .bool (.tmp 121) (.tmp 122)), oS 124 (.pick (.tmp 120) (.lit (.bool true)) (.tmp 123)), oS 125 (.move (.tmp 124)), oG 126 125 false (.move (.tmp 12)), oG 127 125 false (.move (.tmp 19)), oG 128 125 false (.call (.lit (.func 16 [])) [.tmp 126, .tmp 127]), oG 129 125 false (.un .not (.tmp 128)), oS 130 (.pick (.tmp 125) (.lit (.bool true)) (.tmp 129))]) (.cond (.tmp 130) (.seq (.ops [oS 10 (.move (.lit (.bool false)))]) .ret) .skip))))) (.seq (.seq (.ops [oS 131 (.load (some 4) (.tmp 5)), oS 132 (.move (.tmp 11)), oS 133 (.call (.lit (.func 23 [])) [.tmp 131, .tmp 132]), oS 134 (.un .not (.tmp 133))]) (.cond (.tmp 134) (.seq (.ops [oS 135 (.move (.tmp 17)), oS 136 (.bin .eql .none (.tmp 135) (.lit (.int .i64 1))), oS 137 (.move (.tmp 136)), oG 138 137 true (.move (.tmp 15)), oG 139 137 true (.bin .eql .none (.tmp 138) (.lit (.int .i64 0))), oS 140 (.pick (.tmp 137) (.tmp 139) (.lit (.bool false))), oS 141 (.move (.tmp 140)), oG 142 141 true (.move (.tmp 16)), oG 143 141 true (.un .not (.tmp 142)), oS 144 (.pick (.tmp 141) (.tmp 143) (.lit (.bool false))), oS 145 (.move (.tmp 144)), oG 146 145 true (.call (.lit (.func 8 [])) []), oS 147 (.pick (.tmp 145) (.tmp 146) (.lit (.bool false))), oS 10 (.move (.tmp 147))]) .ret) .skip)) (.seq (.ops [oS 149 (.load (some 4) (.tmp 5)), oS 150 (.move (.tmp 1)), oS 151 (.move (.tmp 11)), oS 152 (.call (.lit (.func 24 [])) [.tmp 149, .tmp 150, .tmp 151]), oS 148 (.move (.tmp 152)), oS 153 (.extract (.tmp 148) 0), oS 154 (.extract (.tmp 148) 1), oS 21 (.move (.tmp 153)), oS 22 (.move (.tmp 154))]) (.seq (.ops [oS 155 (.move (.tmp 17)), oS 156 (.bin .eql .none (.tmp 155) (.lit (.int .i64 0))), oS 157 (.move (.tmp 156)), oG 158 157 true (.move (.tmp 15)), oG 159 157 true (.move (.tmp 21)), oG 160 157 true (.bin .eql .none (.tmp 158) (.tmp 159)), oS 161 (.pick (.tmp 157) (.tmp 160) (.lit (.bool false))), oS 162 (.move (.tmp 161)), oG 163 162 true (.move (.tmp 16)), oG 164 162 true (.move (.tmp 22)), oG 165 162 true (.bin .eql .bool (.tmp 163) (.tmp 164)), oS 166 (.pick (.tmp 162) (.tmp 165) (.lit (.bool false))), oS 167 (.move (.tmp 166)), oG 168 167 true (.call (.lit (.func 8 [])) []), oS 169 (.pick (.tmp 167) (.tmp 168) (.lit (.bool false))), oS 10 (.move (.tmp 169))]) .ret)))))))))))
set_option maxHeartbeats 1000000 in
theorem law_spec (t : FTask) (b : List (List Int)) (a : Int) (p : List Int) (n : Int) (ht : TB t) (hb : okL (okL okI) b) (hp : okL okI p) (hn : 0 ≤ n ∧ n ≤ 255) (σ : Store) :
  ACalls Tryz.prog 4 [.agg (encTask t), .slice .unk (b.map encL), .int .i64 a, .slice .unk (p.map Ahl.encI), .int .u8 n] σ (isR (.bool true) σ) := by
 refine ACalls.intro (rs := [(.tmp 10)]) (by kernel_rfl) { own := [], ghosts := [] } Tryz.func4 (c := Tryz.f4.body.getD .skip) (by kernel_rfl) (by decide) (by rw [show Tryz.f4.ntmps = 170 by kernel_rfl]; exact Nat.le_of_ble_eq_true rfl) (by kernel_rfl) ?_
 intro hσ hids
 rw [show comp Tryz.prog { own := [], ghosts := [] } (Tryz.f4.body.getD .skip) = c_law by kernel_rfl, show Tryz.f4.ntmps = 170 by kernel_rfl]
 unfold c_law
 have hLT := okLT2 hb
 have hp1 := hp.1
 simp only [go_sem, simprocAttr, encTask]
 refine ACalls.is (few17_spec t b _ _ ht hLT) ?_
 cases hfew : few17B t b
 ·simp only [go_sem, simprocAttr]
  refine (awake17_spec _).is ?_
  simp only [go_sem, simprocAttr]
  exact rt (.bool true) ⟨rfl, rfl⟩
 by_cases hpl : ((p.length : Int) > 300)
 ·simp only [go_sem, simprocAttr, hpl]
  refine (awake17_spec _).is ?_
  simp only [go_sem, simprocAttr]
  exact rt (.bool true) ⟨rfl, rfl⟩
 obtain ⟨m, hm', hm2⟩ : ∃ m : Nat, IntKind.i64.wrap (1 + (IntKind.i64.wrap n).tmod 40) = (m : Int) ∧ m ≤ 40 := by
  have h1 : IntKind.i64.wrap n = n := wrap_ok (by omega)
  have h2 : n.tmod 40 = n % 40 := Int.tmod_eq_emod_of_nonneg hn.1
  have h3 : 0 ≤ n % 40 ∧ n % 40 < 40 := ⟨Int.emod_nonneg _ (by omega), Int.emod_lt_of_pos _ (by omega)⟩
  refine ⟨(1 + n % 40).toNat, ?_, by omega⟩
  rw [h1, h2, wrap_ok (by omega)]; omega
 have hs1 : ∀ k : Nat, IdsS (σ ++ [AObj.row (encTask t), .grow 1 k]).length (σ ++ [AObj.row (encTask t), .grow 1 k]) := fun k => idsS_app _ hσ (all_cons' (idsO_row (ids_encTask t)) (all_cons' trivial all_nil'))
 have hs0 := ids_grow hσ (ids_encTask t)
 have hib : Ids σ.length (.slice .unk (b.map encL)) := hids _ (by simp)
 have hip : Ids σ.length (.slice .unk (p.map Ahl.encI)) := hids _ (by simp)
 simp only [encTask] at hs1 hs0
 simp only [go_sem, simprocAttr, hpl, hm', encTask]
 refine wpc_while (fun (k : Nat) => [(11, .slice (.grow (σ.length + 1)) ((timesL p k).map Ahl.encI)), (1, .slice .unk (b.map encL)), (2, .int .i64 a), (3, .slice .unk (p.map Ahl.encI)), (5, .ptr σ.length 0), (36, .int .i64 m), (37, .int .i64 (k : Nat))]) (fun k => σ ++ [.row (encTask t), .grow 1 (timesL p k).length]) (fun k => k ≤ m) (fun k => m - k) 0 (Nat.zero_le _) ?_ ?_
 ·simp only [encTask]
  exact Ghost.begin1 11 1 _ (Nat.le_refl _) tellT hs0
 intro k hk K hK hE hR
 have htl := timesL_len p k
 have htl2 : k * p.length ≤ 40 * 300 := Nat.mul_le_mul (by omega) (by omega)
 by_cases hkm : k < m
 ·have hlt : ((k : Int) < (m : Int)) := by omega
  have hw := wrapS (i := k) (by omega)
  have hnx : timesL p (k + 1) = timesL p k ++ p := rfl
  obtain ⟨U, hU⟩ : ∃ U, U = timesL p k := ⟨_, rfl⟩
  rw [← hU] at htl hnx ⊢
  have hbig : bigLen (U.length + p.length) 8 := big_ok (by omega) (by omega)
  have hall : ∀ x ∈ p, (Ahl.encI x).length = 1 ∧ (Ahl.encI x).all AV.one = true := fun x _ => ⟨rfl, rfl⟩
  simp only [go_sem, simprocAttr, hlt, hbig]
  refine ⟨hall, ?_⟩
  refine hK _ _ (k + 1) (by omega) (by omega) ?_
  (try dsimp only)
  rw [hnx, hw, ← List.map_append, List.length_append]
  generalize hV : U ++ p = V
  rw [← List.length_append, hV]
  simp only [encTask]
  exact ghL0 (l := [.row _, .grow 1 _]) (hs1 _)
 have hlt : ¬ ((k : Int) < (m : Int)) := by omega
 obtain rfl : k = m := by omega
 obtain ⟨all, hall⟩ : ∃ all, all = timesL p k := ⟨_, rfl⟩
 rw [← hall] at htl ⊢
 have hap := fun σ => bapply_specF t b a .unk σ ht hLT
 have hpn := fun σ => bplan_spec t b all .unk σ ht hLT (by omega)
 have hfa := fun σ => fault17_spec t b .unk σ ht hLT
 have hac := fun tok σ => actions02_spec t all tok σ ht (by omega)
 simp only [encTask] at hap hpn hfa hac
 simp only [go_sem, simprocAttr, hlt, hE, encTask]
 clear hK hE hR
 refine ACalls.is (hap _) ?_
 have e00 : ((0 : Int) == 0) = true := rfl
 have l00 : (((0 : Nat) : Int) == 0) = true := rfl
 have e11 : ((1 : Int) == 1) = true := rfl
 have n00 : ((0 : Int) != 0) = false := rfl
 have n11 : ((1 : Int) != 1) = false := rfl
 have g00 : ¬ (((0 : Nat) : Int) > 0) := by omega
 by_cases he : bErr t b = 0
 ·obtain ⟨hv, hbel⟩ := bErr_zero he
  have hVT := valid_VT ht hv
  have hbo := bel_ok hbel
  cases hli : slistedB t all
  ·have hpl2 : planR t b all = .tuple [.int .i64 0, .bool false, .int .i64 1] := by rw [planR, if_pos he, hli]; rfl
   by_cases har : 0 ≤ a ∧ a < t.actions.length
   ·have ha0 : ¬ a < 0 := by omega
    have ha1 : ¬ a ≥ (t.actions.length : Int) := by omega
    have hap17 := fun σ => apply17_spec t b a.toNat .unk σ hv hVT hbo (by omega)
    rw [show ((a.toNat : Nat) : Int) = a by omega] at hap17
    simp only [encTask] at hap17
    rw [applyR, if_pos he, if_pos har]
    cases hs : stB t b a.toNat with
    | none =>
     simp only [go_sem, simprocAttr, encTask]
     refine ACalls.is (ACalls.wk (hpn _) (.cons (.refl _) (.cons (.refl _) (.cons (Wk.unk _ _) .nil)))) ?_
     rw [hpl2]
     simp only [go_sem, simprocAttr, encTask]
     refine ACalls.is (hfa _) ?_
     rw [he]
     simp only [go_sem, simprocAttr, n00, ha0, ha1, encTask]
     refine ACalls.is (hap17 _) ?_
     rw [aft17R, hs]
     simp only [go_sem, simprocAttr, n00]
     refine ACalls.is (same17_spec [] [] .nil .nil _ ⟨by simp, by simp⟩ ⟨by simp, by simp⟩) ?_
     rw [decide_eq_true rfl]
     (try simp only [go_sem, simprocAttr, encTask])
     refine ACalls.is (hac _ _) ?_
     rw [hli]
     simp only [go_sem, simprocAttr, e11, e00]
     refine (awake17_spec _).is ?_
     simp only [go_sem, simprocAttr]
     exact rt (.bool true) ⟨rfl, rfl⟩
    | some u =>
     have hbu := (stB_ok hVT hbo hs).lb hVT.nf
     simp only [go_sem, simprocAttr, encTask]
     refine ACalls.is (ACalls.wk (hpn _) (.cons (.refl _) (.cons (.refl _) (.cons (Wk.unk _ _) .nil)))) ?_
     rw [hpl2]
     simp only [go_sem, simprocAttr, encTask]
     refine ACalls.is (hfa _) ?_
     rw [he]
     simp only [go_sem, simprocAttr, n00, ha0, ha1, encTask]
     refine ACalls.is (hap17 _) ?_
     rw [aft17R, hs]
     simp only [go_sem, simprocAttr, n00]
     refine ACalls.is (ACalls.wk (same17_spec u u .fresh .unk _ hbu hbu) (.cons (Wk.lf _ _) (.cons (.refl _) .nil))) ?_
     rw [decide_eq_true rfl]
     (try simp only [go_sem, simprocAttr, encTask])
     refine ACalls.is (hac _ _) ?_
     rw [hli]
     simp only [go_sem, simprocAttr, e11, e00]
     refine (awake17_spec _).is ?_
     simp only [go_sem, simprocAttr]
     exact rt (.bool true) ⟨rfl, rfl⟩
   ·rw [applyR, if_pos he, if_neg har]
    by_cases ha0 : a < 0
    ·simp only [go_sem, simprocAttr, encTask]
     refine ACalls.is (ACalls.wk (hpn _) (.cons (.refl _) (.cons (.refl _) (.cons (Wk.unk _ _) .nil)))) ?_
     rw [hpl2]
     simp only [go_sem, simprocAttr, encTask]
     refine ACalls.is (hfa _) ?_
     rw [he]
     simp only [go_sem, simprocAttr, n00, ha0, n11, g00]
     (try simp only [go_sem, simprocAttr, encTask])
     refine ACalls.is (hac _ _) ?_
     rw [hli]
     simp only [go_sem, simprocAttr, e11, e00]
     refine (awake17_spec _).is ?_
     simp only [go_sem, simprocAttr]
     exact rt (.bool true) ⟨rfl, rfl⟩
    ·have ha1 : a ≥ (t.actions.length : Int) := by omega
     simp only [go_sem, simprocAttr, encTask]
     refine ACalls.is (ACalls.wk (hpn _) (.cons (.refl _) (.cons (.refl _) (.cons (Wk.unk _ _) .nil)))) ?_
     rw [hpl2]
     simp only [go_sem, simprocAttr, encTask]
     refine ACalls.is (hfa _) ?_
     rw [he]
     simp only [go_sem, simprocAttr, n00, ha0, ha1, n11, g00, encTask]
     (try simp only [go_sem, simprocAttr, encTask])
     refine ACalls.is (hac _ _) ?_
     rw [hli]
     simp only [go_sem, simprocAttr, e11, e00]
     refine (awake17_spec _).is ?_
     simp only [go_sem, simprocAttr]
     exact rt (.bool true) ⟨rfl, rfl⟩
  ·have hpl2 : planR t b all = .tuple [.int .i64 (planB t b all).1, .bool (planB t b all).2, .int .i64 0] := by rw [planR, if_pos he, hli]; rfl
   obtain ⟨hl1, hl2⟩ := listed_in hli
   have hp17 := fun tok σ => plan17_spec t b all .unk tok σ hv hVT hbo hl1 hl2
   simp only [encTask] at hp17
   have exx : ((planB t b all).1 == (planB t b all).1) = true := beq_self_eq_true _
   have bxx : ((planB t b all).2 == (planB t b all).2) = true := beq_self_eq_true _
   by_cases har : 0 ≤ a ∧ a < t.actions.length
   ·have ha0 : ¬ a < 0 := by omega
    have ha1 : ¬ a ≥ (t.actions.length : Int) := by omega
    have hap17 := fun σ => apply17_spec t b a.toNat .unk σ hv hVT hbo (by omega)
    rw [show ((a.toNat : Nat) : Int) = a by omega] at hap17
    simp only [encTask] at hap17
    rw [applyR, if_pos he, if_pos har]
    cases hs : stB t b a.toNat with
    | none =>
     simp only [go_sem, simprocAttr, encTask]
     refine ACalls.is (ACalls.wk (hpn _) (.cons (.refl _) (.cons (.refl _) (.cons (Wk.unk _ _) .nil)))) ?_
     rw [hpl2]
     simp only [go_sem, simprocAttr, encTask]
     refine ACalls.is (hfa _) ?_
     rw [he]
     simp only [go_sem, simprocAttr, n00, ha0, ha1, encTask]
     refine ACalls.is (hap17 _) ?_
     rw [aft17R, hs]
     simp only [go_sem, simprocAttr, n00]
     refine ACalls.is (same17_spec [] [] .nil .nil _ ⟨by simp, by simp⟩ ⟨by simp, by simp⟩) ?_
     rw [decide_eq_true rfl]
     (try simp only [go_sem, simprocAttr, encTask])
     refine ACalls.is (hac _ _) ?_
     rw [hli]
     simp only [go_sem, simprocAttr, encTask]
     refine ACalls.is (hp17 _ _) ?_
     simp only [go_sem, simprocAttr, e00, exx, bxx]
     refine (awake17_spec _).is ?_
     simp only [go_sem, simprocAttr]
     exact rt (.bool true) ⟨rfl, rfl⟩
    | some u =>
     have hbu := (stB_ok hVT hbo hs).lb hVT.nf
     simp only [go_sem, simprocAttr, encTask]
     refine ACalls.is (ACalls.wk (hpn _) (.cons (.refl _) (.cons (.refl _) (.cons (Wk.unk _ _) .nil)))) ?_
     rw [hpl2]
     simp only [go_sem, simprocAttr, encTask]
     refine ACalls.is (hfa _) ?_
     rw [he]
     simp only [go_sem, simprocAttr, n00, ha0, ha1, encTask]
     refine ACalls.is (hap17 _) ?_
     rw [aft17R, hs]
     simp only [go_sem, simprocAttr, n00]
     refine ACalls.is (ACalls.wk (same17_spec u u .fresh .unk _ hbu hbu) (.cons (Wk.lf _ _) (.cons (.refl _) .nil))) ?_
     rw [decide_eq_true rfl]
     (try simp only [go_sem, simprocAttr, encTask])
     refine ACalls.is (hac _ _) ?_
     rw [hli]
     simp only [go_sem, simprocAttr, encTask]
     refine ACalls.is (hp17 _ _) ?_
     simp only [go_sem, simprocAttr, e00, exx, bxx]
     refine (awake17_spec _).is ?_
     simp only [go_sem, simprocAttr]
     exact rt (.bool true) ⟨rfl, rfl⟩
   ·rw [applyR, if_pos he, if_neg har]
    by_cases ha0 : a < 0
    ·simp only [go_sem, simprocAttr, encTask]
     refine ACalls.is (ACalls.wk (hpn _) (.cons (.refl _) (.cons (.refl _) (.cons (Wk.unk _ _) .nil)))) ?_
     rw [hpl2]
     simp only [go_sem, simprocAttr, encTask]
     refine ACalls.is (hfa _) ?_
     rw [he]
     simp only [go_sem, simprocAttr, n00, ha0, n11, g00]
     (try simp only [go_sem, simprocAttr, encTask])
     refine ACalls.is (hac _ _) ?_
     rw [hli]
     simp only [go_sem, simprocAttr, encTask]
     refine ACalls.is (hp17 _ _) ?_
     simp only [go_sem, simprocAttr, e00, exx, bxx]
     refine (awake17_spec _).is ?_
     simp only [go_sem, simprocAttr]
     exact rt (.bool true) ⟨rfl, rfl⟩
    ·have ha1 : a ≥ (t.actions.length : Int) := by omega
     simp only [go_sem, simprocAttr, encTask]
     refine ACalls.is (ACalls.wk (hpn _) (.cons (.refl _) (.cons (.refl _) (.cons (Wk.unk _ _) .nil)))) ?_
     rw [hpl2]
     simp only [go_sem, simprocAttr, encTask]
     refine ACalls.is (hfa _) ?_
     rw [he]
     simp only [go_sem, simprocAttr, n00, ha0, ha1, n11, g00, encTask]
     (try simp only [go_sem, simprocAttr, encTask])
     refine ACalls.is (hac _ _) ?_
     rw [hli]
     simp only [go_sem, simprocAttr, encTask]
     refine ACalls.is (hp17 _ _) ?_
     simp only [go_sem, simprocAttr, e00, exx, bxx]
     refine (awake17_spec _).is ?_
     simp only [go_sem, simprocAttr]
     exact rt (.bool true) ⟨rfl, rfl⟩
 ·have hg0' : (bErr t b != 0) = true := by simpa using he
  have hgf : (bErr t b == bErr t b) = true := beq_self_eq_true _
  rw [applyR, if_neg he]
  simp only [go_sem, simprocAttr, encTask]
  refine ACalls.is (ACalls.wk (hpn _) (.cons (.refl _) (.cons (.refl _) (.cons (Wk.unk _ _) .nil)))) ?_
  rw [planR, if_neg he]
  simp only [go_sem, simprocAttr, encTask]
  refine ACalls.is (hfa _) ?_
  simp only [go_sem, simprocAttr, hg0', hgf, e00, l00]
  refine (awake17_spec _).is ?_
  simp only [go_sem, simprocAttr]
  exact rt (.bool true) ⟨rfl, rfl⟩
theorem ra_u8 : RArg Tryz.prog 5 (fun n => .int .u8 n) (fun n => 0 ≤ n ∧ n ≤ 255) := .one (Reads.u8 Tryz.underlying5) (by intro d h; rw [Tryz.underlying5] at h; injection h with h; subst h; rfl)
theorem law_reads : ReadsAll Tryz.prog Tryz.f4.params.toList (fun avs => ACalls Tryz.prog 4 avs [] (isR (.bool true) [])) := by
 rw [show Tryz.f4.params.toList = [27, 28, 3, 23, 5] by kernel_rfl]
 exact .cons ra_task fun t ht => .cons ra_intss fun b hb => .cons ra_int fun a _ => .cons ra_ints fun p hp => .cons ra_u8 fun n hn => .nil (law_spec t b a p n ht hb hp hn [])
set_option maxRecDepth 100000 in
theorem lifted (os : Os) (started : os.Started) (H : Type) (enc : TypeId × Value → H) :
  ReturnsInHanded {} Tryz.checked os 4 .any (Rows.beliefAppliesSpec.pre6 enc Tryz.prog Tryz.f4 Rows.beliefAppliesRow.domain false) (Rows.beliefAppliesSpec.post enc Tryz.prog Tryz.f4 false true false false) := by
 refine returnsInHanded_of_change_sized (C := Tryz.checked) own started (by kernel_rfl) Tryz.func4
  (ChangeSpec.witness6 (enc := enc) (C := Tryz.checked) false ⟨#[], #[.agg #[.slice none 0 0, .slice none 0 0, .slice none 0 0, .slice none 0 0], .slice none 0 0, .int .i64 0, .slice none 0 0, .int .u8 0], []⟩ 8 (by kernel_rfl) (by kernel_rfl) (by kernel_rfl) (by kernel_rfl)) ?_
 intro W base args ds gs before hval hW _ hsz _
 refine law_post (P := Tryz.prog) Tryz.func4 (by kernel_rfl) (by decide) rfl ?_ laidOut (rdble (by kernel_rfl)) (by kernel_rfl) Tryz.underlying4 law_reads hval hW hsz
 intro ds h
 rw [show Tryz.f4.params.size = 5 by kernel_rfl] at h
 match ds, h with
 | [a, b, c, d, e], _ => rfl
theorem holds : Rows.BeliefAppliesSaid :=
 OpenClaim.holds_of_wide 4 Tryz.f4 rfl rfl rfl rfl rfl rfl rfl ⟨rfl, rfl, rfl, rfl, rfl⟩ rfl rfl rfl rfl rfl (by kernel_rfl) Tryz.func4 (by kernel_rfl)
  (of_decide_eq_true (by kernel_rfl)) (by unfold Func.isWrapper; first | (rw [if_pos (by decide +kernel)]; kernel_rfl) | (rw [if_neg (by decide +kernel)]; exact ⟨rfl, rfl⟩))
  (fun os started H enc _ => lifted os started H enc)
end Go.Proofs.YtcjgoomlaojljaaGreat
