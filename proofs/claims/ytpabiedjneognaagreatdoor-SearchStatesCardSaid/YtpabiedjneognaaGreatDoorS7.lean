/- 'forethoughtlaw06.SearchStates' returns true for every task, state and number (tied card). -/
import Derived.Lib.LaidTab
import GoSem.ClaimJoined
import Derived.Lay
import Derived.ProofKit
import Derived.OpenShut
import Derived.LaidMore
import Derived.SevenTiedAt
import Derived.Stop.Joined
import Derived.Test.YtpabiedjneognaaGreatDoorTie
import Derived.Test.YtpabiedjneognaaGreatDoorCards
import Derived.Test.YtpabiedjneognaaGreatDoorBase6
set_option maxRecDepth 20000
set_option linter.unusedVariables false
set_option linter.unusedSimpArgs false
namespace Go.Proofs.YtpabiedjneognaaGreatDoor
open Go.Ahl
def e_states06_0 : List COp := [oS 79 (.load (some 4) (.tmp 3)), oS 80 (.move (.tmp 12)), oA 81 (.blen 1 (.tmp 80)) [1], oS 82 (.move (.tmp 14)), oS 83 (.move (.tmp 12)), oS 84 (.move (.tmp 1)), oA 85 (.call (.lit (.func 21 [])) [.tmp 83, .tmp 84]) [4, 5], oA 86 (.call (.lit (.func 27 [])) [.tmp 79, .tmp 81, .tmp 82, .tmp 85]) [0, 2, 3, 6, 6], oS 87 (.load (some 4) (.tmp 3)), oS 88 (.move (.tmp 12)), oS 89 (.move (.tmp 14)), oA 90 (.call (.lit (.func 18 [])) [.tmp 87, .tmp 88, .tmp 89]) [8, 9, 10, 7], oA 15 (.move (.tmp 86)) [7, 11, 0, 1, 2, 3, 4, 5, 6, 7], oA 16 (.move (.tmp 90)) [11, 12, 0, 1, 2, 3, 4, 5, 6, 7, 8, 9, 10, 11, 12]]
def d_states06_0 : List COp := e_states06_0
theorem dr_states06_0 (P : Program) (nt n0 : Nat) (Q : Post) (s : Slots) (σ : Store) : wpc P nt n0 (.draw d_states06_0) Q s σ = aOpsD P nt e_states06_0 (Q .normal) s σ := wpc_draw _ (by decide)
def e_states06_1 : List COp := [oS 118 (.move (.tmp 7)), oS 119 (.move (.tmp 17)), oA 120 (.iaddr 1 (.tmp 118) (.tmp 119)) [0, 1], oA 121 (.load none (.tmp 120)) [2], oS 122 (.move (.tmp 18)), oA 123 (.call (.lit (.func 28 [])) [.tmp 121, .tmp 122]) [3, 4], oA 124 (.un .not (.tmp 123)) [5], oA 125 (.move (.tmp 124)) [6, 5], ⟨some 126, .move (.tmp 9), some (some 125, false), [7]⟩, ⟨some 127, .move (.tmp 17), some (some 125, false), [7]⟩, ⟨some 128, .iaddr 3 (.tmp 126) (.tmp 127), some (some 125, false), [8, 9, 7]⟩, ⟨some 129, .faddr 0 (.tmp 128), some (some 125, false), [10, 7]⟩, ⟨some 130, .load none (.tmp 129), some (some 125, false), [11, 7]⟩, ⟨some 131, .move (.tmp 18), some (some 125, false), [7]⟩, ⟨some 132, .call (.lit (.func 28 [])) [.tmp 130, .tmp 131], some (some 125, false), [12, 13, 7, 7]⟩, ⟨some 133, .un .not (.tmp 132), some (some 125, false), [14, 7]⟩, oA 134 (.pick (.tmp 125) (.lit (.bool true)) (.tmp 133)) [7, 15], oA 135 (.move (.tmp 134)) [16, 14], ⟨some 136, .move (.tmp 9), some (some 135, false), [17]⟩, ⟨some 137, .move (.tmp 17), some (some 135, false), [17]⟩, ⟨some 138, .iaddr 3 (.tmp 136) (.tmp 137), some (some 135, false), [18, 19, 17]⟩, ⟨some 139, .faddr 1 (.tmp 138), some (some 135, false), [20, 17]⟩, ⟨some 140, .load none (.tmp 139), some (some 135, false), [21, 17]⟩, ⟨some 141, .move (.tmp 15), some (some 135, false), [17]⟩, ⟨some 142, .move (.tmp 17), some (some 135, false), [17]⟩, ⟨some 143, .iaddr 1 (.tmp 141) (.tmp 142), some (some 135, false), [23, 24, 17]⟩, ⟨some 144, .load none (.tmp 143), some (some 135, false), [25, 17]⟩, ⟨some 145, .bin .neq .none (.tmp 140) (.tmp 144), some (some 135, false), [22, 26, 17]⟩, oA 146 (.pick (.tmp 135) (.lit (.bool true)) (.tmp 145)) [17, 27], oA 147 (.move (.tmp 146)) [28, 17], ⟨some 148, .move (.tmp 9), some (some 147, false), [29]⟩, ⟨some 149, .move (.tmp 17), some (some 147, false), [29]⟩, ⟨some 150, .iaddr 3 (.tmp 148) (.tmp 149), some (some 147, false), [30, 31, 29]⟩, ⟨some 151, .faddr 2 (.tmp 150), some (some 147, false), [32, 29]⟩, ⟨some 152, .load none (.tmp 151), some (some 147, false), [33, 29]⟩, ⟨some 153, .move (.tmp 16), some (some 147, false), [29]⟩, ⟨some 154, .move (.tmp 17), some (some 147, false), [29]⟩, ⟨some 155, .iaddr 1 (.tmp 153) (.tmp 154), some (some 147, false), [35, 36, 29]⟩, ⟨some 156, .load none (.tmp 155), some (some 147, false), [37, 29]⟩, ⟨some 157, .bin .neq .none (.tmp 152) (.tmp 156), some (some 147, false), [34, 38, 29]⟩, oA 158 (.pick (.tmp 147) (.lit (.bool true)) (.tmp 157)) [29, 39]]
def d_states06_1 : List COp := e_states06_1
theorem dr_states06_1 (P : Program) (nt n0 : Nat) (Q : Post) (s : Slots) (σ : Store) : wpc P nt n0 (.draw d_states06_1) Q s σ = aOpsD P nt e_states06_1 (Q .normal) s σ := wpc_draw _ (by decide)
attribute [local go_sem] dr_states06_0 e_states06_0 dr_states06_1 e_states06_1
def c_states06 : CCode := .seq (.ops [oS 3 (.box (.tmp 0)), oS 6 (.move (.lit (.bool false)))]) (.seq (.seq (.ops [oS 19 (.load (some 4) (.tmp 3)), oS 20 (.move (.tmp 1)), oS 21 (.call (.lit (.func 8 [])) [.tmp 19, .tmp 20]), oS 22 (.un .not (.tmp 21))]) (.cond (.tmp 22) (.seq (.ops [oS 23 (.call (.lit (.func 9 [])) []), oS 6 (.move (.tmp 23))]) .ret) .skip)) (.seq (.ops [oS 25 (.load (some 4) (.tmp 3)), oS 26 (.move (.tmp 1)), oS 27 (.move (.tmp 2)), oS 28 (.call (.lit (.func 25 [])) [.tmp 25, .tmp 26, .tmp 27]), oS 24 (.move (.tmp 28)), oS 29 (.extract (.tmp 24) 0), oS 30 (.extract (.tmp 24) 1), oS 7 (.move (.tmp 29)), oS 8 (.move (.tmp 30))]) (.seq (.ops [oS 32 (.load (some 4) (.tmp 3)), oS 33 (.move (.tmp 1)), oS 34 (.move (.tmp 2)), oS 35 (.call (.lit (.func 26 [])) [.tmp 32, .tmp 33, .tmp 34]), oS 31 (.move (.tmp 35)), oS 36 (.extract (.tmp 31) 0), oS 37 (.extract (.tmp 31) 1), oS 9 (.move (.tmp 36)), oS 10 (.move (.tmp 37))]) (.seq (.ops [oS 38 (.load (some 4) (.tmp 3)), oS 39 (.move (.tmp 1)), oS 40 (.move (.tmp 2)), oS 41 (.call (.lit (.func 12 [])) [.tmp 38, .tmp 39, .tmp 40]), oS 11 (.move (.tmp 41))]) (.seq (.ops [oS 12 (.move (.lit (.slice .nil [])))]) (.seq (.seq (.ops [oS 42 (.move (.tmp 11)), oS 43 (.bin .eql .none (.tmp 42) (.lit (.int .i64 0)))]) (.cond (.tmp 43) (.seq (.ops [oS 13 (.move (.lit (.bool false)))]) (.seq (.ops [oS 45 (.load (some 4) (.tmp 3)), oS 46 (.move (.tmp 1)), oS 47 (.move (.tmp 2)), oS 48 (.call (.lit (.func 14 [])) [.tmp 45, .tmp 46, .tmp 47]), oS 44 (.move (.tmp 48)), oS 49 (.extract (.tmp 44) 0), oS 50 (.extract (.tmp 44) 1), oS 12 (.move (.tmp 49)), oS 13 (.move (.tmp 50))]) (.seq (.ops [oS 51 (.move (.tmp 13)), oS 52 (.un .not (.tmp 51))]) (.cond (.tmp 52) (.ops [oS 11 (.move (.lit (.int .i64 3)))]) .skip)))) .skip)) (.seq (.seq (.ops [oS 53 (.move (.tmp 11)), oS 54 (.bin .neq .none (.tmp 53) (.lit (.int .i64 0)))]) (.cond (.tmp 54) (.seq (.ops [oS 55 (.move (.tmp 8)), oS 56 (.move (.tmp 11)), oS 57 (.bin .eql .none (.tmp 55) (.tmp 56)), oS 58 (.move (.tmp 57)), oG 59 58 true (.move (.tmp 10)), oG 60 58 true (.move (.tmp 11)), oG 61 58 true (.bin .eql .none (.tmp 59) (.tmp 60)), oS 62 (.pick (.tmp 58) (.tmp 61) (.lit (.bool false))), oS 63 (.move (.tmp 62)), oG 64 63 true (.move (.tmp 7)), oG 65 63 true (.blen 1 (.tmp 64)), oG 66 63 true (.bin .eql .none (.tmp 65) (.lit (.int .i64 0))), oS 67 (.pick (.tmp 63) (.tmp 66) (.lit (.bool false))), oS 68 (.move (.tmp 67)), oG 69 68 true (.move (.tmp 9)), oG 70 68 true (.blen 1 (.tmp 69)), oG 71 68 true (.bin .eql .none (.tmp 70) (.lit (.int .i64 0))), oS 72 (.pick (.tmp 68) (.tmp 71) (.lit (.bool false))), oS 73 (.move (.tmp 72)), oG 74 73 true (.call (.lit (.func 9 [])) []), oS 75 (.pick (.tmp 73) (.tmp 74) (.lit (.bool false))), oS 6 (.move (.tmp 75))]) .ret) .skip)) (.seq (.ops [oS 76 (.load (some 4) (.tmp 3)), oS 77 (.move (.tmp 12)), oS 78 (.call (.lit (.func 19 [])) [.tmp 76, .tmp 77]), oS 14 (.move (.tmp 78))]) (.seq (.draw d_states06_0) (.seq (.seq (.ops [oS 91 (.move (.tmp 8)), oS 92 (.bin .neq .none (.tmp 91) (.lit (.int .i64 0))), oS 93 (.move (.tmp 92)), oG 94 93 false (.move (.tmp 10)), oG 95 93 false (.bin .neq .none (.tmp 94) (.lit (.int .i64 0))), oS 96 (.pick (.tmp 93) (.lit (.bool true)) (.tmp 95)), oS 97 (.move (.tmp 96)), oG 98 97 false (.move (.tmp 7)), oG 99 97 false (.blen 1 (.tmp 98)), oG 100 97 false (.move (.tmp 12)), oG 101 97 false (.blen 1 (.tmp 100)), oG 102 97 false (.bin .neq .none (.tmp 99) (.tmp 101)), oS 103 (.pick (.tmp 97) (.lit (.bool true)) (.tmp 102)), oS 104 (.move (.tmp 103)), oG 105 104 false (.move (.tmp 9)), oG 106 104 false (.blen 1 (.tmp 105)), oG 107 104 false (.move (.tmp 12)), oG 108 104 false (.blen 1 (.tmp 107)), oG 109 104 false (.bin .neq .none (.tmp 106) (.tmp 108)), oS 110 (.pick (.tmp 104) (.lit (.bool true)) (.tmp 109))]) (.cond (.tmp 110) (.seq (.ops [oS 6 (.move (.lit (.bool false)))]) .ret) .skip)) (.seq (.seq (.ops [oS 111 (.move (.tmp 12)), oS 112 (.blen 1 (.tmp 111)), oS 113 (.move (.lit (.int .i64 0)))]) (.block 0 (.loop (.seq (.ops [oS 114 (.bin .lss .none (.tmp 113) (.tmp 112))]) (.seq (.cond (.tmp 114) .skip (.exit 0)) (.seq (.block 1 (.seq (.ops [oS 115 (.move (.tmp 113)), oS 116 (.iaddr 1 (.tmp 111) (.tmp 113)), oS 117 (.load none (.tmp 116)), oS 17 (.move (.tmp 115)), oS 18 (.move (.tmp 117))]) (.seq (.draw d_states06_1) (.cond (.tmp 158) (.seq (.ops [oS 6 (.move (.lit (.bool false)))]) .ret) .skip)))) (.ops [oS 159 (.bin .add .none (.tmp 113) (.lit (.int .i64 1))), oS 113 (.move (.tmp 159))]))))))) (.seq (.ops [oS 160 (.call (.lit (.func 9 [])) []), oS 6 (.move (.tmp 160))]) .ret))))))))))))
set_option maxHeartbeats 4000000 in
theorem states06_law (t : FTask) (s : List Int) (n : Int) (tok : Ahl.Tok) (σ : Store) (hT : σ[0]? = some tabO) (ht : TB t) (hl : s.length ≤ 140737488355328) :
  ACalls Tryz.prog 5 [.agg (encTask t), .slice tok (s.map Ahl.encI), .int .i64 n] σ (isR (.bool true) σ) := by
 refine ACalls.intro (rs := [(.tmp 6)]) (by kernel_rfl) { own := [], ghosts := [] } Tryz.func5 (c := Tryz.f5.body.getD .skip) (by kernel_rfl) (by decide) (by rw [show Tryz.f5.ntmps = 161 by kernel_rfl]; exact Nat.le_of_ble_eq_true rfl) (by kernel_rfl) ?_
 intro hσ hids
 rw [show comp Tryz.prog { own := [], ghosts := [] } (Tryz.f5.body.getD .skip) = c_states06 by kernel_rfl, show Tryz.f5.ntmps = 161 by kernel_rfl]
 unfold c_states06
 have hil : Ids σ.length (.slice tok (s.map Ahl.encI)) := hids _ (by simp)
 have hT2 : ∀ r, (σ ++ r)[0]? = some tabO := fun r => by rw [List.getElem?_append_left (lt_of_get hT)]; exact hT
 have hfew := fun σ => few06_spec t s tok σ ht hl
 simp only [encTask] at hfew
 simp only [go_sem, simprocAttr, encTask]
 refine (hfew _).mono ?_
 rintro _ _ ⟨rfl, b, rfl, hb⟩
 cases b
 ·simp only [go_sem, simprocAttr]
  refine (awake06_spec _ (hT2 _)).is ?_
  simp only [go_sem, simprocAttr]
  exact rt (.bool true) ⟨rfl, rfl⟩
 have hrch := fun τ hτ => reach_spec t s n tok τ hτ ht hl
 have hdst := fun τ hτ => sdist_spec t s n tok τ hτ ht hl
 have hfau := fun σ => fault06_spec t s n tok σ ht hl
 simp only [encTask] at hrch hdst hfau
 have e00 : ((0 : Int) == 0) = true := rfl
 have e33 : ((3 : Int) == 3) = true := rfl
 have n00 : ((0 : Int) != 0) = false := rfl
 have n30 : ((3 : Int) != 0) = true := rfl
 have z00 : ((((0 : Nat)) : Int) == 0) = true := rfl
 simp only [go_sem, simprocAttr, encTask]
 refine (hrch _ (hT2 _)).mono ?_
 rintro r1 _ ⟨rfl, hr1⟩
 by_cases h0 : fineS t s n = 0
 rotate_left
 ·have h0' : (fineS t s n != 0) = true := by simpa using h0
  have h00 : (fineS t s n == 0) = false := by simpa using h0
  have hee : (fineS t s n == fineS t s n) = true := beq_self_eq_true _
  rcases hr1 with ⟨_, rfl⟩ | ⟨h, _⟩
  rotate_left
  ·exact absurd h h0
  simp only [go_sem, simprocAttr, encTask]
  refine (hdst _ (hT2 _)).mono ?_
  rintro r2 _ ⟨rfl, ⟨_, rfl⟩ | ⟨h, _⟩⟩
  rotate_left
  ·exact absurd h h0
  simp only [go_sem, simprocAttr, encTask]
  refine (hfau _).is ?_
  simp only [go_sem, simprocAttr, h0', h00, hee, z00]
  refine (awake06_spec _ (hT2 _)).is ?_
  simp only [go_sem, simprocAttr]
  exact rt (.bool true) ⟨rfl, rfl⟩
 obtain ⟨hv, hst, hn1, hn2⟩ := fineS_ok h0
 have hVT := valid_VT ht hv
 have hwh := valid_WhB hv
 obtain ⟨N, rfl⟩ : ∃ N : Nat, n = (N : Int) := ⟨n.toNat, by omega⟩
 have hre := fun σ => reach06_spec t s N tok σ hVT hwh hst (by omega) (by omega)
 simp only [encTask] at hre
 rcases hr1 with ⟨h, _⟩ | ⟨_, hr1⟩
 ·exact absurd h0 h
 rcases hr1 with ⟨rfl, hmany⟩ | ⟨L, rfl, hL, hLn⟩
 ·simp only [go_sem, simprocAttr, encTask]
  refine (hdst _ (hT2 _)).mono ?_
  rintro r2 _ ⟨rfl, ⟨h, _⟩ | ⟨_, ⟨rfl, _⟩ | ⟨L', rfl, hL', hLn'⟩⟩⟩
  ·exact absurd h0 h
  rotate_left
  ·have := hmany.not hL'; omega
  simp only [go_sem, simprocAttr, encTask]
  refine (hfau _).is ?_
  rw [h0]
  simp only [go_sem, simprocAttr, e00, encTask]
  refine (hre _).mono ?_
  rintro _ _ ⟨rfl, ⟨rfl, _⟩ | ⟨L', rfl, hL', hLn'⟩⟩
  rotate_left
  ·have := hmany.not hL'; omega
  simp only [go_sem, simprocAttr, e33, n30, z00]
  refine (awake06_spec _ (hT2 _)).is ?_
  simp only [go_sem, simprocAttr]
  exact rt (.bool true) ⟨rfl, rfl⟩
 simp only [go_sem, simprocAttr, encTask]
 refine (hdst _ (hT2 _)).mono ?_
 rintro r2 _ ⟨rfl, ⟨h, _⟩ | ⟨_, ⟨_, hm⟩ | ⟨L2, rfl, hL2, _⟩⟩⟩
 ·exact absurd h0 h
 ·have := hm.not hL; omega
 obtain rfl := hL2.uniq hL
 simp only [go_sem, simprocAttr, encTask]
 refine (hfau _).is ?_
 rw [h0]
 simp only [go_sem, simprocAttr, e00, encTask]
 refine (hre _).mono ?_
 rintro _ _ ⟨rfl, ⟨_, hm⟩ | ⟨L3, rfl, hL3, _⟩⟩
 ·have := hm.not hL; omega
 obtain rfl := hL3.uniq hL
 have hLO : LOk t s L3 := ⟨hL, by omega⟩
 have hst1 : ∀ x ∈ L3, x.length ≤ 200 := fun x hx => (st_rng hVT ((hL.2 x).1 hx).1).1
 have hsm : s ∈ L3 := (hL.2 s).2 ⟨hst, [], 0, rfl⟩
 have hEd := edF_ok hVT hLO _ (Nat.le_refl _)
 have hed := fun σ => edges06_spec t s L3 .fresh σ hVT hwh hLO
 have hix := fun σ => index06_spec L3 s .fresh tok σ (by omega) (fun x hx => by have := hst1 x hx; omega) (by have := (st_rng hVT hst).1; omega)
 have hixe : idx06 L3 s = ((L3.idxOf s : Nat) : Int) := by unfold idx06; rw [if_pos hsm]
 rw [hixe] at hix
 have hfr := fun σ => from06_spec t s L3 (edF t L3 L3.length) .unk σ hVT hLO hEd hst
 have hto := fun σ => to06_spec t s L3 (edF t L3 L3.length) .fresh .unk σ hVT hLO hEd hst
 simp only [encTask] at hed hfr hto
 simp only [go_sem, simprocAttr, n00, encTask]
 refine (hed _).is ?_
 simp only [go_sem, simprocAttr, encTask]
 refine ⟨_, hix _, ?_⟩
 simp only [go_sem, simprocAttr, encTask]
 refine ⟨_, hfr _, ?_⟩
 simp only [go_sem, simprocAttr, encTask]
 refine ⟨_, hto _, ?_⟩
 have hdl : (dL6 t s L3).length = L3.length := by unfold dL6; rw [List.length_map]
 have hll : ∀ k : Nat, ((k : Int) != (k : Int)) = false := fun k => by simp
 simp only [go_sem, simprocAttr, n00, hll, hdl]
 refine wpc_while (fun (i : Nat) => [(7, .slice .fresh (L3.map encLf)), (9, .slice .fresh ((dL6 t s L3).map encD6)), (15, .slice .unk ((L3.map (frF t s)).map Ahl.encI)), (16, .slice .unk ((L3.map (optF t)).map Ahl.encI)), (111, .slice .fresh (L3.map encL)), (112, .int .i64 L3.length), (113, .int .i64 (i : Nat))]) (fun _ => σ) (fun i => i ≤ L3.length) (fun i => L3.length - i) 0 (Nat.zero_le _) ?_ ?_
 ·exact Ghost.keep _ (Nat.le_refl _) ⟨⟨.refl _, ids_mapf (fun x => ids_encLf x) _⟩, ⟨.refl _, ids_mapf (fun x => ids_encD6 _ x) _⟩, ⟨.refl _, ids_mapE _⟩, ⟨.refl _, ids_mapE _⟩, ⟨.refl _, ids_mapf (fun x => idsL_cons (ids_map ids_encI _) idsL_nil) _⟩, ⟨.refl _, .int _ _⟩, ⟨.refl _, .int _ _⟩, trivial⟩ hσ
 intro i hi K hK hE hR
 by_cases h : i < L3.length
 ·obtain ⟨u, hx⟩ := get_ex h; have hlt : ((i : Int) < (L3.length : Int)) := (by omega); have hw := wrapS (i := i) (by omega)
  have hul := hst1 u (List.mem_of_getElem? hx)
  have hd : (dL6 t s L3)[i]? = some (u, frF t s u, optF t u) := by unfold dL6; rw [List.getElem?_map, hx]; rfl
  have hf : (L3.map (frF t s))[i]? = some (frF t s u) := by rw [List.getElem?_map, hx]; rfl
  have ho : (L3.map (optF t))[i]? = some (optF t u) := by rw [List.getElem?_map, hx]; rfl
  have hi0 : (0 : Int) ≤ (i : Int) := by omega
  have hne : ∀ z : Int, (z != z) = false := fun z => by simp
  have hsame := fun σ tk tk' => sameInts_spec u u tk tk' σ (by omega) (by omega)
  have hdc : decide (u = u) = true := decide_eq_true rfl
  simp only [go_sem, simprocAttr, hlt, hx, hd, hf, ho, hi0, encL, encLf, encD6, Ahl.encI]
  refine ⟨_, hsame _ _ _, ?_⟩
  rw [hdc]
  simp only [go_sem, simprocAttr, hx, hd, hf, ho, hi0, encL, encLf, encD6, Ahl.encI]
  refine ⟨_, hsame _ _ _, ?_⟩
  rw [hdc]
  simp only [go_sem, simprocAttr, hx, hd, hf, ho, hi0, encL, encLf, encD6, Ahl.encI, hne]
  refine hK _ _ (i + 1) (by omega) (by omega) ?_
  (try dsimp only)
  rw [hw]
  exact Ghost.keep0 (Nat.le_refl _) ⟨⟨.refl _, ids_mapf (fun x => ids_encLf x) _⟩, ⟨.refl _, ids_mapf (fun x => ids_encD6 _ x) _⟩, ⟨.refl _, ids_mapE _⟩, ⟨.refl _, ids_mapE _⟩, ⟨.refl _, ids_mapf (fun x => idsL_cons (ids_map ids_encI _) idsL_nil) _⟩, ⟨.refl _, .int _ _⟩, ⟨.refl _, .int _ _⟩, trivial⟩ hσ
 ·have hlt : ¬ ((i : Int) < (L3.length : Int)) := by omega
  simp only [go_sem, simprocAttr, hlt, hE]
  refine (awake06_spec _ hT).is ?_
  simp only [go_sem, simprocAttr]
  exact rt (.bool true) ⟨rfl, rfl⟩
end Go.Proofs.YtpabiedjneognaaGreatDoor
namespace Go.Ahl
section
variable {P : Program}
theorem srel_tab {w : World} {b : Nat} (hg : P.globalNamed "internal/strconv.uint64pow10" = some b) (h : Lib.TabIs P w "internal/strconv.uint64pow10" .u64 Go.Lib.pow10Tab) : SRel (memOf w) [.nowhere] [powObj b] w := by
 have h0 := srel_memOf w
 obtain ⟨arr, t, fz, hb, ha⟩ : ∃ arr t fz, w.heap[b]? = some (.cells arr t fz) ∧ arr = (Go.Lib.pow10Tab.map fun z => Value.int .u64 z).toArray := by
  unfold Lib.TabIs World.var? at h
  rw [hg] at h
  simp only [Option.bind_some] at h
  split at h
  ·rename_i arr t fz hq
   injection h with h
   exact ⟨arr, t, fz, hq, h⟩
  ·simp at h
 refine { len := rfl, im := h0.im, bs := h0.bs, obj := ?_, inj := ?_, lt := ?_, mp := fun b e h => by simp [memOf] at h, mpo := ?_, ok := ⟨Nat.le_refl _, ?_, fun b o K h => by simp [memOf] at h, h0.ok.fz⟩ }
 ·intro i l o h1 h2
  cases i with
  | succ i => simp at h1
  | zero =>
   simp at h1 h2; subst h1; subst h2
   refine ⟨?_, fun i v hv => ?_⟩
   ·simp only [memOf, hb, ha]; simp
   ·simp only [memOf, World.cell?, hb, ha]
    simpa using hv
 ·intro i j l l' o o' k h1 h2 h3 h4 h5
  cases i with
  | succ i => simp at h1
  | zero => simp at h1 h3; subst h1; subst h3; simp [own, powObj] at h5
 ·rintro k ⟨i, e | ⟨_, _, _, e, _⟩⟩ <;> (cases i <;> simp at e)
 ·intro i l o k h1 h2 h3
  cases i with
  | succ i => simp at h1
  | zero => simp at h1 h2; subst h1; subst h2; simp [own, powObj] at h3
 ·rintro k ⟨i, e | ⟨_, _, _, e, _⟩⟩ <;> (cases i <;> simp at e)
end
open Go.ChangeShapes Go.WideShapes Go.ChangeAt Go.RowKit
section
variable {P : Program}
theorem below_of_extT {m m' : Mem} {loc' : List Loc} {w w' : World} {n0 : Nat} (h : Ext n0 m [.nowhere] w m' loc' w') (hz : ∀ b o, m.wk b o = none) : Below w.heap.size w w' :=
 ⟨h.os, h.tape, h.output, h.size, fun b hb => h.frame b hb (by rintro ⟨i, e | ⟨_, _, _, e, _⟩⟩ <;> (cases i <;> simp at e)) (hz b)⟩
theorem tabIs_third {P : Program} {W : World} {name : String} {k : IntKind} {zs : List Int} {x y : String × DataW Unit} {g : Nat} {t e : TypeId} {n : Nat}
  (hg : P.globalNamed name = some g) (hty : (P.globals[g]?).map (·.type) = some t) (ht : P.underlying t = some (.array n e)) (he : P.underlying e = some (.int k)) (hce : P.cellsOf e = 1) (hct : P.cellsOf t = n)
  (h : laidMet P [x, y, (name, Lib.tabData k zs)] W) : Lib.TabIs P W name k zs := by
 obtain ⟨x1, x2⟩ := x
 obtain ⟨y1, y2⟩ := y
 obtain ⟨ps, ⟨_, _, _, _, _, _, _, _, _, _, ⟨_, _, _, _, _, _, _, _, _, _, ⟨g', t', cs, fuel, p, q, hg', ht', hvar, hd, _, _⟩, _⟩, _⟩, _⟩ := h
 obtain rfl := Option.some.inj (hg.symm.trans hg')
 obtain rfl := Option.some.inj (hty.symm.trans ht')
 unfold Lib.TabIs
 rw [hvar, ← Lib.cells_of_tab ht he hce hct hd]
theorem law_postT {H : Type} {enc : TypeId × Value → H} {f : FuncId} {fn : Func} {s : ChangeSpec} {tb : TypeId} (hf : P.funcs[f]? = some fn) (hb : fn.body.isSome = true) (hn : fn.name ≠ "runtime.NumGoroutine")
  (hs0 : s.vars = []) (hs : ∀ ds : List (DataW H), ds.length = fn.params.size → s.fn H ds = { results := [.lit (.bool true)], args := ds })
  (hl : laidOutB P = true) (hr : ∀ t ∈ fn.params.toList, P.readableRec t = true ∧ t < P.types.size) (hres : fn.resultTypes = #[tb]) (hbool : P.underlying tb = some .bool)
  {g : Nat} (hg : P.globalNamed "internal/strconv.uint64pow10" = some g) (hA : ReadsAll P fn.params.toList fun avs => ACalls P f avs [powObj g] (isR (.bool true) [powObj g]))
  {W : World} {base : Nat} {args : Array Value} {ds gs : List (DataW H)} {before : List MemPlace} (hval : ∀ (j : Nat) t v, fn.params[j]? = some t → args[j]? = some v → Value.okWide P W .any base t v)
  (hW : DataW.Whole enc P fn.params.toList s.vars false W args.toList ds gs before)
  (hT0 : Lib.TabIs P W "internal/strconv.uint64pow10" .u64 Go.Lib.pow10Tab) (hsz : (DataW.weightsEach P (fn.params.toList ++ s.plain.varTypes P) (ds ++ gs)).all (· ≤ reachBytes) = true) :
  Calls P f args W fun e W' => ∃ v, e = .returned v ∧ s.post enc P fn false true false false W args v W' := by
 have hW' := hW
 obtain ⟨p, q, hT, hV, rfl, hfz, hnd⟩ := hW
 rw [hs0] at hV
 obtain ⟨rfl, rfl⟩ := trodVars_none hV
 have hpl : s.plain.varTypes P = [] := by simp [DataSpec.varTypes, ChangeSpec.plain, hs0]
 rw [hpl, List.append_nil, List.append_nil] at hsz
 obtain ⟨avs, h1, h2, h3⟩ := hA H enc W base args.toList ds p (fun j t v a b => hval j t v (by simpa using a) (by simpa using b)) hT (fun x hx => by simpa using List.all_eq_true.1 hsz x hx)
 refine (h1.calls hf hb hn (srel_tab hg hT0) ⟨by simpa using h2, fun j x v a b => Rel.mono (loc := []) (loc' := [.nowhere]) (.refl _) (fun i l hi e => by simp at e) (h3 j x v a (by simpa using b))⟩).mono ?_
 rintro e W' ⟨v, rfl, r, σ', m', loc', ⟨rfl, rfl⟩, hrel, hsr, hext⟩
 have hv : v = .bool true := by cases hrel; rfl
 subst hv
 have hbl := below_of_extT hext (fun _ _ => rfl)
 have hlt : ∀ x ∈ p, x.block < W.heap.size := fun x hx => hW'.lt x (by simpa using hx)
 have hlen : ds.length = fn.params.size := by
  have : ∀ (ts : List TypeId) (vs : List Value) (ds : List (DataW H)) (ps : List MemPlace), DataW.TrodAll enc P W 0 (fun _ => true) true ts vs ds ps → ds.length = ts.length := by
   intro ts
   induction ts with
   | nil => intro vs ds ps h; obtain ⟨_, rfl, _⟩ := trodAll_nil h; rfl
   | cons t ts ih => intro vs ds ps h; obtain ⟨v, vs', d, ds', p, q, rfl, rfl, rfl, h1, h2⟩ := trodAll_cons h; simp [ih _ _ _ h2]
  simpa using this _ _ _ _ hT
 have hsp := hs (ds ++ []) (by simpa using hlen)
 refine ⟨_, rfl, post_same (pa := p) (pv := []) hW' ?_ ?_ ?_ rfl (hbl.frame _) (fun a ha => hbl.frozen ha) ?_⟩
 ·intro b sp hd
  rw [hsp, hres]
  exact trodAll_mk1 (shut_bool hbool _)
 ·intro sp hsp'
  rw [hsp, List.append_nil]
  exact trodAll_stays hl hr hT (fun x hx => hbl.same (hlt x hx)) (fun x hx => hsp' x (by simpa using hx))
 ·intro sp hsp'
  rw [hsp, hs0]; exact rfl
 ·exact ok_one hres rfl (okWide_bool_mk hbool _)
end
end Go.Ahl
namespace Go.Proofs.YtpabiedjneognaaGreatDoor
open Go.Ahl Go.ChangeShapes Go.WideShapes Go.ChangeAt Go.RowKit
abbrev rowLaid : List (String × DataW Unit) := [("math/bits.deBruijn32tab", Rows.laid_math_bits_deBruijn32tab), ("math/bits.deBruijn64tab", Rows.laid_math_bits_deBruijn64tab), ("internal/strconv.uint64pow10", Rows.laid_internal_strconv_uint64pow10)]
theorem pow_data : (Rows.laid_internal_strconv_uint64pow10 : DataW Unit) = Lib.tabData .u64 Go.Lib.pow10Tab := rfl
theorem tab_of_laid {W : World} (h : laidMetH Tryz.prog rowLaid W) : Lib.TabIs Tryz.prog W "internal/strconv.uint64pow10" .u64 Go.Lib.pow10Tab := by
 rw [MakeChecks.laidMetH_plain _ _ _ (by kernel_rfl)] at h
 unfold rowLaid at h
 rw [pow_data] at h
 exact tabIs_third (t := 218) (e := 182) (n := 20) tab_named (by kernel_rfl) (by kernel_rfl) (by kernel_rfl) (by kernel_rfl) (by kernel_rfl) h
theorem laid_met (os : Os) (args : Array Value) : laidMetH Tryz.prog rowLaid ((World.laidAll Tryz.prog os rowLaid).forCall (fun _ _ => 0) ⟨#[], args, []⟩).memory := by
 rw [MakeChecks.laidMetH_plain _ _ _ (by kernel_rfl)]; exact laidMet_laidAll _ (by kernel_rfl) (by kernel_rfl)
end Go.Proofs.YtpabiedjneognaaGreatDoor
namespace Go.Proofs.YtpabiedjneognaaGreatDoor
open Go.Ahl Go.ChangeShapes Go.WideShapes Go.ChangeAt Go.RowKit
theorem law_reads : ReadsAll Tryz.prog Tryz.f5.params.toList (fun avs => ACalls Tryz.prog 5 avs [tabO] (isR (.bool true) [tabO])) := by
 rw [show Tryz.f5.params.toList = [27, 23, 3] by kernel_rfl]
 exact .cons ra_task fun t ht => .cons ra_ints fun s hs => .cons ra_int fun n hn => .nil (states06_law t s n Ahl.Tok.unk [tabO] rfl ht hs.1)
set_option maxRecDepth 100000 in
theorem lifted (os : Os) (started : os.Started) (H : Type) (enc : TypeId × Value → H) :
  ReturnsInHanded {} Tryz.checked os 5 .any (fun w args => (Rows.searchStatesSpec.pre enc Tryz.prog Tryz.f5 Rows.searchStatesRow.domain false w args ∧ laidMetH Tryz.prog rowLaid w) ∧ sizedMet enc Tryz.prog Tryz.f5 (OpenSpec.ofChange Rows.searchStatesSpec) false w args)
   (Rows.searchStatesSpec.post enc Tryz.prog Tryz.f5 false true false false) := by
 refine returnsInHanded_of_change_and (C := Tryz.checked) (X := fun w _ => laidMetH Tryz.prog rowLaid w) (fun _ _ _ hh h => h.of_heap hh) own started (by kernel_rfl) Tryz.func5
  (ChangeSpec.witness_shaped (enc := enc) (C := Tryz.checked) (os := os) (X := fun w _ => laidMetH Tryz.prog rowLaid w) false (World.laidAll Tryz.prog os rowLaid) #[.agg #[.slice none 0 0, .slice none 0 0, .slice none 0 0, .slice none 0 0], .slice none 0 0, .int .i64 0] 8 (World.laidAll_os _ _ _)
   (World.shaped_of_ZipB (by kernel_rfl) (by kernel_rfl)) (by kernel_rfl) (by kernel_rfl) (by kernel_rfl) (laid_met os _)) ?_
 intro W base args ds gs before hval hW _ hsz hL _
 refine law_postT (P := Tryz.prog) Tryz.func5 (by kernel_rfl) (by decide) rfl ?_ laidOut (rdble (by kernel_rfl)) (by kernel_rfl) Tryz.underlying4 tab_named law_reads hval hW (tab_of_laid hL) hsz
 intro ds h
 rw [show Tryz.f5.params.size = 3 by kernel_rfl] at h
 match ds, h with
 | [a, b, c], _ => rfl
theorem row_holds : Rows.SearchStatesSaid :=
 OpenClaim.holds_of_wide 5 Tryz.f5 rfl rfl rfl rfl rfl rfl rfl ⟨rfl, rfl, rfl, rfl, rfl⟩ rfl rfl rfl rfl rfl (by kernel_rfl) Tryz.func5 (by kernel_rfl)
  (of_decide_eq_true (by kernel_rfl)) (by unfold Func.isWrapper; first | (rw [if_pos (by decide +kernel)]; kernel_rfl) | (rw [if_neg (by decide +kernel)]; exact ⟨rfl, rfl⟩))
  (fun os started H enc _ => lifted os started H enc)
theorem holds : Rows.SearchStatesCardSaid :=
 Claim7.holds_tied_plain_at .later [] [.data, .data, .data] true (true, "4b5b9ffcc6f8df805ecff25f1710d253db95cba1634782edf60db549af1a9c7c") true
  row_holds (fun _ h => by cases h) (by kernel_rfl) (fun _ h => by cases h) searchStates_row_tie rfl ⟨rfl, rfl⟩ (by kernel_rfl) rfl
  (fun f fn hf hfn => by
   obtain rfl : f = 5 := Option.some.inj ((show Tryz.prog.funcNamed "forethought/forethoughtlaw06.SearchStates" = some 5 by kernel_rfl).symm.trans hf) |>.symm
   obtain rfl : fn = Tryz.f5 := (Option.some.inj (Eq.trans (Eq.symm Tryz.func5) hfn)).symm
   exact ⟨by kernel_rfl, fun j t ht => by
    have hall : (Tryz.f5.params.toList.all fun u => !Tryz.prog.wantsStandIn u) = true := by kernel_rfl
    have hm : t ∈ Tryz.f5.params.toList := by simpa using Array.mem_of_getElem? ht
    show Tryz.prog.wantsStandIn t = false
    simpa using List.all_eq_true.1 hall t hm⟩)
  (by kernel_rfl)
end Go.Proofs.YtpabiedjneognaaGreatDoor
