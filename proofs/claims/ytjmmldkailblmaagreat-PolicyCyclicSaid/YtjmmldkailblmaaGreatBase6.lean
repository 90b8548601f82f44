/- Contracts of the given program's functions, and an abstract layer over the model; no condition. -/
import Derived.Test.YtjmmldkailblmaaGreatBase5
set_option maxRecDepth 20000
set_option linter.unusedVariables false
set_option linter.unusedSimpArgs false
namespace Go.Proofs.YtjmmldkailblmaaGreat
open Go.Ahl
theorem cg6 {a b c d e f : AObj} {r : Store} (k : Nat) : (a :: b :: c :: d :: e :: f :: r)[6 + k]? = r[k]? := by rw [Nat.add_comm]; rfl
theorem cs6 {a b c d e f x : AObj} {r : Store} (k : Nat) : (a :: b :: c :: d :: e :: f :: r).set (6 + k) x = a :: b :: c :: d :: e :: f :: r.set k x := by rw [Nat.add_comm]; rfl
theorem rk_get {α : Type} (y x : α) (r : List α) : ∀ k, (List.replicate k y ++ x :: r)[k]? = some x
 | 0 => rfl
 | k + 1 => by rw [List.replicate_succ, List.cons_append, List.getElem?_cons_succ]; exact rk_get y x r k
theorem rk_set {α : Type} (y x z : α) (r : List α) : ∀ k, (List.replicate k y ++ x :: r).set k z = List.replicate k y ++ z :: r
 | 0 => rfl
 | k + 1 => by rw [List.replicate_succ, List.cons_append, List.set_cons_succ, rk_set y x z r k]; rfl
theorem rk_succ {α : Type} (y : α) (r : List α) (k : Nat) : List.replicate (k + 1) y ++ r = List.replicate k y ++ y :: r := by
 rw [List.replicate_succ', List.append_assoc]; rfl
theorem rk_get1 {α : Type} (y x : α) (r : List α) : ∀ k, (List.replicate k y ++ x :: r)[k + 1]? = r[0]?
 | 0 => rfl
 | k + 1 => by rw [List.replicate_succ, List.cons_append, List.getElem?_cons_succ]; exact rk_get1 y x r k
theorem rk_set1 {α : Type} (y x z : α) (r : List α) : ∀ k, (List.replicate k y ++ x :: r).set (k + 1) z = List.replicate k y ++ x :: r.set 0 z
 | 0 => rfl
 | k + 1 => by rw [List.replicate_succ, List.cons_append, List.set_cons_succ, rk_set1 y x z r k]; rfl
theorem rk_get2 {α : Type} (y x : α) (r : List α) : ∀ k, (List.replicate k y ++ x :: r)[k + 2]? = r[1]?
 | 0 => rfl
 | k + 1 => by rw [List.replicate_succ, List.cons_append, List.getElem?_cons_succ]; exact rk_get2 y x r k
theorem rk_set2 {α : Type} (y x z : α) (r : List α) : ∀ k, (List.replicate k y ++ x :: r).set (k + 2) z = List.replicate k y ++ x :: r.set 1 z
 | 0 => rfl
 | k + 1 => by rw [List.replicate_succ, List.cons_append, List.set_cons_succ, rk_set2 y x z r k]; rfl
theorem WkL.snoc {a b : AV} (h : Wk a b) : ∀ (l : List AV), WkL (l ++ [a]) (l ++ [b])
 | [] => .cons h .nil
 | x :: l => .cons (.refl x) (WkL.snoc h l)
theorem tokJ {n0 nt : Nat} {s : Slots} (σ : Store) (a b c d e f x : AObj) (n : Int) (J : Nat) : Ghost n0 nt s (σ ++ (a :: b :: c :: d :: e :: f :: (List.replicate J AObj.dead ++ [x, .row [.int .i64 n, .slice .nil []]]))) s
  (σ ++ (a :: b :: c :: d :: e :: f :: (List.replicate J AObj.dead ++ [x, .row [.int .i64 n, .slice (.grow (σ.length + (6 + (J + 2)))) []], .grow 1 0]))) := by
 have h := Ghost.tokRow (n0 := n0) (nt := nt) (s := s) (σ := σ ++ (a :: b :: c :: d :: e :: f :: (List.replicate J AObj.dead ++ [x, .row [.int .i64 n, .slice .nil []]]))) (σ.length + (6 + (J + 1))) 1 1 (cells := [.int .i64 n, .slice .nil []]) (by rw [g_get, cg6, rk_get1]; rfl) rfl
 have hl : (σ ++ (a :: b :: c :: d :: e :: f :: (List.replicate J AObj.dead ++ [x, .row [.int .i64 n, .slice .nil []]]))).length = σ.length + (6 + (J + 2)) := by simp; omega
 rw [hl, List.append_assoc, g_set] at h
 simp only [List.cons_append, List.append_assoc, List.nil_append, cs6, rk_set1, List.set_cons_zero, List.set_cons_succ] at h
 exact h
theorem ofWK (a b e : AObj) (c d : AV) (ss : List (List Int)) (x : List Int) (σ r : Store) (hx : x.length ≤ 1000000) (hap : Apart ss x) (hl : ss.length ≤ 1000000) :
  ACalls Tryz.prog 42 [.ptr (σ.length + 3) 0, .slice .unk (x.map Ahl.encI)] (σ ++ (a :: b :: .map (encW ss) :: .row [.map (σ.length + 2), .slice (.grow (σ.length + 4)) (ss.map encL), c, d] :: .grow 1 ss.length :: e :: r))
   (isR (.int .i64 (((addS ss x).idxOf x : Nat) : Int)) (σ ++ (a :: b :: .map (encW (addS ss x)) :: .row [.map (σ.length + 2), .slice (.grow (σ.length + 4)) ((addS ss x).map encL), c, d] :: .grow 1 (addS ss x).length :: e :: r))) := by
 have h := ofN_spec ss x (σ.length + 2) (σ.length + 4) (σ.length + 3) [c, d] (σ ++ (a :: b :: .map (encW ss) :: .row [.map (σ.length + 2), .slice (.grow (σ.length + 4)) (ss.map encL), c, d] :: .grow 1 ss.length :: e :: r)) hx hap hl (by simp) (by simp) (by simp) (by omega) (by omega) (by omega)
 have e' : (if x ∈ ss then σ ++ (a :: b :: .map (encW ss) :: .row [.map (σ.length + 2), .slice (.grow (σ.length + 4)) (ss.map encL), c, d] :: .grow 1 ss.length :: e :: r) else (((σ ++ (a :: b :: .map (encW ss) :: .row [.map (σ.length + 2), .slice (.grow (σ.length + 4)) (ss.map encL), c, d] :: .grow 1 ss.length :: e :: r)).set (σ.length + 2) (.map (encW (ss ++ [x])))).set (σ.length + 4) (.grow 1 (ss.length + 1))).set (σ.length + 3) (.row (.map (σ.length + 2) :: .slice (.grow (σ.length + 4)) ((ss ++ [x]).map encL) :: [c, d]))) = σ ++ (a :: b :: .map (encW (addS ss x)) :: .row [.map (σ.length + 2), .slice (.grow (σ.length + 4)) ((addS ss x).map encL), c, d] :: .grow 1 (addS ss x).length :: e :: r) := by
  by_cases hm : x ∈ ss
  ·rw [if_pos hm, addS_in hm]
  ·rw [if_neg hm, addS_out hm]
   simp
 rwa [e'] at h
theorem chP_pre {t : FTask} {g : List (List Int)} {p : List FEnt} {ss ss' : List (List Int)} {s : List Int} (h : Pre ss ss') (hm : ∀ y ∈ nxP t g p s, y ∈ ss) : chP t g p ss' s = chP t g p ss s := by
 unfold chP
 unfold nxP at hm
 split
 ·rename_i n hn
  rw [hn] at hm
  congr 2
  exact List.map_congr_left fun y hy => h.idx (hm y hy)
 ·rfl
def chV (l : List (Nat × List Nat)) : AV := .slice .unk (l.map encCo)
def CHp (t : FTask) (g : List (List Int)) (p : List FEnt) (ss : List (List Int)) (k : Nat) : List (List (Nat × List Nat)) := (ss.take k).map (chP t g p ss)
def GLp (t : FTask) (ss : List (List Int)) (k : Nat) : List Bool := (ss.take k).map fun s => condHolds s t.goal
theorem take_pre {ss ss' : List (List Int)} (h : Pre ss ss') {k : Nat} (hk : k ≤ ss.length) : ss'.take k = ss.take k := by
 obtain ⟨r, rfl⟩ := h; rw [List.take_append_of_le_length hk]
theorem CHp_step {t : FTask} {g : List (List Int)} {p : List FEnt} {k : Nat} {s : List Int} (h : (gK (nxP t g p) t.init k)[k]? = some s) :
  CHp t g p (gK (nxP t g p) t.init (k + 1)) (k + 1) = CHp t g p (gK (nxP t g p) t.init k) k ++ [chP t g p (gK (nxP t g p) t.init (k + 1)) s] := by
 have hp := gK_pre1 (nx := nxP t g p) (s0 := t.init) k
 have hk := lt_of_get h
 unfold CHp
 rw [take_succ' (hp.get h), take_pre hp (by omega), List.map_append]
 congr 1
 refine List.map_congr_left fun x hx => ?_
 obtain ⟨j, hj, rfl⟩ := List.getElem_of_mem hx
 have hj2 : j < k := by rw [List.length_take] at hj; omega
 exact chP_pre hp (gK_closed k j _ hj2 (by rw [List.getElem_take]; exact List.getElem?_eq_getElem _))
theorem GLp_step {t : FTask} {nx : List Int → List (List Int)} {s0 : List Int} {k : Nat} {s : List Int} (h : (gK nx s0 k)[k]? = some s) : GLp t (gK nx s0 (k + 1)) (k + 1) = GLp t (gK nx s0 k) k ++ [condHolds s t.goal] := by
 have hp := gK_pre1 (nx := nx) (s0 := s0) k
 have hk := lt_of_get h
 unfold GLp
 rw [take_succ' (hp.get h), take_pre hp (by omega), List.map_append]; rfl
theorem tokP {n0 nt : Nat} {s : Slots} (t : FTask) (p : List FEnt) (σ : Store) : Ghost n0 nt s (σ ++ [.row (encTask t), .map (p.map ofE), .map [], .row [.map (σ.length + 2), .slice .nil [], .slice .nil [], .slice .nil []]]) s (σ ++ ([AObj.row (encTask t), AObj.map (List.map ofE p), AObj.map (encW []), AObj.row [AV.map (σ.length + 2), AV.slice (.grow (σ.length + 4)) (List.map encL []), AV.ref (σ.length + (6 + 0)) 1 0 0, AV.slice (.grow (σ.length + 5)) (List.map encB [])], AObj.grow 1 (@List.length (List Int) []), AObj.grow 1 (@List.length Bool [])] ++ [AObj.row []])) := by
 have g1 := Ghost.tokRow (n0 := n0) (nt := nt) (s := s) (σ := σ ++ [.row (encTask t), .map (p.map ofE), .map [], .row [.map (σ.length + 2), .slice .nil [], .slice .nil [], .slice .nil []]]) (σ.length + 3) 1 1 (by simp; rfl) rfl
 have g2 := Ghost.tokRow (n0 := n0) (nt := nt) (s := s) (σ := σ ++ [.row (encTask t), .map (p.map ofE), .map [], .row [.map (σ.length + 2), .slice (.grow (σ.length + 4)) [], .slice .nil [], .slice .nil []], .grow 1 0]) (σ.length + 3) 3 1 (by simp; rfl) rfl
 have g3 := Ghost.rowRow (n0 := n0) (nt := nt) (s := s) (σ := σ ++ [.row (encTask t), .map (p.map ofE), .map [], .row [.map (σ.length + 2), .slice (.grow (σ.length + 4)) [], .slice .nil [], .slice (.grow (σ.length + 5)) []], .grow 1 0, .grow 1 0]) (σ.length + 3) 2 1 (by simp; rfl) rfl
 simp only [List.length_append, List.length_cons, List.length_nil, Nat.zero_add, Nat.reduceAdd, List.append_assoc, List.cons_append, List.nil_append, g_set, List.set_cons_succ, List.set_cons_zero] at g1 g2 g3
 exact (g1.trans g2).trans g3
theorem wldP_ok {t : FTask} {g : List (List Int)} {p : List FEnt} (he : EOk t) (hc : choicesB t g = true) (hp : polB t g p = true) (hs : risingB t.facts.length (-1) t.init = true) (h8 : t.facts.length ≤ 8) : WOk (wldP t g p) := by
 have hnx := nxP_rising he hc hp
 have hlen := gK_len hs hnx (2 ^ t.facts.length)
 have h2n : 2 ^ t.facts.length ≤ 256 := Nat.pow_le_pow_right (n := 2) (by omega) h8
 refine ⟨?_, by simp [wldP], by simp [wldP], ?_, ?_⟩
 ·show (ssP t g p).length ≤ _
  unfold ssP; omega
 ·intro l hl
  obtain ⟨s, _, rfl⟩ := List.mem_map.1 hl
  unfold chP; split <;> simp
 ·intro l hl c hcm
  obtain ⟨s, hsm, rfl⟩ := List.mem_map.1 hl
  unfold chP at hcm
  split at hcm
  ·rename_i n hn
   rw [List.mem_singleton] at hcm; subst hcm
   obtain ⟨h1, h2, h3, h4, h5⟩ := polG_ok hp hn
   have hnxs : nxP t g p s = outsL t (grp g n.toNat) s := by unfold nxP; rw [hn]
   have hcl : ∀ y ∈ outsL t (grp g n.toNat) s, y ∈ ssP t g p := fun y hy => by
    obtain ⟨j, hj⟩ := List.getElem?_of_mem hsm
    exact gK_closed _ j s (by have := lt_of_get hj; unfold ssP at this; omega) hj y (by rw [hnxs]; exact hy)
   refine ⟨?_, ?_, ?_⟩
   ·have h1 : (outsL t (grp g n.toNat) s).Nodup := (outs_strict t _ s).imp fun {a b} q e => by subst e; exact absurd q (by unfold ltL; rw [cmpInts_refl]; omega)
    have := nodup_sub_len h1 hcl
    unfold ssP at this
    rw [List.length_map]; omega
   ·have := outs_ne (t := t) (s := s) (grp_ok hc h2).2.1
    simpa using this
   ·intro k hk
    obtain ⟨y, hy, rfl⟩ := List.mem_map.1 hk
    exact List.idxOf_lt_length_of_mem (hcl y hy)
  ·simp at hcm
def e_pKind_0 : List COp := [oS 44 (.faddr 0 (.tmp 3)), oA 45 (.load none (.tmp 44)) [0], oA 46 (.blen 1 (.tmp 45)) [1], oS 47 (.faddr 0 (.tmp 11)), oA 48 (.load none (.tmp 47)) [3], oA 49 (.call (.lit (.func 37 [])) [.tmp 46, .tmp 48]) [2, 4], oA 50 (.un .not (.tmp 49)) [5], oA 51 (.move (.tmp 50)) [6, 5], ⟨some 52, .faddr 1 (.tmp 11), some (some 51, false), [7]⟩, ⟨some 53, .load none (.tmp 52), some (some 51, false), [8, 7]⟩, ⟨some 54, .bin .lss .none (.tmp 53) (.lit (.int .i64 0)), some (some 51, false), [9, 7]⟩, oA 55 (.pick (.tmp 51) (.lit (.bool true)) (.tmp 54)) [7, 10], oA 56 (.move (.tmp 55)) [11, 7], ⟨some 57, .faddr 1 (.tmp 11), some (some 56, false), [12]⟩, ⟨some 58, .load none (.tmp 57), some (some 56, false), [13, 12]⟩, ⟨some 59, .move (.tmp 1), some (some 56, false), [12]⟩, ⟨some 60, .blen 1 (.tmp 59), some (some 56, false), [15, 12]⟩, ⟨some 61, .bin .geq .none (.tmp 58) (.tmp 60), some (some 56, false), [14, 16, 12]⟩, oA 62 (.pick (.tmp 56) (.lit (.bool true)) (.tmp 61)) [12, 17], oA 63 (.move (.tmp 62)) [18, 12], ⟨some 64, .move (.tmp 10), some (some 63, false), [19]⟩, ⟨some 65, .bin .gtr .none (.tmp 64) (.lit (.int .i64 0)), some (some 63, false), [20, 19]⟩, ⟨some 66, .move (.tmp 65), some (some 63, false), [21, 19, 19]⟩, ⟨some 67, .move (.tmp 2), some (some 66, true), [22]⟩, ⟨some 68, .move (.tmp 10), some (some 66, true), [22]⟩, ⟨some 69, .bin .sub .none (.tmp 68) (.lit (.int .i64 1)), some (some 66, true), [24, 22]⟩, ⟨some 70, .iaddr 2 (.tmp 67) (.tmp 69), some (some 66, true), [23, 25, 22]⟩, ⟨some 71, .faddr 0 (.tmp 70), some (some 66, true), [26, 22]⟩, ⟨some 72, .load none (.tmp 71), some (some 66, true), [27, 22]⟩, ⟨some 73, .faddr 0 (.tmp 11), some (some 66, true), [22]⟩, ⟨some 74, .load none (.tmp 73), some (some 66, true), [29, 22]⟩, ⟨some 75, .call (.lit (.func 38 [])) [.tmp 72, .tmp 74], some (some 66, true), [28, 30, 22, 22]⟩, ⟨some 76, .bin .geq .none (.tmp 75) (.lit (.int .i64 0)), some (some 66, true), [31, 22]⟩, ⟨some 77, .pick (.tmp 66) (.tmp 76) (.lit (.bool false)), some (some 63, false), [22, 32, 19]⟩, oA 78 (.pick (.tmp 63) (.lit (.bool true)) (.tmp 77)) [19, 33]]
def d_pKind_0 : List COp := e_pKind_0
theorem dr_pKind_0 (P : Program) (nt n0 : Nat) (Q : Post) (s : Slots) (σ : Store) : wpc P nt n0 (.draw d_pKind_0) Q s σ = aOpsD P nt e_pKind_0 (Q .normal) s σ := wpc_draw _ (by decide)
def e_pKind_1 : List COp := [oS 80 (.load (some 4) (.tmp 3)), oS 81 (.move (.tmp 1)), oS 82 (.faddr 1 (.tmp 11)), oA 83 (.load none (.tmp 82)) [2], oA 84 (.iaddr 1 (.tmp 81) (.tmp 83)) [1, 3], oA 85 (.load none (.tmp 84)) [4], oS 86 (.faddr 0 (.tmp 11)), oA 87 (.load none (.tmp 86)) [6], oA 88 (.call (.lit (.func 39 [])) [.tmp 80, .tmp 85, .tmp 87]) [0, 5, 7], oA 79 (.move (.tmp 88)) [8], oA 89 (.extract (.tmp 79) 0) [9], oA 90 (.extract (.tmp 79) 1) [9], oA 12 (.move (.tmp 89)) [10, 8, 0, 1, 2, 3, 4, 5, 6, 7, 8, 9, 10], oA 13 (.move (.tmp 90)) [11, 12, 0, 1, 2, 3, 4, 5, 6, 7, 8, 9, 10, 11, 12]]
def d_pKind_1 : List COp := e_pKind_1
theorem dr_pKind_1 (P : Program) (nt n0 : Nat) (Q : Post) (s : Slots) (σ : Store) : wpc P nt n0 (.draw d_pKind_1) Q s σ = aOpsD P nt e_pKind_1 (Q .normal) s σ := wpc_draw _ (by decide)
def e_pKind_2 : List COp := [oS 100 (.move (.tmp 9)), oS 101 (.faddr 0 (.tmp 11)), oA 102 (.load none (.tmp 101)) [1], oA 103 (.call (.lit (.func 41 [])) [.tmp 102]) [2], oS 104 (.faddr 1 (.tmp 11)), oA 105 (.load none (.tmp 104)) [4], ⟨none, .mapup true (.tmp 100) (.tmp 103) (.tmp 105), none, [0, 3, 5, 3, 0, 1, 2, 3, 4, 5]⟩]
def d_pKind_2 : List COp := e_pKind_2
theorem dr_pKind_2 (P : Program) (nt n0 : Nat) (Q : Post) (s : Slots) (σ : Store) : wpc P nt n0 (.draw d_pKind_2) Q s σ = aOpsD P nt e_pKind_2 (Q .normal) s σ := wpc_draw _ (by decide)
def e_pKind_3 : List COp := [oS 111 (.move (.tmp 14)), oA 112 (.nilck (.tmp 111)) [0], oA 113 (.faddr 0 (.tmp 112)) [1], oS 114 (.faddr 1 (.tmp 3)), oA 115 (.load none (.tmp 114)) [3], oA 116 (.callE (.lit (.func 42 [])) [.tmp 113, .tmp 115]) [2, 4]]
def d_pKind_3 : List COp := e_pKind_3
theorem dr_pKind_3 (P : Program) (nt n0 : Nat) (Q : Post) (s : Slots) (σ : Store) : wpc P nt n0 (.draw d_pKind_3) Q s σ = aOpsD P nt e_pKind_3 (Q .normal) s σ := wpc_draw _ (by decide)
def e_pKind_4 : List COp := [oS 135 (.move (.tmp 14)), oS 136 (.move (.tmp 14)), oA 137 (.nilck (.tmp 136)) [1], oA 138 (.faddr 3 (.tmp 137)) [2], oA 139 (.load none (.tmp 138)) [3], oS 140 (.move (.tmp 18)), oS 141 (.faddr 2 (.tmp 3)), oA 142 (.load none (.tmp 141)) [6], oA 143 (.call (.lit (.func 40 [])) [.tmp 140, .tmp 142]) [5, 7], oA 144 (.bsliceC 1 [.tmp 143]) [8], oA 145 (.bappend 1 1 (.tmp 139) (.tmp 144) false) [4, 9, 8], oA 146 (.nilck (.tmp 135)) [0, 0, 1, 2, 3, 4, 5, 6, 7, 8, 9, 10], oA 147 (.faddr 3 (.tmp 146)) [11, 0, 1, 2, 3, 4, 5, 6, 7, 8, 9, 10], ⟨none, .store 1 (.tmp 147) (.tmp 145), none, [12, 10, 10, 0, 1, 2, 3, 4, 5, 6, 7, 8, 9, 10]⟩]
def d_pKind_4 : List COp := e_pKind_4
theorem dr_pKind_4 (P : Program) (nt n0 : Nat) (Q : Post) (s : Slots) (σ : Store) : wpc P nt n0 (.draw d_pKind_4) Q s σ = aOpsD P nt e_pKind_4 (Q .normal) s σ := wpc_draw _ (by decide)
def e_pKind_5 : List COp := [oS 187 (.load (some 4) (.tmp 3)), oS 188 (.move (.tmp 1)), oS 189 (.move (.tmp 19)), oA 190 (.iaddr 1 (.tmp 188) (.tmp 189)) [1, 2], oA 191 (.load none (.tmp 190)) [3], oS 192 (.move (.tmp 18)), oA 193 (.call (.lit (.func 39 [])) [.tmp 187, .tmp 191, .tmp 192]) [0, 4, 5], oA 186 (.move (.tmp 193)) [6], oA 194 (.extract (.tmp 186) 0) [7], oA 195 (.extract (.tmp 186) 1) [7], oA 21 (.move (.tmp 194)) [8, 6, 0, 1, 2, 3, 4, 5, 6, 7, 8], oA 22 (.move (.tmp 195)) [9, 10, 0, 1, 2, 3, 4, 5, 6, 7, 8, 9, 10]]
def d_pKind_5 : List COp := e_pKind_5
theorem dr_pKind_5 (P : Program) (nt n0 : Nat) (Q : Post) (s : Slots) (σ : Store) : wpc P nt n0 (.draw d_pKind_5) Q s σ = aOpsD P nt e_pKind_5 (Q .normal) s σ := wpc_draw _ (by decide)
def e_pKind_6 : List COp := [oS 204 (.faddr 1 (.tmp 23)), oA 205 (.load none (.tmp 204)) [0], oS 206 (.move (.tmp 14)), oA 207 (.nilck (.tmp 206)) [2], oA 208 (.faddr 0 (.tmp 207)) [3], oS 209 (.move (.tmp 25)), oA 210 (.callE (.lit (.func 42 [])) [.tmp 208, .tmp 209]) [4, 5], oA 211 (.bsliceC 1 [.tmp 210]) [6], oA 212 (.bappend 1 8 (.tmp 205) (.tmp 211) false) [1, 7, 6], oA 213 (.faddr 1 (.tmp 23)) [0, 1, 2, 3, 4, 5, 6, 7, 8], ⟨none, .store 1 (.tmp 213) (.tmp 212), none, [9, 8, 8, 0, 1, 2, 3, 4, 5, 6, 7, 8]⟩]
def d_pKind_6 : List COp := e_pKind_6
theorem dr_pKind_6 (P : Program) (nt n0 : Nat) (Q : Post) (s : Slots) (σ : Store) : wpc P nt n0 (.drawU d_pKind_6 [[], [6], [], [], [], [], [1], [], [], [], []]) Q s σ = aOpsU P nt e_pKind_6 [[], [6], [], [], [], [], [1], [], [], [], []] 0 [] [] (Q .normal) s σ := wpc_drawU _ _ (by decide)
def e_pKind_7 : List COp := [oS 215 (.move (.tmp 14)), oA 216 (.nilck (.tmp 215)) [0], oA 217 (.faddr 2 (.tmp 216)) [1], oA 218 (.load none (.tmp 217)) [2], oS 219 (.move (.tmp 17)), oS 220 (.load (some 2) (.tmp 23)), oA 221 (.bsliceC 2 [.tmp 220]) [5], oA 222 (.iaddr 1 (.tmp 218) (.tmp 219)) [3, 4, 0, 1, 2, 3, 4, 5, 6], ⟨none, .store 1 (.tmp 222) (.tmp 221), none, [7, 6, 0, 1, 2, 3, 4, 5, 6]⟩]
def d_pKind_7 : List COp := e_pKind_7
theorem dr_pKind_7 (P : Program) (nt n0 : Nat) (Q : Post) (s : Slots) (σ : Store) : wpc P nt n0 (.draw d_pKind_7) Q s σ = aOpsD P nt e_pKind_7 (Q .normal) s σ := wpc_draw _ (by decide)
attribute [local go_sem] dr_pKind_0 e_pKind_0 dr_pKind_1 e_pKind_1 dr_pKind_2 e_pKind_2 dr_pKind_3 e_pKind_3 dr_pKind_4 e_pKind_4 dr_pKind_5 e_pKind_5 dr_pKind_6 e_pKind_6 dr_pKind_7 e_pKind_7
def c_pKind : CCode := .seq (.ops [oS 3 (.box (.tmp 0)), oS 6 (.move (.lit (.int .i64 0))), oS 7 (.move (.lit (.int .i64 0)))]) (.seq (.seq (.ops [oS 30 (.load (some 4) (.tmp 3)), oS 31 (.move (.tmp 1)), oS 32 (.call (.lit (.func 36 [])) [.tmp 30, .tmp 31]), oS 8 (.move (.tmp 32))]) (.seq (.ops [oS 33 (.move (.tmp 8)), oS 34 (.bin .neq .none (.tmp 33) (.lit (.int .i64 0)))]) (.cond (.tmp 34) (.seq (.ops [oS 35 (.move (.tmp 8)), oS 6 (.move (.lit (.int .i64 0))), oS 7 (.move (.tmp 35))]) .ret) .skip))) (.seq (.ops [oS 36 .mkmap, oS 9 (.move (.tmp 36))]) (.seq (.seq (.ops [oS 37 (.move (.tmp 2)), oS 38 (.blen 1 (.tmp 37)), oS 39 (.move (.lit (.int .i64 0)))]) (.block 0 (.loop (.seq (.ops [oS 40 (.bin .lss .none (.tmp 39) (.tmp 38))]) (.seq (.cond (.tmp 40) .skip (.exit 0)) (.seq (.block 1 (.seq (.ops [oS 41 (.move (.tmp 39)), oS 42 (.iaddr 2 (.tmp 37) (.tmp 39)), oS 43 (.load (some 2) (.tmp 42)), oS 11 (.alloc (.agg [.slice .nil [], .int .i64 0])), oS 10 (.move (.tmp 41)), oN (.store 2 (.tmp 11) (.tmp 43))]) (.seq (.seq (.draw d_pKind_0) (.cond (.tmp 78) (.seq (.ops [oS 6 (.move (.lit (.int .i64 0))), oS 7 (.move (.lit (.int .i64 161)))]) .ret) .skip)) (.seq (.seq (.draw d_pKind_1) (.seq (.ops [oS 91 (.move (.tmp 13)), oS 92 (.un .not (.tmp 91)), oS 93 (.move (.tmp 92)), oG 94 93 false (.faddr 0 (.tmp 11)), oG 95 93 false (.load none (.tmp 94)), oG 96 93 false (.faddr 2 (.tmp 3)), oG 97 93 false (.load none (.tmp 96)), oG 98 93 false (.call (.lit (.func 40 [])) [.tmp 95, .tmp 97]), oS 99 (.pick (.tmp 93) (.lit (.bool true)) (.tmp 98))]) (.cond (.tmp 99) (.seq (.ops [oS 6 (.move (.lit (.int .i64 0))), oS 7 (.move (.lit (.int .i64 161)))]) .ret) .skip))) (.draw d_pKind_2))))) (.ops [oS 106 (.bin .add .none (.tmp 39) (.lit (.int .i64 1))), oS 39 (.move (.tmp 106))]))))))) (.seq (.ghost (.ops [oS 107 .mkmap, oS 108 (.build [.mapnil, .slice .nil []] [(0, 1, .tmp 107)]), oS 109 (.build [.mapnil, .slice .nil [], .slice .nil [], .slice .nil []] [(0, 2, .tmp 108)]), oS 110 (.box (.tmp 109)), oS 14 (.move (.tmp 110))])) (.seq (.ghost (.draw d_pKind_3)) (.seq (.ops [oS 15 (.move (.lit (.bool true))), oS 16 (.move (.lit (.bool false)))]) (.seq (.seq (.ops [oS 17 (.move (.lit (.int .i64 0)))]) (.block 2 (.loop (.seq (.seq (.ops [oS 117 (.move (.tmp 17)), oS 118 (.move (.tmp 14)), oS 119 (.nilck (.tmp 118)), oS 120 (.faddr 0 (.tmp 119)), oS 121 (.faddr 1 (.tmp 120)), oS 122 (.load none (.tmp 121)), oS 123 (.blen 1 (.tmp 122)), oS 124 (.bin .lss .none (.tmp 117) (.tmp 123))]) (.cond (.tmp 124) .skip (.exit 2))) (.seq (.block 3 (.seq (.ops [oS 127 (.move (.tmp 14)), oS 128 (.nilck (.tmp 127)), oS 129 (.faddr 0 (.tmp 128)), oS 130 (.faddr 1 (.tmp 129)), oS 131 (.load none (.tmp 130)), oS 132 (.move (.tmp 17)), oS 133 (.iaddr 1 (.tmp 131) (.tmp 132)), oS 134 (.load none (.tmp 133)), oS 18 (.move (.tmp 134))]) (.seq (.draw d_pKind_4) (.seq (.ghost (.ops [oS 148 (.move (.tmp 14)), oS 149 (.move (.tmp 14)), oS 150 (.nilck (.tmp 149)), oS 151 (.faddr 2 (.tmp 150)), oS 152 (.load none (.tmp 151)), oS 153 (.bsliceC 1 [.lit (.slice .nil [])]), oS 154 (.bappend 1 24 (.tmp 152) (.tmp 153) true), oS 155 (.nilck (.tmp 148)), oS 156 (.faddr 2 (.tmp 155)), oN (.store 1 (.tmp 156) (.tmp 154))])) (.seq (.ghost (.ops [oS 157 (.move (.tmp 16)), oS 158 (.move (.tmp 157)), oG 159 158 false (.move (.tmp 14)), oG 160 158 false (.nilck (.tmp 159)), oG 161 158 false (.faddr 3 (.tmp 160)), oG 162 158 false (.load none (.tmp 161)), oG 163 158 false (.move (.tmp 17)), oG 164 158 false (.iaddr 1 (.tmp 162) (.tmp 163)), oG 165 158 false (.load none (.tmp 164)), oS 166 (.pick (.tmp 158) (.lit (.bool true)) (.tmp 165)), oS 16 (.move (.tmp 166))])) (.seq (.ops [oS 168 (.move (.tmp 9)), oS 169 (.move (.tmp 18)), oS 170 (.call (.lit (.func 41 [])) [.tmp 169]), oS 171 (.lookup true (.int .i64 0) (.tmp 168) (.tmp 170) true), oS 167 (.move (.tmp 171)), oS 172 (.extract (.tmp 167) 0), oS 173 (.extract (.tmp 167) 1), oS 19 (.move (.tmp 172)), oS 20 (.move (.tmp 173))]) (.seq (.seq (.ops [oS 174 (.move (.tmp 20)), oS 175 (.un .not (.tmp 174))]) (.cond (.tmp 175) (.seq (.ops [oS 176 (.move (.tmp 15)), oS 177 (.move (.tmp 176)), oG 178 177 true (.move (.tmp 14)), oG 179 177 true (.nilck (.tmp 178)), oG 180 177 true (.faddr 3 (.tmp 179)), oG 181 177 true (.load none (.tmp 180)), oG 182 177 true (.move (.tmp 17)), oG 183 177 true (.iaddr 1 (.tmp 181) (.tmp 182)), oG 184 177 true (.load none (.tmp 183)), oS 185 (.pick (.tmp 177) (.tmp 184) (.lit (.bool false))), oS 15 (.move (.tmp 185))]) (.exit 3)) .skip)) (.seq (.draw d_pKind_5) (.seq (.ops [oS 196 (.move (.tmp 19)), oS 197 (.build [.int .i64 0, .slice .nil []] [(0, 1, .tmp 196)]), oS 23 (.alloc (.agg [.int .i64 0, .slice .nil []])), oN (.store 2 (.tmp 23) (.tmp 197))]) (.seq (.seq (.ghost (.ops [oS 198 (.move (.tmp 21)), oS 199 (.blen 1 (.tmp 198)), oS 200 (.move (.lit (.int .i64 0)))])) (.block 4 (.loop (.seq (.ops [oS 201 (.bin .lss .none (.tmp 200) (.tmp 199))]) (.seq (.cond (.tmp 201) .skip (.exit 4)) (.seq (.block 5 (.seq (.ops [oS 202 (.iaddr 1 (.tmp 198) (.tmp 200)), oS 203 (.load none (.tmp 202)), oS 25 (.move (.tmp 203))]) (.drawU d_pKind_6 [[], [6], [], [], [], [], [1], [], [], [], []]))) (.ops [oS 214 (.bin .add .none (.tmp 200) (.lit (.int .i64 1))), oS 200 (.move (.tmp 214))]))))))) (.ghost (.draw d_pKind_7)))))))))))) (.ops [oS 125 (.move (.tmp 17)), oS 126 (.bin .add .none (.tmp 125) (.lit (.int .i64 1))), oS 17 (.move (.tmp 126))])))))) (.seq (.seq (.ghost (.ops [oS 223 (.move (.tmp 15)), oS 224 (.un .not (.tmp 223))])) (.cond (.tmp 224) (.seq (.seq (.ops [oS 225 (.move (.tmp 16))]) (.cond (.tmp 225) (.seq (.ops [oS 6 (.move (.lit (.int .i64 1))), oS 7 (.move (.lit (.int .i64 0)))]) .ret) .skip)) (.seq (.ops [oS 6 (.move (.lit (.int .i64 0))), oS 7 (.move (.lit (.int .i64 0)))]) .ret)) .skip)) (.seq (.seq (.ops [oS 226 (.move (.tmp 14)), oS 227 (.call (.lit (.func 44 [])) [.tmp 226]), oS 228 (.call (.lit (.func 43 [])) [.tmp 227, .lit (.int .i64 (-1))]), oS 229 (.un .not (.tmp 228))]) (.cond (.tmp 229) (.seq (.ops [oS 6 (.move (.lit (.int .i64 3))), oS 7 (.move (.lit (.int .i64 0)))]) .ret) .skip)) (.seq (.ops [oS 230 (.move (.tmp 14)), oS 231 (.nilck (.tmp 230)), oS 232 (.faddr 0 (.tmp 231)), oS 233 (.faddr 1 (.tmp 232)), oS 234 (.load none (.tmp 233)), oS 235 (.blen 1 (.tmp 234)), oS 236 (.mkslice 1 1 [.bool false] (.tmp 235) (.tmp 235) true), oS 26 (.move (.tmp 236))]) (.seq (.seq (.ghost (.ops [oS 237 (.move (.tmp 26)), oS 238 (.blen 1 (.tmp 237)), oS 239 (.move (.lit (.int .i64 0)))])) (.block 6 (.loop (.seq (.ops [oS 240 (.bin .lss .none (.tmp 239) (.tmp 238))]) (.seq (.cond (.tmp 240) .skip (.exit 6)) (.seq (.block 7 (.seq (.ops [oS 241 (.move (.tmp 239)), oS 27 (.move (.tmp 241))]) (.ops [oS 242 (.move (.tmp 26)), oS 243 (.move (.tmp 27)), oS 244 (.iaddr 1 (.tmp 242) (.tmp 243)), oN (.store 1 (.tmp 244) (.lit (.bool true)))]))) (.ops [oS 245 (.bin .add .none (.tmp 239) (.lit (.int .i64 1))), oS 239 (.move (.tmp 245))]))))))) (.seq (.ops [oS 246 (.move (.tmp 14)), oS 247 (.move (.tmp 26)), oS 248 (.call (.lit (.func 45 [])) [.tmp 246, .tmp 247]), oS 28 (.move (.tmp 248))]) (.seq (.seq (.ops [oS 249 (.move (.tmp 26)), oS 250 (.blen 1 (.tmp 249)), oS 251 (.move (.lit (.int .i64 0)))]) (.block 8 (.loop (.seq (.ops [oS 252 (.bin .lss .none (.tmp 251) (.tmp 250))]) (.seq (.cond (.tmp 252) .skip (.exit 8)) (.seq (.block 9 (.seq (.ops [oS 253 (.move (.tmp 251)), oS 29 (.move (.tmp 253))]) (.seq (.ops [oS 254 (.move (.tmp 14)), oS 255 (.nilck (.tmp 254)), oS 256 (.faddr 3 (.tmp 255)), oS 257 (.load none (.tmp 256)), oS 258 (.move (.tmp 29)), oS 259 (.iaddr 1 (.tmp 257) (.tmp 258)), oS 260 (.load none (.tmp 259)), oS 261 (.un .not (.tmp 260)), oS 262 (.move (.tmp 261)), oG 263 262 true (.move (.tmp 28)), oG 264 262 true (.move (.tmp 29)), oG 265 262 true (.iaddr 1 (.tmp 263) (.tmp 264)), oG 266 262 true (.load none (.tmp 265)), oG 267 262 true (.bin .lss .none (.tmp 266) (.lit (.int .i64 0))), oS 268 (.pick (.tmp 262) (.tmp 267) (.lit (.bool false)))]) (.cond (.tmp 268) (.seq (.seq (.ops [oS 269 (.move (.tmp 16))]) (.cond (.tmp 269) (.seq (.ops [oS 6 (.move (.lit (.int .i64 1))), oS 7 (.move (.lit (.int .i64 0)))]) .ret) .skip)) (.seq (.ops [oS 6 (.move (.lit (.int .i64 0))), oS 7 (.move (.lit (.int .i64 0)))]) .ret)) .skip)))) (.ops [oS 270 (.bin .add .none (.tmp 251) (.lit (.int .i64 1))), oS 251 (.move (.tmp 270))]))))))) (.seq (.ops [oS 6 (.move (.lit (.int .i64 2))), oS 7 (.move (.lit (.int .i64 0)))]) .ret))))))))))))))
set_option maxHeartbeats 8000000 in
theorem pKind_spec (t : FTask) (g : List (List Int)) (p : List FEnt) (tok tok' : Tok) (σ : Store) (hb : PB t) (hg : LB g) (h8 : validB t = true → t.facts.length ≤ 8) (hpl : p.length ≤ 1000000) (hps : ∀ x ∈ p, x.1.length ≤ 1000000) :
  ACalls Tryz.prog 11 [.agg (encTask t), .slice tok (g.map encL), .slice tok' (p.map encEn)] σ (isR (KindR t g p) σ) := by
 refine ACalls.intro (rs := [(.tmp 6), (.tmp 7)]) (by kernel_rfl) { own := [(23, 6), (42, 6)], ghosts := [15, 16, 23, 24, 30, 35, 36, 43], cold := [(22, 9), (23, 5), (33, 7), (35, 6)], loud := [(16, 5), (33, 6)], free := [(33, [[], [6], [], [], [], [], [1], [], [], [], []])] } Tryz.func11 (c := Tryz.f11.body.getD .skip) (by kernel_rfl) (by decide) (by rw [show Tryz.f11.ntmps = 271 by kernel_rfl]; exact Nat.le_of_ble_eq_true rfl) (by kernel_rfl) ?_
 intro hσ hids
 rw [show comp Tryz.prog { own := [(23, 6), (42, 6)], ghosts := [15, 16, 23, 24, 30, 35, 36, 43], cold := [(22, 9), (23, 5), (33, 7), (35, 6)], loud := [(16, 5), (33, 6)], free := [(33, [[], [6], [], [], [], [], [1], [], [], [], []])] } (Tryz.f11.body.getD .skip) = c_pKind by kernel_rfl, show Tryz.f11.ntmps = 271 by kernel_rfl]
 unfold c_pKind
 have hil : Ids σ.length (.slice tok (g.map encL)) := hids _ (by simp)
 have hip : Ids σ.length (.slice tok' (p.map encEn)) := hids _ (by simp)
 simp only [go_sem, simprocAttr, encTask]
 refine (pasks_spec t g tok _ hb.tb hg).is ?_
 by_cases h1 : ¬ askE t g = 0
 ·have h0 : (askE t g != 0) = true := by simpa using h1
  simp only [go_sem, simprocAttr, h0]
  exact rT (.int .i64 0) (.int .i64 (askE t g)) ⟨by rw [KindR, if_neg h1], rfl⟩
 replace h1 := Decidable.not_not.1 h1
 obtain ⟨hv, hch⟩ := askE_zero h1
 have hri : risingB t.facts.length (-1) t.init = true := valid_init16 hv
 obtain ⟨hSB, hEO, hfl⟩ := valid_SB hb hv
 have hKR : KindR t g p = if polB t g p then .tuple [.int .i64 (kindN t g p), .int .i64 0] else .tuple [.int .i64 0, .int .i64 161] := by rw [KindR, if_pos h1]
 have hgl2 : g.length ≤ 200 := by unfold choicesB at hch; rw [Bool.and_eq_true, decide_eq_true_eq] at hch; exact hch.1
 have hfl8 := h8 hv
 rw [h1]
 simp only [go_sem, simprocAttr, encTask]
 have hS0 : ∀ es : List FEnt, IdsS (σ ++ [AObj.row (encTask t), .map (es.map ofE)]).length (σ ++ [AObj.row (encTask t), .map (es.map ofE)]) := fun es => idsS_app _ hσ (all_cons' (idsO_row (ids_encTask t)) (all_cons' (ids_ofE _ _) all_nil'))
 refine wpc_while (fun (i : Nat) => [(1, .slice tok (g.map encL)), (2, .slice tok' (p.map encEn)), (3, .ptr σ.length 0), (9, .map (σ.length + 1)), (37, .slice tok' (p.map encEn)), (38, .int .i64 p.length), (39, .int .i64 (i : Nat))])
  (fun i => σ ++ [AObj.row (encTask t), .map ((p.take i).map ofE)]) (fun i => i ≤ p.length ∧ ∀ j, j < i → ∀ x, p[j]? = some x → entB t g p j x = true) (fun i => p.length - i) 0 ⟨Nat.zero_le _, fun j hj => absurd hj (by omega)⟩ ?_ ?_
 ·exact ghL0 (hS0 [])
 ·rintro i ⟨hi, hok⟩ K hK hE hR
  by_cases h : i < p.length
  ·obtain ⟨x, hx⟩ := get_ex h
   have hxm := List.mem_of_getElem? hx
   have hxl := hps x hxm
   have hlt : ((i : Int) < (p.length : Int)) := by omega
   have hw1 := wrapS (i := i) (by omega)
   have hbad : entB t g p i x = false → polB t g p = false := fun q => by
    rw [Bool.eq_false_iff]; intro r
    rw [entB_get r hx] at q; simp at q
   have hfin : entB t g p i x = false → KindR t g p = .tuple [.int .i64 0, .int .i64 161] := fun q => by rw [hKR, hbad q]; rfl
   simp only [go_sem, simprocAttr, hlt, hx, encEn, encTask]
   refine ⟨_, rising_spec x.1 t.facts.length .unk _ (by omega), ?_⟩
   cases hr : risingB t.facts.length (-1) x.1
   ·simp only [go_sem, simprocAttr, hR]
    exact rT (.int .i64 0) (.int .i64 161) ⟨by rw [hfin (by unfold entB; rw [hr]; rfl)], rfl⟩
   by_cases hg0 : x.2 < 0
   ·simp only [go_sem, simprocAttr, hg0, hR]
    exact rT (.int .i64 0) (.int .i64 161) ⟨by rw [hfin (by unfold entB; rw [decide_eq_false (by omega : ¬ 0 ≤ x.2)]; simp)], rfl⟩
   by_cases hg1 : x.2 ≥ (g.length : Int)
   ·simp only [go_sem, simprocAttr, hg0, hg1, hR]
    exact rT (.int .i64 0) (.int .i64 161) ⟨by rw [hfin (by unfold entB; rw [decide_eq_false (by omega : ¬ x.2 < (g.length : Int))]; simp)], rfl⟩
   have hx0 : 0 ≤ x.2 := by omega
   obtain ⟨l, hgx⟩ := get_ex (show x.2.toNat < g.length by omega)
   have hgrp : grp g x.2.toNat = l := by unfold grp; rw [List.getD_eq_getElem?_getD, hgx]; rfl
   obtain ⟨c0, c1, c2, c3⟩ := grp_ok hch (show x.2.toNat < g.length by omega)
   rw [hgrp] at c0 c1 c2 c3
   have hll := hg.2 l c0
   by_cases hi0 : i = 0
   case' pos =>
    have hlt0 : ¬ ((i : Int) > 0) := by omega
    have hcmp0 : i = 0 ∨ cmpInts (p.getD (i - 1) ([], 0)).1 x.1 < 0 := .inl hi0
    simp only [go_sem, simprocAttr, hg0, hg1, hlt0]
   case' neg =>
    have hlt0 : ((i : Int) > 0) := by omega
    obtain ⟨y, hy⟩ := get_ex (show i - 1 < p.length by omega)
    have hyl := hps y (List.mem_of_getElem? hy)
    have hw2 : IntKind.i64.wrap ((i : Int) - 1) = ((i - 1 : Nat) : Int) := by rw [wrap_ok (by omega)]; omega
    simp only [go_sem, simprocAttr, hg0, hg1, hlt0, hw2, hy, encEn]
    have hgd : p.getD (i - 1) ([], 0) = y := by rw [List.getD_eq_getElem?_getD, hy]; rfl
    refine ⟨_, slCmp_spec y.1 x.1 .unk .unk _ (by omega) (by omega), ?_⟩
    by_cases hcq : cmpInts y.1 x.1 ≥ 0
    ·simp only [go_sem, simprocAttr, hcq, hR]
     exact rT (.int .i64 0) (.int .i64 161) ⟨by rw [hfin (by unfold entB; rw [hgd, decide_eq_false hi0, decide_eq_false (by omega : ¬ cmpInts y.1 x.1 < 0)]; simp)], rfl⟩
    have hcmp0 : i = 0 ∨ cmpInts (p.getD (i - 1) ([], 0)).1 x.1 < 0 := .inr (by rw [hgd]; omega)
    simp only [go_sem, simprocAttr, hcq]
   all_goals
    refine ⟨hx0, ?_⟩
    simp only [go_sem, simprocAttr, hgx, encL, encTask]
    refine ⟨_, pouts_spec t l x.1 .unk .unk _ hb.tb hSB hEO (by omega) c1 (by have := hSB.acts; omega) c2 hr, ?_⟩
    unfold outR
    cases hap : appB t l x.1
    ·rw [if_neg (by simp)]
     simp only [go_sem, simprocAttr, encTask, hR]
     exact rT (.int .i64 0) (.int .i64 161) ⟨by rw [hfin (by unfold entB; rw [hgrp, hap]; simp)], rfl⟩
    rw [if_pos rfl]
    simp only [go_sem, simprocAttr, encTask]
    refine (sTrue_spec x.1 t.goal .unk .unk _ (by omega) (rising_pw hr).1 hb.tb.goal).is ?_
    cases hgo : condHolds x.1 t.goal
    ·simp only [go_sem, simprocAttr, encTask]
     refine ⟨_, key_spec x.1 .unk _ (by omega), ?_⟩
     have hent : entB t g p i x = true := by
      unfold entB
      rw [hr, decide_eq_true hx0, decide_eq_true (by omega : x.2 < (g.length : Int)), hgrp, hap, hgo]
      simpa using hcmp0
     have hok' : ∀ j, j < i + 1 → ∀ x, p[j]? = some x → entB t g p j x = true := fun j hj z hz => by
      rcases Nat.lt_or_ge j i with q | q
      ·exact hok j q z hz
      ·have : j = i := by omega
       subst this; rw [hx] at hz; injection hz with hz; subst hz; exact hent
     have hrise := pol_rise (i + 1) hok'
     rw [take_succ' hx, List.pairwise_append] at hrise
     have hnew : ∀ z ∈ p.take i, z.1 ≠ x.1 := fun z hz e => by
      have := hrise.2.2 z hz x (by simp)
      rw [e, cmpInts_refl] at this; omega
     have hrz : ∀ z ∈ (p.take i).map (·.1), risingB t.facts.length (-1) z = true := fun z hz => by
      obtain ⟨u, hu, rfl⟩ := List.mem_map.1 hz
      obtain ⟨j, hj, rfl⟩ := List.getElem_of_mem hu
      have hj2 : j < i := by rw [List.length_take] at hj; omega
      exact (entB_parts (hok j hj2 _ (by rw [List.getElem_take]; exact List.getElem?_eq_getElem _))).1
     obtain ⟨fi, hfi⟩ := find_of x.1 (p.take i) 0 fun z hz => key_apart (n := t.facts.length) (by omega) hrz hr z.1 (List.mem_map.2 ⟨z, hz, rfl⟩)
     rw [polG_none hnew] at hfi
     simp only [Option.map_none] at hfi
     simp only [go_sem, simprocAttr, hfi]
     refine hK _ _ (i + 1) ⟨by omega, hok'⟩ (by omega) ?_
     rw [hw1, take_succ' hx]
     have e2 : (p.take i).map ofE ++ [(AV.str (keyP x.1), AV.int .i64 x.2)] = (p.take i ++ [x]).map ofE := by rw [List.map_append]; rfl
     rw [e2]
     refine Ghost.keepL (g := [AObj.row [.slice .unk (x.1.map Ahl.encI), .int .i64 x.2]]) (k := 2) [AObj.row (encTask t), .map ((p.take i ++ [x]).map ofE)] rfl (Nat.le_refl _) ?_ (hS0 _)
     exact tellT
    ·simp only [go_sem, simprocAttr, hR]
     exact rT (.int .i64 0) (.int .i64 161) ⟨by rw [hfin (by unfold entB; rw [hgo]; simp)], rfl⟩
  ·have hlt : ¬ ((i : Int) < (p.length : Int)) := by omega
   have hpol : polB t g p = true := by
    unfold polB
    refine List.all_eq_true.2 fun j hj => ?_
    obtain ⟨x, hx⟩ := get_ex (List.mem_range.1 hj)
    rw [List.getD_eq_getElem?_getD, hx]
    exact hok j (by have := List.mem_range.1 hj; omega) x hx
   have hKR : KindR t g p = .tuple [.int .i64 (kindN t g p), .int .i64 0] := by rw [hKR, if_pos hpol]
   rw [List.take_of_length_le (by omega)]
   simp only [go_sem, simprocAttr, hlt, hE]
   refine Gh.of (s' := [(1, .slice tok (g.map encL)), (3, .ptr σ.length 0), (9, .map (σ.length + 1))]) (σ' := σ ++ [AObj.row (encTask t), .map (p.map ofE)]) (ghL0 (hS0 _)) ?_
   clear hK hE hR hi hok h hlt
   simp only [go_sem, simprocAttr]
   have hWd : ∀ (m k kc : Nat) ss (gl : List Bool) (cs : List AV), σ.length + 7 + k ≤ m → (∀ x ∈ cs, ∀ n, Ids n x) → ∀ o ∈ (([AObj.row (encTask t), AObj.map (List.map ofE p), AObj.map (encW ss), AObj.row [AV.map (σ.length + 2), AV.slice (.grow (σ.length + 4)) (List.map encL ss), AV.ref (σ.length + (6 + k)) 1 0 kc, AV.slice (.grow (σ.length + 5)) (List.map encB gl)], AObj.grow 1 (List.length ss), AObj.grow 1 (List.length gl)] ++ (List.replicate k AObj.dead ++ [AObj.row cs]))), IdsO m o := by
    intro m k kc ss gl cs hm hcs o ho
    simp only [List.cons_append, List.nil_append, List.mem_cons, List.mem_append, List.not_mem_nil, or_false] at ho
    rcases ho with rfl | rfl | rfl | rfl | rfl | rfl | ho | rfl
    ·exact idsO_row (ids_encTask t)
    ·exact ids_ofE _ _
    ·exact idsO_encW _ _
    ·exact idsO_row (idsL_cons (.map _ (by omega)) (idsL_cons (ids_grow_map ids_encL (by omega)) (idsL_cons (.ref _ _ _ _ (by omega)) (idsL_cons (ids_grow_map ids_encB (by omega)) idsL_nil))))
    ·trivial
    ·trivial
    ·rw [List.eq_of_mem_replicate ho]; trivial
    ·exact idsO_row (fun x hx => hcs x hx _)
   have hWS : ∀ (k kc : Nat) ss (gl : List Bool) (cs : List AV) (l : Store), (∀ x ∈ cs, ∀ n, Ids n x) → (∀ o ∈ l, IdsO (σ.length + 7 + k + l.length) o) → IdsS (σ ++ ((([AObj.row (encTask t), AObj.map (List.map ofE p), AObj.map (encW ss), AObj.row [AV.map (σ.length + 2), AV.slice (.grow (σ.length + 4)) (List.map encL ss), AV.ref (σ.length + (6 + k)) 1 0 kc, AV.slice (.grow (σ.length + 5)) (List.map encB gl)], AObj.grow 1 (List.length ss), AObj.grow 1 (List.length gl)] ++ (List.replicate k AObj.dead ++ [AObj.row cs]))) ++ l)).length (σ ++ ((([AObj.row (encTask t), AObj.map (List.map ofE p), AObj.map (encW ss), AObj.row [AV.map (σ.length + 2), AV.slice (.grow (σ.length + 4)) (List.map encL ss), AV.ref (σ.length + (6 + k)) 1 0 kc, AV.slice (.grow (σ.length + 5)) (List.map encB gl)], AObj.grow 1 (List.length ss), AObj.grow 1 (List.length gl)] ++ (List.replicate k AObj.dead ++ [AObj.row cs]))) ++ l)) := fun k kc ss gl cs l hcs hl => idsS_app _ hσ fun o ho => by
    rcases List.mem_append.1 ho with ho | ho
    ·exact hWd _ k kc ss gl cs (by simp; omega) hcs o ho
    ·have := hl o ho
     refine cast (congrArg (fun z => IdsO z o) ?_) this
     simp; omega
   have h2n : 2 ^ t.facts.length ≤ 256 := Nat.pow_le_pow_right (n := 2) (by omega) hfl8
   have hn8 : ∀ y, risingB t.facts.length (-1) y = true → y.length ≤ 8 := fun y hy => by
    rcases rising_len hy (by omega) with q | q
    ·omega
    ·rw [q]; simp
   have hnx := nxP_rising hEO hch hpol
   refine Gh.of (tokP t p σ) ?_
   simp only [go_sem, simprocAttr, encTask]
   refine ⟨_, _, ofWK _ _ _ _ _ [] t.init σ [AObj.row []] (by have := hn8 _ hri; omega) (by intro y hy; simp at hy) (by simp), ?_⟩
   have e1 : addS [] t.init = gK (nxP t g p) t.init 0 := rfl
   rw [e1]
   try simp only [go_sem, simprocAttr]
   have hchV : ∀ (l : List (List (Nat × List Nat))), ∀ x ∈ l.map chV, ∀ n, Ids n x := fun l x hx n => by
    obtain ⟨y, _, rfl⟩ := List.mem_map.1 hx
    exact ids_map ids_encCo _
   have hW0 : ∀ (k kc : Nat) ss (gl : List Bool) (l : List (List (Nat × List Nat))), IdsS (σ ++ (([AObj.row (encTask t), AObj.map (List.map ofE p), AObj.map (encW ss), AObj.row [AV.map (σ.length + 2), AV.slice (.grow (σ.length + 4)) (List.map encL ss), AV.ref (σ.length + (6 + k)) 1 0 kc, AV.slice (.grow (σ.length + 5)) (List.map encB gl)], AObj.grow 1 (List.length ss), AObj.grow 1 (List.length gl)] ++ (List.replicate k AObj.dead ++ [AObj.row (l.map chV)])))).length (σ ++ (([AObj.row (encTask t), AObj.map (List.map ofE p), AObj.map (encW ss), AObj.row [AV.map (σ.length + 2), AV.slice (.grow (σ.length + 4)) (List.map encL ss), AV.ref (σ.length + (6 + k)) 1 0 kc, AV.slice (.grow (σ.length + 5)) (List.map encB gl)], AObj.grow 1 (List.length ss), AObj.grow 1 (List.length gl)] ++ (List.replicate k AObj.dead ++ [AObj.row (l.map chV)])))) := fun k kc ss gl l => by
    have := hWS k kc ss gl (l.map chV) [] (hchV l) (by simp)
    rwa [List.append_nil] at this
   refine wpc_while (fun (k : Nat) => [(1, .slice tok (g.map encL)), (3, .ptr σ.length 0), (9, .map (σ.length + 1)), (14, .ptr (σ.length + 3) 0), (15, .bool (shutB t p ((gK (nxP t g p) t.init k).take k))), (16, .bool (weakB t ((gK (nxP t g p) t.init k).take k))), (17, .int .i64 (k : Nat))])
    (fun k => σ ++ ([AObj.row (encTask t), AObj.map (List.map ofE p), AObj.map (encW (gK (nxP t g p) t.init k)), AObj.row [AV.map (σ.length + 2), AV.slice (.grow (σ.length + 4)) (List.map encL (gK (nxP t g p) t.init k)), AV.ref (σ.length + (6 + k)) 1 0 k, AV.slice (.grow (σ.length + 5)) (List.map encB (GLp t (gK (nxP t g p) t.init k) k))], AObj.grow 1 (List.length (gK (nxP t g p) t.init k)), AObj.grow 1 (List.length (GLp t (gK (nxP t g p) t.init k) k))] ++ (List.replicate k AObj.dead ++ [AObj.row ((CHp t g p (gK (nxP t g p) t.init k) k).map chV)])))
    (fun k => k ≤ (gK (nxP t g p) t.init k).length) (fun k => 256 - k) 0 (Nat.zero_le _) ?_ ?_
   ·exact ghL0 (hW0 0 0 (gK (nxP t g p) t.init 0) [] [])
   intro k hk K hK hE hR
   have hrs := gK_rising hri hnx k
   have hll := gK_len hri hnx k
   have hndk := gK_nodup (nx := nxP t g p) (s0 := t.init) k
   by_cases h : k < (gK (nxP t g p) t.init k).length
   ·obtain ⟨s, hx⟩ := get_ex h
    have hsr := hrs s (List.mem_of_getElem? hx)
    have hs8 := hn8 s hsr
    have hlt : ((k : Int) < ((gK (nxP t g p) t.init k).length : Int)) := by omega
    have hw0 := wrapS (i := k) (by omega)
    have hbig : bigLen (k + 1) 1 := big_ok (by omega) (by omega)
    have hbig24 : bigLen (k + 1) 24 := big_ok (by omega) (by omega)
    have hstp := gK_step hx
    have hCs := CHp_step hx
    have hGs := GLp_step (t := t) hx
    have htk : (gK (nxP t g p) t.init (k + 1)).take (k + 1) = (gK (nxP t g p) t.init k).take k ++ [s] := by
     rw [take_succ' ((gK_pre1 k).get hx), take_pre (gK_pre1 k) (by omega)]
    have hsh : shutB t p ((gK (nxP t g p) t.init (k + 1)).take (k + 1)) = (shutB t p ((gK (nxP t g p) t.init k).take k) && ((polG p s).isSome || condHolds s t.goal)) := by
     rw [htk]; unfold shutB; rw [List.all_append]; simp
    have hwe : weakB t ((gK (nxP t g p) t.init (k + 1)).take (k + 1)) = (weakB t ((gK (nxP t g p) t.init k).take k) || condHolds s t.goal) := by
     rw [htk]; unfold weakB; rw [List.any_append]; simp
    have hGl : (GLp t (gK (nxP t g p) t.init k) k).length = k := by unfold GLp; rw [List.length_map, List.length_take]; omega
    have hCl : (CHp t g p (gK (nxP t g p) t.init k) k).length = k := by unfold CHp; rw [List.length_map, List.length_take]; omega
    generalize shutB t p ((gK (nxP t g p) t.init k).take k) = sh0 at hsh
    generalize weakB t ((gK (nxP t g p) t.init k).take k) = we0 at hwe
    generalize GLp t (gK (nxP t g p) t.init k) k = GL0 at hGl hGs
    generalize CHp t g p (gK (nxP t g p) t.init k) k = CH0 at hCl hCs
    generalize hss : gK (nxP t g p) t.init k = ss at hk hrs hll hndk h hx hlt hstp
    generalize hN : gK (nxP t g p) t.init (k + 1) = N at hstp hCs hGs hsh hwe
    have hNr := gK_rising hri hnx (k + 1)
    have hNl := gK_len hri hnx (k + 1)
    rw [hN] at hNr hNl
    generalize hcs : CH0.map chV = cs
    have hcsl : cs.length = k := by rw [← hcs, List.length_map, hCl]
    have hcsI : ∀ x ∈ cs, ∀ n, Ids n x := by rw [← hcs]; exact hchV CH0
    simp only [go_sem, simprocAttr, hlt, hx, encL, encTask]
    refine ⟨_, sTrue_spec s t.goal .unk .unk _ (by omega) (rising_pw hsr).1 hb.tb.goal, ?_⟩
    generalize hcb : condHolds s t.goal = b at hsh hwe hGs
    have hGf : List.map encB GL0 ++ [[AV.bool b]] = List.map encB (GL0 ++ [b]) := by rw [List.map_append]; rfl
    simp only [go_sem, simprocAttr, hGl, hbig, hGf]
    have hG1l : (GL0 ++ [b]).length = k + 1 := by simp [hGl]
    have hG1k : (GL0 ++ [b])[k]? = some b := by rw [List.getElem?_append_right (by omega), hGl, Nat.sub_self]; rfl
    rw [show AObj.grow 1 (k + 1) = AObj.grow 1 (GL0 ++ [b]).length by rw [hG1l]]
    generalize hG1 : GL0 ++ [b] = G1 at hGf hG1l hG1k hGs
    have hkW : ∀ (k kc : Nat) ss (gl : List Bool) (cs : List AV), (∀ x ∈ cs, ∀ n, Ids n x) → IdsS (σ ++ (([AObj.row (encTask t), AObj.map (List.map ofE p), AObj.map (encW ss), AObj.row [AV.map (σ.length + 2), AV.slice (.grow (σ.length + 4)) (List.map encL ss), AV.ref (σ.length + (6 + k)) 1 0 kc, AV.slice (.grow (σ.length + 5)) (List.map encB gl)], AObj.grow 1 (List.length ss), AObj.grow 1 (List.length gl)] ++ (List.replicate k AObj.dead ++ [AObj.row cs])))).length (σ ++ (([AObj.row (encTask t), AObj.map (List.map ofE p), AObj.map (encW ss), AObj.row [AV.map (σ.length + 2), AV.slice (.grow (σ.length + 4)) (List.map encL ss), AV.ref (σ.length + (6 + k)) 1 0 kc, AV.slice (.grow (σ.length + 5)) (List.map encB gl)], AObj.grow 1 (List.length ss), AObj.grow 1 (List.length gl)] ++ (List.replicate k AObj.dead ++ [AObj.row cs])))) := fun k kc ss gl cs hcs => by
     have := hWS k kc ss gl cs [] hcs (by simp)
     rwa [List.append_nil] at this
    refine Gh.of (s' := [(1, .slice tok (g.map encL)), (3, .ptr σ.length 0), (9, .map (σ.length + 1)), (14, .ptr (σ.length + 3) 0), (15, .bool sh0), (16, .bool we0), (17, .int .i64 (k : Nat)), (18, .slice .unk (s.map Ahl.encI))]) (σ' := σ ++ (([AObj.row (encTask t), AObj.map (List.map ofE p), AObj.map (encW ss), AObj.row [AV.map (σ.length + 2), AV.slice (.grow (σ.length + 4)) (List.map encL ss), AV.ref (σ.length + (6 + k)) 1 0 k, AV.slice (.grow (σ.length + 5)) (List.map encB G1)], AObj.grow 1 (List.length ss), AObj.grow 1 (List.length G1)] ++ (List.replicate k AObj.dead ++ [AObj.row cs])))) (ghL0 (hkW _ _ _ _ _ hcsI)) ?_
    simp only [go_sem, simprocAttr, cg6, cs6, rk_get, rk_set, hcsl, hbig24]
    rw [show (List.replicate k AObj.dead).length + 1 + 1 + 1 + 1 + 1 + 1 + 1 = 6 + (k + 1) by simp; omega, ← rk_succ, show [[AV.slice Tok.nil []]].flatten = [AV.slice Tok.nil []] from rfl]
    have hcsI2 : ∀ x ∈ cs ++ [AV.slice .nil []], ∀ n, Ids n x := fun x hx n => by
     rcases List.mem_append.1 hx with hx | hx
     ·exact hcsI x hx n
     ·rw [List.mem_singleton] at hx; subst hx; exact ids_nil _ (by simp)
    refine Gh.of (s' := [(1, .slice tok (g.map encL)), (3, .ptr σ.length 0), (9, .map (σ.length + 1)), (14, .ptr (σ.length + 3) 0), (15, .bool sh0), (16, .bool we0), (17, .int .i64 (k : Nat)), (18, .slice .unk (s.map Ahl.encI))]) (σ' := σ ++ (([AObj.row (encTask t), AObj.map (List.map ofE p), AObj.map (encW ss), AObj.row [AV.map (σ.length + 2), AV.slice (.grow (σ.length + 4)) (List.map encL ss), AV.ref (σ.length + (6 + (k + 1))) 1 0 (k + 1), AV.slice (.grow (σ.length + 5)) (List.map encB G1)], AObj.grow 1 (List.length ss), AObj.grow 1 (List.length G1)] ++ (List.replicate (k + 1) AObj.dead ++ [AObj.row (cs ++ [AV.slice .nil []])])))) (ghL0 (hkW _ _ _ _ _ hcsI2)) ?_
    have hpr : ∀ z ∈ p.map (·.1), risingB t.facts.length (-1) z = true := fun z hz => by
     obtain ⟨u, hu, rfl⟩ := List.mem_map.1 hz
     obtain ⟨j, hj⟩ := List.getElem?_of_mem hu
     exact (entB_parts (entB_get hpol hj)).1
    obtain ⟨fi, hfi⟩ := find_of s p 0 fun z hz => key_apart (n := t.facts.length) (by omega) hpr hsr z.1 (List.mem_map.2 ⟨z, hz, rfl⟩)
    cases we0
    case' false => simp only [go_sem, simprocAttr, hG1k, encB]
    case' true => simp only [go_sem, simprocAttr]
    all_goals
     refine (key_spec s .unk _ (by omega)).is ?_
     cases hpg : polG p s with
     | none =>
      rw [hpg] at hfi hsh
      simp only [Option.map_none, Option.isSome_none, Bool.false_or] at hfi hsh
      have hNs : N = ss := by rw [hstp]; unfold nxP; rw [hpg]; rfl
      have hcN : chP t g p N s = [] := by unfold chP; rw [hpg]
      rw [hcN] at hCs
      have hcf : (CHp t g p N (k + 1)).map chV = cs ++ [chV []] := by rw [hCs, List.map_append, hcs]; rfl
      have hgh : ∀ (sl : Slots), Ghost σ.length 271 sl (σ ++ (([AObj.row (encTask t), AObj.map (List.map ofE p), AObj.map (encW ss), AObj.row [AV.map (σ.length + 2), AV.slice (.grow (σ.length + 4)) (List.map encL ss), AV.ref (σ.length + (6 + (k + 1))) 1 0 (k + 1), AV.slice (.grow (σ.length + 5)) (List.map encB G1)], AObj.grow 1 (List.length ss), AObj.grow 1 (List.length G1)] ++ (List.replicate (k + 1) AObj.dead ++ [AObj.row (cs ++ [AV.slice .nil []])])))) sl (σ ++ (([AObj.row (encTask t), AObj.map (List.map ofE p), AObj.map (encW ss), AObj.row [AV.map (σ.length + 2), AV.slice (.grow (σ.length + 4)) (List.map encL ss), AV.ref (σ.length + (6 + (k + 1))) 1 0 (k + 1), AV.slice (.grow (σ.length + 5)) (List.map encB G1)], AObj.grow 1 (List.length ss), AObj.grow 1 (List.length G1)] ++ (List.replicate (k + 1) AObj.dead ++ [AObj.row (cs ++ [chV []])])))) := fun sl => by
       have := Ghost.rewk (n0 := σ.length) (nt := 271) (s := sl) (σ := σ ++ (([AObj.row (encTask t), AObj.map (List.map ofE p), AObj.map (encW ss), AObj.row [AV.map (σ.length + 2), AV.slice (.grow (σ.length + 4)) (List.map encL ss), AV.ref (σ.length + (6 + (k + 1))) 1 0 (k + 1), AV.slice (.grow (σ.length + 5)) (List.map encB G1)], AObj.grow 1 (List.length ss), AObj.grow 1 (List.length G1)] ++ (List.replicate (k + 1) AObj.dead ++ [AObj.row (cs ++ [AV.slice .nil []])])))) (σ.length + (6 + (k + 1))) (xs := cs ++ [AV.slice .nil []]) (ys := cs ++ [chV []]) (by simp only [List.cons_append, List.nil_append, g_get, cg6, rk_get]) (WkL.snoc (Wk.unk _ _) _)
       simpa only [List.cons_append, List.nil_append, g_set, cs6, rk_set] using this
      cases sh0
      ·simp only [go_sem, simprocAttr, hfi]
       refine hK _ _ (k + 1) (by rw [hN, hNs]; omega) (by omega) ?_
       rw [hN, hw0, hsh, hwe, hGs, hcf, hNs]
       simp only [Bool.false_and, Bool.false_or, Bool.true_or]
       refine Ghost.trans (hgh _) ?_
       simp only [List.cons_append, List.nil_append]
       exact ghL0 (hkW _ _ _ _ _ (by rw [← hcf]; exact hchV _))
      ·simp only [go_sem, simprocAttr, hfi, hG1k, encB]
       refine hK _ _ (k + 1) (by rw [hN, hNs]; omega) (by omega) ?_
       rw [hN, hw0, hsh, hwe, hGs, hcf, hNs]
       simp only [Bool.true_and, Bool.false_or, Bool.true_or]
       refine Ghost.trans (hgh _) ?_
       simp only [List.cons_append, List.nil_append]
       exact ghL0 (hkW _ _ _ _ _ (by rw [← hcf]; exact hchV _))
     | some n =>
      rw [hpg] at hfi hsh
      simp only [Option.map_some, Option.isSome_some, Bool.true_or, Bool.and_true] at hfi hsh
      obtain ⟨hn0, hn1, _, hna, _⟩ := polG_ok hpol hpg
      obtain ⟨l, hgx⟩ := get_ex hn1
      have hgrp : grp g n.toNat = l := by unfold grp; rw [List.getD_eq_getElem?_getD, hgx]; rfl
      obtain ⟨c0, c1, c2, c3⟩ := grp_ok hch hn1
      rw [hgrp] at c0 c1 c2 c3 hna
      have hll2 := hg.2 l c0
      simp only [go_sem, simprocAttr, hfi, hgx, hn0, encL, encTask]
      refine ⟨_, pouts_spec t l s .unk .unk _ hb.tb hSB hEO (by omega) c1 (by have := hSB.acts; omega) c2 hsr, ?_⟩
      unfold outR
      rw [if_pos hna]
      simp only [go_sem, simprocAttr, encTask]
      rw [show (List.replicate (k + 1) AObj.dead).length + 1 + 1 + 1 + 1 + 1 + 1 + 1 = 6 + (k + 1 + 1) by simp; omega]
      have hNO : N = addAll ss (outsL t l s) := by rw [hstp]; unfold nxP; rw [hpg]; show addAll ss (outsL t (grp g n.toNat) s) = _; rw [hgrp]
      have hcN : chP t g p N s = [(n.toNat, (outsL t l s).map N.idxOf)] := by unfold chP; rw [hpg]; show [(n.toNat, (outsL t (grp g n.toNat) s).map N.idxOf)] = _; rw [hgrp]
      rw [hcN] at hCs
      have hol : (outsL t l s).length ≤ 256 := by
       have h1 : (outsL t l s).Nodup := (outs_strict t l s).imp fun {a b} q e => by subst e; exact absurd q (by unfold ltL; rw [cmpInts_refl]; omega)
       have := nodup_sub_len h1 (m := N) fun y hy => by rw [hNO]; exact mem_addAll.2 (.inr hy)
       omega
      have hor : ∀ y ∈ outsL t l s, risingB t.facts.length (-1) y = true := outs_rising hEO hsr c2
      generalize outsL t l s = O at hNO hol hor hCs hcN
      have hwe2 := hwe
      simp only [Bool.false_or, Bool.true_or] at hwe2
      obtain ⟨w1, hw1⟩ : ∃ w1, w1 = weakB t (N.take (k + 1)) := ⟨_, rfl⟩
      rw [← hw1] at hwe2
      have hJS : ∀ ss' c j, IdsS (σ ++ ((([AObj.row (encTask t), AObj.map (List.map ofE p), AObj.map (encW ss'), AObj.row [AV.map (σ.length + 2), AV.slice (.grow (σ.length + 4)) (List.map encL ss'), AV.ref (σ.length + (6 + (k + 1))) 1 0 (k + 1), AV.slice (.grow (σ.length + 5)) (List.map encB G1)], AObj.grow 1 (List.length ss'), AObj.grow 1 (List.length G1)] ++ (List.replicate (k + 1) AObj.dead ++ [AObj.row (cs ++ [AV.slice .nil []])]))) ++ [AObj.row [.int .i64 n, .slice (.grow (σ.length + (6 + (k + 1 + 2)))) (List.map encNt c)], .grow 1 j])).length (σ ++ ((([AObj.row (encTask t), AObj.map (List.map ofE p), AObj.map (encW ss'), AObj.row [AV.map (σ.length + 2), AV.slice (.grow (σ.length + 4)) (List.map encL ss'), AV.ref (σ.length + (6 + (k + 1))) 1 0 (k + 1), AV.slice (.grow (σ.length + 5)) (List.map encB G1)], AObj.grow 1 (List.length ss'), AObj.grow 1 (List.length G1)] ++ (List.replicate (k + 1) AObj.dead ++ [AObj.row (cs ++ [AV.slice .nil []])]))) ++ [AObj.row [.int .i64 n, .slice (.grow (σ.length + (6 + (k + 1 + 2)))) (List.map encNt c)], .grow 1 j])) := fun ss' c j => hWS _ _ _ _ _ _ hcsI2 (by
       intro o ho
       simp only [List.mem_cons, List.not_mem_nil, or_false] at ho
       rcases ho with rfl | rfl
       ·exact idsO_row (idsL_cons (.int _ _) (idsL_cons (ids_grow_map ids_encNt (by simp only [List.length_cons, List.length_nil]; omega)) idsL_nil))
       ·trivial)
      refine Gh.of (s' := [(1, .slice tok (g.map encL)), (3, .ptr σ.length 0), (9, .map (σ.length + 1)), (14, .ptr (σ.length + 3) 0), (15, .bool sh0), (16, .bool w1), (17, .int .i64 (k : Nat)), (21, .slice .unk (O.map encL)), (23, .ptr (σ.length + (6 + (k + 1 + 1))) 0)])
       (σ' := σ ++ ((([AObj.row (encTask t), AObj.map (List.map ofE p), AObj.map (encW ss), AObj.row [AV.map (σ.length + 2), AV.slice (.grow (σ.length + 4)) (List.map encL ss), AV.ref (σ.length + (6 + (k + 1))) 1 0 (k + 1), AV.slice (.grow (σ.length + 5)) (List.map encB G1)], AObj.grow 1 (List.length ss), AObj.grow 1 (List.length G1)] ++ (List.replicate (k + 1) AObj.dead ++ [AObj.row (cs ++ [AV.slice .nil []])]))) ++ [AObj.row [.int .i64 n, .slice (.grow (σ.length + (6 + (k + 1 + 2)))) (List.map encNt [])], .grow 1 0])) ?_ ?_
      ·refine Ghost.trans (tokJ σ _ _ _ _ _ _ _ n (k + 1)) ?_
       refine Ghost.trans (Ghost.weak 21 (.slice .unk (O.map encL)) (by simpa [lk] using Wk.lfu .fresh O)) ?_
       have := hJS ss [] 0
       simp only [List.cons_append, List.nil_append, List.append_assoc] at this ⊢
       rw [hwe2]
       refine Ghost.keepL0 (k := 6 + (k + 1 + 3)) _ (by simp; omega) (Nat.le_refl _) ?_ this
       exact tellT
      simp only [go_sem, simprocAttr]
      refine wpc_while (fun (j : Nat) => [(1, .slice tok (g.map encL)), (3, .ptr σ.length 0), (9, .map (σ.length + 1)), (14, .ptr (σ.length + 3) 0), (15, .bool sh0), (16, .bool w1), (17, .int .i64 (k : Nat)), (23, .ptr (σ.length + (6 + (k + 1 + 1))) 0), (198, .slice .unk (O.map encL)), (199, .int .i64 O.length), (200, .int .i64 (j : Nat))])
       (fun j => σ ++ ((([AObj.row (encTask t), AObj.map (List.map ofE p), AObj.map (encW (addAll ss (O.take j))), AObj.row [AV.map (σ.length + 2), AV.slice (.grow (σ.length + 4)) (List.map encL (addAll ss (O.take j))), AV.ref (σ.length + (6 + (k + 1))) 1 0 (k + 1), AV.slice (.grow (σ.length + 5)) (List.map encB G1)], AObj.grow 1 (List.length (addAll ss (O.take j))), AObj.grow 1 (List.length G1)] ++ (List.replicate (k + 1) AObj.dead ++ [AObj.row (cs ++ [AV.slice .nil []])]))) ++ [AObj.row [.int .i64 n, .slice (.grow (σ.length + (6 + (k + 1 + 2)))) (List.map encNt ((O.take j).map N.idxOf))], .grow 1 j])) (fun j => j ≤ O.length) (fun j => O.length - j) 0 (Nat.zero_le _) ?_ ?_
      ·have := hJS ss [] 0
       simp only [List.cons_append, List.nil_append, List.append_assoc] at this ⊢
       refine Ghost.keepL0 (k := 6 + (k + 1 + 3)) _ (by simp; omega) (Nat.le_refl _) ?_ this
       exact tellT
      intro j hj K3 hK3 hE3 hR3
      by_cases h : j < O.length
      ·obtain ⟨x, hx⟩ := get_ex h
       have hlt : ((j : Int) < (O.length : Int)) := by omega
       have hw2 := wrapS (i := j) (by omega)
       have hbig2 : bigLen (j + 1) 8 := big_ok (by omega) (by omega)
       have hxr := hor x (List.mem_of_getElem? hx)
       have hpj : Pre (addAll ss (O.take j)) N := by rw [hNO]; exact pre_take ss O j
       have hpj1 : Pre (addAll ss (O.take (j + 1))) N := by rw [hNO]; exact pre_take ss O (j + 1)
       have hjl := hpj.len
       rw [addAll_take hx] at hpj1
       have hidx : (addS (addAll ss (O.take j)) x).idxOf x = N.idxOf x := (hpj1.idx (mem_addS.2 (.inr rfl))).symm
       have hlj : (((O.take j).map N.idxOf).map encNt).length = j := by simp; omega
       have hfj : ((O.take j).map N.idxOf).map encNt ++ [[AV.int .i64 ((N.idxOf x : Nat) : Int)]] = ((O.take (j + 1)).map N.idxOf).map encNt := by
        rw [take_succ' hx, List.map_append, List.map_append]; rfl
       simp only [go_sem, simprocAttr, hlt, hx, encL, cg6, rk_get1, rk_get2]
       refine ⟨_, _, ofWK _ _ _ _ _ (addAll ss (O.take j)) x σ _ (by have := hn8 x hxr; omega) (key_apart (n := t.facts.length) (by omega) (fun y hy => hNr y (hpj.mem hy)) hxr) (by omega), ?_⟩
       rw [hidx]
       simp only [go_sem, simprocAttr, cg6, rk_get1, rk_get2, cs6, rk_set1, rk_set2, hlj, hbig2, hfj, hw2]
       refine hK3 _ _ (j + 1) (by omega) (by omega) ?_
       rw [addAll_take hx]
       have := hJS (addS (addAll ss (O.take j)) x) ((O.take (j + 1)).map N.idxOf) (j + 1)
       simp only [List.cons_append, List.nil_append, List.append_assoc] at this ⊢
       refine Ghost.keepL0 (k := 6 + (k + 1 + 3)) _ (by simp; omega) (Nat.le_refl _) ?_ this
       exact tellT
      ·have hlt : ¬ ((j : Int) < (O.length : Int)) := by omega
       rw [List.take_of_length_le (by omega), ← hNO]
       have hch1 : AV.slice .unk [[AV.int .i64 n, AV.slice .unk ((O.map N.idxOf).map encNt)]] = chV [(n.toNat, O.map N.idxOf)] := by
        unfold chV
        rw [List.map_singleton, encCo, show ((n.toNat : Nat) : Int) = n by omega]
       have hset : (cs ++ [AV.slice .nil []]).set k (AV.slice .unk [[AV.int .i64 n, AV.slice .unk ((O.map N.idxOf).map encNt)]]) = cs ++ [chV [(n.toNat, O.map N.idxOf)]] := by
        rw [hch1, List.set_append_right _ _ (by omega), hcsl, Nat.sub_self]; rfl
       simp only [go_sem, simprocAttr, hlt, hE3]
       refine Gh.of (Ghost.rewk (σ.length + (6 + (k + 1 + 1))) (xs := [.int .i64 n, .slice (.grow (σ.length + (6 + (k + 1 + 2)))) ((O.map N.idxOf).map encNt)]) (ys := [.int .i64 n, .slice .unk ((O.map N.idxOf).map encNt)]) (by rw [g_get, cg6, rk_get1]; rfl) (.cons (.refl _) (.cons (Wk.unk _ _) .nil))) ?_
       have hkk : k < k + 1 := by omega
       have hkl : k + 1 ≤ (cs ++ [AV.slice .nil []]).length := by simp [hcsl]
       simp only [go_sem, simprocAttr, cg6, cs6, rk_get, rk_set, rk_get1, rk_set1, hset, hkk, hkl]
       have hcf : (CHp t g p N (k + 1)).map chV = cs ++ [chV [(n.toNat, O.map N.idxOf)]] := by rw [hCs, List.map_append, hcs]; rfl
       have hk1N : k + 1 ≤ N.length := by
        have := (pre_addAll O ss).len
        rw [← hNO] at this; omega
       refine ⟨by omega, ?_⟩
       refine hK _ _ (k + 1) (by rw [hN]; exact hk1N) (by omega) ?_
       rw [hN, hw0, hsh, ← hw1, hGs, hcf]
       rw [show (List.replicate (k + 1) AObj.dead ++ [AObj.row (cs ++ [chV [(n.toNat, O.map N.idxOf)]]), AObj.row [.int .i64 n, .slice .unk ((O.map N.idxOf).map encNt)], AObj.grow 1 j]) = (List.replicate (k + 1) AObj.dead ++ [AObj.row (cs ++ [chV [(n.toNat, O.map N.idxOf)]])]) ++ [AObj.row [.int .i64 n, .slice .unk ((O.map N.idxOf).map encNt)], AObj.grow 1 j] by simp]
       refine Ghost.keepL (g := [AObj.row [.int .i64 n, .slice .unk ((O.map N.idxOf).map encNt)], AObj.grow 1 j]) (k := 6 + (k + 1 + 1)) _ (by simp; omega) (Nat.le_refl _) ?_ (hkW (k + 1) (k + 1) N G1 _ (by rw [← hcf]; exact hchV _))
       exact tellT
   ·have hlt : ¬ ((k : Int) < ((gK (nxP t g p) t.init k).length : Int)) := by omega
    have hke : k = (gK (nxP t g p) t.init k).length := by omega
    have hwk := wldP_ok hEO hch hpol hri hfl8
    have hsF : ssP t g p = gK (nxP t g p) t.init k := by
     have := gK_stop (nx := nxP t g p) (s0 := t.init) (k := k) (by omega) (2 ^ t.facts.length - k)
     rwa [show k + (2 ^ t.facts.length - k) = 2 ^ t.facts.length by omega] at this
    have hkn : kindN t g p = kindOf (wldP t g p) (shutB t p (wldP t g p).ss) (weakB t (wldP t g p).ss) := rfl
    have hss : (wldP t g p).ss = gK (nxP t g p) t.init k := hsF
    have hgl : GLp t (gK (nxP t g p) t.init k) k = (wldP t g p).gl := by
     unfold GLp wldP; rw [List.take_of_length_le (by omega), ← hsF]
    have hch2 : CHp t g p (gK (nxP t g p) t.init k) k = (wldP t g p).ch := by
     unfold CHp wldP; rw [List.take_of_length_le (by omega), ← hsF]
    rw [hgl, hch2, ← hss, List.take_of_length_le (by rw [hss]; omega)]
    have hkN : k = (wldP t g p).ss.length := by rw [hss]; exact hke
    rw [← hss] at hlt
    generalize wldP t g p = w at hwk hkn hlt hkN
    have hwl := hwk.len
    have hwc := hwk.ch
    have hwg := hwk.gl
    have hIw : ∀ n, IdsO n (.row (encWorld w)) := fun n => idsO_row (idsL_cons .any (idsL_cons (ids_map ids_encL _) (idsL_cons (ids_map ids_encCh _) (idsL_cons (ids_map ids_encB _) idsL_nil))))
    have h4S : ∀ (l : Store), (∀ o ∈ l, ∀ n, IdsO n o) → IdsS (σ ++ (AObj.row (encTask t) :: .map (p.map ofE) :: .map (encW w.ss) :: .row (encWorld w) :: l)).length (σ ++ (AObj.row (encTask t) :: .map (p.map ofE) :: .map (encW w.ss) :: .row (encWorld w) :: l)) := fun l hl => idsS_app _ hσ fun o ho => by
     simp only [List.mem_cons] at ho
     rcases ho with rfl | rfl | rfl | rfl | ho
     ·exact idsO_row (ids_encTask t)
     ·exact ids_ofE _ _
     ·exact idsO_encW _ _
     ·exact hIw _
     ·exact hl o ho _
    simp only [go_sem, simprocAttr, hlt, hE]
    refine Gh.of (s' := [(14, .ptr (σ.length + 3) 0), (15, .bool (shutB t p w.ss)), (16, .bool (weakB t w.ss))]) (σ' := σ ++ [AObj.row (encTask t), .map (p.map ofE), .map (encW w.ss), .row (encWorld w)]) ?_ ?_
    ·refine Ghost.trans (Ghost.freezeRow (σ.length + 3) 2 (w.ch.map encCh) (by simp; rfl) rfl (cs := w.ch.map chV) (by rw [g_get, cg6, rk_get]) (by omega) (by simp; omega) ?_) ?_
     ·intro i e he
      rw [List.getElem?_map] at he
      obtain ⟨x, hx, rfl⟩ := Option.map_eq_some_iff.1 he
      refine ⟨rfl, fun j hj => ?_⟩
      obtain rfl : j = 0 := by omega
      rw [Nat.zero_add, Nat.mul_one, Nat.add_zero, List.getElem?_map, hx]; rfl
     ·simp only [g_set, cs6, rk_set, List.set_cons_succ, List.set_cons_zero]
      refine Ghost.trans (Ghost.rewk (σ.length + 3) (xs := [.map (σ.length + 2), .slice (.grow (σ.length + 4)) (w.ss.map encL), .slice .unk (w.ch.map encCh), .slice (.grow (σ.length + 5)) (w.gl.map encB)]) (ys := encWorld w) (by simp) (.cons (.any _) (.cons (Wk.unk _ _) (.cons (.refl _) (.cons (Wk.unk _ _) .nil))))) ?_
      simp only [g_set, List.set_cons_succ, List.set_cons_zero]
      refine Ghost.keepL (g := AObj.grow 1 w.ss.length :: AObj.grow 1 w.gl.length :: (List.replicate k AObj.dead ++ [AObj.dead])) (k := 4) [AObj.row (encTask t), .map (p.map ofE), .map (encW w.ss), .row (encWorld w)] rfl (Nat.le_refl _) ?_ (h4S [] (by simp))
      exact tellT
    have hDl := dIter_len w hwk w.ss.length
    have hnok := nearF_ok w (fun _ => true)
    have ret : ∀ v : Int, kindN t g p = v → ∀ (sl : Slots) (L : Store), lk sl 6 = .int .i64 v → lk sl 7 = .int .i64 0 → bodyK [.tmp 6, .tmp 7] σ.length 271 (isR (KindR t g p) σ) .ret sl (σ ++ L) := fun v hv sl L h6 h7 => by
     refine ret_gh2 (v := .int .i64 v) (x := .int .i64 0) (σ' := σ) (Ghost.keep _ (Nat.le_refl _) ⟨⟨by rw [h6]; exact .refl _, .int _ _⟩, ⟨by rw [h7]; exact .refl _, .int _ _⟩, trivial⟩ hσ) rfl (Nat.le_refl _) hσ (.int _ _) (.int _ _) ⟨by rw [hKR, hv], rfl⟩
    clear hE hR hK
    generalize shutB t p w.ss = sb at hkn
    generalize hwb : weakB t w.ss = wb at hkn
    cases sb
    ·cases wb
     ·simp only [go_sem, simprocAttr]
      exact ret 0 hkn _ _ rfl rfl
     ·simp only [go_sem, simprocAttr]
      exact ret 1 hkn _ _ rfl rfl
    ·simp only [go_sem, simprocAttr]
     refine (dist_spec w (σ.length + 3) _ (by simp) hwk).is ?_
     unfold kindOf at hkn
     generalize dIter w w.ss.length = far at hDl hkn
     simp only [go_sem, simprocAttr]
     refine (contI_spec far (-1) .fresh _ (by omega)).is ?_
     cases hcn : far.contains (-1)
     ·rw [hcn] at hkn
      simp only [go_sem, simprocAttr]
      exact ret 3 hkn _ _ rfl rfl
     ·rw [hcn] at hkn
      simp only [if_true] at hkn
      simp only [go_sem, simprocAttr, encWorld, aMkslice]
      refine ⟨Int.le_refl _, by omega, by omega, ?_⟩
      rw [rep_ab]
      have h5S : ∀ F : List Bool, IdsS (σ ++ [AObj.row (encTask t), .map (p.map ofE), .map (encW w.ss), .row (encWorld w), .row (F.map ab)]).length (σ ++ [AObj.row (encTask t), .map (p.map ofE), .map (encW w.ss), .row (encWorld w), .row (F.map ab)]) := fun F => h4S [.row (F.map ab)] (by intro o ho n; rw [List.mem_singleton] at ho; subst ho; exact ids_ab _)
      refine Gh.of (s' := [(14, .ptr (σ.length + 3) 0), (16, .bool wb), (26, .ref (σ.length + 4) 1 0 w.ss.length)]) (σ' := σ ++ [AObj.row (encTask t), .map (p.map ofE), .map (encW w.ss), .row (encWorld w), .row ((lst w.ss.length fun _ => false).map ab)]) (ghL0 (h5S _)) ?_
      simp only [go_sem, simprocAttr]
      refine wpc_while (fun (i : Nat) => [(14, .ptr (σ.length + 3) 0), (16, .bool wb), (26, .ref (σ.length + 4) 1 0 w.ss.length), (238, .int .i64 w.ss.length), (239, .int .i64 (i : Nat))])
       (fun i => σ ++ [AObj.row (encTask t), .map (p.map ofE), .map (encW w.ss), .row (encWorld w), .row ((lst w.ss.length (split (fun _ => true) (fun _ => false) i)).map ab)]) (fun i => i ≤ w.ss.length) (fun i => w.ss.length - i) 0 (Nat.zero_le _) ?_ ?_
      ·rw [lst_zero]; exact ghL0 (h5S _)
      intro i hi K hK hE hR
      by_cases h : i < w.ss.length
      ·have hlt : ((i : Int) < (w.ss.length : Int)) := by omega
       have hw1 := wrapS (i := i) (by omega)
       have s1 := lst_set (N := w.ss.length) (fun _ => true) (fun _ => false) h
       have l1 : (lst w.ss.length (split (fun _ => true) (fun _ => false) i)).length = w.ss.length := lst_len _ _
       generalize lst w.ss.length (split (fun _ => true) (fun _ => false) i) = F1 at s1 l1
       have q1 : i + 1 ≤ F1.length := by omega
       simp only [go_sem, simprocAttr, hlt, h, q1, set_ab16, s1]
       refine hK _ _ (i + 1) (by omega) (by omega) ?_
       rw [hw1]
       exact ghL0 (h5S _)
      have hlt : ¬ ((i : Int) < (w.ss.length : Int)) := by omega
      rw [lst_full _ _ (by omega)]
      simp only [go_sem, simprocAttr, hlt, hE]
      refine (near_spec w (fun _ => true) (σ.length + 3) (σ.length + 4) _ (by simp) (by simp) hwk).is ?_
      simp only [go_sem, simprocAttr]
      clear hK hE hR hi h hlt
      refine wpc_while (fun (i : Nat) => [(14, .ptr (σ.length + 3) 0), (16, .bool wb), (28, .slice .fresh ((lst w.ss.length (nearF w fun _ => true)).map Ahl.encI)), (250, .int .i64 w.ss.length), (251, .int .i64 (i : Nat))])
       (fun i => σ ++ [AObj.row (encTask t), .map (p.map ofE), .map (encW w.ss), .row (encWorld w)]) (fun i => i ≤ w.ss.length ∧ ∀ j, j < i → (!goalB w j && decide (nearF w (fun _ => true) j < 0)) = false) (fun i => w.ss.length - i) 0 ⟨Nat.zero_le _, fun j hj => absurd hj (by omega)⟩ ?_ ?_
      ·refine Ghost.keepL (g := [AObj.row ((lst w.ss.length fun _ => true).map ab)]) (k := 4) [AObj.row (encTask t), .map (p.map ofE), .map (encW w.ss), .row (encWorld w)] rfl (Nat.le_refl _) ?_ (h4S [] (by simp))
       exact tellT
      rintro i ⟨hi, hno⟩ K hK hE hR
      by_cases h : i < w.ss.length
      ·obtain ⟨b, hb⟩ := get_ex (show i < w.gl.length by omega)
       have hgb : goalB w i = b := by unfold goalB; rw [List.getD_eq_getElem?_getD, hb]; rfl
       have hlt : ((i : Int) < (w.ss.length : Int)) := by omega
       have hw1 := wrapS (i := i) (by omega)
       have hn := lst_get (nearF w fun _ => true) h
       have next : (!goalB w i && decide (nearF w (fun _ => true) i < 0)) = false → ∀ j, j < i + 1 → (!goalB w j && decide (nearF w (fun _ => true) j < 0)) = false := fun q j hj => by
        rcases Nat.lt_or_ge j i with r | r
        ·exact hno j r
        ·have : j = i := by omega
         subst this; exact q
       have bad : (!goalB w i && decide (nearF w (fun _ => true) i < 0)) = true → badB w = true := fun q => by
        unfold badB; exact List.any_eq_true.2 ⟨i, List.mem_range.2 h, q⟩
       rw [hgb] at next bad
       cases b
       ·generalize nearF w (fun _ => true) i = v at hn next bad
        by_cases hv : v < 0
        ·rw [bad (by rw [decide_eq_true hv]; rfl)] at hkn
         simp only [if_true] at hkn
         cases wb
         ·simp only [go_sem, simprocAttr, hlt, encWorld, hb, encB, hn, Ahl.encI, hv, hR]
          exact ret 0 hkn _ _ rfl rfl
         ·simp only [go_sem, simprocAttr, hlt, encWorld, hb, encB, hn, Ahl.encI, hv, hR]
          exact ret 1 hkn _ _ rfl rfl
        ·simp only [go_sem, simprocAttr, hlt, encWorld, hb, encB, hn, Ahl.encI, hv]
         refine hK _ _ (i + 1) ⟨by omega, next (by rw [decide_eq_false hv]; rfl)⟩ (by omega) ?_
         rw [hw1]
         exact ghL0 (h4S [] (by simp))
       ·simp only [go_sem, simprocAttr, hlt, encWorld, hb, encB]
        refine hK _ _ (i + 1) ⟨by omega, next rfl⟩ (by omega) ?_
        rw [hw1]
        exact ghL0 (h4S [] (by simp))
      ·have hlt : ¬ ((i : Int) < (w.ss.length : Int)) := by omega
       have hbd : badB w = false := by
        unfold badB
        rw [Bool.eq_false_iff]; intro q
        obtain ⟨j, hj, hq⟩ := List.any_eq_true.1 q
        rw [hno j (by have := List.mem_range.1 hj; omega)] at hq; simp at hq
       rw [hbd] at hkn
       simp only [go_sem, simprocAttr, hlt, hE]
       exact ret 2 hkn _ _ rfl rfl
def lenS (g : List (List Int)) : Nat := (g.map List.length).sum
def few16B (t : FTask) (g : List (List Int)) : Bool := decide (g.length + lenS g ≤ 300) && (fewT 300 t && (decide (t.facts.length ≤ 7) || !(validB t)))
theorem lenS_take {g : List (List Int)} {i : Nat} {l : List Int} (h : g[i]? = some l) : lenS (g.take (i + 1)) = lenS (g.take i) + l.length := by
 unfold lenS; rw [take_succ' h, List.map_append, List.sum_append]; simp
theorem lenS_le (g : List (List Int)) (i : Nat) : lenS (g.take i) ≤ lenS g := by
 have : lenS g = lenS (g.take i) + lenS (g.drop i) := by
  unfold lenS; rw [← List.sum_append, ← List.map_append, List.take_append_drop]
 omega
def c_few16 : CCode := .seq (.ops [oS 2 (.box (.tmp 0)), oS 4 (.move (.lit (.bool false)))]) (.seq (.ops [oS 7 (.move (.tmp 1)), oS 8 (.blen 1 (.tmp 7)), oS 5 (.move (.tmp 8))]) (.seq (.seq (.ops [oS 6 (.move (.lit (.int .i64 0)))]) (.block 0 (.loop (.seq (.seq (.ops [oS 9 (.move (.tmp 6)), oS 10 (.move (.tmp 1)), oS 11 (.blen 1 (.tmp 10)), oS 12 (.bin .lss .none (.tmp 9) (.tmp 11)), oS 13 (.move (.tmp 12)), oG 14 13 true (.move (.tmp 5)), oG 15 13 true (.bin .leq .none (.tmp 14) (.lit (.int .i64 300))), oS 16 (.pick (.tmp 13) (.tmp 15) (.lit (.bool false)))]) (.cond (.tmp 16) .skip (.exit 0))) (.seq (.block 1 (.ops [oS 19 (.move (.tmp 5)), oS 20 (.move (.tmp 1)), oS 21 (.move (.tmp 6)), oS 22 (.iaddr 1 (.tmp 20) (.tmp 21)), oS 23 (.load none (.tmp 22)), oS 24 (.blen 1 (.tmp 23)), oS 25 (.bin .add .none (.tmp 19) (.tmp 24)), oS 5 (.move (.tmp 25))])) (.ops [oS 17 (.move (.tmp 6)), oS 18 (.bin .add .none (.tmp 17) (.lit (.int .i64 1))), oS 6 (.move (.tmp 18))])))))) (.seq (.ops [oS 26 (.move (.tmp 5)), oS 27 (.bin .leq .none (.tmp 26) (.lit (.int .i64 300))), oS 28 (.move (.tmp 27)), oG 29 28 true (.load (some 4) (.tmp 2)), oG 30 28 true (.call (.lit (.func 35 [])) [.tmp 29, .lit (.int .i64 300)]), oS 31 (.pick (.tmp 28) (.tmp 30) (.lit (.bool false))), oS 32 (.move (.tmp 31)), oG 33 32 true (.faddr 0 (.tmp 2)), oG 34 32 true (.load none (.tmp 33)), oG 35 32 true (.blen 1 (.tmp 34)), oG 36 32 true (.bin .leq .none (.tmp 35) (.lit (.int .i64 7))), oG 37 32 true (.move (.tmp 36)), oG 38 37 false (.load (some 4) (.tmp 2)), oG 39 37 false (.call (.lit (.func 12 [])) [.tmp 38]), oG 40 37 false (.un .not (.tmp 39)), oG 41 32 true (.pick (.tmp 37) (.lit (.bool true)) (.tmp 40)), oS 42 (.pick (.tmp 32) (.tmp 41) (.lit (.bool false))), oS 4 (.move (.tmp 42))]) .ret)))
theorem few16_spec (t : FTask) (g : List (List Int)) (tok : Tok) (σ : Store) (ht : TB t) (hg : g.length ≤ 140737488355328 ∧ ∀ l ∈ g, l.length ≤ 140737488355328) :
  ACalls Tryz.prog 8 [.agg (encTask t), .slice tok (g.map encL)] σ (isR (.bool (few16B t g)) σ) := by
 refine ACalls.intro (rs := [(.tmp 4)]) (by kernel_rfl) { own := [], ghosts := [] } Tryz.func8 (c := Tryz.f8.body.getD .skip) (by kernel_rfl) (by decide) (by rw [show Tryz.f8.ntmps = 43 by kernel_rfl]; exact Nat.le_of_ble_eq_true rfl) (by kernel_rfl) ?_
 intro hσ hids
 rw [show comp Tryz.prog { own := [], ghosts := [] } (Tryz.f8.body.getD .skip) = c_few16 by kernel_rfl, show Tryz.f8.ntmps = 43 by kernel_rfl]
 unfold c_few16
 have hil : Ids σ.length (.slice tok (g.map encL)) := hids _ (by simp)
 have hσ1 := ids_grow hσ (ids_encTask t)
 have hg1 := hg.1
 simp only [go_sem, simprocAttr]
 refine wpc_while (fun (i : Nat) => [(1, .slice tok (g.map encL)), (2, .ptr σ.length 0), (5, .int .i64 ((g.length + lenS (g.take i) : Nat) : Int)), (6, .int .i64 (i : Nat))]) (fun _ => σ ++ [.row (encTask t)]) (fun i => i ≤ g.length ∧ g.length + lenS (g.take i) ≤ 300 + 140737488355328) (fun i => g.length - i) 0 ⟨Nat.zero_le _, by simp [lenS]; omega⟩ ?_ ?_
 ·exact ghL0 hσ1
 rintro i ⟨hi, hsz⟩ K hK hE hR
 have fin : ∀ v : Bool, few16B t g = v → ∀ sl, lk sl 4 = .bool v → bodyK [.tmp 4] σ.length 43 (isR (.bool (few16B t g)) σ) .ret sl (σ ++ [.row (encTask t)]) := fun v hv sl h4 => by
  refine ret_gh (v := .bool v) (σ' := σ) (Ghost.keep _ (Nat.le_refl _) ⟨⟨by rw [h4]; exact .refl _, .bool _⟩, trivial⟩ hσ) (Nat.le_refl _) hσ (.bool _) ⟨by rw [hv], rfl⟩
 have done : (i = g.length ∨ 300 < g.length + lenS (g.take i)) → ∀ sl, K (.exit 0) sl (σ ++ [.row (encTask t)]) ∨ True := fun _ _ => .inr trivial
 by_cases h : i < g.length
 ·obtain ⟨l, hx⟩ := get_ex h
  have hll := hg.2 l (List.mem_of_getElem? hx)
  have hlt : ((i : Int) < (g.length : Int)) := by omega
  have hw1 := wrapS (i := i) (by omega)
  by_cases h2 : ((g.length + lenS (g.take i) : Nat) : Int) ≤ 300
  ·have hw2 : IntKind.i64.wrap (((g.length + lenS (g.take i) : Nat) : Int) + (l.length : Int)) = ((g.length + lenS (g.take (i + 1)) : Nat) : Int) := by rw [wrap_ok (by omega), lenS_take hx]; omega
   simp only [go_sem, simprocAttr, hlt, h2, hx, encL]
   refine hK _ _ (i + 1) ⟨by omega, by rw [lenS_take hx]; omega⟩ (by omega) ?_
   rw [hw1, hw2]
   exact ghL0 hσ1
  ·have hf : few16B t g = false := by
    have := lenS_le g i
    unfold few16B; rw [decide_eq_false (by omega)]; rfl
   simp only [go_sem, simprocAttr, hlt, h2, hE]
   exact fin false hf _ rfl
 ·have hlt : ¬ ((i : Int) < (g.length : Int)) := by omega
  have htk : g.take i = g := List.take_of_length_le (by omega)
  rw [htk] at hsz ⊢
  by_cases h2 : ((g.length + lenS g : Nat) : Int) ≤ 300
  ·have hd : decide (g.length + lenS g ≤ 300) = true := decide_eq_true (by omega)
   simp only [go_sem, simprocAttr, hlt, h2, hE, encTask]
   refine (few01_spec t 300 _ ht (by omega)).is ?_
   cases h3 : fewT 300 t
   ·simp only [go_sem, simprocAttr]
    exact fin false (by unfold few16B; rw [hd, h3]; rfl) _ rfl
   by_cases h4 : (t.facts.length : Int) ≤ 7
   ·simp only [go_sem, simprocAttr, h4]
    exact fin true (by unfold few16B; rw [hd, h3, decide_eq_true (by omega : t.facts.length ≤ 7)]; rfl) _ rfl
   ·simp only [go_sem, simprocAttr, h4]
    refine (is01_spec t _ ht).is ?_
    simp only [go_sem, simprocAttr]
    exact fin _ (by unfold few16B; rw [hd, h3, decide_eq_false (by omega : ¬ t.facts.length ≤ 7)]; rfl) _ rfl
  ·have hf : few16B t g = false := by unfold few16B; rw [decide_eq_false (by omega)]; rfl
   simp only [go_sem, simprocAttr, hlt, h2, hE]
   exact fin false hf _ rfl
def c_fault16 : CCode := .seq (.ops [oS 3 (.box (.tmp 0)), oS 6 (.move (.lit (.int .i64 0)))]) (.seq (.block 0 (.seq (.ops [oS 8 (.load (some 4) (.tmp 3)), oS 9 (.call (.lit (.func 12 [])) [.tmp 8]), oS 10 (.un .not (.tmp 9)), oS 7 (.move (.tmp 10))]) (.cond (.tmp 7) (.seq (.ops [oS 6 (.move (.lit (.int .i64 10)))]) .ret) (.seq (.ops [oS 12 (.load (some 4) (.tmp 3)), oS 13 (.move (.tmp 2)), oS 14 (.call (.lit (.func 49 [])) [.tmp 12, .tmp 13]), oS 15 (.un .not (.tmp 14)), oS 11 (.move (.tmp 15))]) (.cond (.tmp 11) (.seq (.ops [oS 6 (.move (.lit (.int .i64 20)))]) .ret) (.seq (.ops [oS 17 (.load (some 4) (.tmp 3)), oS 18 (.move (.tmp 1)), oS 19 (.call (.lit (.func 50 [])) [.tmp 17, .tmp 18]), oS 20 (.un .not (.tmp 19)), oS 16 (.move (.tmp 20))]) (.cond (.tmp 16) (.seq (.ops [oS 6 (.move (.lit (.int .i64 160)))]) .ret) .skip))))))) (.seq (.ops [oS 6 (.move (.lit (.int .i64 0)))]) .ret))
theorem fault16_spec (t : FTask) (g : List (List Int)) (s : List Int) (tok tok' : Tok) (σ : Store) (ht : TB t) (hg : LB g) (hs : s.length ≤ 140737488355328) :
  ACalls Tryz.prog 13 [.agg (encTask t), .slice tok (g.map encL), .slice tok' (s.map Ahl.encI)] σ (isR (.int .i64 (givE t g s)) σ) := by
 refine ACalls.intro (rs := [(.tmp 6)]) (by kernel_rfl) { own := [], ghosts := [] } Tryz.func13 (c := Tryz.f13.body.getD .skip) (by kernel_rfl) (by decide) (by rw [show Tryz.f13.ntmps = 21 by kernel_rfl]; exact Nat.le_of_ble_eq_true rfl) (by kernel_rfl) ?_
 intro hσ hids
 rw [show comp Tryz.prog { own := [], ghosts := [] } (Tryz.f13.body.getD .skip) = c_fault16 by kernel_rfl, show Tryz.f13.ntmps = 21 by kernel_rfl]
 unfold c_fault16
 have hil : Ids σ.length (.slice tok (g.map encL)) := hids _ (by simp)
 have his : Ids σ.length (.slice tok' (s.map Ahl.encI)) := hids _ (by simp)
 simp only [go_sem, simprocAttr, encTask]
 refine (is01_spec t _ ht).is ?_
 cases h1 : validB t
 ·simp only [go_sem, simprocAttr]
  exact rt (.int .i64 10) ⟨by unfold givE stE; rw [h1]; rfl, rfl⟩
 simp only [go_sem, simprocAttr, encTask]
 refine (state02_spec t s tok' _ hs).is ?_
 cases h2 : risingB t.facts.length (-1) s
 ·simp only [go_sem, simprocAttr]
  exact rt (.int .i64 20) ⟨by unfold givE stE; rw [h1, h2]; rfl, rfl⟩
 simp only [go_sem, simprocAttr, encTask]
 refine (is16_spec t g tok _ ht hg).is ?_
 cases h3 : choicesB t g
 ·simp only [go_sem, simprocAttr]
  exact rt (.int .i64 160) ⟨by unfold givE stE; rw [h1, h2, h3]; rfl, rfl⟩
 ·simp only [go_sem, simprocAttr]
  exact rt (.int .i64 0) ⟨by unfold givE stE; rw [h1, h2, h3]; rfl, rfl⟩
def EB (p : List FEnt) : Prop := p.length ≤ 140737488355328 ∧ ∀ x ∈ p, x.1.length ≤ 140737488355328
def c_parts16 : CCode := .seq (.ops [oS 2 (.move (.lit (.slice .nil []))), oS 3 (.move (.lit (.slice .nil [])))]) (.seq (.seq (.ghost (.ops [oS 6 (.move (.tmp 0)), oS 7 (.blen 1 (.tmp 6)), oS 8 (.move (.lit (.int .i64 0)))])) (.block 0 (.loop (.seq (.ops [oS 9 (.bin .lss .none (.tmp 8) (.tmp 7))]) (.seq (.cond (.tmp 9) .skip (.exit 0)) (.seq (.block 1 (.seq (.ops [oS 10 (.iaddr 2 (.tmp 6) (.tmp 8)), oS 11 (.load (some 2) (.tmp 10)), oS 5 (.alloc (.agg [.slice .nil [], .int .i64 0])), oN (.store 2 (.tmp 5) (.tmp 11))]) (.seq (.ops [oS 12 (.move (.tmp 2)), oS 13 (.faddr 0 (.tmp 5)), oS 14 (.load none (.tmp 13)), oS 15 (.bsliceC 1 [.tmp 14]), oS 16 (.bappend 1 24 (.tmp 12) (.tmp 15) false), oS 2 (.move (.tmp 16))]) (.ops [oS 17 (.move (.tmp 3)), oS 18 (.faddr 1 (.tmp 5)), oS 19 (.load none (.tmp 18)), oS 20 (.bsliceC 1 [.tmp 19]), oS 21 (.bappend 1 8 (.tmp 17) (.tmp 20) false), oS 3 (.move (.tmp 21))])))) (.ops [oS 22 (.bin .add .none (.tmp 8) (.lit (.int .i64 1))), oS 8 (.move (.tmp 22))]))))))) (.seq (.ops [oS 23 (.move (.tmp 2)), oS 24 (.move (.tmp 3)), oS 2 (.move (.tmp 23)), oS 3 (.move (.tmp 24))]) .ret))
theorem parts16_spec (p : List FEnt) (tok : Tok) (σ : Store) (hp : EB p) (hp2 : p.length ≤ 1000000) : ACalls Tryz.prog 14 [.slice tok (p.map encEn)] σ (isR (.tuple [.slice .unk ((p.map (·.1)).map encL), .slice .unk ((p.map (·.2)).map Ahl.encI)]) σ) := by
 refine ACalls.intro (rs := [(.tmp 2), (.tmp 3)]) (by kernel_rfl) { own := [], ghosts := [1], cold := [(4, 3), (5, 3)] } Tryz.func14 (c := Tryz.f14.body.getD .skip) (by kernel_rfl) (by decide) (by rw [show Tryz.f14.ntmps = 25 by kernel_rfl]; exact Nat.le_of_ble_eq_true rfl) (by kernel_rfl) ?_
 intro hσ hids
 rw [show comp Tryz.prog { own := [], ghosts := [1], cold := [(4, 3), (5, 3)] } (Tryz.f14.body.getD .skip) = c_parts16 by kernel_rfl, show Tryz.f14.ntmps = 25 by kernel_rfl]
 unfold c_parts16
 have hip : Ids σ.length (.slice tok (p.map encEn)) := hids _ (by simp)
 have hp1 := hp.1
 simp only [go_sem, simprocAttr]
 refine Gh.of (s' := [(2, .slice (.grow σ.length) []), (3, .slice (.grow (σ.length + 1)) []), (0, .slice tok (p.map encEn))]) (σ' := σ ++ [.grow 1 0, .grow 1 0]) ?_ ?_
 ·refine Ghost.trans (Ghost.tok 2 1 (.inl rfl)) (Ghost.trans (Ghost.tok 3 1 (.inl rfl)) ?_)
  simp only [List.append_assoc, List.cons_append, List.nil_append, List.length_append, List.length_cons, List.length_nil, Nat.zero_add]
  exact ghL0 (idsS_app _ hσ (all_cons' trivial (all_cons' trivial all_nil')))
 have hS : ∀ i j, IdsS (σ ++ [AObj.grow 1 i, .grow 1 j]).length (σ ++ [AObj.grow 1 i, .grow 1 j]) := fun i j => idsS_app _ hσ (all_cons' trivial (all_cons' trivial all_nil'))
 simp only [go_sem, simprocAttr]
 refine wpc_while (fun (i : Nat) => [(2, .slice (.grow σ.length) (((p.take i).map (·.1)).map encL)), (3, .slice (.grow (σ.length + 1)) (((p.take i).map (·.2)).map Ahl.encI)), (6, .slice tok (p.map encEn)), (7, .int .i64 p.length), (8, .int .i64 (i : Nat))]) (fun i => σ ++ [.grow 1 i, .grow 1 i]) (fun i => i ≤ p.length) (fun i => p.length - i) 0 (Nat.zero_le _) ?_ ?_
 ·exact ghL0 (hS 0 0)
 intro i hi K hK hE hR
 by_cases h : i < p.length
 ·obtain ⟨x, hx⟩ := get_ex h; have hlt : ((i : Int) < (p.length : Int)) := (by omega); have hw := wrapS (i := i) (by omega)
  have l1 : (((p.take i).map (·.1)).map encL).length = i := by simp; omega
  have l2 : (((p.take i).map (·.2)).map Ahl.encI).length = i := by simp; omega
  have hb1 : bigLen (i + 1) 24 := big_ok (by omega) (by have := hp2; omega)
  have hb2 : bigLen (i + 1) 8 := big_ok (by omega) (by have := hp2; omega)
  have f1 : ((p.take i).map (·.1)).map encL ++ [[AV.slice .unk (x.1.map Ahl.encI)]] = ((p.take (i + 1)).map (·.1)).map encL := by rw [take_succ' hx, List.map_append, List.map_append]; rfl
  have f2 : ((p.take i).map (·.2)).map Ahl.encI ++ [[AV.int .i64 x.2]] = ((p.take (i + 1)).map (·.2)).map Ahl.encI := by rw [take_succ' hx, List.map_append, List.map_append]; rfl
  have hmin : min i p.length = i := Nat.min_eq_left hi
  simp only [go_sem, simprocAttr, hlt, hx, encEn, l1, l2, hmin, List.length_take, hb1, hb2, f1, f2]
  refine hK _ _ (i + 1) (by omega) (by omega) ?_
  rw [hw]
  refine Ghost.keepL (g := [AObj.row [.slice .unk (x.1.map Ahl.encI), .int .i64 x.2]]) (k := 2) [.grow 1 (i + 1), .grow 1 (i + 1)] rfl (Nat.le_refl _) ?_ (hS _ _)
  exact tellT
 ·have hlt : ¬ ((i : Int) < (p.length : Int)) := by omega
  rw [List.take_of_length_le (by omega)]
  simp only [go_sem, simprocAttr, hlt, hE]
  exact rT (.slice .unk ((p.map (·.1)).map encL)) (.slice .unk ((p.map (·.2)).map Ahl.encI)) ⟨rfl, rfl⟩
def t16 : FTask := ⟨[bys [97], bys [98]], [0], [⟨1, false⟩], [⟨bys [120], 0, [⟨0, false⟩], [⟨[], ⟨1, false⟩⟩, ⟨[], ⟨0, true⟩⟩]⟩, ⟨bys [121], 0, [⟨0, false⟩], []⟩]⟩
theorem t16_PB : PB t16 := ⟨⟨by decide, by decide, by decide, by decide, by decide, by decide, by decide, by decide, by decide⟩, by decide⟩
theorem t16_d1 : DistR t16 [[0, 1]] [0] = .tuple [.int .i64 0, .int .i64 4] := by kernel_rfl
theorem t16_d2 : DistR t16 [[0]] [0] = .tuple [.int .i64 1, .int .i64 0] := by kernel_rfl
theorem t16_k : KindR t16 [[0, 1]] [([0], 0)] = .tuple [.int .i64 2, .int .i64 0] := by kernel_rfl
theorem t16_a : askE t16 [[1, 0]] = 160 := by kernel_rfl
theorem t16_a1 : askE t16 [[0, 1]] = 0 := by kernel_rfl
theorem t16_a2 : askE t16 [[0]] = 0 := by kernel_rfl
theorem t16_n : (wldF t16 [[0, 1]] t16.init).ss.length = 2 := by kernel_rfl
theorem t16_c1 : cIter (wldF t16 [[0, 1]] t16.init) 1 0 = true := by kernel_rfl
theorem t16_c2 : cIter (wldF t16 [[0, 1]] t16.init) 2 0 = true := by kernel_rfl
theorem t16_c3 : cIter (wldF t16 [[0, 1]] t16.init) 3 0 = true := by kernel_rfl
def e16 (k : Nat) : List FEnt := outE (wldF t16 [[0, 1]] t16.init) (lst (wldF t16 [[0, 1]] t16.init).ss.length (nearF (wldF t16 [[0, 1]] t16.init) (cIter (wldF t16 [[0, 1]] t16.init) k))) (bfs (wldF t16 [[0, 1]] t16.init) (lst (wldF t16 [[0, 1]] t16.init).ss.length (nearF (wldF t16 [[0, 1]] t16.init) (cIter (wldF t16 [[0, 1]] t16.init) k))) (wldF t16 [[0, 1]] t16.init).ss.length)
theorem t16_e0 : e16 0 = [([0], 0)] := by kernel_rfl
theorem t16_e1 : e16 1 = [([0], 0)] := by kernel_rfl
theorem t16_e2 : e16 2 = [([0], 0)] := by kernel_rfl
theorem t16_e (k : Nat) (h : k ≤ 2) : e16 k = [([0], 0)] := by
 obtain rfl | rfl | rfl : k = 0 ∨ k = 1 ∨ k = 2 := by omega
 ·exact t16_e0
 ·exact t16_e1
 ·exact t16_e2
def s16 : List FEnt := outE (wldF t16 [[0]] t16.init) (strongC (wldF t16 [[0]] t16.init)) (bfs (wldF t16 [[0]] t16.init) (strongC (wldF t16 [[0]] t16.init)) (wldF t16 [[0]] t16.init).ss.length)
theorem t16_s : s16 = [([0], 0)] := by kernel_rfl
theorem t16_o1 : dOf (wldF t16 [[0]] t16.init) = 1 := by kernel_rfl
theorem t16_o : ¬ dOf (wldF t16 [[0]] t16.init) < 0 := by rw [t16_o1]; decide
theorem t16_cyc {r : AV} (h : CycP t16 [[0, 1]] r) : r = .tuple [.slice .fresh [vE ([0], 0)], .int .i64 0] := by
 unfold CycP at h
 rw [if_pos t16_a1] at h
 rcases h with ⟨k, hk, hc, _⟩ | ⟨k, hk, _, _, r0, ⟨E, hE, _, hr⟩, h⟩
 ·have hk : k ≤ 2 := by rw [t16_n] at hk; exact hk
  obtain rfl | rfl | rfl : k = 0 ∨ k = 1 ∨ k = 2 := by omega
  ·rw [t16_c1] at hc; simp at hc
  ·rw [t16_c2] at hc; simp at hc
  ·rw [t16_c3] at hc; simp at hc
 ·have hk : k ≤ 2 := by rw [t16_n] at hk; exact hk
  have hE : E.Perm (e16 k) := hE
  rw [t16_e k hk] at hE
  rw [List.perm_singleton] at hE
  subst hE
  rw [h, hr]; rfl
theorem t16_str {r : AV} (h : StrongP t16 [[0]] r) : r = .tuple [.slice .fresh [vE ([0], 0)], .int .i64 0] := by
 unfold StrongP at h
 rw [if_pos t16_a2, if_neg t16_o] at h
 obtain ⟨r0, ⟨E, hE, _, hr⟩, h⟩ := h
 have hE : E.Perm s16 := hE
 rw [t16_s] at hE
 rw [List.perm_singleton] at hE
 subst hE
 rw [h, hr]; rfl
theorem LB_small {g : List (List Int)} (h : g.length ≤ 1000 ∧ ∀ l ∈ g, l.length ≤ 1000) : LB g := ⟨by have := h.1; omega, fun l hl => by have := h.2 l hl; omega⟩
def c_awake16 : CCode := .seq (.ops [oS 0 (.move (.lit (.bool false)))]) (.seq (.ops [oS 13 (.bslice 1 [.lit (.str (bys [97])), .lit (.str (bys [98]))] false), oS 14 (.bslice 1 [.lit (.int .i64 0)] false), oS 15 (.build [.int .i64 0, .bool false] [(0, 1, .lit (.int .i64 1))]), oS 16 (.bslice 2 [.tmp 15] false), oS 17 (.build [.int .i64 0, .bool false] [(0, 1, .lit (.int .i64 0))]), oS 18 (.bslice 2 [.tmp 17] false), oS 19 (.build [.int .i64 0, .bool false] [(0, 1, .lit (.int .i64 1))]), oS 20 (.build [.slice .nil [], .int .i64 0, .bool false] [(1, 2, .tmp 19)]), oS 21 (.build [.int .i64 0, .bool false] [(0, 1, .lit (.int .i64 0)), (1, 1, .lit (.bool true))]), oS 22 (.build [.slice .nil [], .int .i64 0, .bool false] [(1, 2, .tmp 21)]), oS 23 (.bslice 3 [.tmp 20, .tmp 22] false), oS 24 (.build [.str (bys []), .int .i64 0, .slice .nil [], .slice .nil []] [(0, 1, .lit (.str (bys [120]))), (2, 1, .tmp 18), (3, 1, .tmp 23)]), oS 25 (.build [.int .i64 0, .bool false] [(0, 1, .lit (.int .i64 0))]), oS 26 (.bslice 2 [.tmp 25] false), oS 27 (.build [.str (bys []), .int .i64 0, .slice .nil [], .slice .nil []] [(0, 1, .lit (.str (bys [121]))), (2, 1, .tmp 26)]), oS 28 (.bslice 4 [.tmp 24, .tmp 27] false), oS 29 (.build [.slice .nil [], .slice .nil [], .slice .nil [], .slice .nil []] [(0, 1, .tmp 13), (1, 1, .tmp 14), (2, 1, .tmp 16), (3, 1, .tmp 28)]), oS 1 (.alloc (.agg [.slice .nil [], .slice .nil [], .slice .nil [], .slice .nil []])), oN (.store 4 (.tmp 1) (.tmp 29))]) (.seq (.ops [oS 30 (.bslice 1 [.lit (.int .i64 0), .lit (.int .i64 1)] false), oS 31 (.bslice 1 [.tmp 30] false), oS 2 (.move (.tmp 31))]) (.seq (.ops [oS 33 (.load (some 4) (.tmp 1)), oS 34 (.move (.tmp 2)), oS 35 (.faddr 1 (.tmp 1)), oS 36 (.load none (.tmp 35)), oS 37 (.call (.lit (.func 17 [])) [.tmp 33, .tmp 34, .tmp 36]), oS 32 (.move (.tmp 37)), oS 38 (.extract (.tmp 32) 0), oS 39 (.extract (.tmp 32) 1), oS 3 (.move (.tmp 38)), oS 4 (.move (.tmp 39))]) (.seq (.ops [oS 41 (.load (some 4) (.tmp 1)), oS 42 (.move (.tmp 2)), oS 43 (.call (.lit (.func 24 [])) [.tmp 41, .tmp 42]), oS 40 (.move (.tmp 43)), oS 44 (.extract (.tmp 40) 0), oS 45 (.extract (.tmp 40) 1), oS 5 (.move (.tmp 44)), oS 6 (.move (.tmp 45))]) (.seq (.ops [oS 47 (.load (some 4) (.tmp 1)), oS 48 (.move (.tmp 2)), oS 49 (.move (.tmp 5)), oS 50 (.call (.lit (.func 11 [])) [.tmp 47, .tmp 48, .tmp 49]), oS 46 (.move (.tmp 50)), oS 51 (.extract (.tmp 46) 0), oS 52 (.extract (.tmp 46) 1), oS 7 (.move (.tmp 51)), oS 8 (.move (.tmp 52))]) (.seq (.ops [oS 54 (.load (some 4) (.tmp 1)), oS 55 (.bslice 1 [.lit (.int .i64 0)] false), oS 56 (.bslice 1 [.tmp 55] false), oS 57 (.faddr 1 (.tmp 1)), oS 58 (.load none (.tmp 57)), oS 59 (.call (.lit (.func 17 [])) [.tmp 54, .tmp 56, .tmp 58]), oS 53 (.move (.tmp 59)), oS 60 (.extract (.tmp 53) 0), oS 61 (.extract (.tmp 53) 1), oS 9 (.move (.tmp 60)), oS 10 (.move (.tmp 61))]) (.seq (.ops [oS 63 (.load (some 4) (.tmp 1)), oS 64 (.bslice 1 [.lit (.int .i64 0)] false), oS 65 (.bslice 1 [.tmp 64] false), oS 66 (.call (.lit (.func 18 [])) [.tmp 63, .tmp 65]), oS 62 (.move (.tmp 66)), oS 67 (.extract (.tmp 62) 0), oS 68 (.extract (.tmp 62) 1), oS 11 (.move (.tmp 67)), oS 12 (.move (.tmp 68))]) (.seq (.ops [oS 69 (.move (.tmp 4)), oS 70 (.bin .eql .none (.tmp 69) (.lit (.int .i64 4))), oS 71 (.move (.tmp 70)), oG 72 71 true (.move (.tmp 6)), oG 73 71 true (.bin .eql .none (.tmp 72) (.lit (.int .i64 0))), oS 74 (.pick (.tmp 71) (.tmp 73) (.lit (.bool false))), oS 75 (.move (.tmp 74)), oG 76 75 true (.move (.tmp 5)), oG 77 75 true (.blen 1 (.tmp 76)), oG 78 75 true (.bin .eql .none (.tmp 77) (.lit (.int .i64 1))), oS 79 (.pick (.tmp 75) (.tmp 78) (.lit (.bool false))), oS 80 (.move (.tmp 79)), oG 81 80 true (.move (.tmp 7)), oG 82 80 true (.bin .eql .none (.tmp 81) (.lit (.int .i64 2))), oS 83 (.pick (.tmp 80) (.tmp 82) (.lit (.bool false))), oS 84 (.move (.tmp 83)), oG 85 84 true (.move (.tmp 8)), oG 86 84 true (.bin .eql .none (.tmp 85) (.lit (.int .i64 0))), oS 87 (.pick (.tmp 84) (.tmp 86) (.lit (.bool false))), oS 88 (.move (.tmp 87)), oG 89 88 true (.move (.tmp 9)), oG 90 88 true (.bin .eql .none (.tmp 89) (.lit (.int .i64 1))), oS 91 (.pick (.tmp 88) (.tmp 90) (.lit (.bool false))), oS 92 (.move (.tmp 91)), oG 93 92 true (.move (.tmp 10)), oG 94 92 true (.bin .eql .none (.tmp 93) (.lit (.int .i64 0))), oS 95 (.pick (.tmp 92) (.tmp 94) (.lit (.bool false))), oS 96 (.move (.tmp 95)), oG 97 96 true (.move (.tmp 11)), oG 98 96 true (.blen 1 (.tmp 97)), oG 99 96 true (.bin .eql .none (.tmp 98) (.lit (.int .i64 1))), oS 100 (.pick (.tmp 96) (.tmp 99) (.lit (.bool false))), oS 101 (.move (.tmp 100)), oG 102 101 true (.move (.tmp 12)), oG 103 101 true (.bin .eql .none (.tmp 102) (.lit (.int .i64 0))), oS 104 (.pick (.tmp 101) (.tmp 103) (.lit (.bool false))), oS 105 (.move (.tmp 104)), oG 106 105 true (.load (some 4) (.tmp 1)), oG 107 105 true (.bslice 1 [.lit (.int .i64 1), .lit (.int .i64 0)] false), oG 108 105 true (.bslice 1 [.tmp 107] false), oG 109 105 true (.call (.lit (.func 27 [])) [.tmp 106, .tmp 108]), oG 110 105 true (.bin .eql .none (.tmp 109) (.lit (.int .i64 160))), oS 111 (.pick (.tmp 105) (.tmp 110) (.lit (.bool false))), oS 0 (.move (.tmp 111))]) .ret))))))))
set_option maxHeartbeats 2000000 in
theorem awake16_spec (σ : Store) : ACalls Tryz.prog 10 [] σ (isR (.bool true) σ) := by
 refine ACalls.intro (rs := [(.tmp 0)]) (by kernel_rfl) { own := [], ghosts := [] } Tryz.func10 (c := Tryz.f10.body.getD .skip) (by kernel_rfl) (by decide) (by rw [show Tryz.f10.ntmps = 112 by kernel_rfl]; exact Nat.le_of_ble_eq_true rfl) (by kernel_rfl) ?_
 intro hσ hids
 rw [show comp Tryz.prog { own := [], ghosts := [] } (Tryz.f10.body.getD .skip) = c_awake16 by kernel_rfl, show Tryz.f10.ntmps = 112 by kernel_rfl]
 unfold c_awake16
 simp only [go_sem, simprocAttr]
 have e1 := fun σ => pDist_spec t16 [[0, 1]] [0] .unk σ t16_PB (LB_small (by decide)) (by decide) (fun _ => by decide)
 rw [t16_d1] at e1
 refine ACalls.is (ACalls.wk (e1 _) ?_) ?_
 ·repeat (first | exact Wk.refl _ | exact WkL.nil | exact WkLL.nil | exact WkL.refl _ | refine Wk.agg ?_ | refine Wk.sl _ ?_ | refine WkL.cons ?_ ?_ | refine WkLL.cons ?_ ?_)
 have e2 := fun tok σ => pCyc_spec t16 [[0, 1]] tok σ t16_PB (LB_small (by decide)) (fun _ => by decide)
 simp only [go_sem, simprocAttr]
 refine ACalls.mono (ACalls.wk (e2 .unk _) ?_) ?_
 ·repeat (first | exact Wk.refl _ | exact WkL.nil | exact WkLL.nil | exact WkL.refl _ | refine Wk.agg ?_ | refine Wk.sl _ ?_ | refine WkL.cons ?_ ?_ | refine WkLL.cons ?_ ?_)
 rintro r _ ⟨rfl, hr⟩
 rw [t16_cyc hr]
 simp only [go_sem, simprocAttr]
 have e3 := fun σ => pKind_spec t16 [[0, 1]] [([0], 0)] .unk .unk σ t16_PB (LB_small (by decide)) (fun _ => by decide) (by decide) (by decide)
 rw [t16_k] at e3
 refine ACalls.is (ACalls.wk (e3 _) ?_) ?_
 ·repeat (first | exact Wk.refl _ | exact WkL.nil | exact WkLL.nil | exact WkL.refl _ | refine Wk.agg ?_ | refine Wk.sl _ ?_ | refine WkL.cons ?_ ?_ | refine WkLL.cons ?_ ?_)
 simp only [go_sem, simprocAttr]
 have e4 := fun σ => pDist_spec t16 [[0]] [0] .unk σ t16_PB (LB_small (by decide)) (by decide) (fun _ => by decide)
 rw [t16_d2] at e4
 refine ACalls.is (ACalls.wk (e4 _) ?_) ?_
 ·repeat (first | exact Wk.refl _ | exact WkL.nil | exact WkLL.nil | exact WkL.refl _ | refine Wk.agg ?_ | refine Wk.sl _ ?_ | refine WkL.cons ?_ ?_ | refine WkLL.cons ?_ ?_)
 simp only [go_sem, simprocAttr]
 have e5 := fun tok σ => pStrong_spec t16 [[0]] tok σ t16_PB (LB_small (by decide)) (fun _ => by decide)
 refine ACalls.mono (ACalls.wk (e5 .unk _) ?_) ?_
 ·repeat (first | exact Wk.refl _ | exact WkL.nil | exact WkLL.nil | exact WkL.refl _ | refine Wk.agg ?_ | refine Wk.sl _ ?_ | refine WkL.cons ?_ ?_ | refine WkLL.cons ?_ ?_)
 rintro r _ ⟨rfl, hr⟩
 rw [t16_str hr]
 have e6 := fun σ => pcheck_spec t16 [[1, 0]] .unk σ t16_PB.tb (LB_small (by decide))
 rw [t16_a] at e6
 have h4 : ((4 : Int) == 4) = true := rfl
 have h0 : ((0 : Int) == 0) = true := rfl
 have h1 : (((1 : Nat) : Int) == 1) = true := rfl
 have h11 : ((1 : Int) == 1) = true := rfl
 have h2 : ((2 : Int) == 2) = true := rfl
 simp only [go_sem, simprocAttr, h4, h0, h1, h11, h2]
 refine ACalls.is (ACalls.wk (e6 _) ?_) ?_
 ·repeat (first | exact Wk.refl _ | exact WkL.nil | exact WkLL.nil | exact WkL.refl _ | refine Wk.agg ?_ | refine Wk.sl _ ?_ | refine WkL.cons ?_ ?_ | refine WkLL.cons ?_ ?_)
 have h160 : ((160 : Int) == 160) = true := rfl
 simp only [go_sem, simprocAttr, h160]
 exact rt (.bool true) ⟨rfl, rfl⟩
theorem few16_facts {t : FTask} {g : List (List Int)} (h : few16B t g = true) : taskSize t ≤ 300 ∧ (g.length ≤ 300 ∧ ∀ l ∈ g, l.length ≤ 300) ∧ (validB t = true → t.facts.length ≤ 7) := by
 unfold few16B fewT at h
 simp only [Bool.and_eq_true, decide_eq_true_eq, Bool.or_eq_true, Bool.not_eq_true'] at h
 obtain ⟨h0, ⟨h1, _⟩, h3⟩ := h
 refine ⟨h1, ⟨by omega, fun l hl => ?_⟩, fun hv => by rcases h3 with h3 | h3; exact h3; rw [hv] at h3; simp at h3⟩
 obtain ⟨i, hi⟩ := List.getElem?_of_mem hl
 have := lenS_take hi
 have := lenS_le g (i + 1)
 omega
theorem few16_LB {g : List (List Int)} (h : g.length ≤ 300 ∧ ∀ l ∈ g, l.length ≤ 300) : LB g := ⟨by have := h.1; omega, fun l hl => by have := h.2 l hl; omega⟩
theorem few16_PB {t : FTask} (ht : TB t) (h : taskSize t ≤ 300) : PB t := ⟨ht, by unfold taskSize at h; omega⟩
theorem give_init {t : FTask} (g : List (List Int)) (h : validB t = true) : givE t g t.init = askE t g := by
 unfold givE stE askE
 rw [h, valid_init16 h]; simp
theorem le_sum16 {l : List Nat} {x : Nat} (h : x ∈ l) : x ≤ l.sum := by
 induction l with
 | nil => simp at h
 | cons y l ih =>
  rw [List.sum_cons]
  rcases List.mem_cons.1 h with rfl | h
  ·omega
  ·have := ih h; omega
theorem whens16 {t : FTask} (h : taskSize t ≤ 300) : ∀ a ∈ t.actions, ∀ e ∈ a.effects, e.when_.length ≤ 1048576 := by
 intro a ha e he
 unfold taskSize at h
 have h1 := le_sum16 (List.mem_map_of_mem (f := actSize) ha)
 have h2 := le_sum16 (List.mem_map_of_mem (f := fun e : FEff => e.when_.length) he)
 unfold actSize whenSize at h1
 unfold actSize whenSize at h
 omega
end Go.Proofs.YtjmmldkailblmaaGreat
