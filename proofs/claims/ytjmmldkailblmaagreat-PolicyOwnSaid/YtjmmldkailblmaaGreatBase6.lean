/- Contracts of the given program's functions, and an abstract layer over the model; no condition. -/
import Derived.Test.YtjmmldkailblmaaGreatBase5
set_option linter.unusedVariables false
set_option linter.unusedSimpArgs false
namespace Go.Proofs.YtjmmldkailblmaaGreat
open Go.Ahl
theorem cg6 {a b c d e f : AObj} {r : Store} (k : Nat) : (a :: b :: c :: d :: e :: f :: r)[6 + k]? = r[k]? := by rw [Nat.add_comm]; rfl
theorem cs6 {a b c d e f x : AObj} {r : Store} (k : Nat) : (a :: b :: c :: d :: e :: f :: r).set (6 + k) x = a :: b :: c :: d :: e :: f :: r.set k x := by rw [Nat.add_comm]; rfl
theorem rk_get {α : Type} (y x : α) (r : List α) : ∀ k, (List.replicate k y ++ x :: r)[k]? = some x
 | 0 => rfl
 | k + 1 => by rw [List.replicate_succ, List.cons_append, List.getElem?_cons_succ]; exact rk_get y x r k
theorem rk_set {α : Type} (y x z : α) (r : List α) : ∀ k, (List.replicate k y ++ x :: r).set k z = List.replicate k y ++ z :: r
 | 0 => rfl
 | k + 1 => by rw [List.replicate_succ, List.cons_append, List.set_cons_succ, rk_set y x z r k]; rfl
theorem rk_succ {α : Type} (y : α) (r : List α) (k : Nat) : List.replicate (k + 1) y ++ r = List.replicate k y ++ y :: r := by
 rw [List.replicate_succ', List.append_assoc]; rfl
theorem rk_get1 {α : Type} (y x : α) (r : List α) : ∀ k, (List.replicate k y ++ x :: r)[k + 1]? = r[0]?
 | 0 => rfl
 | k + 1 => by rw [List.replicate_succ, List.cons_append, List.getElem?_cons_succ]; exact rk_get1 y x r k
theorem rk_set1 {α : Type} (y x z : α) (r : List α) : ∀ k, (List.replicate k y ++ x :: r).set (k + 1) z = List.replicate k y ++ x :: r.set 0 z
 | 0 => rfl
 | k + 1 => by rw [List.replicate_succ, List.cons_append, List.set_cons_succ, rk_set1 y x z r k]; rfl
theorem rk_get2 {α : Type} (y x : α) (r : List α) : ∀ k, (List.replicate k y ++ x :: r)[k + 2]? = r[1]?
 | 0 => rfl
 | k + 1 => by rw [List.replicate_succ, List.cons_append, List.getElem?_cons_succ]; exact rk_get2 y x r k
theorem rk_set2 {α : Type} (y x z : α) (r : List α) : ∀ k, (List.replicate k y ++ x :: r).set (k + 2) z = List.replicate k y ++ x :: r.set 1 z
 | 0 => rfl
 | k + 1 => by rw [List.replicate_succ, List.cons_append, List.set_cons_succ, rk_set2 y x z r k]; rfl
theorem WkL.snoc {a b : AV} (h : Wk a b) : ∀ (l : List AV), WkL (l ++ [a]) (l ++ [b])
 | [] => .cons h .nil
 | x :: l => .cons (.refl x) (WkL.snoc h l)
theorem tokJ {n0 nt : Nat} {s : Slots} (σ : Store) (a b c d e f x : AObj) (n : Int) (J : Nat) : Ghost n0 nt s (σ ++ (a :: b :: c :: d :: e :: f :: (List.replicate J AObj.dead ++ [x, .row [.int .i64 n, .slice .nil []]]))) s
  (σ ++ (a :: b :: c :: d :: e :: f :: (List.replicate J AObj.dead ++ [x, .row [.int .i64 n, .slice (.grow (σ.length + (6 + (J + 2)))) []], .grow 1 0]))) := by
 have h := Ghost.tokRow (n0 := n0) (nt := nt) (s := s) (σ := σ ++ (a :: b :: c :: d :: e :: f :: (List.replicate J AObj.dead ++ [x, .row [.int .i64 n, .slice .nil []]]))) (σ.length + (6 + (J + 1))) 1 1 (cells := [.int .i64 n, .slice .nil []]) (by rw [g_get, cg6, rk_get1]; rfl) rfl
 have hl : (σ ++ (a :: b :: c :: d :: e :: f :: (List.replicate J AObj.dead ++ [x, .row [.int .i64 n, .slice .nil []]]))).length = σ.length + (6 + (J + 2)) := by simp; omega
 rw [hl, List.append_assoc, g_set] at h
 simp only [List.cons_append, List.append_assoc, List.nil_append, cs6, rk_set1, List.set_cons_zero, List.set_cons_succ] at h
 exact h
theorem ofWK (a b e : AObj) (c d : AV) (ss : List (List Int)) (x : List Int) (σ r : Store) (hx : x.length ≤ 1000000) (hap : Apart ss x) (hl : ss.length ≤ 1000000) :
  ACalls Tryz.prog 42 [.ptr (σ.length + 3) 0, .slice .unk (x.map Ahl.encI)] (σ ++ (a :: b :: .map (encW ss) :: .row [.map (σ.length + 2), .slice (.grow (σ.length + 4)) (ss.map encL), c, d] :: .grow 1 ss.length :: e :: r))
   (isR (.int .i64 (((addS ss x).idxOf x : Nat) : Int)) (σ ++ (a :: b :: .map (encW (addS ss x)) :: .row [.map (σ.length + 2), .slice (.grow (σ.length + 4)) ((addS ss x).map encL), c, d] :: .grow 1 (addS ss x).length :: e :: r))) := by
 have h := ofN_spec ss x (σ.length + 2) (σ.length + 4) (σ.length + 3) [c, d] (σ ++ (a :: b :: .map (encW ss) :: .row [.map (σ.length + 2), .slice (.grow (σ.length + 4)) (ss.map encL), c, d] :: .grow 1 ss.length :: e :: r)) hx hap hl (by simp) (by simp) (by simp) (by omega) (by omega) (by omega)
 have e' : (if x ∈ ss then σ ++ (a :: b :: .map (encW ss) :: .row [.map (σ.length + 2), .slice (.grow (σ.length + 4)) (ss.map encL), c, d] :: .grow 1 ss.length :: e :: r) else (((σ ++ (a :: b :: .map (encW ss) :: .row [.map (σ.length + 2), .slice (.grow (σ.length + 4)) (ss.map encL), c, d] :: .grow 1 ss.length :: e :: r)).set (σ.length + 2) (.map (encW (ss ++ [x])))).set (σ.length + 4) (.grow 1 (ss.length + 1))).set (σ.length + 3) (.row (.map (σ.length + 2) :: .slice (.grow (σ.length + 4)) ((ss ++ [x]).map encL) :: [c, d]))) = σ ++ (a :: b :: .map (encW (addS ss x)) :: .row [.map (σ.length + 2), .slice (.grow (σ.length + 4)) ((addS ss x).map encL), c, d] :: .grow 1 (addS ss x).length :: e :: r) := by
  by_cases hm : x ∈ ss
  ·rw [if_pos hm, addS_in hm]
  ·rw [if_neg hm, addS_out hm]
   simp
 rwa [e'] at h
theorem chP_pre {t : FTask} {g : List (List Int)} {p : List FEnt} {ss ss' : List (List Int)} {s : List Int} (h : Pre ss ss') (hm : ∀ y ∈ nxP t g p s, y ∈ ss) : chP t g p ss' s = chP t g p ss s := by
 unfold chP
 unfold nxP at hm
 split
 ·rename_i n hn
  rw [hn] at hm
  congr 2
  exact List.map_congr_left fun y hy => h.idx (hm y hy)
 ·rfl
def chV (l : List (Nat × List Nat)) : AV := .slice .unk (l.map encCo)
def CHp (t : FTask) (g : List (List Int)) (p : List FEnt) (ss : List (List Int)) (k : Nat) : List (List (Nat × List Nat)) := (ss.take k).map (chP t g p ss)
def GLp (t : FTask) (ss : List (List Int)) (k : Nat) : List Bool := (ss.take k).map fun s => condHolds s t.goal
theorem take_pre {ss ss' : List (List Int)} (h : Pre ss ss') {k : Nat} (hk : k ≤ ss.length) : ss'.take k = ss.take k := by
 obtain ⟨r, rfl⟩ := h; rw [List.take_append_of_le_length hk]
theorem CHp_step {t : FTask} {g : List (List Int)} {p : List FEnt} {k : Nat} {s : List Int} (h : (gK (nxP t g p) t.init k)[k]? = some s) :
  CHp t g p (gK (nxP t g p) t.init (k + 1)) (k + 1) = CHp t g p (gK (nxP t g p) t.init k) k ++ [chP t g p (gK (nxP t g p) t.init (k + 1)) s] := by
 have hp := gK_pre1 (nx := nxP t g p) (s0 := t.init) k
 have hk := lt_of_get h
 unfold CHp
 rw [take_succ' (hp.get h), take_pre hp (by omega), List.map_append]
 congr 1
 refine List.map_congr_left fun x hx => ?_
 obtain ⟨j, hj, rfl⟩ := List.getElem_of_mem hx
 have hj2 : j < k := by rw [List.length_take] at hj; omega
 exact chP_pre hp (gK_closed k j _ hj2 (by rw [List.getElem_take]; exact List.getElem?_eq_getElem _))
theorem GLp_step {t : FTask} {nx : List Int → List (List Int)} {s0 : List Int} {k : Nat} {s : List Int} (h : (gK nx s0 k)[k]? = some s) : GLp t (gK nx s0 (k + 1)) (k + 1) = GLp t (gK nx s0 k) k ++ [condHolds s t.goal] := by
 have hp := gK_pre1 (nx := nx) (s0 := s0) k
 have hk := lt_of_get h
 unfold GLp
 rw [take_succ' (hp.get h), take_pre hp (by omega), List.map_append]; rfl
theorem tokP {n0 nt : Nat} {s : Slots} (t : FTask) (p : List FEnt) (σ : Store) : Ghost n0 nt s (σ ++ [.row (encTask t), .map (p.map ofE), .map [], .row [.map (σ.length + 2), .slice .nil [], .slice .nil [], .slice .nil []]]) s (σ ++ ([AObj.row (encTask t), AObj.map (List.map ofE p), AObj.map (encW []), AObj.row [AV.map (σ.length + 2), AV.slice (.grow (σ.length + 4)) (List.map encL []), AV.ref (σ.length + (6 + 0)) 1 0 0, AV.slice (.grow (σ.length + 5)) (List.map encB [])], AObj.grow 1 (@List.length (List Int) []), AObj.grow 1 (@List.length Bool [])] ++ [AObj.row []])) := by
 have g1 := Ghost.tokRow (n0 := n0) (nt := nt) (s := s) (σ := σ ++ [.row (encTask t), .map (p.map ofE), .map [], .row [.map (σ.length + 2), .slice .nil [], .slice .nil [], .slice .nil []]]) (σ.length + 3) 1 1 (by simp; rfl) rfl
 have g2 := Ghost.tokRow (n0 := n0) (nt := nt) (s := s) (σ := σ ++ [.row (encTask t), .map (p.map ofE), .map [], .row [.map (σ.length + 2), .slice (.grow (σ.length + 4)) [], .slice .nil [], .slice .nil []], .grow 1 0]) (σ.length + 3) 3 1 (by simp; rfl) rfl
 have g3 := Ghost.rowRow (n0 := n0) (nt := nt) (s := s) (σ := σ ++ [.row (encTask t), .map (p.map ofE), .map [], .row [.map (σ.length + 2), .slice (.grow (σ.length + 4)) [], .slice .nil [], .slice (.grow (σ.length + 5)) []], .grow 1 0, .grow 1 0]) (σ.length + 3) 2 1 (by simp; rfl) rfl
 simp only [List.length_append, List.length_cons, List.length_nil, Nat.zero_add, Nat.reduceAdd, List.append_assoc, List.cons_append, List.nil_append, g_set, List.set_cons_succ, List.set_cons_zero] at g1 g2 g3
 exact (g1.trans g2).trans g3
theorem wldP_ok {t : FTask} {g : List (List Int)} {p : List FEnt} (he : EOk t) (hc : choicesB t g = true) (hp : polB t g p = true) (hs : risingB t.facts.length (-1) t.init = true) (h8 : t.facts.length ≤ 8) : WOk (wldP t g p) := by
 have hnx := nxP_rising he hc hp
 have hlen := gK_len hs hnx (2 ^ t.facts.length)
 have h2n : 2 ^ t.facts.length ≤ 256 := Nat.pow_le_pow_right (n := 2) (by omega) h8
 refine ⟨?_, by simp [wldP], by simp [wldP], ?_, ?_⟩
 ·show (ssP t g p).length ≤ _
  unfold ssP; omega
 ·intro l hl
  obtain ⟨s, _, rfl⟩ := List.mem_map.1 hl
  unfold chP; split <;> simp
 ·intro l hl c hcm
  obtain ⟨s, hsm, rfl⟩ := List.mem_map.1 hl
  unfold chP at hcm
  split at hcm
  ·rename_i n hn
   rw [List.mem_singleton] at hcm; subst hcm
   obtain ⟨h1, h2, h3, h4, h5⟩ := polG_ok hp hn
   have hnxs : nxP t g p s = outsL t (grp g n.toNat) s := by unfold nxP; rw [hn]
   have hcl : ∀ y ∈ outsL t (grp g n.toNat) s, y ∈ ssP t g p := fun y hy => by
    obtain ⟨j, hj⟩ := List.getElem?_of_mem hsm
    exact gK_closed _ j s (by have := lt_of_get hj; unfold ssP at this; omega) hj y (by rw [hnxs]; exact hy)
   refine ⟨?_, ?_, ?_⟩
   ·have h1 : (outsL t (grp g n.toNat) s).Nodup := (outs_strict t _ s).imp fun {a b} q e => by subst e; exact absurd q (by unfold ltL; rw [cmpInts_refl]; omega)
    have := nodup_sub_len h1 hcl
    unfold ssP at this
    rw [List.length_map]; omega
   ·have := outs_ne (t := t) (s := s) (grp_ok hc h2).2.1
    simpa using this
   ·intro k hk
    obtain ⟨y, hy, rfl⟩ := List.mem_map.1 hk
    exact List.idxOf_lt_length_of_mem (hcl y hy)
  ·simp at hcm
def d_pKind_0 : List COp := [⟨some 44, .faddr 0 (.tmp 3), none, []⟩, ⟨some 45, .load none (.tmp 44), none, [0]⟩, ⟨some 46, .blen 1 (.tmp 45), none, [1]⟩, ⟨some 47, .faddr 0 (.tmp 11), none, []⟩, ⟨some 48, .load none (.tmp 47), none, [3]⟩, ⟨some 49, .call (.lit (.func 37 [])) [.tmp 46, .tmp 48], none, [2, 4]⟩, ⟨some 50, .un .not (.tmp 49), none, [5]⟩, ⟨some 51, .move (.tmp 50), none, [6, 5]⟩, ⟨some 52, .faddr 1 (.tmp 11), some (some 51, false), [7]⟩, ⟨some 53, .load none (.tmp 52), some (some 51, false), [8, 7]⟩, ⟨some 54, .bin .lss .none (.tmp 53) (.lit (.int .i64 0)), some (some 51, false), [9, 7]⟩, ⟨some 55, .pick (.tmp 51) (.lit (.bool true)) (.tmp 54), none, [7, 10]⟩, ⟨some 56, .move (.tmp 55), none, [11, 7]⟩, ⟨some 57, .faddr 1 (.tmp 11), some (some 56, false), [12]⟩, ⟨some 58, .load none (.tmp 57), some (some 56, false), [13, 12]⟩, ⟨some 59, .move (.tmp 1), some (some 56, false), [12]⟩, ⟨some 60, .blen 1 (.tmp 59), some (some 56, false), [15, 12]⟩, ⟨some 61, .bin .geq .none (.tmp 58) (.tmp 60), some (some 56, false), [14, 16, 12]⟩, ⟨some 62, .pick (.tmp 56) (.lit (.bool true)) (.tmp 61), none, [12, 17]⟩, ⟨some 63, .move (.tmp 62), none, [18, 12]⟩, ⟨some 64, .move (.tmp 10), some (some 63, false), [19]⟩, ⟨some 65, .bin .gtr .none (.tmp 64) (.lit (.int .i64 0)), some (some 63, false), [20, 19]⟩, ⟨some 66, .move (.tmp 65), some (some 63, false), [21, 19, 19]⟩, ⟨some 67, .move (.tmp 2), some (some 66, true), [22]⟩, ⟨some 68, .move (.tmp 10), some (some 66, true), [22]⟩, ⟨some 69, .bin .sub .none (.tmp 68) (.lit (.int .i64 1)), some (some 66, true), [24, 22]⟩, ⟨some 70, .iaddr 2 (.tmp 67) (.tmp 69), some (some 66, true), [23, 25, 22]⟩, ⟨some 71, .faddr 0 (.tmp 70), some (some 66, true), [26, 22]⟩, ⟨some 72, .load none (.tmp 71), some (some 66, true), [27, 22]⟩, ⟨some 73, .faddr 0 (.tmp 11), some (some 66, true), [22]⟩, ⟨some 74, .load none (.tmp 73), some (some 66, true), [29, 22]⟩, ⟨some 75, .call (.lit (.func 38 [])) [.tmp 72, .tmp 74], some (some 66, true), [28, 30, 22, 22]⟩, ⟨some 76, .bin .geq .none (.tmp 75) (.lit (.int .i64 0)), some (some 66, true), [31, 22]⟩, ⟨some 77, .pick (.tmp 66) (.tmp 76) (.lit (.bool false)), some (some 63, false), [22, 32, 19]⟩, ⟨some 78, .pick (.tmp 63) (.lit (.bool true)) (.tmp 77), none, [19, 33]⟩]
theorem dr_pKind_0 (P : Program) (nt n0 : Nat) (Q : Post) (s : Slots) (σ : Store) : wpc P nt n0 (.draw d_pKind_0) Q s σ = aOpsD P nt [⟨some 44, .faddr 0 (.tmp 3), none, []⟩, ⟨some 45, .load none (.tmp 44), none, [0]⟩, ⟨some 46, .blen 1 (.tmp 45), none, [1]⟩, ⟨some 47, .faddr 0 (.tmp 11), none, []⟩, ⟨some 48, .load none (.tmp 47), none, [3]⟩, ⟨some 49, .call (.lit (.func 37 [])) [.tmp 46, .tmp 48], none, [2, 4]⟩, ⟨some 50, .un .not (.tmp 49), none, [5]⟩, ⟨some 51, .move (.tmp 50), none, [6, 5]⟩, ⟨some 52, .faddr 1 (.tmp 11), some (some 51, false), [7]⟩, ⟨some 53, .load none (.tmp 52), some (some 51, false), [8, 7]⟩, ⟨some 54, .bin .lss .none (.tmp 53) (.lit (.int .i64 0)), some (some 51, false), [9, 7]⟩, ⟨some 55, .pick (.tmp 51) (.lit (.bool true)) (.tmp 54), none, [7, 10]⟩, ⟨some 56, .move (.tmp 55), none, [11, 7]⟩, ⟨some 57, .faddr 1 (.tmp 11), some (some 56, false), [12]⟩, ⟨some 58, .load none (.tmp 57), some (some 56, false), [13, 12]⟩, ⟨some 59, .move (.tmp 1), some (some 56, false), [12]⟩, ⟨some 60, .blen 1 (.tmp 59), some (some 56, false), [15, 12]⟩, ⟨some 61, .bin .geq .none (.tmp 58) (.tmp 60), some (some 56, false), [14, 16, 12]⟩, ⟨some 62, .pick (.tmp 56) (.lit (.bool true)) (.tmp 61), none, [12, 17]⟩, ⟨some 63, .move (.tmp 62), none, [18, 12]⟩, ⟨some 64, .move (.tmp 10), some (some 63, false), [19]⟩, ⟨some 65, .bin .gtr .none (.tmp 64) (.lit (.int .i64 0)), some (some 63, false), [20, 19]⟩, ⟨some 66, .move (.tmp 65), some (some 63, false), [21, 19, 19]⟩, ⟨some 67, .move (.tmp 2), some (some 66, true), [22]⟩, ⟨some 68, .move (.tmp 10), some (some 66, true), [22]⟩, ⟨some 69, .bin .sub .none (.tmp 68) (.lit (.int .i64 1)), some (some 66, true), [24, 22]⟩, ⟨some 70, .iaddr 2 (.tmp 67) (.tmp 69), some (some 66, true), [23, 25, 22]⟩, ⟨some 71, .faddr 0 (.tmp 70), some (some 66, true), [26, 22]⟩, ⟨some 72, .load none (.tmp 71), some (some 66, true), [27, 22]⟩, ⟨some 73, .faddr 0 (.tmp 11), some (some 66, true), [22]⟩, ⟨some 74, .load none (.tmp 73), some (some 66, true), [29, 22]⟩, ⟨some 75, .call (.lit (.func 38 [])) [.tmp 72, .tmp 74], some (some 66, true), [28, 30, 22, 22]⟩, ⟨some 76, .bin .geq .none (.tmp 75) (.lit (.int .i64 0)), some (some 66, true), [31, 22]⟩, ⟨some 77, .pick (.tmp 66) (.tmp 76) (.lit (.bool false)), some (some 63, false), [22, 32, 19]⟩, ⟨some 78, .pick (.tmp 63) (.lit (.bool true)) (.tmp 77), none, [19, 33]⟩] (Q .normal) s σ := wpc_draw _ (by decide)
def d_pKind_1 : List COp := [⟨some 80, .load (some 4) (.tmp 3), none, []⟩, ⟨some 81, .move (.tmp 1), none, []⟩, ⟨some 82, .faddr 1 (.tmp 11), none, []⟩, ⟨some 83, .load none (.tmp 82), none, [2]⟩, ⟨some 84, .iaddr 1 (.tmp 81) (.tmp 83), none, [1, 3]⟩, ⟨some 85, .load none (.tmp 84), none, [4]⟩, ⟨some 86, .faddr 0 (.tmp 11), none, []⟩, ⟨some 87, .load none (.tmp 86), none, [6]⟩, ⟨some 88, .call (.lit (.func 39 [])) [.tmp 80, .tmp 85, .tmp 87], none, [0, 5, 7]⟩, ⟨some 79, .move (.tmp 88), none, [8]⟩, ⟨some 89, .extract (.tmp 79) 0, none, [9]⟩, ⟨some 90, .extract (.tmp 79) 1, none, [9]⟩, ⟨some 12, .move (.tmp 89), none, [10, 8, 0, 1, 2, 3, 4, 5, 6, 7, 8, 9, 10]⟩, ⟨some 13, .move (.tmp 90), none, [11, 12, 0, 1, 2, 3, 4, 5, 6, 7, 8, 9, 10, 11, 12]⟩]
theorem dr_pKind_1 (P : Program) (nt n0 : Nat) (Q : Post) (s : Slots) (σ : Store) : wpc P nt n0 (.draw d_pKind_1) Q s σ = aOpsD P nt [⟨some 80, .load (some 4) (.tmp 3), none, []⟩, ⟨some 81, .move (.tmp 1), none, []⟩, ⟨some 82, .faddr 1 (.tmp 11), none, []⟩, ⟨some 83, .load none (.tmp 82), none, [2]⟩, ⟨some 84, .iaddr 1 (.tmp 81) (.tmp 83), none, [1, 3]⟩, ⟨some 85, .load none (.tmp 84), none, [4]⟩, ⟨some 86, .faddr 0 (.tmp 11), none, []⟩, ⟨some 87, .load none (.tmp 86), none, [6]⟩, ⟨some 88, .call (.lit (.func 39 [])) [.tmp 80, .tmp 85, .tmp 87], none, [0, 5, 7]⟩, ⟨some 79, .move (.tmp 88), none, [8]⟩, ⟨some 89, .extract (.tmp 79) 0, none, [9]⟩, ⟨some 90, .extract (.tmp 79) 1, none, [9]⟩, ⟨some 12, .move (.tmp 89), none, [10, 8, 0, 1, 2, 3, 4, 5, 6, 7, 8, 9, 10]⟩, ⟨some 13, .move (.tmp 90), none, [11, 12, 0, 1, 2, 3, 4, 5, 6, 7, 8, 9, 10, 11, 12]⟩] (Q .normal) s σ := wpc_draw _ (by decide)
def d_pKind_2 : List COp := [⟨some 100, .move (.tmp 9), none, []⟩, ⟨some 101, .faddr 0 (.tmp 11), none, []⟩, ⟨some 102, .load none (.tmp 101), none, [1]⟩, ⟨some 103, .call (.lit (.func 41 [])) [.tmp 102], none, [2]⟩, ⟨some 104, .faddr 1 (.tmp 11), none, []⟩, ⟨some 105, .load none (.tmp 104), none, [4]⟩, ⟨none, .mapup true (.tmp 100) (.tmp 103) (.tmp 105), none, [0, 3, 5, 3, 0, 1, 2, 3, 4, 5]⟩]
theorem dr_pKind_2 (P : Program) (nt n0 : Nat) (Q : Post) (s : Slots) (σ : Store) : wpc P nt n0 (.draw d_pKind_2) Q s σ = aOpsD P nt [⟨some 100, .move (.tmp 9), none, []⟩, ⟨some 101, .faddr 0 (.tmp 11), none, []⟩, ⟨some 102, .load none (.tmp 101), none, [1]⟩, ⟨some 103, .call (.lit (.func 41 [])) [.tmp 102], none, [2]⟩, ⟨some 104, .faddr 1 (.tmp 11), none, []⟩, ⟨some 105, .load none (.tmp 104), none, [4]⟩, ⟨none, .mapup true (.tmp 100) (.tmp 103) (.tmp 105), none, [0, 3, 5, 3, 0, 1, 2, 3, 4, 5]⟩] (Q .normal) s σ := wpc_draw _ (by decide)
def d_pKind_3 : List COp := [⟨some 111, .move (.tmp 14), none, []⟩, ⟨some 112, .nilck (.tmp 111), none, [0]⟩, ⟨some 113, .faddr 0 (.tmp 112), none, [1]⟩, ⟨some 114, .faddr 1 (.tmp 3), none, []⟩, ⟨some 115, .load none (.tmp 114), none, [3]⟩, ⟨some 116, .callE (.lit (.func 42 [])) [.tmp 113, .tmp 115], none, [2, 4]⟩]
theorem dr_pKind_3 (P : Program) (nt n0 : Nat) (Q : Post) (s : Slots) (σ : Store) : wpc P nt n0 (.draw d_pKind_3) Q s σ = aOpsD P nt [⟨some 111, .move (.tmp 14), none, []⟩, ⟨some 112, .nilck (.tmp 111), none, [0]⟩, ⟨some 113, .faddr 0 (.tmp 112), none, [1]⟩, ⟨some 114, .faddr 1 (.tmp 3), none, []⟩, ⟨some 115, .load none (.tmp 114), none, [3]⟩, ⟨some 116, .callE (.lit (.func 42 [])) [.tmp 113, .tmp 115], none, [2, 4]⟩] (Q .normal) s σ := wpc_draw _ (by decide)
def d_pKind_4 : List COp := [⟨some 135, .move (.tmp 14), none, []⟩, ⟨some 136, .move (.tmp 14), none, []⟩, ⟨some 137, .nilck (.tmp 136), none, [1]⟩, ⟨some 138, .faddr 3 (.tmp 137), none, [2]⟩, ⟨some 139, .load none (.tmp 138), none, [3]⟩, ⟨some 140, .move (.tmp 18), none, []⟩, ⟨some 141, .faddr 2 (.tmp 3), none, []⟩, ⟨some 142, .load none (.tmp 141), none, [6]⟩, ⟨some 143, .call (.lit (.func 40 [])) [.tmp 140, .tmp 142], none, [5, 7]⟩, ⟨some 144, .bsliceC 1 [.tmp 143], none, [8]⟩, ⟨some 145, .bappend 1 1 (.tmp 139) (.tmp 144) false, none, [4, 9, 8]⟩, ⟨some 146, .nilck (.tmp 135), none, [0, 0, 1, 2, 3, 4, 5, 6, 7, 8, 9, 10]⟩, ⟨some 147, .faddr 3 (.tmp 146), none, [11, 0, 1, 2, 3, 4, 5, 6, 7, 8, 9, 10]⟩, ⟨none, .store 1 (.tmp 147) (.tmp 145), none, [12, 10, 10, 0, 1, 2, 3, 4, 5, 6, 7, 8, 9, 10]⟩]
theorem dr_pKind_4 (P : Program) (nt n0 : Nat) (Q : Post) (s : Slots) (σ : Store) : wpc P nt n0 (.draw d_pKind_4) Q s σ = aOpsD P nt [⟨some 135, .move (.tmp 14), none, []⟩, ⟨some 136, .move (.tmp 14), none, []⟩, ⟨some 137, .nilck (.tmp 136), none, [1]⟩, ⟨some 138, .faddr 3 (.tmp 137), none, [2]⟩, ⟨some 139, .load none (.tmp 138), none, [3]⟩, ⟨some 140, .move (.tmp 18), none, []⟩, ⟨some 141, .faddr 2 (.tmp 3), none, []⟩, ⟨some 142, .load none (.tmp 141), none, [6]⟩, ⟨some 143, .call (.lit (.func 40 [])) [.tmp 140, .tmp 142], none, [5, 7]⟩, ⟨some 144, .bsliceC 1 [.tmp 143], none, [8]⟩, ⟨some 145, .bappend 1 1 (.tmp 139) (.tmp 144) false, none, [4, 9, 8]⟩, ⟨some 146, .nilck (.tmp 135), none, [0, 0, 1, 2, 3, 4, 5, 6, 7, 8, 9, 10]⟩, ⟨some 147, .faddr 3 (.tmp 146), none, [11, 0, 1, 2, 3, 4, 5, 6, 7, 8, 9, 10]⟩, ⟨none, .store 1 (.tmp 147) (.tmp 145), none, [12, 10, 10, 0, 1, 2, 3, 4, 5, 6, 7, 8, 9, 10]⟩] (Q .normal) s σ := wpc_draw _ (by decide)
def d_pKind_5 : List COp := [⟨some 187, .load (some 4) (.tmp 3), none, []⟩, ⟨some 188, .move (.tmp 1), none, []⟩, ⟨some 189, .move (.tmp 19), none, []⟩, ⟨some 190, .iaddr 1 (.tmp 188) (.tmp 189), none, [1, 2]⟩, ⟨some 191, .load none (.tmp 190), none, [3]⟩, ⟨some 192, .move (.tmp 18), none, []⟩, ⟨some 193, .call (.lit (.func 39 [])) [.tmp 187, .tmp 191, .tmp 192], none, [0, 4, 5]⟩, ⟨some 186, .move (.tmp 193), none, [6]⟩, ⟨some 194, .extract (.tmp 186) 0, none, [7]⟩, ⟨some 195, .extract (.tmp 186) 1, none, [7]⟩, ⟨some 21, .move (.tmp 194), none, [8, 6, 0, 1, 2, 3, 4, 5, 6, 7, 8]⟩, ⟨some 22, .move (.tmp 195), none, [9, 10, 0, 1, 2, 3, 4, 5, 6, 7, 8, 9, 10]⟩]
theorem dr_pKind_5 (P : Program) (nt n0 : Nat) (Q : Post) (s : Slots) (σ : Store) : wpc P nt n0 (.draw d_pKind_5) Q s σ = aOpsD P nt [⟨some 187, .load (some 4) (.tmp 3), none, []⟩, ⟨some 188, .move (.tmp 1), none, []⟩, ⟨some 189, .move (.tmp 19), none, []⟩, ⟨some 190, .iaddr 1 (.tmp 188) (.tmp 189), none, [1, 2]⟩, ⟨some 191, .load none (.tmp 190), none, [3]⟩, ⟨some 192, .move (.tmp 18), none, []⟩, ⟨some 193, .call (.lit (.func 39 [])) [.tmp 187, .tmp 191, .tmp 192], none, [0, 4, 5]⟩, ⟨some 186, .move (.tmp 193), none, [6]⟩, ⟨some 194, .extract (.tmp 186) 0, none, [7]⟩, ⟨some 195, .extract (.tmp 186) 1, none, [7]⟩, ⟨some 21, .move (.tmp 194), none, [8, 6, 0, 1, 2, 3, 4, 5, 6, 7, 8]⟩, ⟨some 22, .move (.tmp 195), none, [9, 10, 0, 1, 2, 3, 4, 5, 6, 7, 8, 9, 10]⟩] (Q .normal) s σ := wpc_draw _ (by decide)
def d_pKind_6 : List COp := [⟨some 204, .faddr 1 (.tmp 23), none, []⟩, ⟨some 205, .load none (.tmp 204), none, [0]⟩, ⟨some 206, .move (.tmp 14), none, []⟩, ⟨some 207, .nilck (.tmp 206), none, [2]⟩, ⟨some 208, .faddr 0 (.tmp 207), none, [3]⟩, ⟨some 209, .move (.tmp 25), none, []⟩, ⟨some 210, .callE (.lit (.func 42 [])) [.tmp 208, .tmp 209], none, [4, 5]⟩, ⟨some 211, .bsliceC 1 [.tmp 210], none, [6]⟩, ⟨some 212, .bappend 1 8 (.tmp 205) (.tmp 211) false, none, [1, 7, 6]⟩, ⟨some 213, .faddr 1 (.tmp 23), none, [0, 1, 2, 3, 4, 5, 6, 7, 8]⟩, ⟨none, .store 1 (.tmp 213) (.tmp 212), none, [9, 8, 8, 0, 1, 2, 3, 4, 5, 6, 7, 8]⟩]
theorem dr_pKind_6 (P : Program) (nt n0 : Nat) (Q : Post) (s : Slots) (σ : Store) : wpc P nt n0 (.drawU d_pKind_6 [[], [6], [], [], [], [], [1], [], [], [], []]) Q s σ = aOpsU P nt [⟨some 204, .faddr 1 (.tmp 23), none, []⟩, ⟨some 205, .load none (.tmp 204), none, [0]⟩, ⟨some 206, .move (.tmp 14), none, []⟩, ⟨some 207, .nilck (.tmp 206), none, [2]⟩, ⟨some 208, .faddr 0 (.tmp 207), none, [3]⟩, ⟨some 209, .move (.tmp 25), none, []⟩, ⟨some 210, .callE (.lit (.func 42 [])) [.tmp 208, .tmp 209], none, [4, 5]⟩, ⟨some 211, .bsliceC 1 [.tmp 210], none, [6]⟩, ⟨some 212, .bappend 1 8 (.tmp 205) (.tmp 211) false, none, [1, 7, 6]⟩, ⟨some 213, .faddr 1 (.tmp 23), none, [0, 1, 2, 3, 4, 5, 6, 7, 8]⟩, ⟨none, .store 1 (.tmp 213) (.tmp 212), none, [9, 8, 8, 0, 1, 2, 3, 4, 5, 6, 7, 8]⟩] [[], [6], [], [], [], [], [1], [], [], [], []] 0 [] [] (Q .normal) s σ := wpc_drawU _ _ (by decide)
def d_pKind_7 : List COp := [⟨some 215, .move (.tmp 14), none, []⟩, ⟨some 216, .nilck (.tmp 215), none, [0]⟩, ⟨some 217, .faddr 2 (.tmp 216), none, [1]⟩, ⟨some 218, .load none (.tmp 217), none, [2]⟩, ⟨some 219, .move (.tmp 17), none, []⟩, ⟨some 220, .load (some 2) (.tmp 23), none, []⟩, ⟨some 221, .bsliceC 2 [.tmp 220], none, [5]⟩, ⟨some 222, .iaddr 1 (.tmp 218) (.tmp 219), none, [3, 4, 0, 1, 2, 3, 4, 5, 6]⟩, ⟨none, .store 1 (.tmp 222) (.tmp 221), none, [7, 6, 0, 1, 2, 3, 4, 5, 6]⟩]
theorem dr_pKind_7 (P : Program) (nt n0 : Nat) (Q : Post) (s : Slots) (σ : Store) : wpc P nt n0 (.draw d_pKind_7) Q s σ = aOpsD P nt [⟨some 215, .move (.tmp 14), none, []⟩, ⟨some 216, .nilck (.tmp 215), none, [0]⟩, ⟨some 217, .faddr 2 (.tmp 216), none, [1]⟩, ⟨some 218, .load none (.tmp 217), none, [2]⟩, ⟨some 219, .move (.tmp 17), none, []⟩, ⟨some 220, .load (some 2) (.tmp 23), none, []⟩, ⟨some 221, .bsliceC 2 [.tmp 220], none, [5]⟩, ⟨some 222, .iaddr 1 (.tmp 218) (.tmp 219), none, [3, 4, 0, 1, 2, 3, 4, 5, 6]⟩, ⟨none, .store 1 (.tmp 222) (.tmp 221), none, [7, 6, 0, 1, 2, 3, 4, 5, 6]⟩] (Q .normal) s σ := wpc_draw _ (by decide)
attribute [local go_sem] dr_pKind_0 dr_pKind_1 dr_pKind_2 dr_pKind_3 dr_pKind_4 dr_pKind_5 dr_pKind_6 dr_pKind_7
def c_pKind : CCode := .seq (.ops [⟨some 3, .box (.tmp 0), none, []⟩, ⟨some 6, .move (.lit (.int .i64 0)), none, []⟩, ⟨some 7, .move (.lit (.int .i64 0)), none, []⟩]) (.seq (.seq (.ops [⟨some 30, .load (some 4) (.tmp 3), none, []⟩, ⟨some 31, .move (.tmp 1), none, []⟩, ⟨some 32, .call (.lit (.func 36 [])) [.tmp 30, .tmp 31], none, []⟩, ⟨some 8, .move (.tmp 32), none, []⟩]) (.seq (.ops [⟨some 33, .move (.tmp 8), none, []⟩, ⟨some 34, .bin .neq .none (.tmp 33) (.lit (.int .i64 0)), none, []⟩]) (.cond (.tmp 34) (.seq (.ops [⟨some 35, .move (.tmp 8), none, []⟩, ⟨some 6, .move (.lit (.int .i64 0)), none, []⟩, ⟨some 7, .move (.tmp 35), none, []⟩]) .ret) .skip))) (.seq (.ops [⟨some 36, .mkmap, none, []⟩, ⟨some 9, .move (.tmp 36), none, []⟩]) (.seq (.seq (.ops [⟨some 37, .move (.tmp 2), none, []⟩, ⟨some 38, .blen 1 (.tmp 37), none, []⟩, ⟨some 39, .move (.lit (.int .i64 0)), none, []⟩]) (.block 0 (.loop (.seq (.ops [⟨some 40, .bin .lss .none (.tmp 39) (.tmp 38), none, []⟩]) (.seq (.cond (.tmp 40) .skip (.exit 0)) (.seq (.block 1 (.seq (.ops [⟨some 41, .move (.tmp 39), none, []⟩, ⟨some 42, .iaddr 2 (.tmp 37) (.tmp 39), none, []⟩, ⟨some 43, .load (some 2) (.tmp 42), none, []⟩, ⟨some 11, .alloc (.agg [.slice .nil [], .int .i64 0]), none, []⟩, ⟨some 10, .move (.tmp 41), none, []⟩, ⟨none, .store 2 (.tmp 11) (.tmp 43), none, []⟩]) (.seq (.seq (.draw d_pKind_0) (.cond (.tmp 78) (.seq (.ops [⟨some 6, .move (.lit (.int .i64 0)), none, []⟩, ⟨some 7, .move (.lit (.int .i64 161)), none, []⟩]) .ret) .skip)) (.seq (.seq (.draw d_pKind_1) (.seq (.ops [⟨some 91, .move (.tmp 13), none, []⟩, ⟨some 92, .un .not (.tmp 91), none, []⟩, ⟨some 93, .move (.tmp 92), none, []⟩, ⟨some 94, .faddr 0 (.tmp 11), some (some 93, false), []⟩, ⟨some 95, .load none (.tmp 94), some (some 93, false), []⟩, ⟨some 96, .faddr 2 (.tmp 3), some (some 93, false), []⟩, ⟨some 97, .load none (.tmp 96), some (some 93, false), []⟩, ⟨some 98, .call (.lit (.func 40 [])) [.tmp 95, .tmp 97], some (some 93, false), []⟩, ⟨some 99, .pick (.tmp 93) (.lit (.bool true)) (.tmp 98), none, []⟩]) (.cond (.tmp 99) (.seq (.ops [⟨some 6, .move (.lit (.int .i64 0)), none, []⟩, ⟨some 7, .move (.lit (.int .i64 161)), none, []⟩]) .ret) .skip))) (.draw d_pKind_2))))) (.ops [⟨some 106, .bin .add .none (.tmp 39) (.lit (.int .i64 1)), none, []⟩, ⟨some 39, .move (.tmp 106), none, []⟩]))))))) (.seq (.ghost (.ops [⟨some 107, .mkmap, none, []⟩, ⟨some 108, .build [.mapnil, .slice .nil []] [(0, 1, .tmp 107)], none, []⟩, ⟨some 109, .build [.mapnil, .slice .nil [], .slice .nil [], .slice .nil []] [(0, 2, .tmp 108)], none, []⟩, ⟨some 110, .box (.tmp 109), none, []⟩, ⟨some 14, .move (.tmp 110), none, []⟩])) (.seq (.ghost (.draw d_pKind_3)) (.seq (.ops [⟨some 15, .move (.lit (.bool true)), none, []⟩, ⟨some 16, .move (.lit (.bool false)), none, []⟩]) (.seq (.seq (.ops [⟨some 17, .move (.lit (.int .i64 0)), none, []⟩]) (.block 2 (.loop (.seq (.seq (.ops [⟨some 117, .move (.tmp 17), none, []⟩, ⟨some 118, .move (.tmp 14), none, []⟩, ⟨some 119, .nilck (.tmp 118), none, []⟩, ⟨some 120, .faddr 0 (.tmp 119), none, []⟩, ⟨some 121, .faddr 1 (.tmp 120), none, []⟩, ⟨some 122, .load none (.tmp 121), none, []⟩, ⟨some 123, .blen 1 (.tmp 122), none, []⟩, ⟨some 124, .bin .lss .none (.tmp 117) (.tmp 123), none, []⟩]) (.cond (.tmp 124) .skip (.exit 2))) (.seq (.block 3 (.seq (.ops [⟨some 127, .move (.tmp 14), none, []⟩, ⟨some 128, .nilck (.tmp 127), none, []⟩, ⟨some 129, .faddr 0 (.tmp 128), none, []⟩, ⟨some 130, .faddr 1 (.tmp 129), none, []⟩, ⟨some 131, .load none (.tmp 130), none, []⟩, ⟨some 132, .move (.tmp 17), none, []⟩, ⟨some 133, .iaddr 1 (.tmp 131) (.tmp 132), none, []⟩, ⟨some 134, .load none (.tmp 133), none, []⟩, ⟨some 18, .move (.tmp 134), none, []⟩]) (.seq (.draw d_pKind_4) (.seq (.ghost (.ops [⟨some 148, .move (.tmp 14), none, []⟩, ⟨some 149, .move (.tmp 14), none, []⟩, ⟨some 150, .nilck (.tmp 149), none, []⟩, ⟨some 151, .faddr 2 (.tmp 150), none, []⟩, ⟨some 152, .load none (.tmp 151), none, []⟩, ⟨some 153, .bsliceC 1 [.lit (.slice .nil [])], none, []⟩, ⟨some 154, .bappend 1 24 (.tmp 152) (.tmp 153) true, none, []⟩, ⟨some 155, .nilck (.tmp 148), none, []⟩, ⟨some 156, .faddr 2 (.tmp 155), none, []⟩, ⟨none, .store 1 (.tmp 156) (.tmp 154), none, []⟩])) (.seq (.ghost (.ops [⟨some 157, .move (.tmp 16), none, []⟩, ⟨some 158, .move (.tmp 157), none, []⟩, ⟨some 159, .move (.tmp 14), some (some 158, false), []⟩, ⟨some 160, .nilck (.tmp 159), some (some 158, false), []⟩, ⟨some 161, .faddr 3 (.tmp 160), some (some 158, false), []⟩, ⟨some 162, .load none (.tmp 161), some (some 158, false), []⟩, ⟨some 163, .move (.tmp 17), some (some 158, false), []⟩, ⟨some 164, .iaddr 1 (.tmp 162) (.tmp 163), some (some 158, false), []⟩, ⟨some 165, .load none (.tmp 164), some (some 158, false), []⟩, ⟨some 166, .pick (.tmp 158) (.lit (.bool true)) (.tmp 165), none, []⟩, ⟨some 16, .move (.tmp 166), none, []⟩])) (.seq (.ops [⟨some 168, .move (.tmp 9), none, []⟩, ⟨some 169, .move (.tmp 18), none, []⟩, ⟨some 170, .call (.lit (.func 41 [])) [.tmp 169], none, []⟩, ⟨some 171, .lookup true (.int .i64 0) (.tmp 168) (.tmp 170) true, none, []⟩, ⟨some 167, .move (.tmp 171), none, []⟩, ⟨some 172, .extract (.tmp 167) 0, none, []⟩, ⟨some 173, .extract (.tmp 167) 1, none, []⟩, ⟨some 19, .move (.tmp 172), none, []⟩, ⟨some 20, .move (.tmp 173), none, []⟩]) (.seq (.seq (.ops [⟨some 174, .move (.tmp 20), none, []⟩, ⟨some 175, .un .not (.tmp 174), none, []⟩]) (.cond (.tmp 175) (.seq (.ops [⟨some 176, .move (.tmp 15), none, []⟩, ⟨some 177, .move (.tmp 176), none, []⟩, ⟨some 178, .move (.tmp 14), some (some 177, true), []⟩, ⟨some 179, .nilck (.tmp 178), some (some 177, true), []⟩, ⟨some 180, .faddr 3 (.tmp 179), some (some 177, true), []⟩, ⟨some 181, .load none (.tmp 180), some (some 177, true), []⟩, ⟨some 182, .move (.tmp 17), some (some 177, true), []⟩, ⟨some 183, .iaddr 1 (.tmp 181) (.tmp 182), some (some 177, true), []⟩, ⟨some 184, .load none (.tmp 183), some (some 177, true), []⟩, ⟨some 185, .pick (.tmp 177) (.tmp 184) (.lit (.bool false)), none, []⟩, ⟨some 15, .move (.tmp 185), none, []⟩]) (.exit 3)) .skip)) (.seq (.draw d_pKind_5) (.seq (.ops [⟨some 196, .move (.tmp 19), none, []⟩, ⟨some 197, .build [.int .i64 0, .slice .nil []] [(0, 1, .tmp 196)], none, []⟩, ⟨some 23, .alloc (.agg [.int .i64 0, .slice .nil []]), none, []⟩, ⟨none, .store 2 (.tmp 23) (.tmp 197), none, []⟩]) (.seq (.seq (.ghost (.ops [⟨some 198, .move (.tmp 21), none, []⟩, ⟨some 199, .blen 1 (.tmp 198), none, []⟩, ⟨some 200, .move (.lit (.int .i64 0)), none, []⟩])) (.block 4 (.loop (.seq (.ops [⟨some 201, .bin .lss .none (.tmp 200) (.tmp 199), none, []⟩]) (.seq (.cond (.tmp 201) .skip (.exit 4)) (.seq (.block 5 (.seq (.ops [⟨some 202, .iaddr 1 (.tmp 198) (.tmp 200), none, []⟩, ⟨some 203, .load none (.tmp 202), none, []⟩, ⟨some 25, .move (.tmp 203), none, []⟩]) (.drawU d_pKind_6 [[], [6], [], [], [], [], [1], [], [], [], []]))) (.ops [⟨some 214, .bin .add .none (.tmp 200) (.lit (.int .i64 1)), none, []⟩, ⟨some 200, .move (.tmp 214), none, []⟩]))))))) (.ghost (.draw d_pKind_7)))))))))))) (.ops [⟨some 125, .move (.tmp 17), none, []⟩, ⟨some 126, .bin .add .none (.tmp 125) (.lit (.int .i64 1)), none, []⟩, ⟨some 17, .move (.tmp 126), none, []⟩])))))) (.seq (.seq (.ghost (.ops [⟨some 223, .move (.tmp 15), none, []⟩, ⟨some 224, .un .not (.tmp 223), none, []⟩])) (.cond (.tmp 224) (.seq (.seq (.ops [⟨some 225, .move (.tmp 16), none, []⟩]) (.cond (.tmp 225) (.seq (.ops [⟨some 6, .move (.lit (.int .i64 1)), none, []⟩, ⟨some 7, .move (.lit (.int .i64 0)), none, []⟩]) .ret) .skip)) (.seq (.ops [⟨some 6, .move (.lit (.int .i64 0)), none, []⟩, ⟨some 7, .move (.lit (.int .i64 0)), none, []⟩]) .ret)) .skip)) (.seq (.seq (.ops [⟨some 226, .move (.tmp 14), none, []⟩, ⟨some 227, .call (.lit (.func 44 [])) [.tmp 226], none, []⟩, ⟨some 228, .call (.lit (.func 43 [])) [.tmp 227, .lit (.int .i64 (-1))], none, []⟩, ⟨some 229, .un .not (.tmp 228), none, []⟩]) (.cond (.tmp 229) (.seq (.ops [⟨some 6, .move (.lit (.int .i64 3)), none, []⟩, ⟨some 7, .move (.lit (.int .i64 0)), none, []⟩]) .ret) .skip)) (.seq (.ops [⟨some 230, .move (.tmp 14), none, []⟩, ⟨some 231, .nilck (.tmp 230), none, []⟩, ⟨some 232, .faddr 0 (.tmp 231), none, []⟩, ⟨some 233, .faddr 1 (.tmp 232), none, []⟩, ⟨some 234, .load none (.tmp 233), none, []⟩, ⟨some 235, .blen 1 (.tmp 234), none, []⟩, ⟨some 236, .mkslice 1 1 [.bool false] (.tmp 235) (.tmp 235) true, none, []⟩, ⟨some 26, .move (.tmp 236), none, []⟩]) (.seq (.seq (.ghost (.ops [⟨some 237, .move (.tmp 26), none, []⟩, ⟨some 238, .blen 1 (.tmp 237), none, []⟩, ⟨some 239, .move (.lit (.int .i64 0)), none, []⟩])) (.block 6 (.loop (.seq (.ops [⟨some 240, .bin .lss .none (.tmp 239) (.tmp 238), none, []⟩]) (.seq (.cond (.tmp 240) .skip (.exit 6)) (.seq (.block 7 (.seq (.ops [⟨some 241, .move (.tmp 239), none, []⟩, ⟨some 27, .move (.tmp 241), none, []⟩]) (.ops [⟨some 242, .move (.tmp 26), none, []⟩, ⟨some 243, .move (.tmp 27), none, []⟩, ⟨some 244, .iaddr 1 (.tmp 242) (.tmp 243), none, []⟩, ⟨none, .store 1 (.tmp 244) (.lit (.bool true)), none, []⟩]))) (.ops [⟨some 245, .bin .add .none (.tmp 239) (.lit (.int .i64 1)), none, []⟩, ⟨some 239, .move (.tmp 245), none, []⟩]))))))) (.seq (.ops [⟨some 246, .move (.tmp 14), none, []⟩, ⟨some 247, .move (.tmp 26), none, []⟩, ⟨some 248, .call (.lit (.func 45 [])) [.tmp 246, .tmp 247], none, []⟩, ⟨some 28, .move (.tmp 248), none, []⟩]) (.seq (.seq (.ops [⟨some 249, .move (.tmp 26), none, []⟩, ⟨some 250, .blen 1 (.tmp 249), none, []⟩, ⟨some 251, .move (.lit (.int .i64 0)), none, []⟩]) (.block 8 (.loop (.seq (.ops [⟨some 252, .bin .lss .none (.tmp 251) (.tmp 250), none, []⟩]) (.seq (.cond (.tmp 252) .skip (.exit 8)) (.seq (.block 9 (.seq (.ops [⟨some 253, .move (.tmp 251), none, []⟩, ⟨some 29, .move (.tmp 253), none, []⟩]) (.seq (.ops [⟨some 254, .move (.tmp 14), none, []⟩, ⟨some 255, .nilck (.tmp 254), none, []⟩, ⟨some 256, .faddr 3 (.tmp 255), none, []⟩, ⟨some 257, .load none (.tmp 256), none, []⟩, ⟨some 258, .move (.tmp 29), none, []⟩, ⟨some 259, .iaddr 1 (.tmp 257) (.tmp 258), none, []⟩, ⟨some 260, .load none (.tmp 259), none, []⟩, ⟨some 261, .un .not (.tmp 260), none, []⟩, ⟨some 262, .move (.tmp 261), none, []⟩, ⟨some 263, .move (.tmp 28), some (some 262, true), []⟩, ⟨some 264, .move (.tmp 29), some (some 262, true), []⟩, ⟨some 265, .iaddr 1 (.tmp 263) (.tmp 264), some (some 262, true), []⟩, ⟨some 266, .load none (.tmp 265), some (some 262, true), []⟩, ⟨some 267, .bin .lss .none (.tmp 266) (.lit (.int .i64 0)), some (some 262, true), []⟩, ⟨some 268, .pick (.tmp 262) (.tmp 267) (.lit (.bool false)), none, []⟩]) (.cond (.tmp 268) (.seq (.seq (.ops [⟨some 269, .move (.tmp 16), none, []⟩]) (.cond (.tmp 269) (.seq (.ops [⟨some 6, .move (.lit (.int .i64 1)), none, []⟩, ⟨some 7, .move (.lit (.int .i64 0)), none, []⟩]) .ret) .skip)) (.seq (.ops [⟨some 6, .move (.lit (.int .i64 0)), none, []⟩, ⟨some 7, .move (.lit (.int .i64 0)), none, []⟩]) .ret)) .skip)))) (.ops [⟨some 270, .bin .add .none (.tmp 251) (.lit (.int .i64 1)), none, []⟩, ⟨some 251, .move (.tmp 270), none, []⟩]))))))) (.seq (.ops [⟨some 6, .move (.lit (.int .i64 2)), none, []⟩, ⟨some 7, .move (.lit (.int .i64 0)), none, []⟩]) .ret))))))))))))))
set_option maxRecDepth 20000 in
set_option maxHeartbeats 8000000 in
theorem pKind_spec (t : FTask) (g : List (List Int)) (p : List FEnt) (tok tok' : Tok) (σ : Store) (hb : PB t) (hg : LB g) (h8 : validB t = true → t.facts.length ≤ 8) (hpl : p.length ≤ 1000000) (hps : ∀ x ∈ p, x.1.length ≤ 1000000) :
  ACalls Tryz.prog 11 [.agg (encTask t), .slice tok (g.map encL), .slice tok' (p.map encEn)] σ (isR (KindR t g p) σ) := by
 refine ACalls.intro (rs := [(.tmp 6), (.tmp 7)]) (by kernel_rfl) { own := [(23, 6), (42, 6)], ghosts := [15, 16, 23, 24, 30, 35, 36, 43], cold := [(22, 9), (23, 5), (33, 7), (35, 6)], loud := [(16, 5), (33, 6)], free := [(33, [[], [6], [], [], [], [], [1], [], [], [], []])] } Tryz.func11 (c := Tryz.f11.body.getD .skip) (by kernel_rfl) (by decide) (by rw [show Tryz.f11.ntmps = 271 by kernel_rfl]; exact Nat.le_of_ble_eq_true rfl) (by kernel_rfl) ?_
 intro hσ hids
 rw [show comp Tryz.prog { own := [(23, 6), (42, 6)], ghosts := [15, 16, 23, 24, 30, 35, 36, 43], cold := [(22, 9), (23, 5), (33, 7), (35, 6)], loud := [(16, 5), (33, 6)], free := [(33, [[], [6], [], [], [], [], [1], [], [], [], []])] } (Tryz.f11.body.getD .skip) = c_pKind by kernel_rfl, show Tryz.f11.ntmps = 271 by kernel_rfl]
 unfold c_pKind
 have hil : Ids σ.length (.slice tok (g.map encL)) := hids _ (by simp)
 have hip : Ids σ.length (.slice tok' (p.map encEn)) := hids _ (by simp)
 simp only [go_sem, simprocAttr, encTask]
 refine (pasks_spec t g tok _ hb.tb hg).is ?_
 by_cases h1 : ¬ askE t g = 0
 ·have h0 : (askE t g != 0) = true := by simpa using h1
  simp only [go_sem, simprocAttr, h0]
  first | exact rtl (.int .i64 0) (.int .i64 (askE t g)) ⟨by rw [KindR, if_neg h1], rfl⟩ | exact rtl0 (.int .i64 0) (.int .i64 (askE t g)) ⟨by rw [KindR, if_neg h1], rfl⟩
 replace h1 := Decidable.not_not.1 h1
 obtain ⟨hv, hch⟩ := askE_zero h1
 have hri : risingB t.facts.length (-1) t.init = true := valid_init16 hv
 obtain ⟨hSB, hEO, hfl⟩ := valid_SB hb hv
 have hKR : KindR t g p = if polB t g p then .tuple [.int .i64 (kindN t g p), .int .i64 0] else .tuple [.int .i64 0, .int .i64 161] := by rw [KindR, if_pos h1]
 have hgl2 : g.length ≤ 200 := by unfold choicesB at hch; rw [Bool.and_eq_true, decide_eq_true_eq] at hch; exact hch.1
 have hfl8 := h8 hv
 rw [h1]
 simp only [go_sem, simprocAttr, encTask]
 have hS0 : ∀ es : List FEnt, IdsS (σ ++ [AObj.row (encTask t), .map (es.map ofE)]).length (σ ++ [AObj.row (encTask t), .map (es.map ofE)]) := fun es => idsS_app _ hσ (all_cons' (idsO_row (ids_encTask t)) (all_cons' (ids_ofE _ _) all_nil'))
 refine wpc_while (fun (i : Nat) => [(1, .slice tok (g.map encL)), (2, .slice tok' (p.map encEn)), (3, .ptr σ.length 0), (9, .map (σ.length + 1)), (37, .slice tok' (p.map encEn)), (38, .int .i64 p.length), (39, .int .i64 (i : Nat))])
  (fun i => σ ++ [AObj.row (encTask t), .map ((p.take i).map ofE)]) (fun i => i ≤ p.length ∧ ∀ j, j < i → ∀ x, p[j]? = some x → entB t g p j x = true) (fun i => p.length - i) 0 ⟨Nat.zero_le _, fun j hj => absurd hj (by omega)⟩ ?_ ?_
 ·exact ghL0 (hS0 [])
 ·rintro i ⟨hi, hok⟩ K hK hE hR
  by_cases h : i < p.length
  ·obtain ⟨x, hx⟩ := get_ex h
   have hxm := List.mem_of_getElem? hx
   have hxl := hps x hxm
   have hlt : ((i : Int) < (p.length : Int)) := by omega
   have hw1 : IntKind.i64.wrap ((i : Int) + 1) = ((i + 1 : Nat) : Int) := by rw [wrap_ok (by omega)]; omega
   have hbad : entB t g p i x = false → polB t g p = false := fun q => by
    rw [Bool.eq_false_iff]; intro r
    rw [entB_get r hx] at q; simp at q
   have hfin : entB t g p i x = false → KindR t g p = .tuple [.int .i64 0, .int .i64 161] := fun q => by rw [hKR, hbad q]; rfl
   simp only [go_sem, simprocAttr, hlt, hx, encEn, encTask]
   refine ⟨_, rising_spec x.1 t.facts.length .unk _ (by omega), ?_⟩
   cases hr : risingB t.facts.length (-1) x.1
   ·simp only [go_sem, simprocAttr, hR]
    first | exact rtl (.int .i64 0) (.int .i64 161) ⟨by rw [hfin (by unfold entB; rw [hr]; rfl)], rfl⟩ | exact rtl0 (.int .i64 0) (.int .i64 161) ⟨by rw [hfin (by unfold entB; rw [hr]; rfl)], rfl⟩
   by_cases hg0 : x.2 < 0
   ·simp only [go_sem, simprocAttr, hg0, hR]
    first | exact rtl (.int .i64 0) (.int .i64 161) ⟨by rw [hfin (by unfold entB; rw [decide_eq_false (by omega : ¬ 0 ≤ x.2)]; simp)], rfl⟩ | exact rtl0 (.int .i64 0) (.int .i64 161) ⟨by rw [hfin (by unfold entB; rw [decide_eq_false (by omega : ¬ 0 ≤ x.2)]; simp)], rfl⟩
   by_cases hg1 : x.2 ≥ (g.length : Int)
   ·simp only [go_sem, simprocAttr, hg0, hg1, hR]
    first | exact rtl (.int .i64 0) (.int .i64 161) ⟨by rw [hfin (by unfold entB; rw [decide_eq_false (by omega : ¬ x.2 < (g.length : Int))]; simp)], rfl⟩ | exact rtl0 (.int .i64 0) (.int .i64 161) ⟨by rw [hfin (by unfold entB; rw [decide_eq_false (by omega : ¬ x.2 < (g.length : Int))]; simp)], rfl⟩
   have hx0 : 0 ≤ x.2 := by omega
   obtain ⟨l, hgx⟩ := get_ex (show x.2.toNat < g.length by omega)
   have hgrp : grp g x.2.toNat = l := by unfold grp; rw [List.getD_eq_getElem?_getD, hgx]; rfl
   obtain ⟨c0, c1, c2, c3⟩ := grp_ok hch (show x.2.toNat < g.length by omega)
   rw [hgrp] at c0 c1 c2 c3
   have hll := hg.2 l c0
   by_cases hi0 : i = 0
   ·have hlt0 : ¬ ((i : Int) > 0) := by omega
    have hcmp0 : i = 0 ∨ cmpInts (p.getD (i - 1) ([], 0)).1 x.1 < 0 := .inl hi0
    simp only [go_sem, simprocAttr, hg0, hg1, hlt0]
    refine ⟨hx0, ?_⟩
    simp only [go_sem, simprocAttr, hgx, encL, encTask]
    refine ⟨_, pouts_spec t l x.1 .unk .unk _ hb.tb hSB hEO (by omega) c1 (by have := hSB.acts; omega) c2 hr, ?_⟩
    unfold outR
    cases hap : appB t l x.1
    ·rw [if_neg (by simp)]
     simp only [go_sem, simprocAttr, encTask, hR]
     first | exact rtl (.int .i64 0) (.int .i64 161) ⟨by rw [hfin (by unfold entB; rw [hgrp, hap]; simp)], rfl⟩ | exact rtl0 (.int .i64 0) (.int .i64 161) ⟨by rw [hfin (by unfold entB; rw [hgrp, hap]; simp)], rfl⟩
    rw [if_pos rfl]
    simp only [go_sem, simprocAttr, encTask]
    refine (sTrue_spec x.1 t.goal .unk .unk _ (by omega) (rising_pw hr).1 hb.tb.goal).is ?_
    cases hgo : condHolds x.1 t.goal
    ·simp only [go_sem, simprocAttr, encTask]
     refine ⟨_, key_spec x.1 .unk _ (by omega), ?_⟩
     have hent : entB t g p i x = true := by
      unfold entB
      rw [hr, decide_eq_true hx0, decide_eq_true (by omega : x.2 < (g.length : Int)), hgrp, hap, hgo]
      simpa using hcmp0
     have hok' : ∀ j, j < i + 1 → ∀ x, p[j]? = some x → entB t g p j x = true := fun j hj z hz => by
      rcases Nat.lt_or_ge j i with q | q
      ·exact hok j q z hz
      ·have : j = i := by omega
       subst this; rw [hx] at hz; injection hz with hz; subst hz; exact hent
     have hrise := pol_rise (i + 1) hok'
     rw [take_succ' hx, List.pairwise_append] at hrise
     have hnew : ∀ z ∈ p.take i, z.1 ≠ x.1 := fun z hz e => by
      have := hrise.2.2 z hz x (by simp)
      rw [e, cmpInts_refl] at this; omega
     have hrz : ∀ z ∈ (p.take i).map (·.1), risingB t.facts.length (-1) z = true := fun z hz => by
      obtain ⟨u, hu, rfl⟩ := List.mem_map.1 hz
      obtain ⟨j, hj, rfl⟩ := List.getElem_of_mem hu
      have hj2 : j < i := by rw [List.length_take] at hj; omega
      exact (entB_parts (hok j hj2 _ (by rw [List.getElem_take]; exact List.getElem?_eq_getElem _))).1
     obtain ⟨fi, hfi⟩ := find_of x.1 (p.take i) 0 fun z hz => key_apart (n := t.facts.length) (by omega) hrz hr z.1 (List.mem_map.2 ⟨z, hz, rfl⟩)
     rw [polG_none hnew] at hfi
     simp only [Option.map_none] at hfi
     simp only [go_sem, simprocAttr, hfi]
     refine hK _ _ (i + 1) ⟨by omega, hok'⟩ (by omega) ?_
     rw [hw1, take_succ' hx]
     have e2 : (p.take i).map ofE ++ [(AV.str (keyP x.1), AV.int .i64 x.2)] = (p.take i ++ [x]).map ofE := by rw [List.map_append]; rfl
     rw [e2]
     refine Ghost.keepL (g := [AObj.row [.slice .unk (x.1.map Ahl.encI), .int .i64 x.2]]) (k := 2) [AObj.row (encTask t), .map ((p.take i ++ [x]).map ofE)] rfl (Nat.le_refl _) ?_ (hS0 _)
     exact tellT
    ·simp only [go_sem, simprocAttr, hR]
     first | exact rtl (.int .i64 0) (.int .i64 161) ⟨by rw [hfin (by unfold entB; rw [hgo]; simp)], rfl⟩ | exact rtl0 (.int .i64 0) (.int .i64 161) ⟨by rw [hfin (by unfold entB; rw [hgo]; simp)], rfl⟩
   ·have hlt0 : ((i : Int) > 0) := by omega
    obtain ⟨y, hy⟩ := get_ex (show i - 1 < p.length by omega)
    have hyl := hps y (List.mem_of_getElem? hy)
    have hw2 : IntKind.i64.wrap ((i : Int) - 1) = ((i - 1 : Nat) : Int) := by rw [wrap_ok (by omega)]; omega
    simp only [go_sem, simprocAttr, hg0, hg1, hlt0, hw2, hy, encEn]
    have hgd : p.getD (i - 1) ([], 0) = y := by rw [List.getD_eq_getElem?_getD, hy]; rfl
    refine ⟨_, slCmp_spec y.1 x.1 .unk .unk _ (by omega) (by omega), ?_⟩
    by_cases hcq : cmpInts y.1 x.1 ≥ 0
    ·simp only [go_sem, simprocAttr, hcq, hR]
     first | exact rtl (.int .i64 0) (.int .i64 161) ⟨by rw [hfin (by unfold entB; rw [hgd, decide_eq_false hi0, decide_eq_false (by omega : ¬ cmpInts y.1 x.1 < 0)]; simp)], rfl⟩ | exact rtl0 (.int .i64 0) (.int .i64 161) ⟨by rw [hfin (by unfold entB; rw [hgd, decide_eq_false hi0, decide_eq_false (by omega : ¬ cmpInts y.1 x.1 < 0)]; simp)], rfl⟩
    have hcmp0 : i = 0 ∨ cmpInts (p.getD (i - 1) ([], 0)).1 x.1 < 0 := .inr (by rw [hgd]; omega)
    simp only [go_sem, simprocAttr, hcq]
    refine ⟨hx0, ?_⟩
    simp only [go_sem, simprocAttr, hgx, encL, encTask]
    refine ⟨_, pouts_spec t l x.1 .unk .unk _ hb.tb hSB hEO (by omega) c1 (by have := hSB.acts; omega) c2 hr, ?_⟩
    unfold outR
    cases hap : appB t l x.1
    ·rw [if_neg (by simp)]
     simp only [go_sem, simprocAttr, encTask, hR]
     first | exact rtl (.int .i64 0) (.int .i64 161) ⟨by rw [hfin (by unfold entB; rw [hgrp, hap]; simp)], rfl⟩ | exact rtl0 (.int .i64 0) (.int .i64 161) ⟨by rw [hfin (by unfold entB; rw [hgrp, hap]; simp)], rfl⟩
    rw [if_pos rfl]
    simp only [go_sem, simprocAttr, encTask]
    refine (sTrue_spec x.1 t.goal .unk .unk _ (by omega) (rising_pw hr).1 hb.tb.goal).is ?_
    cases hgo : condHolds x.1 t.goal
    ·simp only [go_sem, simprocAttr, encTask]
     refine ⟨_, key_spec x.1 .unk _ (by omega), ?_⟩
     have hent : entB t g p i x = true := by
      unfold entB
      rw [hr, decide_eq_true hx0, decide_eq_true (by omega : x.2 < (g.length : Int)), hgrp, hap, hgo]
      simpa using hcmp0
     have hok' : ∀ j, j < i + 1 → ∀ x, p[j]? = some x → entB t g p j x = true := fun j hj z hz => by
      rcases Nat.lt_or_ge j i with q | q
      ·exact hok j q z hz
      ·have : j = i := by omega
       subst this; rw [hx] at hz; injection hz with hz; subst hz; exact hent
     have hrise := pol_rise (i + 1) hok'
     rw [take_succ' hx, List.pairwise_append] at hrise
     have hnew : ∀ z ∈ p.take i, z.1 ≠ x.1 := fun z hz e => by
      have := hrise.2.2 z hz x (by simp)
      rw [e, cmpInts_refl] at this; omega
     have hrz : ∀ z ∈ (p.take i).map (·.1), risingB t.facts.length (-1) z = true := fun z hz => by
      obtain ⟨u, hu, rfl⟩ := List.mem_map.1 hz
      obtain ⟨j, hj, rfl⟩ := List.getElem_of_mem hu
      have hj2 : j < i := by rw [List.length_take] at hj; omega
      exact (entB_parts (hok j hj2 _ (by rw [List.getElem_take]; exact List.getElem?_eq_getElem _))).1
     obtain ⟨fi, hfi⟩ := find_of x.1 (p.take i) 0 fun z hz => key_apart (n := t.facts.length) (by omega) hrz hr z.1 (List.mem_map.2 ⟨z, hz, rfl⟩)
     rw [polG_none hnew] at hfi
     simp only [Option.map_none] at hfi
     simp only [go_sem, simprocAttr, hfi]
     refine hK _ _ (i + 1) ⟨by omega, hok'⟩ (by omega) ?_
     rw [hw1, take_succ' hx]
     have e2 : (p.take i).map ofE ++ [(AV.str (keyP x.1), AV.int .i64 x.2)] = (p.take i ++ [x]).map ofE := by rw [List.map_append]; rfl
     rw [e2]
     refine Ghost.keepL (g := [AObj.row [.slice .unk (x.1.map Ahl.encI), .int .i64 x.2]]) (k := 2) [AObj.row (encTask t), .map ((p.take i ++ [x]).map ofE)] rfl (Nat.le_refl _) ?_ (hS0 _)
     exact tellT
    ·simp only [go_sem, simprocAttr, hR]
     first | exact rtl (.int .i64 0) (.int .i64 161) ⟨by rw [hfin (by unfold entB; rw [hgo]; simp)], rfl⟩ | exact rtl0 (.int .i64 0) (.int .i64 161) ⟨by rw [hfin (by unfold entB; rw [hgo]; simp)], rfl⟩
  ·have hlt : ¬ ((i : Int) < (p.length : Int)) := by omega
   have hpol : polB t g p = true := by
    unfold polB
    refine List.all_eq_true.2 fun j hj => ?_
    obtain ⟨x, hx⟩ := get_ex (List.mem_range.1 hj)
    rw [List.getD_eq_getElem?_getD, hx]
    exact hok j (by have := List.mem_range.1 hj; omega) x hx
   have hKR : KindR t g p = .tuple [.int .i64 (kindN t g p), .int .i64 0] := by rw [hKR, if_pos hpol]
   rw [List.take_of_length_le (by omega)]
   simp only [go_sem, simprocAttr, hlt, hE]
   refine Gh.of (s' := [(1, .slice tok (g.map encL)), (3, .ptr σ.length 0), (9, .map (σ.length + 1))]) (σ' := σ ++ [AObj.row (encTask t), .map (p.map ofE)]) (ghL0 (hS0 _)) ?_
   clear hK hE hR hi hok h hlt
   simp only [go_sem, simprocAttr]
   have hWd : ∀ (m k kc : Nat) ss (gl : List Bool) (cs : List AV), σ.length + 7 + k ≤ m → (∀ x ∈ cs, ∀ n, Ids n x) → ∀ o ∈ (([AObj.row (encTask t), AObj.map (List.map ofE p), AObj.map (encW ss), AObj.row [AV.map (σ.length + 2), AV.slice (.grow (σ.length + 4)) (List.map encL ss), AV.ref (σ.length + (6 + k)) 1 0 kc, AV.slice (.grow (σ.length + 5)) (List.map encB gl)], AObj.grow 1 (@List.length (List Int) ss), AObj.grow 1 (@List.length Bool gl)] ++ (List.replicate k AObj.dead ++ [AObj.row cs]))), IdsO m o := by
    intro m k kc ss gl cs hm hcs o ho
    simp only [List.cons_append, List.nil_append, List.mem_cons, List.mem_append, List.not_mem_nil, or_false] at ho
    rcases ho with rfl | rfl | rfl | rfl | rfl | rfl | ho | rfl
    ·exact idsO_row (ids_encTask t)
    ·exact ids_ofE _ _
    ·exact idsO_encW _ _
    ·exact idsO_row (idsL_cons (.map _ (by omega)) (idsL_cons (ids_grow_map ids_encL (by omega)) (idsL_cons (.ref _ _ _ _ (by omega)) (idsL_cons (ids_grow_map ids_encB (by omega)) idsL_nil))))
    ·trivial
    ·trivial
    ·rw [List.eq_of_mem_replicate ho]; trivial
    ·exact idsO_row (fun x hx => hcs x hx _)
   have hWS : ∀ (k kc : Nat) ss (gl : List Bool) (cs : List AV) (l : Store), (∀ x ∈ cs, ∀ n, Ids n x) → (∀ o ∈ l, IdsO (σ.length + 7 + k + l.length) o) → IdsS (σ ++ ((([AObj.row (encTask t), AObj.map (List.map ofE p), AObj.map (encW ss), AObj.row [AV.map (σ.length + 2), AV.slice (.grow (σ.length + 4)) (List.map encL ss), AV.ref (σ.length + (6 + k)) 1 0 kc, AV.slice (.grow (σ.length + 5)) (List.map encB gl)], AObj.grow 1 (@List.length (List Int) ss), AObj.grow 1 (@List.length Bool gl)] ++ (List.replicate k AObj.dead ++ [AObj.row cs]))) ++ l)).length (σ ++ ((([AObj.row (encTask t), AObj.map (List.map ofE p), AObj.map (encW ss), AObj.row [AV.map (σ.length + 2), AV.slice (.grow (σ.length + 4)) (List.map encL ss), AV.ref (σ.length + (6 + k)) 1 0 kc, AV.slice (.grow (σ.length + 5)) (List.map encB gl)], AObj.grow 1 (@List.length (List Int) ss), AObj.grow 1 (@List.length Bool gl)] ++ (List.replicate k AObj.dead ++ [AObj.row cs]))) ++ l)) := fun k kc ss gl cs l hcs hl => idsS_app _ hσ fun o ho => by
    rcases List.mem_append.1 ho with ho | ho
    ·exact hWd _ k kc ss gl cs (by simp; omega) hcs o ho
    ·have := hl o ho
     refine cast (congrArg (fun z => IdsO z o) ?_) this
     simp; omega
   have h2n : 2 ^ t.facts.length ≤ 256 := Nat.pow_le_pow_right (n := 2) (by omega) hfl8
   have hn8 : ∀ y, risingB t.facts.length (-1) y = true → y.length ≤ 8 := fun y hy => by
    rcases rising_len hy (by omega) with q | q
    ·omega
    ·rw [q]; simp
   have hnx := nxP_rising hEO hch hpol
   refine Gh.of (tokP t p σ) ?_
   simp only [go_sem, simprocAttr, encTask]
   refine ⟨_, _, ofWK _ _ _ _ _ [] t.init σ [AObj.row []] (by have := hn8 _ hri; omega) (by intro y hy; simp at hy) (by simp), ?_⟩
   have e1 : addS [] t.init = gK (nxP t g p) t.init 0 := rfl
   rw [e1]
   try simp only [go_sem, simprocAttr]
   have hchV : ∀ (l : List (List (Nat × List Nat))), ∀ x ∈ l.map chV, ∀ n, Ids n x := fun l x hx n => by
    obtain ⟨y, _, rfl⟩ := List.mem_map.1 hx
    exact ids_map ids_encCo _
   have hW0 : ∀ (k kc : Nat) ss (gl : List Bool) (l : List (List (Nat × List Nat))), IdsS (σ ++ (([AObj.row (encTask t), AObj.map (List.map ofE p), AObj.map (encW ss), AObj.row [AV.map (σ.length + 2), AV.slice (.grow (σ.length + 4)) (List.map encL ss), AV.ref (σ.length + (6 + k)) 1 0 kc, AV.slice (.grow (σ.length + 5)) (List.map encB gl)], AObj.grow 1 (@List.length (List Int) ss), AObj.grow 1 (@List.length Bool gl)] ++ (List.replicate k AObj.dead ++ [AObj.row (l.map chV)])))).length (σ ++ (([AObj.row (encTask t), AObj.map (List.map ofE p), AObj.map (encW ss), AObj.row [AV.map (σ.length + 2), AV.slice (.grow (σ.length + 4)) (List.map encL ss), AV.ref (σ.length + (6 + k)) 1 0 kc, AV.slice (.grow (σ.length + 5)) (List.map encB gl)], AObj.grow 1 (@List.length (List Int) ss), AObj.grow 1 (@List.length Bool gl)] ++ (List.replicate k AObj.dead ++ [AObj.row (l.map chV)])))) := fun k kc ss gl l => by
    have := hWS k kc ss gl (l.map chV) [] (hchV l) (by simp)
    rwa [List.append_nil] at this
   refine wpc_while (fun (k : Nat) => [(1, .slice tok (g.map encL)), (3, .ptr σ.length 0), (9, .map (σ.length + 1)), (14, .ptr (σ.length + 3) 0), (15, .bool (shutB t p ((gK (nxP t g p) t.init k).take k))), (16, .bool (weakB t ((gK (nxP t g p) t.init k).take k))), (17, .int .i64 (k : Nat))])
    (fun k => σ ++ ([AObj.row (encTask t), AObj.map (List.map ofE p), AObj.map (encW (gK (nxP t g p) t.init k)), AObj.row [AV.map (σ.length + 2), AV.slice (.grow (σ.length + 4)) (List.map encL (gK (nxP t g p) t.init k)), AV.ref (σ.length + (6 + k)) 1 0 k, AV.slice (.grow (σ.length + 5)) (List.map encB (GLp t (gK (nxP t g p) t.init k) k))], AObj.grow 1 (@List.length (List Int) (gK (nxP t g p) t.init k)), AObj.grow 1 (@List.length Bool (GLp t (gK (nxP t g p) t.init k) k))] ++ (List.replicate k AObj.dead ++ [AObj.row ((CHp t g p (gK (nxP t g p) t.init k) k).map chV)])))
    (fun k => k ≤ (gK (nxP t g p) t.init k).length) (fun k => 256 - k) 0 (Nat.zero_le _) ?_ ?_
   ·exact ghL0 (hW0 0 0 (gK (nxP t g p) t.init 0) [] [])
   intro k hk K hK hE hR
   have hrs := gK_rising hri hnx k
   have hll := gK_len hri hnx k
   have hndk := gK_nodup (nx := nxP t g p) (s0 := t.init) k
   by_cases h : k < (gK (nxP t g p) t.init k).length
   ·obtain ⟨s, hx⟩ := get_ex h
    have hsr := hrs s (List.mem_of_getElem? hx)
    have hs8 := hn8 s hsr
    have hlt : ((k : Int) < ((gK (nxP t g p) t.init k).length : Int)) := by omega
    have hw0 : IntKind.i64.wrap ((k : Int) + 1) = ((k + 1 : Nat) : Int) := by rw [wrap_ok (by omega)]; omega
    have hbig : bigLen (k + 1) 1 := big_ok (by omega) (by omega)
    have hbig24 : bigLen (k + 1) 24 := big_ok (by omega) (by omega)
    have hstp := gK_step hx
    have hCs := CHp_step hx
    have hGs := GLp_step (t := t) hx
    have htk : (gK (nxP t g p) t.init (k + 1)).take (k + 1) = (gK (nxP t g p) t.init k).take k ++ [s] := by
     rw [take_succ' ((gK_pre1 k).get hx), take_pre (gK_pre1 k) (by omega)]
    have hsh : shutB t p ((gK (nxP t g p) t.init (k + 1)).take (k + 1)) = (shutB t p ((gK (nxP t g p) t.init k).take k) && ((polG p s).isSome || condHolds s t.goal)) := by
     rw [htk]; unfold shutB; rw [List.all_append]; simp
    have hwe : weakB t ((gK (nxP t g p) t.init (k + 1)).take (k + 1)) = (weakB t ((gK (nxP t g p) t.init k).take k) || condHolds s t.goal) := by
     rw [htk]; unfold weakB; rw [List.any_append]; simp
    have hGl : (GLp t (gK (nxP t g p) t.init k) k).length = k := by unfold GLp; rw [List.length_map, List.length_take]; omega
    have hCl : (CHp t g p (gK (nxP t g p) t.init k) k).length = k := by unfold CHp; rw [List.length_map, List.length_take]; omega
    generalize shutB t p ((gK (nxP t g p) t.init k).take k) = sh0 at hsh
    generalize weakB t ((gK (nxP t g p) t.init k).take k) = we0 at hwe
    generalize GLp t (gK (nxP t g p) t.init k) k = GL0 at hGl hGs
    generalize CHp t g p (gK (nxP t g p) t.init k) k = CH0 at hCl hCs
    generalize hss : gK (nxP t g p) t.init k = ss at hk hrs hll hndk h hx hlt hstp
    generalize hN : gK (nxP t g p) t.init (k + 1) = N at hstp hCs hGs hsh hwe
    have hNr := gK_rising hri hnx (k + 1)
    have hNl := gK_len hri hnx (k + 1)
    rw [hN] at hNr hNl
    generalize hcs : CH0.map chV = cs
    have hcsl : cs.length = k := by rw [← hcs, List.length_map, hCl]
    have hcsI : ∀ x ∈ cs, ∀ n, Ids n x := by rw [← hcs]; exact hchV CH0
    simp only [go_sem, simprocAttr, hlt, hx, encL, encTask]
    refine ⟨_, sTrue_spec s t.goal .unk .unk _ (by omega) (rising_pw hsr).1 hb.tb.goal, ?_⟩
    generalize hcb : condHolds s t.goal = b at hsh hwe hGs
    have hGf : List.map encB GL0 ++ [[AV.bool b]] = List.map encB (GL0 ++ [b]) := by rw [List.map_append]; rfl
    simp only [go_sem, simprocAttr, hGl, hbig, hGf]
    have hG1l : (GL0 ++ [b]).length = k + 1 := by simp [hGl]
    have hG1k : (GL0 ++ [b])[k]? = some b := by rw [List.getElem?_append_right (by omega), hGl, Nat.sub_self]; rfl
    rw [show AObj.grow 1 (k + 1) = AObj.grow 1 (GL0 ++ [b]).length by rw [hG1l]]
    generalize hG1 : GL0 ++ [b] = G1 at hGf hG1l hG1k hGs
    have hkW : ∀ (k kc : Nat) ss (gl : List Bool) (cs : List AV), (∀ x ∈ cs, ∀ n, Ids n x) → IdsS (σ ++ (([AObj.row (encTask t), AObj.map (List.map ofE p), AObj.map (encW ss), AObj.row [AV.map (σ.length + 2), AV.slice (.grow (σ.length + 4)) (List.map encL ss), AV.ref (σ.length + (6 + k)) 1 0 kc, AV.slice (.grow (σ.length + 5)) (List.map encB gl)], AObj.grow 1 (@List.length (List Int) ss), AObj.grow 1 (@List.length Bool gl)] ++ (List.replicate k AObj.dead ++ [AObj.row cs])))).length (σ ++ (([AObj.row (encTask t), AObj.map (List.map ofE p), AObj.map (encW ss), AObj.row [AV.map (σ.length + 2), AV.slice (.grow (σ.length + 4)) (List.map encL ss), AV.ref (σ.length + (6 + k)) 1 0 kc, AV.slice (.grow (σ.length + 5)) (List.map encB gl)], AObj.grow 1 (@List.length (List Int) ss), AObj.grow 1 (@List.length Bool gl)] ++ (List.replicate k AObj.dead ++ [AObj.row cs])))) := fun k kc ss gl cs hcs => by
     have := hWS k kc ss gl cs [] hcs (by simp)
     rwa [List.append_nil] at this
    refine Gh.of (s' := [(1, .slice tok (g.map encL)), (3, .ptr σ.length 0), (9, .map (σ.length + 1)), (14, .ptr (σ.length + 3) 0), (15, .bool sh0), (16, .bool we0), (17, .int .i64 (k : Nat)), (18, .slice .unk (s.map Ahl.encI))]) (σ' := σ ++ (([AObj.row (encTask t), AObj.map (List.map ofE p), AObj.map (encW ss), AObj.row [AV.map (σ.length + 2), AV.slice (.grow (σ.length + 4)) (List.map encL ss), AV.ref (σ.length + (6 + k)) 1 0 k, AV.slice (.grow (σ.length + 5)) (List.map encB G1)], AObj.grow 1 (@List.length (List Int) ss), AObj.grow 1 (@List.length Bool G1)] ++ (List.replicate k AObj.dead ++ [AObj.row cs])))) (ghL0 (hkW _ _ _ _ _ hcsI)) ?_
    simp only [go_sem, simprocAttr, cg6, cs6, rk_get, rk_set, hcsl, hbig24]
    rw [show (List.replicate k AObj.dead).length + 1 + 1 + 1 + 1 + 1 + 1 + 1 = 6 + (k + 1) by simp; omega, ← rk_succ, show [[AV.slice Tok.nil []]].flatten = [AV.slice Tok.nil []] from rfl]
    have hcsI2 : ∀ x ∈ cs ++ [AV.slice .nil []], ∀ n, Ids n x := fun x hx n => by
     rcases List.mem_append.1 hx with hx | hx
     ·exact hcsI x hx n
     ·rw [List.mem_singleton] at hx; subst hx; exact ids_nil _ (by simp)
    refine Gh.of (s' := [(1, .slice tok (g.map encL)), (3, .ptr σ.length 0), (9, .map (σ.length + 1)), (14, .ptr (σ.length + 3) 0), (15, .bool sh0), (16, .bool we0), (17, .int .i64 (k : Nat)), (18, .slice .unk (s.map Ahl.encI))]) (σ' := σ ++ (([AObj.row (encTask t), AObj.map (List.map ofE p), AObj.map (encW ss), AObj.row [AV.map (σ.length + 2), AV.slice (.grow (σ.length + 4)) (List.map encL ss), AV.ref (σ.length + (6 + (k + 1))) 1 0 (k + 1), AV.slice (.grow (σ.length + 5)) (List.map encB G1)], AObj.grow 1 (@List.length (List Int) ss), AObj.grow 1 (@List.length Bool G1)] ++ (List.replicate (k + 1) AObj.dead ++ [AObj.row (cs ++ [AV.slice .nil []])])))) (ghL0 (hkW _ _ _ _ _ hcsI2)) ?_
    have hpr : ∀ z ∈ p.map (·.1), risingB t.facts.length (-1) z = true := fun z hz => by
     obtain ⟨u, hu, rfl⟩ := List.mem_map.1 hz
     obtain ⟨j, hj⟩ := List.getElem?_of_mem hu
     exact (entB_parts (entB_get hpol hj)).1
    obtain ⟨fi, hfi⟩ := find_of s p 0 fun z hz => key_apart (n := t.facts.length) (by omega) hpr hsr z.1 (List.mem_map.2 ⟨z, hz, rfl⟩)
    cases we0
    ·simp only [go_sem, simprocAttr, hG1k, encB]
     refine (key_spec s .unk _ (by omega)).is ?_
     cases hpg : polG p s with
     | none =>
      rw [hpg] at hfi hsh
      simp only [Option.map_none, Option.isSome_none, Bool.false_or] at hfi hsh
      have hNs : N = ss := by rw [hstp]; unfold nxP; rw [hpg]; rfl
      have hcN : chP t g p N s = [] := by unfold chP; rw [hpg]
      rw [hcN] at hCs
      have hcf : (CHp t g p N (k + 1)).map chV = cs ++ [chV []] := by rw [hCs, List.map_append, hcs]; rfl
      have hgh : ∀ (sl : Slots), Ghost σ.length 271 sl (σ ++ (([AObj.row (encTask t), AObj.map (List.map ofE p), AObj.map (encW ss), AObj.row [AV.map (σ.length + 2), AV.slice (.grow (σ.length + 4)) (List.map encL ss), AV.ref (σ.length + (6 + (k + 1))) 1 0 (k + 1), AV.slice (.grow (σ.length + 5)) (List.map encB G1)], AObj.grow 1 (@List.length (List Int) ss), AObj.grow 1 (@List.length Bool G1)] ++ (List.replicate (k + 1) AObj.dead ++ [AObj.row (cs ++ [AV.slice .nil []])])))) sl (σ ++ (([AObj.row (encTask t), AObj.map (List.map ofE p), AObj.map (encW ss), AObj.row [AV.map (σ.length + 2), AV.slice (.grow (σ.length + 4)) (List.map encL ss), AV.ref (σ.length + (6 + (k + 1))) 1 0 (k + 1), AV.slice (.grow (σ.length + 5)) (List.map encB G1)], AObj.grow 1 (@List.length (List Int) ss), AObj.grow 1 (@List.length Bool G1)] ++ (List.replicate (k + 1) AObj.dead ++ [AObj.row (cs ++ [chV []])])))) := fun sl => by
       have := Ghost.rewk (n0 := σ.length) (nt := 271) (s := sl) (σ := σ ++ (([AObj.row (encTask t), AObj.map (List.map ofE p), AObj.map (encW ss), AObj.row [AV.map (σ.length + 2), AV.slice (.grow (σ.length + 4)) (List.map encL ss), AV.ref (σ.length + (6 + (k + 1))) 1 0 (k + 1), AV.slice (.grow (σ.length + 5)) (List.map encB G1)], AObj.grow 1 (@List.length (List Int) ss), AObj.grow 1 (@List.length Bool G1)] ++ (List.replicate (k + 1) AObj.dead ++ [AObj.row (cs ++ [AV.slice .nil []])])))) (σ.length + (6 + (k + 1))) (xs := cs ++ [AV.slice .nil []]) (ys := cs ++ [chV []]) (by simp only [List.cons_append, List.nil_append, g_get, cg6, rk_get]) (WkL.snoc (Wk.unk _ _) _)
       simpa only [List.cons_append, List.nil_append, g_set, cs6, rk_set] using this
      cases sh0
      ·simp only [go_sem, simprocAttr, hfi]
       refine hK _ _ (k + 1) (by rw [hN, hNs]; omega) (by omega) ?_
       rw [hN, hw0, hsh, hwe, hGs, hcf, hNs]
       simp only [Bool.false_and, Bool.false_or, Bool.true_or]
       refine Ghost.trans (hgh _) ?_
       simp only [List.cons_append, List.nil_append]
       exact ghL0 (hkW _ _ _ _ _ (by rw [← hcf]; exact hchV _))
      ·simp only [go_sem, simprocAttr, hfi, hG1k, encB]
       refine hK _ _ (k + 1) (by rw [hN, hNs]; omega) (by omega) ?_
       rw [hN, hw0, hsh, hwe, hGs, hcf, hNs]
       simp only [Bool.true_and, Bool.false_or, Bool.true_or]
       refine Ghost.trans (hgh _) ?_
       simp only [List.cons_append, List.nil_append]
       exact ghL0 (hkW _ _ _ _ _ (by rw [← hcf]; exact hchV _))
     | some n =>
      rw [hpg] at hfi hsh
      simp only [Option.map_some, Option.isSome_some, Bool.true_or, Bool.and_true] at hfi hsh
      obtain ⟨hn0, hn1, _, hna, _⟩ := polG_ok hpol hpg
      obtain ⟨l, hgx⟩ := get_ex hn1
      have hgrp : grp g n.toNat = l := by unfold grp; rw [List.getD_eq_getElem?_getD, hgx]; rfl
      obtain ⟨c0, c1, c2, c3⟩ := grp_ok hch hn1
      rw [hgrp] at c0 c1 c2 c3 hna
      have hll2 := hg.2 l c0
      simp only [go_sem, simprocAttr, hfi, hgx, hn0, encL, encTask]
      refine ⟨_, pouts_spec t l s .unk .unk _ hb.tb hSB hEO (by omega) c1 (by have := hSB.acts; omega) c2 hsr, ?_⟩
      unfold outR
      rw [if_pos hna]
      simp only [go_sem, simprocAttr, encTask]
      rw [show (List.replicate (k + 1) AObj.dead).length + 1 + 1 + 1 + 1 + 1 + 1 + 1 = 6 + (k + 1 + 1) by simp; omega]
      have hNO : N = addAll ss (outsL t l s) := by rw [hstp]; unfold nxP; rw [hpg]; show addAll ss (outsL t (grp g n.toNat) s) = _; rw [hgrp]
      have hcN : chP t g p N s = [(n.toNat, (outsL t l s).map N.idxOf)] := by unfold chP; rw [hpg]; show [(n.toNat, (outsL t (grp g n.toNat) s).map N.idxOf)] = _; rw [hgrp]
      rw [hcN] at hCs
      have hol : (outsL t l s).length ≤ 256 := by
       have h1 : (outsL t l s).Nodup := (outs_strict t l s).imp fun {a b} q e => by subst e; exact absurd q (by unfold ltL; rw [cmpInts_refl]; omega)
       have := nodup_sub_len h1 (m := N) fun y hy => by rw [hNO]; exact mem_addAll.2 (.inr hy)
       omega
      have hor : ∀ y ∈ outsL t l s, risingB t.facts.length (-1) y = true := outs_rising hEO hsr c2
      generalize outsL t l s = O at hNO hol hor hCs hcN
      have hwe2 := hwe
      simp only [Bool.false_or, Bool.true_or] at hwe2
      obtain ⟨w1, hw1⟩ : ∃ w1, w1 = weakB t (N.take (k + 1)) := ⟨_, rfl⟩
      rw [← hw1] at hwe2
      have hJS : ∀ ss' c j, IdsS (σ ++ ((([AObj.row (encTask t), AObj.map (List.map ofE p), AObj.map (encW ss'), AObj.row [AV.map (σ.length + 2), AV.slice (.grow (σ.length + 4)) (List.map encL ss'), AV.ref (σ.length + (6 + (k + 1))) 1 0 (k + 1), AV.slice (.grow (σ.length + 5)) (List.map encB G1)], AObj.grow 1 (@List.length (List Int) ss'), AObj.grow 1 (@List.length Bool G1)] ++ (List.replicate (k + 1) AObj.dead ++ [AObj.row (cs ++ [AV.slice .nil []])]))) ++ [AObj.row [.int .i64 n, .slice (.grow (σ.length + (6 + (k + 1 + 2)))) (List.map encNt c)], .grow 1 j])).length (σ ++ ((([AObj.row (encTask t), AObj.map (List.map ofE p), AObj.map (encW ss'), AObj.row [AV.map (σ.length + 2), AV.slice (.grow (σ.length + 4)) (List.map encL ss'), AV.ref (σ.length + (6 + (k + 1))) 1 0 (k + 1), AV.slice (.grow (σ.length + 5)) (List.map encB G1)], AObj.grow 1 (@List.length (List Int) ss'), AObj.grow 1 (@List.length Bool G1)] ++ (List.replicate (k + 1) AObj.dead ++ [AObj.row (cs ++ [AV.slice .nil []])]))) ++ [AObj.row [.int .i64 n, .slice (.grow (σ.length + (6 + (k + 1 + 2)))) (List.map encNt c)], .grow 1 j])) := fun ss' c j => hWS _ _ _ _ _ _ hcsI2 (by
       intro o ho
       simp only [List.mem_cons, List.not_mem_nil, or_false] at ho
       rcases ho with rfl | rfl
       ·exact idsO_row (idsL_cons (.int _ _) (idsL_cons (ids_grow_map ids_encNt (by simp only [List.length_cons, List.length_nil]; omega)) idsL_nil))
       ·trivial)
      refine Gh.of (s' := [(1, .slice tok (g.map encL)), (3, .ptr σ.length 0), (9, .map (σ.length + 1)), (14, .ptr (σ.length + 3) 0), (15, .bool sh0), (16, .bool w1), (17, .int .i64 (k : Nat)), (21, .slice .unk (O.map encL)), (23, .ptr (σ.length + (6 + (k + 1 + 1))) 0)])
       (σ' := σ ++ ((([AObj.row (encTask t), AObj.map (List.map ofE p), AObj.map (encW ss), AObj.row [AV.map (σ.length + 2), AV.slice (.grow (σ.length + 4)) (List.map encL ss), AV.ref (σ.length + (6 + (k + 1))) 1 0 (k + 1), AV.slice (.grow (σ.length + 5)) (List.map encB G1)], AObj.grow 1 (@List.length (List Int) ss), AObj.grow 1 (@List.length Bool G1)] ++ (List.replicate (k + 1) AObj.dead ++ [AObj.row (cs ++ [AV.slice .nil []])]))) ++ [AObj.row [.int .i64 n, .slice (.grow (σ.length + (6 + (k + 1 + 2)))) (List.map encNt [])], .grow 1 0])) ?_ ?_
      ·refine Ghost.trans (tokJ σ _ _ _ _ _ _ _ n (k + 1)) ?_
       refine Ghost.trans (Ghost.weak 21 (.slice .unk (O.map encL)) (by simpa [lk] using Wk.lfu .fresh O)) ?_
       have := hJS ss [] 0
       simp only [List.cons_append, List.nil_append, List.append_assoc] at this ⊢
       rw [hwe2]
       refine Ghost.keepL0 (k := 6 + (k + 1 + 3)) _ (by simp; omega) (Nat.le_refl _) ?_ this
       exact tellT
      simp only [go_sem, simprocAttr]
      refine wpc_while (fun (j : Nat) => [(1, .slice tok (g.map encL)), (3, .ptr σ.length 0), (9, .map (σ.length + 1)), (14, .ptr (σ.length + 3) 0), (15, .bool sh0), (16, .bool w1), (17, .int .i64 (k : Nat)), (23, .ptr (σ.length + (6 + (k + 1 + 1))) 0), (198, .slice .unk (O.map encL)), (199, .int .i64 O.length), (200, .int .i64 (j : Nat))])
       (fun j => σ ++ ((([AObj.row (encTask t), AObj.map (List.map ofE p), AObj.map (encW (addAll ss (O.take j))), AObj.row [AV.map (σ.length + 2), AV.slice (.grow (σ.length + 4)) (List.map encL (addAll ss (O.take j))), AV.ref (σ.length + (6 + (k + 1))) 1 0 (k + 1), AV.slice (.grow (σ.length + 5)) (List.map encB G1)], AObj.grow 1 (@List.length (List Int) (addAll ss (O.take j))), AObj.grow 1 (@List.length Bool G1)] ++ (List.replicate (k + 1) AObj.dead ++ [AObj.row (cs ++ [AV.slice .nil []])]))) ++ [AObj.row [.int .i64 n, .slice (.grow (σ.length + (6 + (k + 1 + 2)))) (List.map encNt ((O.take j).map N.idxOf))], .grow 1 j])) (fun j => j ≤ O.length) (fun j => O.length - j) 0 (Nat.zero_le _) ?_ ?_
      ·have := hJS ss [] 0
       simp only [List.cons_append, List.nil_append, List.append_assoc] at this ⊢
       refine Ghost.keepL0 (k := 6 + (k + 1 + 3)) _ (by simp; omega) (Nat.le_refl _) ?_ this
       exact tellT
      intro j hj K3 hK3 hE3 hR3
      by_cases h : j < O.length
      ·obtain ⟨x, hx⟩ := get_ex h
       have hlt : ((j : Int) < (O.length : Int)) := by omega
       have hw2 : IntKind.i64.wrap ((j : Int) + 1) = ((j + 1 : Nat) : Int) := by rw [wrap_ok (by omega)]; omega
       have hbig2 : bigLen (j + 1) 8 := big_ok (by omega) (by omega)
       have hxr := hor x (List.mem_of_getElem? hx)
       have hpj : Pre (addAll ss (O.take j)) N := by rw [hNO]; exact pre_take ss O j
       have hpj1 : Pre (addAll ss (O.take (j + 1))) N := by rw [hNO]; exact pre_take ss O (j + 1)
       have hjl := hpj.len
       rw [addAll_take hx] at hpj1
       have hidx : (addS (addAll ss (O.take j)) x).idxOf x = N.idxOf x := (hpj1.idx (mem_addS.2 (.inr rfl))).symm
       have hlj : (((O.take j).map N.idxOf).map encNt).length = j := by simp; omega
       have hfj : ((O.take j).map N.idxOf).map encNt ++ [[AV.int .i64 ((N.idxOf x : Nat) : Int)]] = ((O.take (j + 1)).map N.idxOf).map encNt := by
        rw [take_succ' hx, List.map_append, List.map_append]; rfl
       simp only [go_sem, simprocAttr, hlt, hx, encL, cg6, rk_get1, rk_get2]
       refine ⟨_, _, ofWK _ _ _ _ _ (addAll ss (O.take j)) x σ _ (by have := hn8 x hxr; omega) (key_apart (n := t.facts.length) (by omega) (fun y hy => hNr y (hpj.mem hy)) hxr) (by omega), ?_⟩
       rw [hidx]
       simp only [go_sem, simprocAttr, cg6, rk_get1, rk_get2, cs6, rk_set1, rk_set2, hlj, hbig2, hfj, hw2]
       refine hK3 _ _ (j + 1) (by omega) (by omega) ?_
       rw [addAll_take hx]
       have := hJS (addS (addAll ss (O.take j)) x) ((O.take (j + 1)).map N.idxOf) (j + 1)
       simp only [List.cons_append, List.nil_append, List.append_assoc] at this ⊢
       refine Ghost.keepL0 (k := 6 + (k + 1 + 3)) _ (by simp; omega) (Nat.le_refl _) ?_ this
       exact tellT
      ·have hlt : ¬ ((j : Int) < (O.length : Int)) := by omega
       rw [List.take_of_length_le (by omega), ← hNO]
       have hch1 : AV.slice .unk [[AV.int .i64 n, AV.slice .unk ((O.map N.idxOf).map encNt)]] = chV [(n.toNat, O.map N.idxOf)] := by
        unfold chV
        rw [List.map_singleton, encCo, show ((n.toNat : Nat) : Int) = n by omega]
       have hset : (cs ++ [AV.slice .nil []]).set k (AV.slice .unk [[AV.int .i64 n, AV.slice .unk ((O.map N.idxOf).map encNt)]]) = cs ++ [chV [(n.toNat, O.map N.idxOf)]] := by
        rw [hch1, List.set_append_right _ _ (by omega), hcsl, Nat.sub_self]; rfl
       simp only [go_sem, simprocAttr, hlt, hE3]
       refine Gh.of (Ghost.rewk (σ.length + (6 + (k + 1 + 1))) (xs := [.int .i64 n, .slice (.grow (σ.length + (6 + (k + 1 + 2)))) ((O.map N.idxOf).map encNt)]) (ys := [.int .i64 n, .slice .unk ((O.map N.idxOf).map encNt)]) (by rw [g_get, cg6, rk_get1]; rfl) (.cons (.refl _) (.cons (Wk.unk _ _) .nil))) ?_
       have hkk : k < k + 1 := by omega
       have hkl : k + 1 ≤ (cs ++ [AV.slice .nil []]).length := by simp [hcsl]
       simp only [go_sem, simprocAttr, cg6, cs6, rk_get, rk_set, rk_get1, rk_set1, hset, hkk, hkl]
       have hcf : (CHp t g p N (k + 1)).map chV = cs ++ [chV [(n.toNat, O.map N.idxOf)]] := by rw [hCs, List.map_append, hcs]; rfl
       have hk1N : k + 1 ≤ N.length := by
        have := (pre_addAll O ss).len
        rw [← hNO] at this; omega
       refine ⟨by omega, ?_⟩
       refine hK _ _ (k + 1) (by rw [hN]; exact hk1N) (by omega) ?_
       rw [hN, hw0, hsh, ← hw1, hGs, hcf]
       rw [show (List.replicate (k + 1) AObj.dead ++ [AObj.row (cs ++ [chV [(n.toNat, O.map N.idxOf)]]), AObj.row [.int .i64 n, .slice .unk ((O.map N.idxOf).map encNt)], AObj.grow 1 j]) = (List.replicate (k + 1) AObj.dead ++ [AObj.row (cs ++ [chV [(n.toNat, O.map N.idxOf)]])]) ++ [AObj.row [.int .i64 n, .slice .unk ((O.map N.idxOf).map encNt)], AObj.grow 1 j] by simp]
       refine Ghost.keepL (g := [AObj.row [.int .i64 n, .slice .unk ((O.map N.idxOf).map encNt)], AObj.grow 1 j]) (k := 6 + (k + 1 + 1)) _ (by simp; omega) (Nat.le_refl _) ?_ (hkW (k + 1) (k + 1) N G1 _ (by rw [← hcf]; exact hchV _))
       exact tellT
    ·simp only [go_sem, simprocAttr]
     refine (key_spec s .unk _ (by omega)).is ?_
     cases hpg : polG p s with
     | none =>
      rw [hpg] at hfi hsh
      simp only [Option.map_none, Option.isSome_none, Bool.false_or] at hfi hsh
      have hNs : N = ss := by rw [hstp]; unfold nxP; rw [hpg]; rfl
      have hcN : chP t g p N s = [] := by unfold chP; rw [hpg]
      rw [hcN] at hCs
      have hcf : (CHp t g p N (k + 1)).map chV = cs ++ [chV []] := by rw [hCs, List.map_append, hcs]; rfl
      have hgh : ∀ (sl : Slots), Ghost σ.length 271 sl (σ ++ (([AObj.row (encTask t), AObj.map (List.map ofE p), AObj.map (encW ss), AObj.row [AV.map (σ.length + 2), AV.slice (.grow (σ.length + 4)) (List.map encL ss), AV.ref (σ.length + (6 + (k + 1))) 1 0 (k + 1), AV.slice (.grow (σ.length + 5)) (List.map encB G1)], AObj.grow 1 (@List.length (List Int) ss), AObj.grow 1 (@List.length Bool G1)] ++ (List.replicate (k + 1) AObj.dead ++ [AObj.row (cs ++ [AV.slice .nil []])])))) sl (σ ++ (([AObj.row (encTask t), AObj.map (List.map ofE p), AObj.map (encW ss), AObj.row [AV.map (σ.length + 2), AV.slice (.grow (σ.length + 4)) (List.map encL ss), AV.ref (σ.length + (6 + (k + 1))) 1 0 (k + 1), AV.slice (.grow (σ.length + 5)) (List.map encB G1)], AObj.grow 1 (@List.length (List Int) ss), AObj.grow 1 (@List.length Bool G1)] ++ (List.replicate (k + 1) AObj.dead ++ [AObj.row (cs ++ [chV []])])))) := fun sl => by
       have := Ghost.rewk (n0 := σ.length) (nt := 271) (s := sl) (σ := σ ++ (([AObj.row (encTask t), AObj.map (List.map ofE p), AObj.map (encW ss), AObj.row [AV.map (σ.length + 2), AV.slice (.grow (σ.length + 4)) (List.map encL ss), AV.ref (σ.length + (6 + (k + 1))) 1 0 (k + 1), AV.slice (.grow (σ.length + 5)) (List.map encB G1)], AObj.grow 1 (@List.length (List Int) ss), AObj.grow 1 (@List.length Bool G1)] ++ (List.replicate (k + 1) AObj.dead ++ [AObj.row (cs ++ [AV.slice .nil []])])))) (σ.length + (6 + (k + 1))) (xs := cs ++ [AV.slice .nil []]) (ys := cs ++ [chV []]) (by simp only [List.cons_append, List.nil_append, g_get, cg6, rk_get]) (WkL.snoc (Wk.unk _ _) _)
       simpa only [List.cons_append, List.nil_append, g_set, cs6, rk_set] using this
      cases sh0
      ·simp only [go_sem, simprocAttr, hfi]
       refine hK _ _ (k + 1) (by rw [hN, hNs]; omega) (by omega) ?_
       rw [hN, hw0, hsh, hwe, hGs, hcf, hNs]
       simp only [Bool.false_and, Bool.false_or, Bool.true_or]
       refine Ghost.trans (hgh _) ?_
       simp only [List.cons_append, List.nil_append]
       exact ghL0 (hkW _ _ _ _ _ (by rw [← hcf]; exact hchV _))
      ·simp only [go_sem, simprocAttr, hfi, hG1k, encB]
       refine hK _ _ (k + 1) (by rw [hN, hNs]; omega) (by omega) ?_
       rw [hN, hw0, hsh, hwe, hGs, hcf, hNs]
       simp only [Bool.true_and, Bool.false_or, Bool.true_or]
       refine Ghost.trans (hgh _) ?_
       simp only [List.cons_append, List.nil_append]
       exact ghL0 (hkW _ _ _ _ _ (by rw [← hcf]; exact hchV _))
     | some n =>
      rw [hpg] at hfi hsh
      simp only [Option.map_some, Option.isSome_some, Bool.true_or, Bool.and_true] at hfi hsh
      obtain ⟨hn0, hn1, _, hna, _⟩ := polG_ok hpol hpg
      obtain ⟨l, hgx⟩ := get_ex hn1
      have hgrp : grp g n.toNat = l := by unfold grp; rw [List.getD_eq_getElem?_getD, hgx]; rfl
      obtain ⟨c0, c1, c2, c3⟩ := grp_ok hch hn1
      rw [hgrp] at c0 c1 c2 c3 hna
      have hll2 := hg.2 l c0
      simp only [go_sem, simprocAttr, hfi, hgx, hn0, encL, encTask]
      refine ⟨_, pouts_spec t l s .unk .unk _ hb.tb hSB hEO (by omega) c1 (by have := hSB.acts; omega) c2 hsr, ?_⟩
      unfold outR
      rw [if_pos hna]
      simp only [go_sem, simprocAttr, encTask]
      rw [show (List.replicate (k + 1) AObj.dead).length + 1 + 1 + 1 + 1 + 1 + 1 + 1 = 6 + (k + 1 + 1) by simp; omega]
      have hNO : N = addAll ss (outsL t l s) := by rw [hstp]; unfold nxP; rw [hpg]; show addAll ss (outsL t (grp g n.toNat) s) = _; rw [hgrp]
      have hcN : chP t g p N s = [(n.toNat, (outsL t l s).map N.idxOf)] := by unfold chP; rw [hpg]; show [(n.toNat, (outsL t (grp g n.toNat) s).map N.idxOf)] = _; rw [hgrp]
      rw [hcN] at hCs
      have hol : (outsL t l s).length ≤ 256 := by
       have h1 : (outsL t l s).Nodup := (outs_strict t l s).imp fun {a b} q e => by subst e; exact absurd q (by unfold ltL; rw [cmpInts_refl]; omega)
       have := nodup_sub_len h1 (m := N) fun y hy => by rw [hNO]; exact mem_addAll.2 (.inr hy)
       omega
      have hor : ∀ y ∈ outsL t l s, risingB t.facts.length (-1) y = true := outs_rising hEO hsr c2
      generalize outsL t l s = O at hNO hol hor hCs hcN
      have hwe2 := hwe
      simp only [Bool.false_or, Bool.true_or] at hwe2
      obtain ⟨w1, hw1⟩ : ∃ w1, w1 = weakB t (N.take (k + 1)) := ⟨_, rfl⟩
      rw [← hw1] at hwe2
      have hJS : ∀ ss' c j, IdsS (σ ++ ((([AObj.row (encTask t), AObj.map (List.map ofE p), AObj.map (encW ss'), AObj.row [AV.map (σ.length + 2), AV.slice (.grow (σ.length + 4)) (List.map encL ss'), AV.ref (σ.length + (6 + (k + 1))) 1 0 (k + 1), AV.slice (.grow (σ.length + 5)) (List.map encB G1)], AObj.grow 1 (@List.length (List Int) ss'), AObj.grow 1 (@List.length Bool G1)] ++ (List.replicate (k + 1) AObj.dead ++ [AObj.row (cs ++ [AV.slice .nil []])]))) ++ [AObj.row [.int .i64 n, .slice (.grow (σ.length + (6 + (k + 1 + 2)))) (List.map encNt c)], .grow 1 j])).length (σ ++ ((([AObj.row (encTask t), AObj.map (List.map ofE p), AObj.map (encW ss'), AObj.row [AV.map (σ.length + 2), AV.slice (.grow (σ.length + 4)) (List.map encL ss'), AV.ref (σ.length + (6 + (k + 1))) 1 0 (k + 1), AV.slice (.grow (σ.length + 5)) (List.map encB G1)], AObj.grow 1 (@List.length (List Int) ss'), AObj.grow 1 (@List.length Bool G1)] ++ (List.replicate (k + 1) AObj.dead ++ [AObj.row (cs ++ [AV.slice .nil []])]))) ++ [AObj.row [.int .i64 n, .slice (.grow (σ.length + (6 + (k + 1 + 2)))) (List.map encNt c)], .grow 1 j])) := fun ss' c j => hWS _ _ _ _ _ _ hcsI2 (by
       intro o ho
       simp only [List.mem_cons, List.not_mem_nil, or_false] at ho
       rcases ho with rfl | rfl
       ·exact idsO_row (idsL_cons (.int _ _) (idsL_cons (ids_grow_map ids_encNt (by simp only [List.length_cons, List.length_nil]; omega)) idsL_nil))
       ·trivial)
      refine Gh.of (s' := [(1, .slice tok (g.map encL)), (3, .ptr σ.length 0), (9, .map (σ.length + 1)), (14, .ptr (σ.length + 3) 0), (15, .bool sh0), (16, .bool w1), (17, .int .i64 (k : Nat)), (21, .slice .unk (O.map encL)), (23, .ptr (σ.length + (6 + (k + 1 + 1))) 0)])
       (σ' := σ ++ ((([AObj.row (encTask t), AObj.map (List.map ofE p), AObj.map (encW ss), AObj.row [AV.map (σ.length + 2), AV.slice (.grow (σ.length + 4)) (List.map encL ss), AV.ref (σ.length + (6 + (k + 1))) 1 0 (k + 1), AV.slice (.grow (σ.length + 5)) (List.map encB G1)], AObj.grow 1 (@List.length (List Int) ss), AObj.grow 1 (@List.length Bool G1)] ++ (List.replicate (k + 1) AObj.dead ++ [AObj.row (cs ++ [AV.slice .nil []])]))) ++ [AObj.row [.int .i64 n, .slice (.grow (σ.length + (6 + (k + 1 + 2)))) (List.map encNt [])], .grow 1 0])) ?_ ?_
      ·refine Ghost.trans (tokJ σ _ _ _ _ _ _ _ n (k + 1)) ?_
       refine Ghost.trans (Ghost.weak 21 (.slice .unk (O.map encL)) (by simpa [lk] using Wk.lfu .fresh O)) ?_
       have := hJS ss [] 0
       simp only [List.cons_append, List.nil_append, List.append_assoc] at this ⊢
       rw [hwe2]
       refine Ghost.keepL0 (k := 6 + (k + 1 + 3)) _ (by simp; omega) (Nat.le_refl _) ?_ this
       exact tellT
      simp only [go_sem, simprocAttr]
      refine wpc_while (fun (j : Nat) => [(1, .slice tok (g.map encL)), (3, .ptr σ.length 0), (9, .map (σ.length + 1)), (14, .ptr (σ.length + 3) 0), (15, .bool sh0), (16, .bool w1), (17, .int .i64 (k : Nat)), (23, .ptr (σ.length + (6 + (k + 1 + 1))) 0), (198, .slice .unk (O.map encL)), (199, .int .i64 O.length), (200, .int .i64 (j : Nat))])
       (fun j => σ ++ ((([AObj.row (encTask t), AObj.map (List.map ofE p), AObj.map (encW (addAll ss (O.take j))), AObj.row [AV.map (σ.length + 2), AV.slice (.grow (σ.length + 4)) (List.map encL (addAll ss (O.take j))), AV.ref (σ.length + (6 + (k + 1))) 1 0 (k + 1), AV.slice (.grow (σ.length + 5)) (List.map encB G1)], AObj.grow 1 (@List.length (List Int) (addAll ss (O.take j))), AObj.grow 1 (@List.length Bool G1)] ++ (List.replicate (k + 1) AObj.dead ++ [AObj.row (cs ++ [AV.slice .nil []])]))) ++ [AObj.row [.int .i64 n, .slice (.grow (σ.length + (6 + (k + 1 + 2)))) (List.map encNt ((O.take j).map N.idxOf))], .grow 1 j])) (fun j => j ≤ O.length) (fun j => O.length - j) 0 (Nat.zero_le _) ?_ ?_
      ·have := hJS ss [] 0
       simp only [List.cons_append, List.nil_append, List.append_assoc] at this ⊢
       refine Ghost.keepL0 (k := 6 + (k + 1 + 3)) _ (by simp; omega) (Nat.le_refl _) ?_ this
       exact tellT
      intro j hj K3 hK3 hE3 hR3
      by_cases h : j < O.length
      ·obtain ⟨x, hx⟩ := get_ex h
       have hlt : ((j : Int) < (O.length : Int)) := by omega
       have hw2 : IntKind.i64.wrap ((j : Int) + 1) = ((j + 1 : Nat) : Int) := by rw [wrap_ok (by omega)]; omega
       have hbig2 : bigLen (j + 1) 8 := big_ok (by omega) (by omega)
       have hxr := hor x (List.mem_of_getElem? hx)
       have hpj : Pre (addAll ss (O.take j)) N := by rw [hNO]; exact pre_take ss O j
       have hpj1 : Pre (addAll ss (O.take (j + 1))) N := by rw [hNO]; exact pre_take ss O (j + 1)
       have hjl := hpj.len
       rw [addAll_take hx] at hpj1
       have hidx : (addS (addAll ss (O.take j)) x).idxOf x = N.idxOf x := (hpj1.idx (mem_addS.2 (.inr rfl))).symm
       have hlj : (((O.take j).map N.idxOf).map encNt).length = j := by simp; omega
       have hfj : ((O.take j).map N.idxOf).map encNt ++ [[AV.int .i64 ((N.idxOf x : Nat) : Int)]] = ((O.take (j + 1)).map N.idxOf).map encNt := by
        rw [take_succ' hx, List.map_append, List.map_append]; rfl
       simp only [go_sem, simprocAttr, hlt, hx, encL, cg6, rk_get1, rk_get2]
       refine ⟨_, _, ofWK _ _ _ _ _ (addAll ss (O.take j)) x σ _ (by have := hn8 x hxr; omega) (key_apart (n := t.facts.length) (by omega) (fun y hy => hNr y (hpj.mem hy)) hxr) (by omega), ?_⟩
       rw [hidx]
       simp only [go_sem, simprocAttr, cg6, rk_get1, rk_get2, cs6, rk_set1, rk_set2, hlj, hbig2, hfj, hw2]
       refine hK3 _ _ (j + 1) (by omega) (by omega) ?_
       rw [addAll_take hx]
       have := hJS (addS (addAll ss (O.take j)) x) ((O.take (j + 1)).map N.idxOf) (j + 1)
       simp only [List.cons_append, List.nil_append, List.append_assoc] at this ⊢
       refine Ghost.keepL0 (k := 6 + (k + 1 + 3)) _ (by simp; omega) (Nat.le_refl _) ?_ this
       exact tellT
      ·have hlt : ¬ ((j : Int) < (O.length : Int)) := by omega
       rw [List.take_of_length_le (by omega), ← hNO]
       have hch1 : AV.slice .unk [[AV.int .i64 n, AV.slice .unk ((O.map N.idxOf).map encNt)]] = chV [(n.toNat, O.map N.idxOf)] := by
        unfold chV
        rw [List.map_singleton, encCo, show ((n.toNat : Nat) : Int) = n by omega]
       have hset : (cs ++ [AV.slice .nil []]).set k (AV.slice .unk [[AV.int .i64 n, AV.slice .unk ((O.map N.idxOf).map encNt)]]) = cs ++ [chV [(n.toNat, O.map N.idxOf)]] := by
        rw [hch1, List.set_append_right _ _ (by omega), hcsl, Nat.sub_self]; rfl
       simp only [go_sem, simprocAttr, hlt, hE3]
       refine Gh.of (Ghost.rewk (σ.length + (6 + (k + 1 + 1))) (xs := [.int .i64 n, .slice (.grow (σ.length + (6 + (k + 1 + 2)))) ((O.map N.idxOf).map encNt)]) (ys := [.int .i64 n, .slice .unk ((O.map N.idxOf).map encNt)]) (by rw [g_get, cg6, rk_get1]; rfl) (.cons (.refl _) (.cons (Wk.unk _ _) .nil))) ?_
       have hkk : k < k + 1 := by omega
       have hkl : k + 1 ≤ (cs ++ [AV.slice .nil []]).length := by simp [hcsl]
       simp only [go_sem, simprocAttr, cg6, cs6, rk_get, rk_set, rk_get1, rk_set1, hset, hkk, hkl]
       have hcf : (CHp t g p N (k + 1)).map chV = cs ++ [chV [(n.toNat, O.map N.idxOf)]] := by rw [hCs, List.map_append, hcs]; rfl
       have hk1N : k + 1 ≤ N.length := by
        have := (pre_addAll O ss).len
        rw [← hNO] at this; omega
       refine ⟨by omega, ?_⟩
       refine hK _ _ (k + 1) (by rw [hN]; exact hk1N) (by omega) ?_
       rw [hN, hw0, hsh, ← hw1, hGs, hcf]
       rw [show (List.replicate (k + 1) AObj.dead ++ [AObj.row (cs ++ [chV [(n.toNat, O.map N.idxOf)]]), AObj.row [.int .i64 n, .slice .unk ((O.map N.idxOf).map encNt)], AObj.grow 1 j]) = (List.replicate (k + 1) AObj.dead ++ [AObj.row (cs ++ [chV [(n.toNat, O.map N.idxOf)]])]) ++ [AObj.row [.int .i64 n, .slice .unk ((O.map N.idxOf).map encNt)], AObj.grow 1 j] by simp]
       refine Ghost.keepL (g := [AObj.row [.int .i64 n, .slice .unk ((O.map N.idxOf).map encNt)], AObj.grow 1 j]) (k := 6 + (k + 1 + 1)) _ (by simp; omega) (Nat.le_refl _) ?_ (hkW (k + 1) (k + 1) N G1 _ (by rw [← hcf]; exact hchV _))
       exact tellT
   ·have hlt : ¬ ((k : Int) < ((gK (nxP t g p) t.init k).length : Int)) := by omega
    have hke : k = (gK (nxP t g p) t.init k).length := by omega
    have hwk := wldP_ok hEO hch hpol hri hfl8
    have hsF : ssP t g p = gK (nxP t g p) t.init k := by
     have := gK_stop (nx := nxP t g p) (s0 := t.init) (k := k) (by omega) (2 ^ t.facts.length - k)
     rwa [show k + (2 ^ t.facts.length - k) = 2 ^ t.facts.length by omega] at this
    have hkn : kindN t g p = kindOf (wldP t g p) (shutB t p (wldP t g p).ss) (weakB t (wldP t g p).ss) := rfl
    have hss : (wldP t g p).ss = gK (nxP t g p) t.init k := hsF
    have hgl : GLp t (gK (nxP t g p) t.init k) k = (wldP t g p).gl := by
     unfold GLp wldP; rw [List.take_of_length_le (by omega), ← hsF]
    have hch2 : CHp t g p (gK (nxP t g p) t.init k) k = (wldP t g p).ch := by
     unfold CHp wldP; rw [List.take_of_length_le (by omega), ← hsF]
    rw [hgl, hch2, ← hss, List.take_of_length_le (by rw [hss]; omega)]
    have hkN : k = (wldP t g p).ss.length := by rw [hss]; exact hke
    rw [← hss] at hlt
    generalize wldP t g p = w at hwk hkn hlt hkN
    have hwl := hwk.len
    have hwc := hwk.ch
    have hwg := hwk.gl
    have hIw : ∀ n, IdsO n (.row (encWorld w)) := fun n => idsO_row (idsL_cons .any (idsL_cons (ids_map ids_encL _) (idsL_cons (ids_map ids_encCh _) (idsL_cons (ids_map ids_encB _) idsL_nil))))
    have h4S : ∀ (l : Store), (∀ o ∈ l, ∀ n, IdsO n o) → IdsS (σ ++ (AObj.row (encTask t) :: .map (p.map ofE) :: .map (encW w.ss) :: .row (encWorld w) :: l)).length (σ ++ (AObj.row (encTask t) :: .map (p.map ofE) :: .map (encW w.ss) :: .row (encWorld w) :: l)) := fun l hl => idsS_app _ hσ fun o ho => by
     simp only [List.mem_cons] at ho
     rcases ho with rfl | rfl | rfl | rfl | ho
     ·exact idsO_row (ids_encTask t)
     ·exact ids_ofE _ _
     ·exact idsO_encW _ _
     ·exact hIw _
     ·exact hl o ho _
    simp only [go_sem, simprocAttr, hlt, hE]
    refine Gh.of (s' := [(14, .ptr (σ.length + 3) 0), (15, .bool (shutB t p w.ss)), (16, .bool (weakB t w.ss))]) (σ' := σ ++ [AObj.row (encTask t), .map (p.map ofE), .map (encW w.ss), .row (encWorld w)]) ?_ ?_
    ·refine Ghost.trans (Ghost.freezeRow (σ.length + 3) 2 (w.ch.map encCh) (by simp; rfl) rfl (cs := w.ch.map chV) (by rw [g_get, cg6, rk_get]) (by omega) (by simp; omega) ?_) ?_
     ·intro i e he
      rw [List.getElem?_map] at he
      obtain ⟨x, hx, rfl⟩ := Option.map_eq_some_iff.1 he
      refine ⟨rfl, fun j hj => ?_⟩
      obtain rfl : j = 0 := by omega
      rw [Nat.zero_add, Nat.mul_one, Nat.add_zero, List.getElem?_map, hx]; rfl
     ·simp only [g_set, cs6, rk_set, List.set_cons_succ, List.set_cons_zero]
      refine Ghost.trans (Ghost.rewk (σ.length + 3) (xs := [.map (σ.length + 2), .slice (.grow (σ.length + 4)) (w.ss.map encL), .slice .unk (w.ch.map encCh), .slice (.grow (σ.length + 5)) (w.gl.map encB)]) (ys := encWorld w) (by simp) (.cons (.any _) (.cons (Wk.unk _ _) (.cons (.refl _) (.cons (Wk.unk _ _) .nil))))) ?_
      simp only [g_set, List.set_cons_succ, List.set_cons_zero]
      refine Ghost.keepL (g := AObj.grow 1 w.ss.length :: AObj.grow 1 w.gl.length :: (List.replicate k AObj.dead ++ [AObj.dead])) (k := 4) [AObj.row (encTask t), .map (p.map ofE), .map (encW w.ss), .row (encWorld w)] rfl (Nat.le_refl _) ?_ (h4S [] (by simp))
      exact tellT
    have hDl := dIter_len w hwk w.ss.length
    have hnok := nearF_ok w (fun _ => true)
    have ret : ∀ v : Int, kindN t g p = v → ∀ (sl : Slots) (L : Store), lk sl 6 = .int .i64 v → lk sl 7 = .int .i64 0 → bodyK [.tmp 6, .tmp 7] σ.length 271 (isR (KindR t g p) σ) .ret sl (σ ++ L) := fun v hv sl L h6 h7 => by
     refine ret_gh2 (v := .int .i64 v) (x := .int .i64 0) (σ' := σ) (Ghost.keep _ (Nat.le_refl _) ⟨⟨by rw [h6]; exact .refl _, .int _ _⟩, ⟨by rw [h7]; exact .refl _, .int _ _⟩, trivial⟩ hσ) rfl (Nat.le_refl _) hσ (.int _ _) (.int _ _) ⟨by rw [hKR, hv], rfl⟩
    clear hE hR hK
    generalize shutB t p w.ss = sb at hkn
    generalize hwb : weakB t w.ss = wb at hkn
    cases sb
    ·cases wb
     ·simp only [go_sem, simprocAttr]
      exact ret 0 hkn _ _ rfl rfl
     ·simp only [go_sem, simprocAttr]
      exact ret 1 hkn _ _ rfl rfl
    ·simp only [go_sem, simprocAttr]
     refine (dist_spec w (σ.length + 3) _ (by simp) hwk).is ?_
     unfold kindOf at hkn
     generalize dIter w w.ss.length = far at hDl hkn
     simp only [go_sem, simprocAttr]
     refine (contI_spec far (-1) .fresh _ (by omega)).is ?_
     cases hcn : far.contains (-1)
     ·rw [hcn] at hkn
      simp only [go_sem, simprocAttr]
      exact ret 3 hkn _ _ rfl rfl
     ·rw [hcn] at hkn
      simp only [if_true] at hkn
      simp only [go_sem, simprocAttr, encWorld, aMkslice]
      refine ⟨Int.le_refl _, by omega, by omega, ?_⟩
      rw [rep_ab]
      have h5S : ∀ F : List Bool, IdsS (σ ++ [AObj.row (encTask t), .map (p.map ofE), .map (encW w.ss), .row (encWorld w), .row (F.map ab)]).length (σ ++ [AObj.row (encTask t), .map (p.map ofE), .map (encW w.ss), .row (encWorld w), .row (F.map ab)]) := fun F => h4S [.row (F.map ab)] (by intro o ho n; rw [List.mem_singleton] at ho; subst ho; exact ids_ab _)
      refine Gh.of (s' := [(14, .ptr (σ.length + 3) 0), (16, .bool wb), (26, .ref (σ.length + 4) 1 0 w.ss.length)]) (σ' := σ ++ [AObj.row (encTask t), .map (p.map ofE), .map (encW w.ss), .row (encWorld w), .row ((lst w.ss.length fun _ => false).map ab)]) (ghL0 (h5S _)) ?_
      simp only [go_sem, simprocAttr]
      refine wpc_while (fun (i : Nat) => [(14, .ptr (σ.length + 3) 0), (16, .bool wb), (26, .ref (σ.length + 4) 1 0 w.ss.length), (238, .int .i64 w.ss.length), (239, .int .i64 (i : Nat))])
       (fun i => σ ++ [AObj.row (encTask t), .map (p.map ofE), .map (encW w.ss), .row (encWorld w), .row ((lst w.ss.length (split (fun _ => true) (fun _ => false) i)).map ab)]) (fun i => i ≤ w.ss.length) (fun i => w.ss.length - i) 0 (Nat.zero_le _) ?_ ?_
      ·rw [lst_zero]; exact ghL0 (h5S _)
      intro i hi K hK hE hR
      by_cases h : i < w.ss.length
      ·have hlt : ((i : Int) < (w.ss.length : Int)) := by omega
       have hw1 : IntKind.i64.wrap ((i : Int) + 1) = ((i + 1 : Nat) : Int) := by rw [wrap_ok (by omega)]; omega
       have s1 := lst_set (N := w.ss.length) (fun _ => true) (fun _ => false) h
       have l1 : (lst w.ss.length (split (fun _ => true) (fun _ => false) i)).length = w.ss.length := lst_len _ _
       generalize lst w.ss.length (split (fun _ => true) (fun _ => false) i) = F1 at s1 l1
       have q1 : i + 1 ≤ F1.length := by omega
       simp only [go_sem, simprocAttr, hlt, h, q1, set_ab16, s1]
       refine hK _ _ (i + 1) (by omega) (by omega) ?_
       rw [hw1]
       exact ghL0 (h5S _)
      have hlt : ¬ ((i : Int) < (w.ss.length : Int)) := by omega
      rw [lst_full _ _ (by omega)]
      simp only [go_sem, simprocAttr, hlt, hE]
      refine (near_spec w (fun _ => true) (σ.length + 3) (σ.length + 4) _ (by simp) (by simp) hwk).is ?_
      simp only [go_sem, simprocAttr]
      clear hK hE hR hi h hlt
      refine wpc_while (fun (i : Nat) => [(14, .ptr (σ.length + 3) 0), (16, .bool wb), (28, .slice .fresh ((lst w.ss.length (nearF w fun _ => true)).map Ahl.encI)), (250, .int .i64 w.ss.length), (251, .int .i64 (i : Nat))])
       (fun i => σ ++ [AObj.row (encTask t), .map (p.map ofE), .map (encW w.ss), .row (encWorld w)]) (fun i => i ≤ w.ss.length ∧ ∀ j, j < i → (!goalB w j && decide (nearF w (fun _ => true) j < 0)) = false) (fun i => w.ss.length - i) 0 ⟨Nat.zero_le _, fun j hj => absurd hj (by omega)⟩ ?_ ?_
      ·refine Ghost.keepL (g := [AObj.row ((lst w.ss.length fun _ => true).map ab)]) (k := 4) [AObj.row (encTask t), .map (p.map ofE), .map (encW w.ss), .row (encWorld w)] rfl (Nat.le_refl _) ?_ (h4S [] (by simp))
       exact tellT
      rintro i ⟨hi, hno⟩ K hK hE hR
      by_cases h : i < w.ss.length
      ·obtain ⟨b, hb⟩ := get_ex (show i < w.gl.length by omega)
       have hgb : goalB w i = b := by unfold goalB; rw [List.getD_eq_getElem?_getD, hb]; rfl
       have hlt : ((i : Int) < (w.ss.length : Int)) := by omega
       have hw1 : IntKind.i64.wrap ((i : Int) + 1) = ((i + 1 : Nat) : Int) := by rw [wrap_ok (by omega)]; omega
       have hn := lst_get (nearF w fun _ => true) h
       have next : (!goalB w i && decide (nearF w (fun _ => true) i < 0)) = false → ∀ j, j < i + 1 → (!goalB w j && decide (nearF w (fun _ => true) j < 0)) = false := fun q j hj => by
        rcases Nat.lt_or_ge j i with r | r
        ·exact hno j r
        ·have : j = i := by omega
         subst this; exact q
       have bad : (!goalB w i && decide (nearF w (fun _ => true) i < 0)) = true → badB w = true := fun q => by
        unfold badB; exact List.any_eq_true.2 ⟨i, List.mem_range.2 h, q⟩
       rw [hgb] at next bad
       cases b
       ·generalize nearF w (fun _ => true) i = v at hn next bad
        by_cases hv : v < 0
        ·rw [bad (by rw [decide_eq_true hv]; rfl)] at hkn
         simp only [if_true] at hkn
         cases wb
         ·simp only [go_sem, simprocAttr, hlt, encWorld, hb, encB, hn, Ahl.encI, hv, hR]
          exact ret 0 hkn _ _ rfl rfl
         ·simp only [go_sem, simprocAttr, hlt, encWorld, hb, encB, hn, Ahl.encI, hv, hR]
          exact ret 1 hkn _ _ rfl rfl
        ·simp only [go_sem, simprocAttr, hlt, encWorld, hb, encB, hn, Ahl.encI, hv]
         refine hK _ _ (i + 1) ⟨by omega, next (by rw [decide_eq_false hv]; rfl)⟩ (by omega) ?_
         rw [hw1]
         exact ghL0 (h4S [] (by simp))
       ·simp only [go_sem, simprocAttr, hlt, encWorld, hb, encB]
        refine hK _ _ (i + 1) ⟨by omega, next rfl⟩ (by omega) ?_
        rw [hw1]
        exact ghL0 (h4S [] (by simp))
      ·have hlt : ¬ ((i : Int) < (w.ss.length : Int)) := by omega
       have hbd : badB w = false := by
        unfold badB
        rw [Bool.eq_false_iff]; intro q
        obtain ⟨j, hj, hq⟩ := List.any_eq_true.1 q
        rw [hno j (by have := List.mem_range.1 hj; omega)] at hq; simp at hq
       rw [hbd] at hkn
       simp only [go_sem, simprocAttr, hlt, hE]
       exact ret 2 hkn _ _ rfl rfl
end Go.Proofs.YtjmmldkailblmaaGreat
namespace Go.Proofs.YtjmmldkailblmaaGreat
open Go.Ahl
def lenS (g : List (List Int)) : Nat := (g.map List.length).sum
def few16B (t : FTask) (g : List (List Int)) : Bool := decide (g.length + lenS g ≤ 300) && (fewT 300 t && (decide (t.facts.length ≤ 7) || !(validB t)))
theorem lenS_take {g : List (List Int)} {i : Nat} {l : List Int} (h : g[i]? = some l) : lenS (g.take (i + 1)) = lenS (g.take i) + l.length := by
 unfold lenS; rw [take_succ' h, List.map_append, List.sum_append]; simp
theorem lenS_le (g : List (List Int)) (i : Nat) : lenS (g.take i) ≤ lenS g := by
 have : lenS g = lenS (g.take i) + lenS (g.drop i) := by
  unfold lenS; rw [← List.sum_append, ← List.map_append, List.take_append_drop]
 omega
def c_few16 : CCode := .seq (.ops [⟨some 2, .box (.tmp 0), none, []⟩, ⟨some 4, .move (.lit (.bool false)), none, []⟩]) (.seq (.ops [⟨some 7, .move (.tmp 1), none, []⟩, ⟨some 8, .blen 1 (.tmp 7), none, []⟩, ⟨some 5, .move (.tmp 8), none, []⟩]) (.seq (.seq (.ops [⟨some 6, .move (.lit (.int .i64 0)), none, []⟩]) (.block 0 (.loop (.seq (.seq (.ops [⟨some 9, .move (.tmp 6), none, []⟩, ⟨some 10, .move (.tmp 1), none, []⟩, ⟨some 11, .blen 1 (.tmp 10), none, []⟩, ⟨some 12, .bin .lss .none (.tmp 9) (.tmp 11), none, []⟩, ⟨some 13, .move (.tmp 12), none, []⟩, ⟨some 14, .move (.tmp 5), some (some 13, true), []⟩, ⟨some 15, .bin .leq .none (.tmp 14) (.lit (.int .i64 300)), some (some 13, true), []⟩, ⟨some 16, .pick (.tmp 13) (.tmp 15) (.lit (.bool false)), none, []⟩]) (.cond (.tmp 16) .skip (.exit 0))) (.seq (.block 1 (.ops [⟨some 19, .move (.tmp 5), none, []⟩, ⟨some 20, .move (.tmp 1), none, []⟩, ⟨some 21, .move (.tmp 6), none, []⟩, ⟨some 22, .iaddr 1 (.tmp 20) (.tmp 21), none, []⟩, ⟨some 23, .load none (.tmp 22), none, []⟩, ⟨some 24, .blen 1 (.tmp 23), none, []⟩, ⟨some 25, .bin .add .none (.tmp 19) (.tmp 24), none, []⟩, ⟨some 5, .move (.tmp 25), none, []⟩])) (.ops [⟨some 17, .move (.tmp 6), none, []⟩, ⟨some 18, .bin .add .none (.tmp 17) (.lit (.int .i64 1)), none, []⟩, ⟨some 6, .move (.tmp 18), none, []⟩])))))) (.seq (.ops [⟨some 26, .move (.tmp 5), none, []⟩, ⟨some 27, .bin .leq .none (.tmp 26) (.lit (.int .i64 300)), none, []⟩, ⟨some 28, .move (.tmp 27), none, []⟩, ⟨some 29, .load (some 4) (.tmp 2), some (some 28, true), []⟩, ⟨some 30, .call (.lit (.func 35 [])) [.tmp 29, .lit (.int .i64 300)], some (some 28, true), []⟩, ⟨some 31, .pick (.tmp 28) (.tmp 30) (.lit (.bool false)), none, []⟩, ⟨some 32, .move (.tmp 31), none, []⟩, ⟨some 33, .faddr 0 (.tmp 2), some (some 32, true), []⟩, ⟨some 34, .load none (.tmp 33), some (some 32, true), []⟩, ⟨some 35, .blen 1 (.tmp 34), some (some 32, true), []⟩, ⟨some 36, .bin .leq .none (.tmp 35) (.lit (.int .i64 7)), some (some 32, true), []⟩, ⟨some 37, .move (.tmp 36), some (some 32, true), []⟩, ⟨some 38, .load (some 4) (.tmp 2), some (some 37, false), []⟩, ⟨some 39, .call (.lit (.func 12 [])) [.tmp 38], some (some 37, false), []⟩, ⟨some 40, .un .not (.tmp 39), some (some 37, false), []⟩, ⟨some 41, .pick (.tmp 37) (.lit (.bool true)) (.tmp 40), some (some 32, true), []⟩, ⟨some 42, .pick (.tmp 32) (.tmp 41) (.lit (.bool false)), none, []⟩, ⟨some 4, .move (.tmp 42), none, []⟩]) .ret)))
set_option maxRecDepth 20000 in
theorem few16_spec (t : FTask) (g : List (List Int)) (tok : Tok) (σ : Store) (ht : TB t) (hg : g.length ≤ 140737488355328 ∧ ∀ l ∈ g, l.length ≤ 140737488355328) :
  ACalls Tryz.prog 8 [.agg (encTask t), .slice tok (g.map encL)] σ (isR (.bool (few16B t g)) σ) := by
 refine ACalls.intro (rs := [(.tmp 4)]) (by kernel_rfl) { own := [], ghosts := [] } Tryz.func8 (c := Tryz.f8.body.getD .skip) (by kernel_rfl) (by decide) (by rw [show Tryz.f8.ntmps = 43 by kernel_rfl]; exact Nat.le_of_ble_eq_true rfl) (by kernel_rfl) ?_
 intro hσ hids
 rw [show comp Tryz.prog { own := [], ghosts := [] } (Tryz.f8.body.getD .skip) = c_few16 by kernel_rfl, show Tryz.f8.ntmps = 43 by kernel_rfl]
 unfold c_few16
 have hil : Ids σ.length (.slice tok (g.map encL)) := hids _ (by simp)
 have hσ1 := ids_grow hσ (ids_encTask t)
 have hg1 := hg.1
 simp only [go_sem, simprocAttr]
 refine wpc_while (fun (i : Nat) => [(1, .slice tok (g.map encL)), (2, .ptr σ.length 0), (5, .int .i64 ((g.length + lenS (g.take i) : Nat) : Int)), (6, .int .i64 (i : Nat))]) (fun _ => σ ++ [.row (encTask t)]) (fun i => i ≤ g.length ∧ g.length + lenS (g.take i) ≤ 300 + 140737488355328) (fun i => g.length - i) 0 ⟨Nat.zero_le _, by simp [lenS]; omega⟩ ?_ ?_
 ·exact ghL0 hσ1
 rintro i ⟨hi, hsz⟩ K hK hE hR
 have fin : ∀ v : Bool, few16B t g = v → ∀ sl, lk sl 4 = .bool v → bodyK [.tmp 4] σ.length 43 (isR (.bool (few16B t g)) σ) .ret sl (σ ++ [.row (encTask t)]) := fun v hv sl h4 => by
  refine ret_gh (v := .bool v) (σ' := σ) (Ghost.keep _ (Nat.le_refl _) ⟨⟨by rw [h4]; exact .refl _, .bool _⟩, trivial⟩ hσ) (Nat.le_refl _) hσ (.bool _) ⟨by rw [hv], rfl⟩
 have done : (i = g.length ∨ 300 < g.length + lenS (g.take i)) → ∀ sl, K (.exit 0) sl (σ ++ [.row (encTask t)]) ∨ True := fun _ _ => .inr trivial
 by_cases h : i < g.length
 ·obtain ⟨l, hx⟩ := get_ex h
  have hll := hg.2 l (List.mem_of_getElem? hx)
  have hlt : ((i : Int) < (g.length : Int)) := by omega
  have hw1 : IntKind.i64.wrap ((i : Int) + 1) = ((i + 1 : Nat) : Int) := by rw [wrap_ok (by omega)]; omega
  by_cases h2 : ((g.length + lenS (g.take i) : Nat) : Int) ≤ 300
  ·have hw2 : IntKind.i64.wrap (((g.length + lenS (g.take i) : Nat) : Int) + (l.length : Int)) = ((g.length + lenS (g.take (i + 1)) : Nat) : Int) := by rw [wrap_ok (by omega), lenS_take hx]; omega
   simp only [go_sem, simprocAttr, hlt, h2, hx, encL]
   refine hK _ _ (i + 1) ⟨by omega, by rw [lenS_take hx]; omega⟩ (by omega) ?_
   rw [hw1, hw2]
   exact ghL0 hσ1
  ·have hf : few16B t g = false := by
    have := lenS_le g i
    unfold few16B; rw [decide_eq_false (by omega)]; rfl
   simp only [go_sem, simprocAttr, hlt, h2, hE]
   exact fin false hf _ rfl
 ·have hlt : ¬ ((i : Int) < (g.length : Int)) := by omega
  have htk : g.take i = g := List.take_of_length_le (by omega)
  rw [htk] at hsz ⊢
  by_cases h2 : ((g.length + lenS g : Nat) : Int) ≤ 300
  ·have hd : decide (g.length + lenS g ≤ 300) = true := decide_eq_true (by omega)
   simp only [go_sem, simprocAttr, hlt, h2, hE, encTask]
   refine (few01_spec t 300 _ ht (by omega)).is ?_
   cases h3 : fewT 300 t
   ·simp only [go_sem, simprocAttr]
    exact fin false (by unfold few16B; rw [hd, h3]; rfl) _ rfl
   by_cases h4 : (t.facts.length : Int) ≤ 7
   ·simp only [go_sem, simprocAttr, h4]
    exact fin true (by unfold few16B; rw [hd, h3, decide_eq_true (by omega : t.facts.length ≤ 7)]; rfl) _ rfl
   ·simp only [go_sem, simprocAttr, h4]
    refine (is01_spec t _ ht).is ?_
    simp only [go_sem, simprocAttr]
    exact fin _ (by unfold few16B; rw [hd, h3, decide_eq_false (by omega : ¬ t.facts.length ≤ 7)]; rfl) _ rfl
  ·have hf : few16B t g = false := by unfold few16B; rw [decide_eq_false (by omega)]; rfl
   simp only [go_sem, simprocAttr, hlt, h2, hE]
   exact fin false hf _ rfl
def d_same16_0 : List COp := [⟨some 16, .move (.tmp 0), none, []⟩, ⟨some 17, .move (.tmp 5), none, []⟩, ⟨some 18, .iaddr 1 (.tmp 16) (.tmp 17), none, [0, 1]⟩, ⟨some 19, .load none (.tmp 18), none, [2]⟩, ⟨some 20, .move (.tmp 1), none, []⟩, ⟨some 21, .move (.tmp 5), none, []⟩, ⟨some 22, .iaddr 1 (.tmp 20) (.tmp 21), none, [4, 5]⟩, ⟨some 23, .load none (.tmp 22), none, [6]⟩, ⟨some 24, .call (.lit (.func 23 [])) [.tmp 19, .tmp 23], none, [3, 7]⟩, ⟨some 25, .un .not (.tmp 24), none, [8]⟩]
theorem dr_same16_0 (P : Program) (nt n0 : Nat) (Q : Post) (s : Slots) (σ : Store) : wpc P nt n0 (.draw d_same16_0) Q s σ = aOpsD P nt [⟨some 16, .move (.tmp 0), none, []⟩, ⟨some 17, .move (.tmp 5), none, []⟩, ⟨some 18, .iaddr 1 (.tmp 16) (.tmp 17), none, [0, 1]⟩, ⟨some 19, .load none (.tmp 18), none, [2]⟩, ⟨some 20, .move (.tmp 1), none, []⟩, ⟨some 21, .move (.tmp 5), none, []⟩, ⟨some 22, .iaddr 1 (.tmp 20) (.tmp 21), none, [4, 5]⟩, ⟨some 23, .load none (.tmp 22), none, [6]⟩, ⟨some 24, .call (.lit (.func 23 [])) [.tmp 19, .tmp 23], none, [3, 7]⟩, ⟨some 25, .un .not (.tmp 24), none, [8]⟩] (Q .normal) s σ := wpc_draw _ (by decide)
attribute [local go_sem] dr_same16_0
def c_same16 : CCode := .seq (.ops [⟨some 4, .move (.lit (.bool false)), none, []⟩]) (.seq (.seq (.ops [⟨some 6, .move (.tmp 0), none, []⟩, ⟨some 7, .blen 1 (.tmp 6), none, []⟩, ⟨some 8, .move (.tmp 1), none, []⟩, ⟨some 9, .blen 1 (.tmp 8), none, []⟩, ⟨some 10, .bin .neq .none (.tmp 7) (.tmp 9), none, []⟩]) (.cond (.tmp 10) (.seq (.ops [⟨some 4, .move (.lit (.bool false)), none, []⟩]) .ret) .skip)) (.seq (.seq (.ops [⟨some 11, .move (.tmp 0), none, []⟩, ⟨some 12, .blen 1 (.tmp 11), none, []⟩, ⟨some 13, .move (.lit (.int .i64 0)), none, []⟩]) (.block 0 (.loop (.seq (.ops [⟨some 14, .bin .lss .none (.tmp 13) (.tmp 12), none, []⟩]) (.seq (.cond (.tmp 14) .skip (.exit 0)) (.seq (.block 1 (.seq (.ops [⟨some 15, .move (.tmp 13), none, []⟩, ⟨some 5, .move (.tmp 15), none, []⟩]) (.seq (.draw d_same16_0) (.cond (.tmp 25) (.seq (.ops [⟨some 4, .move (.lit (.bool false)), none, []⟩]) .ret) .skip)))) (.ops [⟨some 26, .bin .add .none (.tmp 13) (.lit (.int .i64 1)), none, []⟩, ⟨some 13, .move (.tmp 26), none, []⟩]))))))) (.seq (.ops [⟨some 4, .move (.lit (.bool true)), none, []⟩]) .ret)))
set_option maxRecDepth 20000 in
theorem same16_spec (a b : List (List Int)) (tok tok' : Tok) (σ : Store) (ha : LB a) (hb : LB b) :
  ACalls Tryz.prog 22 [.slice tok (a.map encL), .slice tok' (b.map encL)] σ (isR (.bool (decide (a = b))) σ) := by
 refine ACalls.intro (rs := [(.tmp 4)]) (by kernel_rfl) { own := [], ghosts := [] } Tryz.func22 (c := Tryz.f22.body.getD .skip) (by kernel_rfl) (by decide) (by rw [show Tryz.f22.ntmps = 27 by kernel_rfl]; exact Nat.le_of_ble_eq_true rfl) (by kernel_rfl) ?_
 intro hσ hids
 rw [show comp Tryz.prog { own := [], ghosts := [] } (Tryz.f22.body.getD .skip) = c_same16 by kernel_rfl, show Tryz.f22.ntmps = 27 by kernel_rfl]
 unfold c_same16
 have hia : Ids σ.length (.slice tok (a.map encL)) := hids _ (by simp)
 have hib : Ids σ.length (.slice tok' (b.map encL)) := hids _ (by simp)
 have ha1 := ha.1
 have hb1 := hb.1
 by_cases hl : a.length = b.length
 ·have hn : ((a.length : Int) != (b.length : Int)) = false := by simp [hl]
  simp only [go_sem, simprocAttr, hn]
  refine wpc_while (fun (i : Nat) => [(0, .slice tok (a.map encL)), (1, .slice tok' (b.map encL)), (12, .int .i64 a.length), (13, .int .i64 (i : Nat))]) (fun _ => σ) (fun i => i ≤ a.length ∧ a.take i = b.take i) (fun i => a.length - i) 0 ⟨Nat.zero_le _, rfl⟩ (by (try dsimp only); first | exact ghk | exact ghk0) ?_
  rintro i ⟨hi, hv⟩ K hK hE hR
  by_cases h : i < a.length
  ·obtain ⟨x, hx⟩ := get_ex h; have hlt : ((i : Int) < (a.length : Int)) := (by omega); have hw : IntKind.i64.wrap ((i : Int) + 1) = ((i + 1 : Nat) : Int) := (by rw [wrap_ok (by omega)]; omega)
   obtain ⟨y, hy⟩ := get_ex (show i < b.length by omega)
   simp only [go_sem, simprocAttr, hlt, hx, hy, encL]
   refine ⟨_, sameInts_spec x y .unk .unk _ (by have := ha.2 x (List.mem_of_getElem? hx); omega) (by have := hb.2 y (List.mem_of_getElem? hy); omega), ?_⟩
   by_cases e : x = y
   ·rw [decide_eq_true e]
    simp only [go_sem, simprocAttr]
    refine hK _ _ (i + 1) (⟨by omega, by rw [take_succ' hx, take_succ' hy, hv, e]⟩) (by first | omega | (simp only []; omega) | (simp; omega)) ?_; (try dsimp only); (try simp only [ hw]); first | exact ghk | exact ghk0
   ·rw [decide_eq_false e]
    simp only [go_sem, simprocAttr, hR]
    first | exact rtk (.bool false) ⟨by rw [decide_eq_false (fun q => e (by rw [q, hy] at hx; injection hx with hx; exact hx.symm))], rfl⟩ | exact rtk0 (.bool false) ⟨by rw [decide_eq_false (fun q => e (by rw [q, hy] at hx; injection hx with hx; exact hx.symm))], rfl⟩
  ·have hlt : ¬ ((i : Int) < (a.length : Int)) := by omega
   rw [List.take_of_length_le (by omega), List.take_of_length_le (by omega)] at hv
   simp only [go_sem, simprocAttr, hlt, hE]
   first | exact rtk (.bool true) ⟨by rw [decide_eq_true hv], rfl⟩ | exact rtk0 (.bool true) ⟨by rw [decide_eq_true hv], rfl⟩
 ·have hn : ((a.length : Int) != (b.length : Int)) = true := by simp; omega
  simp only [go_sem, simprocAttr, hn]
  first | exact rtk (.bool false) ⟨by rw [decide_eq_false (fun q => hl (by rw [q]))], rfl⟩ | exact rtk0 (.bool false) ⟨by rw [decide_eq_false (fun q => hl (by rw [q]))], rfl⟩
def EB (p : List FEnt) : Prop := p.length ≤ 140737488355328 ∧ ∀ x ∈ p, x.1.length ≤ 140737488355328
def c_parts16 : CCode := .seq (.ops [⟨some 2, .move (.lit (.slice .nil [])), none, []⟩, ⟨some 3, .move (.lit (.slice .nil [])), none, []⟩]) (.seq (.seq (.ghost (.ops [⟨some 6, .move (.tmp 0), none, []⟩, ⟨some 7, .blen 1 (.tmp 6), none, []⟩, ⟨some 8, .move (.lit (.int .i64 0)), none, []⟩])) (.block 0 (.loop (.seq (.ops [⟨some 9, .bin .lss .none (.tmp 8) (.tmp 7), none, []⟩]) (.seq (.cond (.tmp 9) .skip (.exit 0)) (.seq (.block 1 (.seq (.ops [⟨some 10, .iaddr 2 (.tmp 6) (.tmp 8), none, []⟩, ⟨some 11, .load (some 2) (.tmp 10), none, []⟩, ⟨some 5, .alloc (.agg [.slice .nil [], .int .i64 0]), none, []⟩, ⟨none, .store 2 (.tmp 5) (.tmp 11), none, []⟩]) (.seq (.ops [⟨some 12, .move (.tmp 2), none, []⟩, ⟨some 13, .faddr 0 (.tmp 5), none, []⟩, ⟨some 14, .load none (.tmp 13), none, []⟩, ⟨some 15, .bsliceC 1 [.tmp 14], none, []⟩, ⟨some 16, .bappend 1 24 (.tmp 12) (.tmp 15) false, none, []⟩, ⟨some 2, .move (.tmp 16), none, []⟩]) (.ops [⟨some 17, .move (.tmp 3), none, []⟩, ⟨some 18, .faddr 1 (.tmp 5), none, []⟩, ⟨some 19, .load none (.tmp 18), none, []⟩, ⟨some 20, .bsliceC 1 [.tmp 19], none, []⟩, ⟨some 21, .bappend 1 8 (.tmp 17) (.tmp 20) false, none, []⟩, ⟨some 3, .move (.tmp 21), none, []⟩])))) (.ops [⟨some 22, .bin .add .none (.tmp 8) (.lit (.int .i64 1)), none, []⟩, ⟨some 8, .move (.tmp 22), none, []⟩]))))))) (.seq (.ops [⟨some 23, .move (.tmp 2), none, []⟩, ⟨some 24, .move (.tmp 3), none, []⟩, ⟨some 2, .move (.tmp 23), none, []⟩, ⟨some 3, .move (.tmp 24), none, []⟩]) .ret))
set_option maxRecDepth 20000 in
theorem parts16_spec (p : List FEnt) (tok : Tok) (σ : Store) (hp : EB p) (hp2 : p.length ≤ 1000000) : ACalls Tryz.prog 14 [.slice tok (p.map encEn)] σ (isR (.tuple [.slice .unk ((p.map (·.1)).map encL), .slice .unk ((p.map (·.2)).map Ahl.encI)]) σ) := by
 refine ACalls.intro (rs := [(.tmp 2), (.tmp 3)]) (by kernel_rfl) { own := [], ghosts := [1], cold := [(4, 3), (5, 3)] } Tryz.func14 (c := Tryz.f14.body.getD .skip) (by kernel_rfl) (by decide) (by rw [show Tryz.f14.ntmps = 25 by kernel_rfl]; exact Nat.le_of_ble_eq_true rfl) (by kernel_rfl) ?_
 intro hσ hids
 rw [show comp Tryz.prog { own := [], ghosts := [1], cold := [(4, 3), (5, 3)] } (Tryz.f14.body.getD .skip) = c_parts16 by kernel_rfl, show Tryz.f14.ntmps = 25 by kernel_rfl]
 unfold c_parts16
 have hip : Ids σ.length (.slice tok (p.map encEn)) := hids _ (by simp)
 have hp1 := hp.1
 simp only [go_sem, simprocAttr]
 refine Gh.of (s' := [(2, .slice (.grow σ.length) []), (3, .slice (.grow (σ.length + 1)) []), (0, .slice tok (p.map encEn))]) (σ' := σ ++ [.grow 1 0, .grow 1 0]) ?_ ?_
 ·refine Ghost.trans (Ghost.tok 2 1 (.inl rfl)) (Ghost.trans (Ghost.tok 3 1 (.inl rfl)) ?_)
  simp only [List.append_assoc, List.cons_append, List.nil_append, List.length_append, List.length_cons, List.length_nil, Nat.zero_add]
  exact ghL0 (idsS_app _ hσ (all_cons' trivial (all_cons' trivial all_nil')))
 have hS : ∀ i j, IdsS (σ ++ [AObj.grow 1 i, .grow 1 j]).length (σ ++ [AObj.grow 1 i, .grow 1 j]) := fun i j => idsS_app _ hσ (all_cons' trivial (all_cons' trivial all_nil'))
 simp only [go_sem, simprocAttr]
 refine wpc_while (fun (i : Nat) => [(2, .slice (.grow σ.length) (((p.take i).map (·.1)).map encL)), (3, .slice (.grow (σ.length + 1)) (((p.take i).map (·.2)).map Ahl.encI)), (6, .slice tok (p.map encEn)), (7, .int .i64 p.length), (8, .int .i64 (i : Nat))]) (fun i => σ ++ [.grow 1 i, .grow 1 i]) (fun i => i ≤ p.length) (fun i => p.length - i) 0 (Nat.zero_le _) ?_ ?_
 ·exact ghL0 (hS 0 0)
 intro i hi K hK hE hR
 by_cases h : i < p.length
 ·obtain ⟨x, hx⟩ := get_ex h; have hlt : ((i : Int) < (p.length : Int)) := (by omega); have hw : IntKind.i64.wrap ((i : Int) + 1) = ((i + 1 : Nat) : Int) := (by rw [wrap_ok (by omega)]; omega)
  have l1 : (((p.take i).map (·.1)).map encL).length = i := by simp; omega
  have l2 : (((p.take i).map (·.2)).map Ahl.encI).length = i := by simp; omega
  have hb1 : bigLen (i + 1) 24 := big_ok (by omega) (by have := hp2; omega)
  have hb2 : bigLen (i + 1) 8 := big_ok (by omega) (by have := hp2; omega)
  have f1 : ((p.take i).map (·.1)).map encL ++ [[AV.slice .unk (x.1.map Ahl.encI)]] = ((p.take (i + 1)).map (·.1)).map encL := by rw [take_succ' hx, List.map_append, List.map_append]; rfl
  have f2 : ((p.take i).map (·.2)).map Ahl.encI ++ [[AV.int .i64 x.2]] = ((p.take (i + 1)).map (·.2)).map Ahl.encI := by rw [take_succ' hx, List.map_append, List.map_append]; rfl
  have hmin : min i p.length = i := Nat.min_eq_left hi
  simp only [go_sem, simprocAttr, hlt, hx, encEn, l1, l2, hmin, List.length_take, hb1, hb2, f1, f2]
  refine hK _ _ (i + 1) (by omega) (by omega) ?_
  rw [hw]
  refine Ghost.keepL (g := [AObj.row [.slice .unk (x.1.map Ahl.encI), .int .i64 x.2]]) (k := 2) [.grow 1 (i + 1), .grow 1 (i + 1)] rfl (Nat.le_refl _) ?_ (hS _ _)
  exact tellT
 ·have hlt : ¬ ((i : Int) < (p.length : Int)) := by omega
  rw [List.take_of_length_le (by omega)]
  simp only [go_sem, simprocAttr, hlt, hE]
  first | exact rtl (.slice .unk ((p.map (·.1)).map encL)) (.slice .unk ((p.map (·.2)).map Ahl.encI)) ⟨rfl, rfl⟩ | exact rtl0 (.slice .unk ((p.map (·.1)).map encL)) (.slice .unk ((p.map (·.2)).map Ahl.encI)) ⟨rfl, rfl⟩
end Go.Proofs.YtjmmldkailblmaaGreat
namespace Go.Proofs.YtjmmldkailblmaaGreat
open Go.Ahl
def t16 : FTask := ⟨[bys [97], bys [98]], [0], [⟨1, false⟩], [⟨bys [120], 0, [⟨0, false⟩], [⟨[], ⟨1, false⟩⟩, ⟨[], ⟨0, true⟩⟩]⟩, ⟨bys [121], 0, [⟨0, false⟩], []⟩]⟩
theorem t16_PB : PB t16 := ⟨⟨by decide, by decide, by decide, by decide, by decide, by decide, by decide, by decide, by decide⟩, by decide⟩
theorem t16_d1 : DistR t16 [[0, 1]] [0] = .tuple [.int .i64 0, .int .i64 4] := by kernel_rfl
theorem t16_d2 : DistR t16 [[0]] [0] = .tuple [.int .i64 1, .int .i64 0] := by kernel_rfl
theorem t16_k : KindR t16 [[0, 1]] [([0], 0)] = .tuple [.int .i64 2, .int .i64 0] := by kernel_rfl
theorem t16_a : askE t16 [[1, 0]] = 160 := by kernel_rfl
theorem t16_a1 : askE t16 [[0, 1]] = 0 := by kernel_rfl
theorem t16_a2 : askE t16 [[0]] = 0 := by kernel_rfl
theorem t16_n : (wldF t16 [[0, 1]] t16.init).ss.length = 2 := by kernel_rfl
theorem t16_c1 : cIter (wldF t16 [[0, 1]] t16.init) 1 0 = true := by kernel_rfl
theorem t16_c2 : cIter (wldF t16 [[0, 1]] t16.init) 2 0 = true := by kernel_rfl
theorem t16_c3 : cIter (wldF t16 [[0, 1]] t16.init) 3 0 = true := by kernel_rfl
def e16 (k : Nat) : List FEnt := outE (wldF t16 [[0, 1]] t16.init) (lst (wldF t16 [[0, 1]] t16.init).ss.length (nearF (wldF t16 [[0, 1]] t16.init) (cIter (wldF t16 [[0, 1]] t16.init) k))) (bfs (wldF t16 [[0, 1]] t16.init) (lst (wldF t16 [[0, 1]] t16.init).ss.length (nearF (wldF t16 [[0, 1]] t16.init) (cIter (wldF t16 [[0, 1]] t16.init) k))) (wldF t16 [[0, 1]] t16.init).ss.length)
theorem t16_e0 : e16 0 = [([0], 0)] := by kernel_rfl
theorem t16_e1 : e16 1 = [([0], 0)] := by kernel_rfl
theorem t16_e2 : e16 2 = [([0], 0)] := by kernel_rfl
theorem t16_e (k : Nat) (h : k ≤ 2) : e16 k = [([0], 0)] := by
 obtain rfl | rfl | rfl : k = 0 ∨ k = 1 ∨ k = 2 := by omega
 ·exact t16_e0
 ·exact t16_e1
 ·exact t16_e2
def s16 : List FEnt := outE (wldF t16 [[0]] t16.init) (strongC (wldF t16 [[0]] t16.init)) (bfs (wldF t16 [[0]] t16.init) (strongC (wldF t16 [[0]] t16.init)) (wldF t16 [[0]] t16.init).ss.length)
theorem t16_s : s16 = [([0], 0)] := by kernel_rfl
theorem t16_o1 : dOf (wldF t16 [[0]] t16.init) = 1 := by kernel_rfl
theorem t16_o : ¬ dOf (wldF t16 [[0]] t16.init) < 0 := by rw [t16_o1]; decide
theorem t16_cyc {r : AV} (h : CycP t16 [[0, 1]] r) : r = .tuple [.slice .fresh [vE ([0], 0)], .int .i64 0] := by
 unfold CycP at h
 rw [if_pos t16_a1] at h
 rcases h with ⟨k, hk, hc, _⟩ | ⟨k, hk, _, _, r0, ⟨E, hE, _, hr⟩, h⟩
 ·have hk : k ≤ 2 := by rw [t16_n] at hk; exact hk
  obtain rfl | rfl | rfl : k = 0 ∨ k = 1 ∨ k = 2 := by omega
  ·rw [t16_c1] at hc; simp at hc
  ·rw [t16_c2] at hc; simp at hc
  ·rw [t16_c3] at hc; simp at hc
 ·have hk : k ≤ 2 := by rw [t16_n] at hk; exact hk
  have hE : E.Perm (e16 k) := hE
  rw [t16_e k hk] at hE
  rw [List.perm_singleton] at hE
  subst hE
  rw [h, hr]; rfl
theorem t16_str {r : AV} (h : StrongP t16 [[0]] r) : r = .tuple [.slice .fresh [vE ([0], 0)], .int .i64 0] := by
 unfold StrongP at h
 rw [if_pos t16_a2, if_neg t16_o] at h
 obtain ⟨r0, ⟨E, hE, _, hr⟩, h⟩ := h
 have hE : E.Perm s16 := hE
 rw [t16_s] at hE
 rw [List.perm_singleton] at hE
 subst hE
 rw [h, hr]; rfl
theorem LB_small {g : List (List Int)} (h : g.length ≤ 1000 ∧ ∀ l ∈ g, l.length ≤ 1000) : LB g := ⟨by have := h.1; omega, fun l hl => by have := h.2 l hl; omega⟩
def c_awake16 : CCode := .seq (.ops [⟨some 0, .move (.lit (.bool false)), none, []⟩]) (.seq (.ops [⟨some 13, .bslice 1 [.lit (.str (bys [97])), .lit (.str (bys [98]))] false, none, []⟩, ⟨some 14, .bslice 1 [.lit (.int .i64 0)] false, none, []⟩, ⟨some 15, .build [.int .i64 0, .bool false] [(0, 1, .lit (.int .i64 1))], none, []⟩, ⟨some 16, .bslice 2 [.tmp 15] false, none, []⟩, ⟨some 17, .build [.int .i64 0, .bool false] [(0, 1, .lit (.int .i64 0))], none, []⟩, ⟨some 18, .bslice 2 [.tmp 17] false, none, []⟩, ⟨some 19, .build [.int .i64 0, .bool false] [(0, 1, .lit (.int .i64 1))], none, []⟩, ⟨some 20, .build [.slice .nil [], .int .i64 0, .bool false] [(1, 2, .tmp 19)], none, []⟩, ⟨some 21, .build [.int .i64 0, .bool false] [(0, 1, .lit (.int .i64 0)), (1, 1, .lit (.bool true))], none, []⟩, ⟨some 22, .build [.slice .nil [], .int .i64 0, .bool false] [(1, 2, .tmp 21)], none, []⟩, ⟨some 23, .bslice 3 [.tmp 20, .tmp 22] false, none, []⟩, ⟨some 24, .build [.str (bys []), .int .i64 0, .slice .nil [], .slice .nil []] [(0, 1, .lit (.str (bys [120]))), (2, 1, .tmp 18), (3, 1, .tmp 23)], none, []⟩, ⟨some 25, .build [.int .i64 0, .bool false] [(0, 1, .lit (.int .i64 0))], none, []⟩, ⟨some 26, .bslice 2 [.tmp 25] false, none, []⟩, ⟨some 27, .build [.str (bys []), .int .i64 0, .slice .nil [], .slice .nil []] [(0, 1, .lit (.str (bys [121]))), (2, 1, .tmp 26)], none, []⟩, ⟨some 28, .bslice 4 [.tmp 24, .tmp 27] false, none, []⟩, ⟨some 29, .build [.slice .nil [], .slice .nil [], .slice .nil [], .slice .nil []] [(0, 1, .tmp 13), (1, 1, .tmp 14), (2, 1, .tmp 16), (3, 1, .tmp 28)], none, []⟩, ⟨some 1, .alloc (.agg [.slice .nil [], .slice .nil [], .slice .nil [], .slice .nil []]), none, []⟩, ⟨none, .store 4 (.tmp 1) (.tmp 29), none, []⟩]) (.seq (.ops [⟨some 30, .bslice 1 [.lit (.int .i64 0), .lit (.int .i64 1)] false, none, []⟩, ⟨some 31, .bslice 1 [.tmp 30] false, none, []⟩, ⟨some 2, .move (.tmp 31), none, []⟩]) (.seq (.ops [⟨some 33, .load (some 4) (.tmp 1), none, []⟩, ⟨some 34, .move (.tmp 2), none, []⟩, ⟨some 35, .faddr 1 (.tmp 1), none, []⟩, ⟨some 36, .load none (.tmp 35), none, []⟩, ⟨some 37, .call (.lit (.func 17 [])) [.tmp 33, .tmp 34, .tmp 36], none, []⟩, ⟨some 32, .move (.tmp 37), none, []⟩, ⟨some 38, .extract (.tmp 32) 0, none, []⟩, ⟨some 39, .extract (.tmp 32) 1, none, []⟩, ⟨some 3, .move (.tmp 38), none, []⟩, ⟨some 4, .move (.tmp 39), none, []⟩]) (.seq (.ops [⟨some 41, .load (some 4) (.tmp 1), none, []⟩, ⟨some 42, .move (.tmp 2), none, []⟩, ⟨some 43, .call (.lit (.func 24 [])) [.tmp 41, .tmp 42], none, []⟩, ⟨some 40, .move (.tmp 43), none, []⟩, ⟨some 44, .extract (.tmp 40) 0, none, []⟩, ⟨some 45, .extract (.tmp 40) 1, none, []⟩, ⟨some 5, .move (.tmp 44), none, []⟩, ⟨some 6, .move (.tmp 45), none, []⟩]) (.seq (.ops [⟨some 47, .load (some 4) (.tmp 1), none, []⟩, ⟨some 48, .move (.tmp 2), none, []⟩, ⟨some 49, .move (.tmp 5), none, []⟩, ⟨some 50, .call (.lit (.func 11 [])) [.tmp 47, .tmp 48, .tmp 49], none, []⟩, ⟨some 46, .move (.tmp 50), none, []⟩, ⟨some 51, .extract (.tmp 46) 0, none, []⟩, ⟨some 52, .extract (.tmp 46) 1, none, []⟩, ⟨some 7, .move (.tmp 51), none, []⟩, ⟨some 8, .move (.tmp 52), none, []⟩]) (.seq (.ops [⟨some 54, .load (some 4) (.tmp 1), none, []⟩, ⟨some 55, .bslice 1 [.lit (.int .i64 0)] false, none, []⟩, ⟨some 56, .bslice 1 [.tmp 55] false, none, []⟩, ⟨some 57, .faddr 1 (.tmp 1), none, []⟩, ⟨some 58, .load none (.tmp 57), none, []⟩, ⟨some 59, .call (.lit (.func 17 [])) [.tmp 54, .tmp 56, .tmp 58], none, []⟩, ⟨some 53, .move (.tmp 59), none, []⟩, ⟨some 60, .extract (.tmp 53) 0, none, []⟩, ⟨some 61, .extract (.tmp 53) 1, none, []⟩, ⟨some 9, .move (.tmp 60), none, []⟩, ⟨some 10, .move (.tmp 61), none, []⟩]) (.seq (.ops [⟨some 63, .load (some 4) (.tmp 1), none, []⟩, ⟨some 64, .bslice 1 [.lit (.int .i64 0)] false, none, []⟩, ⟨some 65, .bslice 1 [.tmp 64] false, none, []⟩, ⟨some 66, .call (.lit (.func 18 [])) [.tmp 63, .tmp 65], none, []⟩, ⟨some 62, .move (.tmp 66), none, []⟩, ⟨some 67, .extract (.tmp 62) 0, none, []⟩, ⟨some 68, .extract (.tmp 62) 1, none, []⟩, ⟨some 11, .move (.tmp 67), none, []⟩, ⟨some 12, .move (.tmp 68), none, []⟩]) (.seq (.ops [⟨some 69, .move (.tmp 4), none, []⟩, ⟨some 70, .bin .eql .none (.tmp 69) (.lit (.int .i64 4)), none, []⟩, ⟨some 71, .move (.tmp 70), none, []⟩, ⟨some 72, .move (.tmp 6), some (some 71, true), []⟩, ⟨some 73, .bin .eql .none (.tmp 72) (.lit (.int .i64 0)), some (some 71, true), []⟩, ⟨some 74, .pick (.tmp 71) (.tmp 73) (.lit (.bool false)), none, []⟩, ⟨some 75, .move (.tmp 74), none, []⟩, ⟨some 76, .move (.tmp 5), some (some 75, true), []⟩, ⟨some 77, .blen 1 (.tmp 76), some (some 75, true), []⟩, ⟨some 78, .bin .eql .none (.tmp 77) (.lit (.int .i64 1)), some (some 75, true), []⟩, ⟨some 79, .pick (.tmp 75) (.tmp 78) (.lit (.bool false)), none, []⟩, ⟨some 80, .move (.tmp 79), none, []⟩, ⟨some 81, .move (.tmp 7), some (some 80, true), []⟩, ⟨some 82, .bin .eql .none (.tmp 81) (.lit (.int .i64 2)), some (some 80, true), []⟩, ⟨some 83, .pick (.tmp 80) (.tmp 82) (.lit (.bool false)), none, []⟩, ⟨some 84, .move (.tmp 83), none, []⟩, ⟨some 85, .move (.tmp 8), some (some 84, true), []⟩, ⟨some 86, .bin .eql .none (.tmp 85) (.lit (.int .i64 0)), some (some 84, true), []⟩, ⟨some 87, .pick (.tmp 84) (.tmp 86) (.lit (.bool false)), none, []⟩, ⟨some 88, .move (.tmp 87), none, []⟩, ⟨some 89, .move (.tmp 9), some (some 88, true), []⟩, ⟨some 90, .bin .eql .none (.tmp 89) (.lit (.int .i64 1)), some (some 88, true), []⟩, ⟨some 91, .pick (.tmp 88) (.tmp 90) (.lit (.bool false)), none, []⟩, ⟨some 92, .move (.tmp 91), none, []⟩, ⟨some 93, .move (.tmp 10), some (some 92, true), []⟩, ⟨some 94, .bin .eql .none (.tmp 93) (.lit (.int .i64 0)), some (some 92, true), []⟩, ⟨some 95, .pick (.tmp 92) (.tmp 94) (.lit (.bool false)), none, []⟩, ⟨some 96, .move (.tmp 95), none, []⟩, ⟨some 97, .move (.tmp 11), some (some 96, true), []⟩, ⟨some 98, .blen 1 (.tmp 97), some (some 96, true), []⟩, ⟨some 99, .bin .eql .none (.tmp 98) (.lit (.int .i64 1)), some (some 96, true), []⟩, ⟨some 100, .pick (.tmp 96) (.tmp 99) (.lit (.bool false)), none, []⟩, ⟨some 101, .move (.tmp 100), none, []⟩, ⟨some 102, .move (.tmp 12), some (some 101, true), []⟩, ⟨some 103, .bin .eql .none (.tmp 102) (.lit (.int .i64 0)), some (some 101, true), []⟩, ⟨some 104, .pick (.tmp 101) (.tmp 103) (.lit (.bool false)), none, []⟩, ⟨some 105, .move (.tmp 104), none, []⟩, ⟨some 106, .load (some 4) (.tmp 1), some (some 105, true), []⟩, ⟨some 107, .bslice 1 [.lit (.int .i64 1), .lit (.int .i64 0)] false, some (some 105, true), []⟩, ⟨some 108, .bslice 1 [.tmp 107] false, some (some 105, true), []⟩, ⟨some 109, .call (.lit (.func 27 [])) [.tmp 106, .tmp 108], some (some 105, true), []⟩, ⟨some 110, .bin .eql .none (.tmp 109) (.lit (.int .i64 160)), some (some 105, true), []⟩, ⟨some 111, .pick (.tmp 105) (.tmp 110) (.lit (.bool false)), none, []⟩, ⟨some 0, .move (.tmp 111), none, []⟩]) .ret))))))))
set_option maxRecDepth 20000 in
set_option maxHeartbeats 2000000 in
theorem awake16_spec (σ : Store) : ACalls Tryz.prog 10 [] σ (isR (.bool true) σ) := by
 refine ACalls.intro (rs := [(.tmp 0)]) (by kernel_rfl) { own := [], ghosts := [] } Tryz.func10 (c := Tryz.f10.body.getD .skip) (by kernel_rfl) (by decide) (by rw [show Tryz.f10.ntmps = 112 by kernel_rfl]; exact Nat.le_of_ble_eq_true rfl) (by kernel_rfl) ?_
 intro hσ hids
 rw [show comp Tryz.prog { own := [], ghosts := [] } (Tryz.f10.body.getD .skip) = c_awake16 by kernel_rfl, show Tryz.f10.ntmps = 112 by kernel_rfl]
 unfold c_awake16
 simp only [go_sem, simprocAttr]
 have e1 := fun σ => pDist_spec t16 [[0, 1]] [0] .unk σ t16_PB (LB_small (by decide)) (by decide) (fun _ => by decide)
 rw [t16_d1] at e1
 refine ACalls.is (ACalls.wk (e1 _) ?_) ?_
 ·repeat (first | exact Wk.refl _ | exact WkL.nil | exact WkLL.nil | exact WkL.refl _ | refine Wk.agg ?_ | refine Wk.sl _ ?_ | refine WkL.cons ?_ ?_ | refine WkLL.cons ?_ ?_)
 have e2 := fun tok σ => pCyc_spec t16 [[0, 1]] tok σ t16_PB (LB_small (by decide)) (fun _ => by decide)
 simp only [go_sem, simprocAttr]
 refine ACalls.mono (ACalls.wk (e2 .unk _) ?_) ?_
 ·repeat (first | exact Wk.refl _ | exact WkL.nil | exact WkLL.nil | exact WkL.refl _ | refine Wk.agg ?_ | refine Wk.sl _ ?_ | refine WkL.cons ?_ ?_ | refine WkLL.cons ?_ ?_)
 rintro r _ ⟨rfl, hr⟩
 rw [t16_cyc hr]
 simp only [go_sem, simprocAttr]
 have e3 := fun σ => pKind_spec t16 [[0, 1]] [([0], 0)] .unk .unk σ t16_PB (LB_small (by decide)) (fun _ => by decide) (by decide) (by decide)
 rw [t16_k] at e3
 refine ACalls.is (ACalls.wk (e3 _) ?_) ?_
 ·repeat (first | exact Wk.refl _ | exact WkL.nil | exact WkLL.nil | exact WkL.refl _ | refine Wk.agg ?_ | refine Wk.sl _ ?_ | refine WkL.cons ?_ ?_ | refine WkLL.cons ?_ ?_)
 simp only [go_sem, simprocAttr]
 have e4 := fun σ => pDist_spec t16 [[0]] [0] .unk σ t16_PB (LB_small (by decide)) (by decide) (fun _ => by decide)
 rw [t16_d2] at e4
 refine ACalls.is (ACalls.wk (e4 _) ?_) ?_
 ·repeat (first | exact Wk.refl _ | exact WkL.nil | exact WkLL.nil | exact WkL.refl _ | refine Wk.agg ?_ | refine Wk.sl _ ?_ | refine WkL.cons ?_ ?_ | refine WkLL.cons ?_ ?_)
 simp only [go_sem, simprocAttr]
 have e5 := fun tok σ => pStrong_spec t16 [[0]] tok σ t16_PB (LB_small (by decide)) (fun _ => by decide)
 refine ACalls.mono (ACalls.wk (e5 .unk _) ?_) ?_
 ·repeat (first | exact Wk.refl _ | exact WkL.nil | exact WkLL.nil | exact WkL.refl _ | refine Wk.agg ?_ | refine Wk.sl _ ?_ | refine WkL.cons ?_ ?_ | refine WkLL.cons ?_ ?_)
 rintro r _ ⟨rfl, hr⟩
 rw [t16_str hr]
 have e6 := fun σ => pcheck_spec t16 [[1, 0]] .unk σ t16_PB.tb (LB_small (by decide))
 rw [t16_a] at e6
 have h4 : ((4 : Int) == 4) = true := rfl
 have h0 : ((0 : Int) == 0) = true := rfl
 have h1 : (((1 : Nat) : Int) == 1) = true := rfl
 have h11 : ((1 : Int) == 1) = true := rfl
 have h2 : ((2 : Int) == 2) = true := rfl
 simp only [go_sem, simprocAttr, h4, h0, h1, h11, h2]
 refine ACalls.is (ACalls.wk (e6 _) ?_) ?_
 ·repeat (first | exact Wk.refl _ | exact WkL.nil | exact WkLL.nil | exact WkL.refl _ | refine Wk.agg ?_ | refine Wk.sl _ ?_ | refine WkL.cons ?_ ?_ | refine WkLL.cons ?_ ?_)
 have h160 : ((160 : Int) == 160) = true := rfl
 simp only [go_sem, simprocAttr, h160]
 first | exact rtk (.bool true) ⟨rfl, rfl⟩ | exact rtk0 (.bool true) ⟨rfl, rfl⟩
theorem few16_facts {t : FTask} {g : List (List Int)} (h : few16B t g = true) : taskSize t ≤ 300 ∧ (g.length ≤ 300 ∧ ∀ l ∈ g, l.length ≤ 300) ∧ (validB t = true → t.facts.length ≤ 7) := by
 unfold few16B fewT at h
 simp only [Bool.and_eq_true, decide_eq_true_eq, Bool.or_eq_true, Bool.not_eq_true'] at h
 obtain ⟨h0, ⟨h1, _⟩, h3⟩ := h
 refine ⟨h1, ⟨by omega, fun l hl => ?_⟩, fun hv => by rcases h3 with h3 | h3; exact h3; rw [hv] at h3; simp at h3⟩
 obtain ⟨i, hi⟩ := List.getElem?_of_mem hl
 have := lenS_take hi
 have := lenS_le g (i + 1)
 omega
theorem few16_LB {g : List (List Int)} (h : g.length ≤ 300 ∧ ∀ l ∈ g, l.length ≤ 300) : LB g := ⟨by have := h.1; omega, fun l hl => by have := h.2 l hl; omega⟩
theorem few16_PB {t : FTask} (ht : TB t) (h : taskSize t ≤ 300) : PB t := ⟨ht, by unfold taskSize at h; omega⟩
theorem le_sum16 {l : List Nat} {x : Nat} (h : x ∈ l) : x ≤ l.sum := by
 induction l with
 | nil => simp at h
 | cons y l ih =>
  rw [List.sum_cons]
  rcases List.mem_cons.1 h with rfl | h
  ·omega
  ·have := ih h; omega
end Go.Proofs.YtjmmldkailblmaaGreat
namespace Go.Proofs.YtjmmldkailblmaaGreat
open Go.Ahl
def d_copyAction_0 : List COp := [⟨some 17, .move (.tmp 3), none, []⟩, ⟨some 18, .faddr 0 (.tmp 5), none, []⟩, ⟨some 19, .load none (.tmp 18), none, [1]⟩, ⟨some 20, .call (.lit (.func 67 [])) [.tmp 19], none, [2]⟩, ⟨some 21, .faddr 1 (.tmp 5), none, []⟩, ⟨some 22, .load (some 2) (.tmp 21), none, [4]⟩, ⟨some 23, .build [.slice .nil [], .int .i64 0, .bool false] [(0, 1, .tmp 20), (1, 2, .tmp 22)], none, [3, 5]⟩, ⟨some 24, .bsliceC 3 [.tmp 23], none, [6]⟩, ⟨some 25, .bappend 3 40 (.tmp 17) (.tmp 24) false, none, [0, 7, 3]⟩, ⟨some 3, .move (.tmp 25), none, [8, 8, 0, 1, 2, 3, 4, 5, 6, 7, 8]⟩]
theorem dr_copyAction_0 (P : Program) (nt n0 : Nat) (Q : Post) (s : Slots) (σ : Store) : wpc P nt n0 (.draw d_copyAction_0) Q s σ = aOpsD P nt [⟨some 17, .move (.tmp 3), none, []⟩, ⟨some 18, .faddr 0 (.tmp 5), none, []⟩, ⟨some 19, .load none (.tmp 18), none, [1]⟩, ⟨some 20, .call (.lit (.func 67 [])) [.tmp 19], none, [2]⟩, ⟨some 21, .faddr 1 (.tmp 5), none, []⟩, ⟨some 22, .load (some 2) (.tmp 21), none, [4]⟩, ⟨some 23, .build [.slice .nil [], .int .i64 0, .bool false] [(0, 1, .tmp 20), (1, 2, .tmp 22)], none, [3, 5]⟩, ⟨some 24, .bsliceC 3 [.tmp 23], none, [6]⟩, ⟨some 25, .bappend 3 40 (.tmp 17) (.tmp 24) false, none, [0, 7, 3]⟩, ⟨some 3, .move (.tmp 25), none, [8, 8, 0, 1, 2, 3, 4, 5, 6, 7, 8]⟩] (Q .normal) s σ := wpc_draw _ (by decide)
attribute [local go_sem] dr_copyAction_0
def c_copyAction : CCode := .seq (.ops [⟨some 1, .box (.tmp 0), none, []⟩, ⟨some 2, .alloc (.agg [.str (bys []), .int .i64 0, .slice .nil [], .slice .nil []]), none, []⟩]) (.seq (.ops [⟨some 6, .faddr 2 (.tmp 1), none, []⟩, ⟨some 7, .load none (.tmp 6), none, []⟩, ⟨some 8, .call (.lit (.func 67 [])) [.tmp 7], none, []⟩, ⟨some 9, .faddr 2 (.tmp 1), none, []⟩, ⟨none, .store 1 (.tmp 9) (.tmp 8), none, []⟩]) (.seq (.ops [⟨some 3, .move (.lit (.slice .nil [])), none, []⟩]) (.seq (.seq (.ops [⟨some 10, .faddr 3 (.tmp 1), none, []⟩, ⟨some 11, .load none (.tmp 10), none, []⟩, ⟨some 12, .blen 1 (.tmp 11), none, []⟩, ⟨some 13, .move (.lit (.int .i64 0)), none, []⟩]) (.block 0 (.loop (.seq (.ops [⟨some 14, .bin .lss .none (.tmp 13) (.tmp 12), none, []⟩]) (.seq (.cond (.tmp 14) .skip (.exit 0)) (.seq (.block 1 (.seq (.ops [⟨some 15, .iaddr 3 (.tmp 11) (.tmp 13), none, []⟩, ⟨some 16, .load (some 3) (.tmp 15), none, []⟩, ⟨some 5, .alloc (.agg [.slice .nil [], .int .i64 0, .bool false]), none, []⟩, ⟨none, .store 3 (.tmp 5) (.tmp 16), none, []⟩]) (.draw d_copyAction_0))) (.ops [⟨some 26, .bin .add .none (.tmp 13) (.lit (.int .i64 1)), none, []⟩, ⟨some 13, .move (.tmp 26), none, []⟩]))))))) (.seq (.ghost (.ops [⟨some 27, .move (.tmp 3), none, []⟩, ⟨some 28, .faddr 3 (.tmp 1), none, []⟩, ⟨none, .store 1 (.tmp 28) (.tmp 27), none, []⟩])) (.seq (.ops [⟨some 29, .load (some 4) (.tmp 1), none, []⟩, ⟨none, .store 4 (.tmp 2) (.tmp 29), none, []⟩]) .ret)))))
set_option maxRecDepth 20000 in
theorem copyAction_spec (a : FAct) (σ : Store) (h1 : a.pre.length ≤ 1000000) (h2 : a.effects.length ≤ 1000000) (h3 : ∀ e ∈ a.effects, e.when_.length ≤ 1000000) :
  ACalls Tryz.prog 68 [.agg (encA a)] σ (isR (.agg (encA a)) σ) := by
 refine ACalls.intro (rs := [(.cell (some 4) 2)]) (by kernel_rfl) { own := [], ghosts := [8], cold := [(6, 7)] } Tryz.func68 (c := Tryz.f68.body.getD .skip) (by kernel_rfl) (by decide) (by rw [show Tryz.f68.ntmps = 30 by kernel_rfl]; exact Nat.le_of_ble_eq_true rfl) (by kernel_rfl) ?_
 intro hσ hids
 rw [show comp Tryz.prog { own := [], ghosts := [8], cold := [(6, 7)] } (Tryz.f68.body.getD .skip) = c_copyAction by kernel_rfl, show Tryz.f68.ntmps = 30 by kernel_rfl]
 unfold c_copyAction
 have hz : ∀ n, IdsL n [AV.str (bys []), .int .i64 0, .slice .nil [], .slice .nil []] := fun n => idsL_cons (.str _) (idsL_cons (.int _ _) (idsL_cons (ids_nil _ (by simp)) (idsL_cons (ids_nil _ (by simp)) idsL_nil)))
 have hs0 : IdsS (σ ++ [AObj.row (encA a), AObj.row [AV.str (bys []), .int .i64 0, .slice .nil [], .slice .nil []]]).length (σ ++ [AObj.row (encA a), AObj.row [AV.str (bys []), .int .i64 0, .slice .nil [], .slice .nil []]]) := idsS_app _ hσ (all_cons' (idsO_row (ids_encA a)) (all_cons' (idsO_row (hz _)) all_nil'))
 have hs1 : ∀ n, IdsS (σ ++ [AObj.row (encA a), AObj.row [AV.str (bys []), .int .i64 0, .slice .nil [], .slice .nil []], AObj.grow 3 n]).length (σ ++ [AObj.row (encA a), AObj.row [AV.str (bys []), .int .i64 0, .slice .nil [], .slice .nil []], AObj.grow 3 n]) := fun n => idsS_app _ hσ (all_cons' (idsO_row (ids_encA a)) (all_cons' (idsO_row (hz _)) (all_cons' trivial all_nil')))
 simp only [encA] at hs0 hs1
 simp only [go_sem, simprocAttr, encA]
 refine (copyLits_spec a.pre .unk _ (by omega)).is ?_
 simp only [go_sem, simprocAttr]
 refine wpc_while (fun (i : Nat) => [(3, .slice (.grow (σ.length + 2)) ((a.effects.take i).map encE)), (1, .ptr σ.length 0), (2, .ptr (σ.length + 1) 0), (11, .slice .unk (a.effects.map encE)), (12, .int .i64 a.effects.length), (13, .int .i64 (i : Nat))]) (fun i => σ ++ [.row (encA a), .row [AV.str (bys []), .int .i64 0, .slice .nil [], .slice .nil []], .grow 3 (a.effects.take i).length]) (fun i => i ≤ a.effects.length) (fun i => a.effects.length - i) 0 (Nat.zero_le _) (.beginT [_, _] 3 3 _ tellT hs0) ?_
 intro i hi K hK hE hR
 by_cases h : i < a.effects.length
 ·obtain ⟨e, hx⟩ := get_ex h; have hlt : ((i : Int) < (a.effects.length : Int)) := (by omega); have hw : IntKind.i64.wrap ((i : Int) + 1) = ((i + 1 : Nat) : Int) := (by rw [wrap_ok (by omega)]; omega)
  have hc : (a.effects.take i).map encE ++ [[AV.slice .unk (e.when_.map encLit), .int .i64 e.lit.fact, .bool e.lit.neg]] = (a.effects.take (i + 1)).map encE := by rw [take_succ' hx]; simp [encE]
  have hl : (a.effects.take i).length = i := List.length_take_of_le (by omega)
  have hl1 : (a.effects.take (i + 1)).length = i + 1 := List.length_take_of_le (by omega)
  have hbig : bigLen (i + 1) 40 := big_ok (by omega) (by omega)
  simp only [go_sem, simprocAttr, hlt, hx, encE, encA]
  refine ⟨_, copyLits_spec e.when_ .unk _ (by have := h3 e (List.mem_of_getElem? hx); omega), ?_⟩
  simp only [go_sem, simprocAttr, hbig, hl, hc]
  refine hK _ _ (i + 1) (by omega) (by omega) ?_
  simp only [hl1, encA]
  exact (by (try dsimp only); (try simp only [ hw]); first | exact ghL (hs1 (i + 1)) | exact ghL0 (hs1 (i + 1)))
 ·have hlt : ¬ ((i : Int) < (a.effects.length : Int)) := by omega
  rw [List.take_of_length_le (by omega)]
  simp only [go_sem, simprocAttr, hlt, hE]
  rw [wpc_ghost]; refine Gh.of (Ghost.weak 3 (.slice .unk (a.effects.map encE)) (Wk.unk _ _)) ?_
  simp only [go_sem, simprocAttr, encA]
  refine ret_cN (cells := encA a) rfl (by simp [encA]) rfl (by simp) hσ (ids_agg (ids_encA _)) ⟨rfl, rfl⟩
structure CB (t : FTask) : Prop where
 facts : t.facts.length ≤ 1000000
 init : t.init.length ≤ 1000000
 goal : t.goal.length ≤ 1000000
 acts : t.actions.length ≤ 1000000
 act : ∀ a ∈ t.actions, a.pre.length ≤ 1000000 ∧ a.effects.length ≤ 1000000 ∧ ∀ e ∈ a.effects, e.when_.length ≤ 1000000
def d_copyTask_0 : List COp := [⟨some 6, .faddr 0 (.tmp 1), none, []⟩, ⟨some 7, .load none (.tmp 6), none, [0]⟩, ⟨some 8, .bappendC 1 16 (.lit (.slice .nil [])) (.tmp 7), none, [1]⟩, ⟨some 9, .faddr 1 (.tmp 1), none, []⟩, ⟨some 10, .load none (.tmp 9), none, [3]⟩, ⟨some 11, .bappendC 1 8 (.lit (.slice .nil [])) (.tmp 10), none, [4, 2]⟩, ⟨some 12, .faddr 2 (.tmp 1), none, []⟩, ⟨some 13, .load none (.tmp 12), none, [6]⟩, ⟨some 14, .call (.lit (.func 67 [])) [.tmp 13], none, [7, 5]⟩, ⟨some 15, .build [.slice .nil [], .slice .nil [], .slice .nil [], .slice .nil []] [(0, 1, .tmp 8), (1, 1, .tmp 11), (2, 1, .tmp 14)], none, [2, 5, 8]⟩, ⟨some 3, .alloc (.agg [.slice .nil [], .slice .nil [], .slice .nil [], .slice .nil []]), none, []⟩, ⟨none, .store 4 (.tmp 3) (.tmp 15), none, [10, 9, 8, 0, 1, 2, 3, 4, 5, 6, 7, 8, 9, 10]⟩]
theorem dr_copyTask_0 (P : Program) (nt n0 : Nat) (Q : Post) (s : Slots) (σ : Store) : wpc P nt n0 (.drawU d_copyTask_0 [[], [10], [], [], [10], [], [], [10], [10], [], [1, 4, 7, 8], []]) Q s σ = aOpsU P nt [⟨some 6, .faddr 0 (.tmp 1), none, []⟩, ⟨some 7, .load none (.tmp 6), none, [0]⟩, ⟨some 8, .bappendC 1 16 (.lit (.slice .nil [])) (.tmp 7), none, [1]⟩, ⟨some 9, .faddr 1 (.tmp 1), none, []⟩, ⟨some 10, .load none (.tmp 9), none, [3]⟩, ⟨some 11, .bappendC 1 8 (.lit (.slice .nil [])) (.tmp 10), none, [4, 2]⟩, ⟨some 12, .faddr 2 (.tmp 1), none, []⟩, ⟨some 13, .load none (.tmp 12), none, [6]⟩, ⟨some 14, .call (.lit (.func 67 [])) [.tmp 13], none, [7, 5]⟩, ⟨some 15, .build [.slice .nil [], .slice .nil [], .slice .nil [], .slice .nil []] [(0, 1, .tmp 8), (1, 1, .tmp 11), (2, 1, .tmp 14)], none, [2, 5, 8]⟩, ⟨some 3, .alloc (.agg [.slice .nil [], .slice .nil [], .slice .nil [], .slice .nil []]), none, []⟩, ⟨none, .store 4 (.tmp 3) (.tmp 15), none, [10, 9, 8, 0, 1, 2, 3, 4, 5, 6, 7, 8, 9, 10]⟩] [[], [10], [], [], [10], [], [], [10], [10], [], [1, 4, 7, 8], []] 0 [] [] (Q .normal) s σ := wpc_drawU _ _ (by decide)
def d_copyTask_1 : List COp := [⟨some 23, .faddr 3 (.tmp 3), none, []⟩, ⟨some 24, .load none (.tmp 23), none, [0]⟩, ⟨some 25, .load (some 4) (.tmp 5), none, []⟩, ⟨some 26, .call (.lit (.func 68 [])) [.tmp 25], none, [2]⟩, ⟨some 27, .bsliceC 4 [.tmp 26], none, [3]⟩, ⟨some 28, .bappend 4 72 (.tmp 24) (.tmp 27) false, none, [1, 4, 3]⟩, ⟨some 29, .faddr 3 (.tmp 3), none, [0, 1, 2, 3, 4, 5]⟩, ⟨none, .store 1 (.tmp 29) (.tmp 28), none, [6, 5, 5, 0, 1, 2, 3, 4, 5]⟩]
theorem dr_copyTask_1 (P : Program) (nt n0 : Nat) (Q : Post) (s : Slots) (σ : Store) : wpc P nt n0 (.draw d_copyTask_1) Q s σ = aOpsD P nt [⟨some 23, .faddr 3 (.tmp 3), none, []⟩, ⟨some 24, .load none (.tmp 23), none, [0]⟩, ⟨some 25, .load (some 4) (.tmp 5), none, []⟩, ⟨some 26, .call (.lit (.func 68 [])) [.tmp 25], none, [2]⟩, ⟨some 27, .bsliceC 4 [.tmp 26], none, [3]⟩, ⟨some 28, .bappend 4 72 (.tmp 24) (.tmp 27) false, none, [1, 4, 3]⟩, ⟨some 29, .faddr 3 (.tmp 3), none, [0, 1, 2, 3, 4, 5]⟩, ⟨none, .store 1 (.tmp 29) (.tmp 28), none, [6, 5, 5, 0, 1, 2, 3, 4, 5]⟩] (Q .normal) s σ := wpc_draw _ (by decide)
attribute [local go_sem] dr_copyTask_0 dr_copyTask_1
def c_copyTask : CCode := .seq (.ops [⟨some 1, .box (.tmp 0), none, []⟩, ⟨some 2, .alloc (.agg [.slice .nil [], .slice .nil [], .slice .nil [], .slice .nil []]), none, []⟩]) (.seq (.drawU d_copyTask_0 [[], [10], [], [], [10], [], [], [10], [10], [], [1, 4, 7, 8], []]) (.seq (.seq (.ghost (.ops [⟨some 16, .faddr 3 (.tmp 1), none, []⟩, ⟨some 17, .load none (.tmp 16), none, []⟩, ⟨some 18, .blen 1 (.tmp 17), none, []⟩, ⟨some 19, .move (.lit (.int .i64 0)), none, []⟩])) (.block 0 (.loop (.seq (.ops [⟨some 20, .bin .lss .none (.tmp 19) (.tmp 18), none, []⟩]) (.seq (.cond (.tmp 20) .skip (.exit 0)) (.seq (.block 1 (.seq (.ops [⟨some 21, .iaddr 4 (.tmp 17) (.tmp 19), none, []⟩, ⟨some 22, .load (some 4) (.tmp 21), none, []⟩, ⟨some 5, .alloc (.agg [.str (bys []), .int .i64 0, .slice .nil [], .slice .nil []]), none, []⟩, ⟨none, .store 4 (.tmp 5) (.tmp 22), none, []⟩]) (.draw d_copyTask_1))) (.ops [⟨some 30, .bin .add .none (.tmp 19) (.lit (.int .i64 1)), none, []⟩, ⟨some 19, .move (.tmp 30), none, []⟩]))))))) (.seq (.ghost (.ops [⟨some 31, .load (some 4) (.tmp 3), none, []⟩, ⟨none, .store 4 (.tmp 2) (.tmp 31), none, []⟩])) .ret)))
set_option maxRecDepth 20000 in
theorem copyTask_spec (t : FTask) (σ : Store) (ht : CB t) :
  ACalls Tryz.prog 30 [.agg (encTask t)] σ (isR (.agg (encTask t)) σ) := by
 refine ACalls.intro (rs := [(.cell (some 4) 2)]) (by kernel_rfl) { own := [], ghosts := [2, 7], cold := [(1, 2), (1, 5), (5, 4)], free := [(1, [[], [10], [], [], [10], [], [], [10], [10], [], [1, 4, 7, 8], []])] } Tryz.func30 (c := Tryz.f30.body.getD .skip) (by kernel_rfl) (by decide) (by rw [show Tryz.f30.ntmps = 32 by kernel_rfl]; exact Nat.le_of_ble_eq_true rfl) (by kernel_rfl) ?_
 intro hσ hids
 rw [show comp Tryz.prog { own := [], ghosts := [2, 7], cold := [(1, 2), (1, 5), (5, 4)], free := [(1, [[], [10], [], [], [10], [], [], [10], [10], [], [1, 4, 7, 8], []])] } (Tryz.f30.body.getD .skip) = c_copyTask by kernel_rfl, show Tryz.f30.ntmps = 32 by kernel_rfl]
 unfold c_copyTask
 have b1 := ht.facts
 have b2 := ht.init
 have b3 := ht.goal
 have b4 := ht.acts
 have hz : ∀ n, IdsL n [AV.slice .nil [], .slice .nil [], .slice .nil [], .slice .nil []] := fun n => idsL_cons (ids_nil _ (by simp)) (idsL_cons (ids_nil _ (by simp)) (idsL_cons (ids_nil _ (by simp)) (idsL_cons (ids_nil _ (by simp)) idsL_nil)))
 have hbig1 : bigLen t.facts.length 16 := big_ok (by omega) (by omega)
 have hbig2 : bigLen t.init.length 8 := big_ok (by omega) (by omega)
 have hall1 : ∀ x ∈ t.facts, (encT x).length = 1 ∧ (encT x).all AV.one = true := fun x _ => ⟨rfl, rfl⟩
 have hall2 : ∀ x ∈ t.init, (Ahl.encI x).length = 1 ∧ (Ahl.encI x).all AV.one = true := fun x _ => ⟨rfl, rfl⟩
 let S : Nat → Store := fun i => [.row (encTask t), .row [AV.slice .nil [], .slice .nil [], .slice .nil [], .slice .nil []], .row [AV.slice .fresh (t.facts.map encT), .slice .fresh (t.init.map Ahl.encI), .slice .unk (t.goal.map encLit), .slice (.grow (σ.length + 3)) ((t.actions.take i).map encA)], .grow 4 (t.actions.take i).length]
 have hS : ∀ i, IdsS (σ ++ S i).length (σ ++ S i) := fun i => idsS_app _ hσ (all_cons' (idsO_row (ids_encTask t)) (all_cons' (idsO_row (hz _)) (all_cons' (idsO_row (idsL_cons (ids_mapf ids_encT _) (idsL_cons (ids_mapf ids_encI _) (idsL_cons (ids_map ids_encLit _) (idsL_cons (ids_grow_map ids_encA (by simp [S])) idsL_nil))))) (all_cons' trivial all_nil'))))
 simp only [go_sem, simprocAttr, encTask, hbig1, hbig2]
 refine ⟨hall1, hall2, ?_⟩
 refine ⟨_, copyLits_spec t.goal .unk _ (by omega), ?_⟩
 simp only [go_sem, simprocAttr]
 refine ⟨copyLits_spec t.goal .unk _ (by omega), ?_⟩
 rw [wpc_ghost]; refine Gh.of (Ghost.tokRow (σ.length + 2) 3 4 (cells := [AV.slice .fresh (t.facts.map encT), .slice .fresh (t.init.map Ahl.encI), .slice .unk (t.goal.map encLit), .slice .nil []]) (by rw [g_get]; rfl) rfl) ?_
 simp only [go_sem, simprocAttr]
 refine wpc_while (fun (i : Nat) => [(2, .ptr (σ.length + 1) 0), (3, .ptr (σ.length + 2) 0), (17, .slice .unk (t.actions.map encA)), (18, .int .i64 t.actions.length), (19, .int .i64 (i : Nat))]) (fun i => σ ++ S i) (fun i => i ≤ t.actions.length) (fun i => t.actions.length - i) 0 (Nat.zero_le _) (by simp only [S, encTask]; exact (by (try dsimp only); first | exact ghL (hS 0) | exact ghL0 (hS 0))) ?_
 intro i hi K hK hE hR
 by_cases h : i < t.actions.length
 ·obtain ⟨a, hx⟩ := get_ex h; have hlt : ((i : Int) < (t.actions.length : Int)) := (by omega); have hw : IntKind.i64.wrap ((i : Int) + 1) = ((i + 1 : Nat) : Int) := (by rw [wrap_ok (by omega)]; omega)
  have hc : (t.actions.take i).map encA ++ [encA a] = (t.actions.take (i + 1)).map encA := by rw [take_succ' hx]; simp
  have hl : (t.actions.take i).length = i := List.length_take_of_le (by omega)
  have hl1 : (t.actions.take (i + 1)).length = i + 1 := List.length_take_of_le (by omega)
  have hbig : bigLen (i + 1) 72 := big_ok (by omega) (by omega)
  have ha := ht.act a (List.mem_of_getElem? hx)
  simp only [encA] at hc
  simp only [go_sem, simprocAttr, S, hlt, hx, encA, encTask]
  refine ⟨_, copyAction_spec a _ ha.1 ha.2.1 ha.2.2, ?_⟩
  simp only [go_sem, simprocAttr, hbig, hl, hc, encA]
  refine hK _ _ (i + 1) (by omega) (by omega) ?_
  have hq := hS (i + 1)
  simp only [S, hl1, encTask] at hq ⊢
  exact (by (try dsimp only); (try simp only [ hw]); first | exact ghL (hq) | exact ghL0 (hq))
 ·have hlt : ¬ ((i : Int) < (t.actions.length : Int)) := by omega
  simp only [go_sem, simprocAttr, S, hlt, hE, encTask]
  rw [List.take_of_length_le (by omega)]
  rw [wpc_ghost]; refine Gh.of (Ghost.rewk (σ.length + 2) (by rw [g_get]; rfl) (ys := encTask t) (.cons (Wk.unk _ _) (.cons (Wk.unk _ _) (.cons (.refl _) (.cons (Wk.unk _ _) .nil))))) ?_
  simp only [go_sem, simprocAttr, encTask]
  refine ret_cN (cells := encTask t) rfl (by simp [encTask]) rfl (by simp) hσ (ids_agg (ids_encTask _)) ⟨rfl, rfl⟩
theorem sameLits_self (l : List FLit) (σ : Store) (hl : l.length ≤ 1000000) : ACalls Tryz.prog 69 [.slice .unk (l.map encLit), .slice .unk (l.map encLit)] σ (isR (.bool true) σ) := by
 have := sameLits_spec l l .unk .unk σ (by omega) (by omega)
 simpa using this
def d_sameAction_0 : List COp := [⟨some 44, .faddr 1 (.tmp 6), none, []⟩, ⟨some 45, .load (some 2) (.tmp 44), none, [0]⟩, ⟨some 46, .faddr 3 (.tmp 3), none, []⟩, ⟨some 47, .load none (.tmp 46), none, [2]⟩, ⟨some 48, .move (.tmp 5), none, []⟩, ⟨some 49, .iaddr 3 (.tmp 47) (.tmp 48), none, [3, 4]⟩, ⟨some 50, .faddr 1 (.tmp 49), none, [5]⟩, ⟨some 51, .load (some 2) (.tmp 50), none, [6]⟩, ⟨some 52, .bin .neq (.flat [1, 0]) (.tmp 45) (.tmp 51), none, [1, 7]⟩, ⟨some 53, .move (.tmp 52), none, [8]⟩, ⟨some 54, .faddr 0 (.tmp 6), some (some 53, false), [9]⟩, ⟨some 55, .load none (.tmp 54), some (some 53, false), [10, 9]⟩, ⟨some 56, .faddr 3 (.tmp 3), some (some 53, false), [9]⟩, ⟨some 57, .load none (.tmp 56), some (some 53, false), [12, 9]⟩, ⟨some 58, .move (.tmp 5), some (some 53, false), [9]⟩, ⟨some 59, .iaddr 3 (.tmp 57) (.tmp 58), some (some 53, false), [13, 14, 9]⟩, ⟨some 60, .faddr 0 (.tmp 59), some (some 53, false), [15, 9]⟩, ⟨some 61, .load none (.tmp 60), some (some 53, false), [16, 9]⟩, ⟨some 62, .call (.lit (.func 69 [])) [.tmp 55, .tmp 61], some (some 53, false), [11, 17, 9, 9]⟩, ⟨some 63, .un .not (.tmp 62), some (some 53, false), [18, 9]⟩, ⟨some 64, .pick (.tmp 53) (.lit (.bool true)) (.tmp 63), none, [9, 19]⟩]
theorem dr_sameAction_0 (P : Program) (nt n0 : Nat) (Q : Post) (s : Slots) (σ : Store) : wpc P nt n0 (.draw d_sameAction_0) Q s σ = aOpsD P nt [⟨some 44, .faddr 1 (.tmp 6), none, []⟩, ⟨some 45, .load (some 2) (.tmp 44), none, [0]⟩, ⟨some 46, .faddr 3 (.tmp 3), none, []⟩, ⟨some 47, .load none (.tmp 46), none, [2]⟩, ⟨some 48, .move (.tmp 5), none, []⟩, ⟨some 49, .iaddr 3 (.tmp 47) (.tmp 48), none, [3, 4]⟩, ⟨some 50, .faddr 1 (.tmp 49), none, [5]⟩, ⟨some 51, .load (some 2) (.tmp 50), none, [6]⟩, ⟨some 52, .bin .neq (.flat [1, 0]) (.tmp 45) (.tmp 51), none, [1, 7]⟩, ⟨some 53, .move (.tmp 52), none, [8]⟩, ⟨some 54, .faddr 0 (.tmp 6), some (some 53, false), [9]⟩, ⟨some 55, .load none (.tmp 54), some (some 53, false), [10, 9]⟩, ⟨some 56, .faddr 3 (.tmp 3), some (some 53, false), [9]⟩, ⟨some 57, .load none (.tmp 56), some (some 53, false), [12, 9]⟩, ⟨some 58, .move (.tmp 5), some (some 53, false), [9]⟩, ⟨some 59, .iaddr 3 (.tmp 57) (.tmp 58), some (some 53, false), [13, 14, 9]⟩, ⟨some 60, .faddr 0 (.tmp 59), some (some 53, false), [15, 9]⟩, ⟨some 61, .load none (.tmp 60), some (some 53, false), [16, 9]⟩, ⟨some 62, .call (.lit (.func 69 [])) [.tmp 55, .tmp 61], some (some 53, false), [11, 17, 9, 9]⟩, ⟨some 63, .un .not (.tmp 62), some (some 53, false), [18, 9]⟩, ⟨some 64, .pick (.tmp 53) (.lit (.bool true)) (.tmp 63), none, [9, 19]⟩] (Q .normal) s σ := wpc_draw _ (by decide)
attribute [local go_sem] dr_sameAction_0
def c_sameAction : CCode := .seq (.ops [⟨some 2, .box (.tmp 0), none, []⟩, ⟨some 3, .box (.tmp 1), none, []⟩, ⟨some 4, .move (.lit (.bool false)), none, []⟩]) (.seq (.seq (.ops [⟨some 7, .faddr 0 (.tmp 2), none, []⟩, ⟨some 8, .load none (.tmp 7), none, []⟩, ⟨some 9, .faddr 0 (.tmp 3), none, []⟩, ⟨some 10, .load none (.tmp 9), none, []⟩, ⟨some 11, .bin .neq .none (.tmp 8) (.tmp 10), none, []⟩, ⟨some 12, .move (.tmp 11), none, []⟩, ⟨some 13, .faddr 1 (.tmp 2), some (some 12, false), []⟩, ⟨some 14, .load none (.tmp 13), some (some 12, false), []⟩, ⟨some 15, .faddr 1 (.tmp 3), some (some 12, false), []⟩, ⟨some 16, .load none (.tmp 15), some (some 12, false), []⟩, ⟨some 17, .bin .neq .none (.tmp 14) (.tmp 16), some (some 12, false), []⟩, ⟨some 18, .pick (.tmp 12) (.lit (.bool true)) (.tmp 17), none, []⟩, ⟨some 19, .move (.tmp 18), none, []⟩, ⟨some 20, .faddr 2 (.tmp 2), some (some 19, false), []⟩, ⟨some 21, .load none (.tmp 20), some (some 19, false), []⟩, ⟨some 22, .faddr 2 (.tmp 3), some (some 19, false), []⟩, ⟨some 23, .load none (.tmp 22), some (some 19, false), []⟩, ⟨some 24, .call (.lit (.func 69 [])) [.tmp 21, .tmp 23], some (some 19, false), []⟩, ⟨some 25, .un .not (.tmp 24), some (some 19, false), []⟩, ⟨some 26, .pick (.tmp 19) (.lit (.bool true)) (.tmp 25), none, []⟩, ⟨some 27, .move (.tmp 26), none, []⟩, ⟨some 28, .faddr 3 (.tmp 2), some (some 27, false), []⟩, ⟨some 29, .load none (.tmp 28), some (some 27, false), []⟩, ⟨some 30, .blen 1 (.tmp 29), some (some 27, false), []⟩, ⟨some 31, .faddr 3 (.tmp 3), some (some 27, false), []⟩, ⟨some 32, .load none (.tmp 31), some (some 27, false), []⟩, ⟨some 33, .blen 1 (.tmp 32), some (some 27, false), []⟩, ⟨some 34, .bin .neq .none (.tmp 30) (.tmp 33), some (some 27, false), []⟩, ⟨some 35, .pick (.tmp 27) (.lit (.bool true)) (.tmp 34), none, []⟩]) (.cond (.tmp 35) (.seq (.ops [⟨some 4, .move (.lit (.bool false)), none, []⟩]) .ret) .skip)) (.seq (.seq (.ops [⟨some 36, .faddr 3 (.tmp 2), none, []⟩, ⟨some 37, .load none (.tmp 36), none, []⟩, ⟨some 38, .blen 1 (.tmp 37), none, []⟩, ⟨some 39, .move (.lit (.int .i64 0)), none, []⟩]) (.block 0 (.loop (.seq (.ops [⟨some 40, .bin .lss .none (.tmp 39) (.tmp 38), none, []⟩]) (.seq (.cond (.tmp 40) .skip (.exit 0)) (.seq (.block 1 (.seq (.ops [⟨some 41, .move (.tmp 39), none, []⟩, ⟨some 42, .iaddr 3 (.tmp 37) (.tmp 39), none, []⟩, ⟨some 43, .load (some 3) (.tmp 42), none, []⟩, ⟨some 6, .alloc (.agg [.slice .nil [], .int .i64 0, .bool false]), none, []⟩, ⟨some 5, .move (.tmp 41), none, []⟩, ⟨none, .store 3 (.tmp 6) (.tmp 43), none, []⟩]) (.seq (.draw d_sameAction_0) (.cond (.tmp 64) (.seq (.ops [⟨some 4, .move (.lit (.bool false)), none, []⟩]) .ret) .skip)))) (.ops [⟨some 65, .bin .add .none (.tmp 39) (.lit (.int .i64 1)), none, []⟩, ⟨some 39, .move (.tmp 65), none, []⟩]))))))) (.seq (.ops [⟨some 4, .move (.lit (.bool true)), none, []⟩]) .ret)))
set_option maxRecDepth 20000 in
theorem sameAction_self (a : FAct) (σ : Store) (h1 : a.pre.length ≤ 1000000) (h2 : a.effects.length ≤ 1000000) (h3 : ∀ e ∈ a.effects, e.when_.length ≤ 1000000) :
  ACalls Tryz.prog 70 [.agg (encA a), .agg (encA a)] σ (isR (.bool true) σ) := by
 refine ACalls.intro (rs := [(.tmp 4)]) (by kernel_rfl) { own := [], ghosts := [] } Tryz.func70 (c := Tryz.f70.body.getD .skip) (by kernel_rfl) (by decide) (by rw [show Tryz.f70.ntmps = 66 by kernel_rfl]; exact Nat.le_of_ble_eq_true rfl) (by kernel_rfl) ?_
 intro hσ hids
 rw [show comp Tryz.prog { own := [], ghosts := [] } (Tryz.f70.body.getD .skip) = c_sameAction by kernel_rfl, show Tryz.f70.ntmps = 66 by kernel_rfl]
 unfold c_sameAction
 have hs1 : IdsS (σ ++ [AObj.row (encA a), AObj.row (encA a)]).length (σ ++ [AObj.row (encA a), AObj.row (encA a)]) := idsS_app _ hσ (all_cons' (idsO_row (ids_encA a)) (all_cons' (idsO_row (ids_encA a)) all_nil'))
 simp only [encA] at hs1
 simp only [go_sem, simprocAttr, encA, bne_self_eq_false]
 refine (sameLits_self a.pre _ h1).is ?_
 simp only [go_sem, simprocAttr, bne_self_eq_false]
 refine wpc_while (fun (i : Nat) => [(3, .ptr (σ.length + 1) 0), (37, .slice .unk (a.effects.map encE)), (38, .int .i64 a.effects.length), (39, .int .i64 (i : Nat))]) (fun _ => σ ++ [.row (encA a), .row (encA a)]) (fun i => i ≤ a.effects.length) (fun i => a.effects.length - i) 0 (Nat.zero_le _) (by simp only [encA]; exact (by (try dsimp only); first | exact ghL (hs1) | exact ghL0 (hs1))) ?_
 intro i hi K hK hE hR
 by_cases h : i < a.effects.length
 ·obtain ⟨e, hx⟩ := get_ex h; have hlt : ((i : Int) < (a.effects.length : Int)) := (by omega); have hw : IntKind.i64.wrap ((i : Int) + 1) = ((i + 1 : Nat) : Int) := (by rw [wrap_ok (by omega)]; omega)
  have hf := flat_lit e.lit e.lit
  simp only [encLit] at hf
  have hd : decide (e.lit = e.lit) = true := decide_eq_true rfl
  simp only [go_sem, simprocAttr, hlt, hx, encE, encA, hf, hd]
  refine ⟨_, sameLits_self e.when_ _ (h3 e (List.mem_of_getElem? hx)), ?_⟩
  simp only [go_sem, simprocAttr]
  refine hK _ _ (i + 1) (by omega) (by omega) ?_
  simp only [encA]
  exact (by (try dsimp only); (try simp only [ hw]); first | exact ghL (hs1) | exact ghL0 (hs1))
 ·have hlt : ¬ ((i : Int) < (a.effects.length : Int)) := by omega
  simp only [go_sem, simprocAttr, hlt, hE]
  first | exact rtk (.bool true) ⟨rfl, rfl⟩ | exact rtk0 (.bool true) ⟨rfl, rfl⟩
def d_same01_0 : List COp := [⟨some 65, .load (some 4) (.tmp 8), none, []⟩, ⟨some 66, .faddr 3 (.tmp 3), none, []⟩, ⟨some 67, .load none (.tmp 66), none, [1]⟩, ⟨some 68, .move (.tmp 7), none, []⟩, ⟨some 69, .iaddr 4 (.tmp 67) (.tmp 68), none, [2, 3]⟩, ⟨some 70, .load (some 4) (.tmp 69), none, [4]⟩, ⟨some 71, .call (.lit (.func 70 [])) [.tmp 65, .tmp 70], none, [0, 5]⟩, ⟨some 72, .un .not (.tmp 71), none, [6]⟩]
theorem dr_same01_0 (P : Program) (nt n0 : Nat) (Q : Post) (s : Slots) (σ : Store) : wpc P nt n0 (.draw d_same01_0) Q s σ = aOpsD P nt [⟨some 65, .load (some 4) (.tmp 8), none, []⟩, ⟨some 66, .faddr 3 (.tmp 3), none, []⟩, ⟨some 67, .load none (.tmp 66), none, [1]⟩, ⟨some 68, .move (.tmp 7), none, []⟩, ⟨some 69, .iaddr 4 (.tmp 67) (.tmp 68), none, [2, 3]⟩, ⟨some 70, .load (some 4) (.tmp 69), none, [4]⟩, ⟨some 71, .call (.lit (.func 70 [])) [.tmp 65, .tmp 70], none, [0, 5]⟩, ⟨some 72, .un .not (.tmp 71), none, [6]⟩] (Q .normal) s σ := wpc_draw _ (by decide)
attribute [local go_sem] dr_same01_0
def c_same01 : CCode := .seq (.ops [⟨some 2, .box (.tmp 0), none, []⟩, ⟨some 3, .box (.tmp 1), none, []⟩, ⟨some 4, .move (.lit (.bool false)), none, []⟩]) (.seq (.seq (.ops [⟨some 9, .faddr 0 (.tmp 2), none, []⟩, ⟨some 10, .load none (.tmp 9), none, []⟩, ⟨some 11, .blen 1 (.tmp 10), none, []⟩, ⟨some 12, .faddr 0 (.tmp 3), none, []⟩, ⟨some 13, .load none (.tmp 12), none, []⟩, ⟨some 14, .blen 1 (.tmp 13), none, []⟩, ⟨some 15, .bin .neq .none (.tmp 11) (.tmp 14), none, []⟩, ⟨some 16, .move (.tmp 15), none, []⟩, ⟨some 17, .faddr 1 (.tmp 2), some (some 16, false), []⟩, ⟨some 18, .load none (.tmp 17), some (some 16, false), []⟩, ⟨some 19, .faddr 1 (.tmp 3), some (some 16, false), []⟩, ⟨some 20, .load none (.tmp 19), some (some 16, false), []⟩, ⟨some 21, .call (.lit (.func 23 [])) [.tmp 18, .tmp 20], some (some 16, false), []⟩, ⟨some 22, .un .not (.tmp 21), some (some 16, false), []⟩, ⟨some 23, .pick (.tmp 16) (.lit (.bool true)) (.tmp 22), none, []⟩, ⟨some 24, .move (.tmp 23), none, []⟩, ⟨some 25, .faddr 2 (.tmp 2), some (some 24, false), []⟩, ⟨some 26, .load none (.tmp 25), some (some 24, false), []⟩, ⟨some 27, .faddr 2 (.tmp 3), some (some 24, false), []⟩, ⟨some 28, .load none (.tmp 27), some (some 24, false), []⟩, ⟨some 29, .call (.lit (.func 69 [])) [.tmp 26, .tmp 28], some (some 24, false), []⟩, ⟨some 30, .un .not (.tmp 29), some (some 24, false), []⟩, ⟨some 31, .pick (.tmp 24) (.lit (.bool true)) (.tmp 30), none, []⟩, ⟨some 32, .move (.tmp 31), none, []⟩, ⟨some 33, .faddr 3 (.tmp 2), some (some 32, false), []⟩, ⟨some 34, .load none (.tmp 33), some (some 32, false), []⟩, ⟨some 35, .blen 1 (.tmp 34), some (some 32, false), []⟩, ⟨some 36, .faddr 3 (.tmp 3), some (some 32, false), []⟩, ⟨some 37, .load none (.tmp 36), some (some 32, false), []⟩, ⟨some 38, .blen 1 (.tmp 37), some (some 32, false), []⟩, ⟨some 39, .bin .neq .none (.tmp 35) (.tmp 38), some (some 32, false), []⟩, ⟨some 40, .pick (.tmp 32) (.lit (.bool true)) (.tmp 39), none, []⟩]) (.cond (.tmp 40) (.seq (.ops [⟨some 4, .move (.lit (.bool false)), none, []⟩]) .ret) .skip)) (.seq (.seq (.ops [⟨some 41, .faddr 0 (.tmp 2), none, []⟩, ⟨some 42, .load none (.tmp 41), none, []⟩, ⟨some 43, .blen 1 (.tmp 42), none, []⟩, ⟨some 44, .move (.lit (.int .i64 0)), none, []⟩]) (.block 0 (.loop (.seq (.ops [⟨some 45, .bin .lss .none (.tmp 44) (.tmp 43), none, []⟩]) (.seq (.cond (.tmp 45) .skip (.exit 0)) (.seq (.block 1 (.seq (.ops [⟨some 46, .move (.tmp 44), none, []⟩, ⟨some 47, .iaddr 1 (.tmp 42) (.tmp 44), none, []⟩, ⟨some 48, .load none (.tmp 47), none, []⟩, ⟨some 5, .move (.tmp 46), none, []⟩, ⟨some 6, .move (.tmp 48), none, []⟩]) (.seq (.ops [⟨some 49, .move (.tmp 6), none, []⟩, ⟨some 50, .faddr 0 (.tmp 3), none, []⟩, ⟨some 51, .load none (.tmp 50), none, []⟩, ⟨some 52, .move (.tmp 5), none, []⟩, ⟨some 53, .iaddr 1 (.tmp 51) (.tmp 52), none, []⟩, ⟨some 54, .load none (.tmp 53), none, []⟩, ⟨some 55, .bin .neq .none (.tmp 49) (.tmp 54), none, []⟩]) (.cond (.tmp 55) (.seq (.ops [⟨some 4, .move (.lit (.bool false)), none, []⟩]) .ret) .skip)))) (.ops [⟨some 56, .bin .add .none (.tmp 44) (.lit (.int .i64 1)), none, []⟩, ⟨some 44, .move (.tmp 56), none, []⟩]))))))) (.seq (.seq (.ops [⟨some 57, .faddr 3 (.tmp 2), none, []⟩, ⟨some 58, .load none (.tmp 57), none, []⟩, ⟨some 59, .blen 1 (.tmp 58), none, []⟩, ⟨some 60, .move (.lit (.int .i64 0)), none, []⟩]) (.block 2 (.loop (.seq (.ops [⟨some 61, .bin .lss .none (.tmp 60) (.tmp 59), none, []⟩]) (.seq (.cond (.tmp 61) .skip (.exit 2)) (.seq (.block 3 (.seq (.ops [⟨some 62, .move (.tmp 60), none, []⟩, ⟨some 63, .iaddr 4 (.tmp 58) (.tmp 60), none, []⟩, ⟨some 64, .load (some 4) (.tmp 63), none, []⟩, ⟨some 8, .alloc (.agg [.str (bys []), .int .i64 0, .slice .nil [], .slice .nil []]), none, []⟩, ⟨some 7, .move (.tmp 62), none, []⟩, ⟨none, .store 4 (.tmp 8) (.tmp 64), none, []⟩]) (.seq (.draw d_same01_0) (.cond (.tmp 72) (.seq (.ops [⟨some 4, .move (.lit (.bool false)), none, []⟩]) .ret) .skip)))) (.ops [⟨some 73, .bin .add .none (.tmp 60) (.lit (.int .i64 1)), none, []⟩, ⟨some 60, .move (.tmp 73), none, []⟩]))))))) (.seq (.ops [⟨some 4, .move (.lit (.bool true)), none, []⟩]) .ret))))
set_option maxRecDepth 20000 in
theorem same01_self (t : FTask) (σ : Store) (ht : CB t) :
  ACalls Tryz.prog 34 [.agg (encTask t), .agg (encTask t)] σ (isR (.bool true) σ) := by
 refine ACalls.intro (rs := [(.tmp 4)]) (by kernel_rfl) { own := [], ghosts := [] } Tryz.func34 (c := Tryz.f34.body.getD .skip) (by kernel_rfl) (by decide) (by rw [show Tryz.f34.ntmps = 74 by kernel_rfl]; exact Nat.le_of_ble_eq_true rfl) (by kernel_rfl) ?_
 intro hσ hids
 rw [show comp Tryz.prog { own := [], ghosts := [] } (Tryz.f34.body.getD .skip) = c_same01 by kernel_rfl, show Tryz.f34.ntmps = 74 by kernel_rfl]
 unfold c_same01
 have hs1 : IdsS (σ ++ [AObj.row (encTask t), AObj.row (encTask t)]).length (σ ++ [AObj.row (encTask t), AObj.row (encTask t)]) := idsS_app _ hσ (all_cons' (idsO_row (ids_encTask t)) (all_cons' (idsO_row (ids_encTask t)) all_nil'))
 simp only [encTask] at hs1
 have hb : ∀ s : ByteArray, (s.toList == s.toList) = true := fun s => beq_self_eq_true _
 have hsi : ∀ σ, ACalls Tryz.prog 23 [.slice .unk (t.init.map Ahl.encI), .slice .unk (t.init.map Ahl.encI)] σ (isR (.bool true) σ) := fun σ => by
  have := sameInts_spec t.init t.init .unk .unk σ (by have := ht.init; omega) (by have := ht.init; omega)
  simpa using this
 simp only [go_sem, simprocAttr, encTask, bne_self_eq_false]
 refine (hsi _).is ?_
 simp only [go_sem, simprocAttr, bne_self_eq_false]
 refine (sameLits_self t.goal _ ht.goal).is ?_
 simp only [go_sem, simprocAttr, bne_self_eq_false]
 have b1 := ht.facts
 have b4 := ht.acts
 refine wpc_while (fun (i : Nat) => [(2, .ptr σ.length 0), (3, .ptr (σ.length + 1) 0), (42, .slice .unk (t.facts.map encT)), (43, .int .i64 t.facts.length), (44, .int .i64 (i : Nat))]) (fun _ => σ ++ [.row (encTask t), .row (encTask t)]) (fun i => i ≤ t.facts.length) (fun i => t.facts.length - i) 0 (Nat.zero_le _) (by simp only [encTask]; exact (by (try dsimp only); first | exact ghL (hs1) | exact ghL0 (hs1))) ?_
 intro i hi K hK hE hR
 by_cases h : i < t.facts.length
 ·obtain ⟨x, hx⟩ := get_ex h; have hlt : ((i : Int) < (t.facts.length : Int)) := (by omega); have hw : IntKind.i64.wrap ((i : Int) + 1) = ((i + 1 : Nat) : Int) := (by rw [wrap_ok (by omega)]; omega)
  simp only [go_sem, simprocAttr, hlt, hx, encT, encTask, hb]
  refine hK _ _ (i + 1) (by omega) (by omega) ?_
  simp only [encTask]
  exact (by (try dsimp only); (try simp only [ hw]); first | exact ghL (hs1) | exact ghL0 (hs1))
 ·have hlt : ¬ ((i : Int) < (t.facts.length : Int)) := by omega
  simp only [go_sem, simprocAttr, hlt, hE, encTask]
  refine wpc_while (fun (i : Nat) => [(3, .ptr (σ.length + 1) 0), (58, .slice .unk (t.actions.map encA)), (59, .int .i64 t.actions.length), (60, .int .i64 (i : Nat))]) (fun _ => σ ++ [.row (encTask t), .row (encTask t)]) (fun i => i ≤ t.actions.length) (fun i => t.actions.length - i) 0 (Nat.zero_le _) (by simp only [encTask]; exact (by (try dsimp only); first | exact ghL (hs1) | exact ghL0 (hs1))) ?_
  intro i hi K hK hE hR
  by_cases h : i < t.actions.length
  ·obtain ⟨a, hx⟩ := get_ex h; have hlt : ((i : Int) < (t.actions.length : Int)) := (by omega); have hw : IntKind.i64.wrap ((i : Int) + 1) = ((i + 1 : Nat) : Int) := (by rw [wrap_ok (by omega)]; omega)
   have ha := ht.act a (List.mem_of_getElem? hx)
   simp only [go_sem, simprocAttr, hlt, hx, encA, encTask]
   refine ⟨_, sameAction_self a _ ha.1 ha.2.1 ha.2.2, ?_⟩
   simp only [go_sem, simprocAttr]
   refine hK _ _ (i + 1) (by omega) (by omega) ?_
   simp only [encTask]
   exact (by (try dsimp only); (try simp only [ hw]); first | exact ghL (hs1) | exact ghL0 (hs1))
  ·have hlt : ¬ ((i : Int) < (t.actions.length : Int)) := by omega
   simp only [go_sem, simprocAttr, hlt, hE]
   first | exact rtk (.bool true) ⟨rfl, rfl⟩ | exact rtk0 (.bool true) ⟨rfl, rfl⟩
end Go.Proofs.YtjmmldkailblmaaGreat
namespace Go.Proofs.YtjmmldkailblmaaGreat
open Go.Ahl
theorem strict_of {l : List (List Int)} (h : l.Pairwise fun x y => ¬ cmpInts y x < 0) (hn : l.Nodup) : l.Pairwise ltL := by
 refine List.Pairwise.imp (R := fun x y => (¬ cmpInts y x < 0) ∧ x ≠ y) ?_ (List.Pairwise.and h hn)
 rintro a b ⟨h1, h2⟩
 rcases cmpInts_total h1 with q | q
 ·exact q
 ·exact absurd q.symm h2
structure EntOk (w : Wld) (n : Nat) (E : List FEnt) : Prop where
 strict : (E.map (·.1)).Pairwise ltL
 mem : ∀ e ∈ E, e.1 ∈ w.ss
 le : E.length ≤ w.ss.length
 len : E.length = n
def lenE (w : Wld) (chosen : List Int) : Nat := (outE w chosen (bfs w chosen w.ss.length)).length
theorem entP_facts {w : Wld} {chosen : List Int} {r : AV} (hw : WOk w) (hc : ChOk w chosen) (h0 : 0 < w.ss.length) (hnd : w.ss.Nodup) (h : EntP w chosen r) :
  ∃ E, E.Perm (outE w chosen (bfs w chosen w.ss.length)) ∧ EntOk w (lenE w chosen) E ∧ r = .slice .fresh (E.map vE) := by
 obtain ⟨E, hp, hs, rfl⟩ := h
 obtain ⟨b1, b2⟩ := bfs_ok hw hc h0 w.ss.length
 have hg : ∀ i, i < w.ss.length → w.ss[i]? = some (w.ss.getD i []) := fun i hi => by
  obtain ⟨s, hs⟩ := get_ex hi
  rw [getD_get hs]; exact hs
 have hmem : ∀ e ∈ outE w chosen (bfs w chosen w.ss.length), e.1 ∈ w.ss := fun e he => by
  obtain ⟨i, hi, rfl⟩ := List.mem_map.1 he
  exact List.mem_of_getElem? (hg i (b2 i (List.mem_filter.1 hi).1))
 have hnd2 : ((outE w chosen (bfs w chosen w.ss.length)).map (·.1)).Nodup := by
  unfold outE List.Nodup
  rw [List.map_map, List.pairwise_map]
  refine List.Pairwise.imp_of_mem ?_ (b1.filter _)
  intro i j hi hj hne he
  have hi' := b2 i (List.mem_filter.1 hi).1
  have hj' := b2 j (List.mem_filter.1 hj).1
  have he' : w.ss.getD i [] = w.ss.getD j [] := he
  exact hne ((List.getElem?_inj hi' hnd).1 (by rw [hg i hi', hg j hj', he']))
 have hlen : (outE w chosen (bfs w chosen w.ss.length)).length ≤ w.ss.length := by
  have h1 := nodup_sub_len hnd2 (m := w.ss) (fun x hx => by obtain ⟨e, he, rfl⟩ := List.mem_map.1 hx; exact hmem e he)
  simpa using h1
 refine ⟨E, hp, ⟨?_, fun e he => hmem e (hp.mem_iff.1 he), by rw [hp.length_eq]; exact hlen, hp.length_eq⟩, rfl⟩
 refine strict_of (by rw [List.pairwise_map]; exact hs) ?_
 exact ((hp.map (·.1)).nodup_iff).2 hnd2
def strE (t : FTask) (g : List (List Int)) : Int := if askE t g = 0 then (if dOf (wldF t g t.init) < 0 then 4 else 0) else askE t g
def strN (t : FTask) (g : List (List Int)) : Nat := if askE t g = 0 then (if dOf (wldF t g t.init) < 0 then 0 else lenE (wldF t g t.init) (strongC (wldF t g t.init))) else 0
theorem wld_facts {t : FTask} {g : List (List Int)} (hb : PB t) (h7 : validB t = true → t.facts.length ≤ 7) (h : askE t g = 0) :
  WOk (wldF t g t.init) ∧ (wldF t g t.init).ss.Nodup ∧ 0 < (wldF t g t.init).ss.length ∧ (wldF t g t.init).ss.length ≤ 256 ∧ ∀ s ∈ (wldF t g t.init).ss, s.length ≤ 256 := by
 obtain ⟨hv, hch⟩ := askE_zero h
 obtain ⟨hSB, hEO, hfl⟩ := valid_SB hb hv
 have hri := valid_init16 hv
 have h7' := h7 hv
 refine ⟨wldF_ok hEO hch hri (by omega), nodup_ssF _ _ _, wld_pos _ _ _, ?_, fun s hs => ?_⟩
 ·have h1 := ssK_len hEO hch hri (2 ^ t.facts.length) (g := g)
  have h2n : 2 ^ t.facts.length ≤ 128 := Nat.pow_le_pow_right (n := 2) (by omega) h7'
  have h3 : (ssF t g t.init).length ≤ 256 := by unfold ssF; omega
  exact h3
 ·rcases rising_len (rising_ssF hEO hch hri s hs) (by omega) with q | q
  ·omega
  ·rw [q]; simp
def EntR (t : FTask) (g : List (List Int)) (e : Int) (n : Nat) (r : AV) : Prop :=
 ∃ E tok, r = .tuple [.slice tok (E.map vE), .int .i64 e] ∧ EntOk (wldF t g t.init) n E ∧ (tok = .fresh ∨ tok = .nil ∧ E = []) ∧ E.length ≤ 256 ∧ ∀ x ∈ E, x.1.length ≤ 256
theorem entR_err (t : FTask) (g : List (List Int)) (e : Int) : EntR t g e 0 (errT e) :=
 ⟨[], .nil, rfl, ⟨.nil, by simp, by simp, rfl⟩, .inr ⟨rfl, rfl⟩, by simp, by simp⟩
theorem strongP_facts {t : FTask} {g : List (List Int)} {r : AV} (hb : PB t) (h7 : validB t = true → t.facts.length ≤ 7) (h : StrongP t g r) : EntR t g (strE t g) (strN t g) r := by
 unfold StrongP at h
 by_cases h1 : askE t g = 0
 ·rw [if_pos h1] at h
  obtain ⟨w1, w2, w3, w4, w5⟩ := wld_facts hb h7 h1
  by_cases h2 : dOf (wldF t g t.init) < 0
  ·rw [if_pos h2] at h
   rw [strE, strN, if_pos h1, if_pos h1, if_pos h2, if_pos h2, h]
   exact entR_err _ _ _
  ·rw [if_neg h2] at h
   rw [strE, strN, if_pos h1, if_pos h1, if_neg h2, if_neg h2]
   obtain ⟨r0, h3, rfl⟩ := h
   obtain ⟨E, _, hE, rfl⟩ := entP_facts w1 (strongC_ok _) w3 w2 h3
   exact ⟨E, .fresh, rfl, hE, .inl rfl, by have := hE.le; omega, fun x hx => w5 _ (hE.mem x hx)⟩
 ·rw [if_neg h1] at h
  rw [strE, strN, if_neg h1, if_neg h1, h]
  exact entR_err _ _ _
theorem cycP_facts {t : FTask} {g : List (List Int)} {r : AV} (hb : PB t) (h7 : validB t = true → t.facts.length ≤ 7) (h : CycP t g r) : ∃ e n, EntR t g e n r := by
 unfold CycP at h
 by_cases h1 : askE t g = 0
 ·rw [if_pos h1] at h
  obtain ⟨w1, w2, w3, w4, w5⟩ := wld_facts hb h7 h1
  rcases h with ⟨k, _, _, h⟩ | ⟨k, _, _, _, r0, h3, rfl⟩
  ·exact ⟨4, 0, by rw [h]; exact entR_err _ _ _⟩
  ·obtain ⟨E, _, hE, rfl⟩ := entP_facts w1 (nearF_ok _ _) w3 w2 h3
   exact ⟨0, _, E, .fresh, rfl, hE, .inl rfl, by have := hE.le; omega, fun x hx => w5 _ (hE.mem x hx)⟩
 ·rw [if_neg h1] at h
  exact ⟨_, 0, by rw [h]; exact entR_err _ _ _⟩
def wE (e : FEnt) : List AV := [.wslice (e.1.map wI), .cell (.int .i64)]
theorem wkn_ents (E : List FEnt) : Wkn (.slice .fresh (E.map vE)) (.wslice (E.map wE)) :=
 Wkn.map (enc := vE) (enc' := wE) (fun _ => rfl) (fun x j a b h1 h2 => by
  match j with
  | 0 => simp [vE, wE] at h1 h2; subst h1; subst h2; exact wkn_ints x.1
  | 1 => simp [vE, wE] at h1 h2; subst h1; subst h2; exact .int _ _
  | j + 2 => simp [vE] at h1) E
theorem entR_wkn {t : FTask} {g : List (List Int)} {e : Int} {n : Nat} {r : AV} (h : EntR t g e n r) :
  ∃ b, WknT r b ∧ ∃ E : List FEnt, b = .tuple [.wslice (E.map wE), .int .i64 e] ∧ E.length = n ∧ E.length ≤ 256 ∧ ∀ x ∈ E, x.1.length ≤ 256 := by
 obtain ⟨E, tok, rfl, hE, ht, h1, h2⟩ := h
 refine ⟨_, .two (.inl ?_) (.flat rfl), E, rfl, hE.len, h1, h2⟩
 rcases ht with rfl | ⟨rfl, rfl⟩
 ·exact wkn_ents E
 ·exact .nil
theorem ids_wI {n : Nat} (hn : 0 < n) (l : List Int) : Ids n (.wslice (l.map wI)) := .wslice _ hn fun i e h j x hx => by
 rw [List.getElem?_map] at h
 cases q : l[i]? with
 | none => rw [q] at h; simp at h
 | some y =>
  rw [q] at h; simp at h; subst h
  match j with
  | 0 => simp [wI] at hx; subst hx; exact .cell _
  | j + 1 => simp [wI] at hx
theorem ids_wEs {n : Nat} (hn : 0 < n) (E : List FEnt) : Ids n (.wslice (E.map wE)) := .wslice _ hn fun i e h j x hx => by
 rw [List.getElem?_map] at h
 cases q : E[i]? with
 | none => rw [q] at h; simp at h
 | some y =>
  rw [q] at h; simp at h; subst h
  match j with
  | 0 => simp [wE] at hx; subst hx; exact ids_wI hn _
  | 1 => simp [wE] at hx; subst hx; exact .cell _
  | j + 2 => simp [wE] at hx
theorem ids_wLs {n : Nat} (hn : 0 < n) (f : List (List Int)) : Ids n (.wslice (f.map wL)) := .wslice _ hn fun i e h j x hx => by
 rw [List.getElem?_map] at h
 cases q : f[i]? with
 | none => rw [q] at h; simp at h
 | some y =>
  rw [q] at h; simp at h; subst h
  match j with
  | 0 => simp [wL] at hx; subst hx; exact ids_wI hn _
  | j + 1 => simp [wL] at hx
def c_spoil16 : CCode := .seq (.ops [⟨some 3, .move (.tmp 0), none, []⟩, ⟨some 4, .blen 1 (.tmp 3), none, []⟩, ⟨some 5, .move (.lit (.int .i64 0)), none, []⟩]) (.block 0 (.loop (.seq (.ops [⟨some 6, .bin .lss .none (.tmp 5) (.tmp 4), none, []⟩]) (.seq (.cond (.tmp 6) .skip (.exit 0)) (.seq (.block 1 (.seq (.ops [⟨some 7, .move (.tmp 5), none, []⟩, ⟨some 2, .move (.tmp 7), none, []⟩]) (.ops [⟨some 8, .move (.tmp 0), none, []⟩, ⟨some 9, .move (.tmp 2), none, []⟩, ⟨some 10, .iaddr 1 (.tmp 8) (.tmp 9), none, []⟩, ⟨none, .store 1 (.tmp 10) (.lit (.int .i64 (-7))), none, []⟩]))) (.ops [⟨some 11, .bin .add .none (.tmp 5) (.lit (.int .i64 1)), none, []⟩, ⟨some 5, .move (.tmp 11), none, []⟩]))))))
set_option maxRecDepth 20000 in
theorem spoil16_spec (l : List Int) (σ : Store) (hl : l.length ≤ 1000000) : ACalls Tryz.prog 32 [.wslice (l.map wI)] σ (isR (.tuple []) σ) := by
 refine ACalls.intro (rs := []) (by kernel_rfl) { own := [], ghosts := [] } Tryz.func32 (c := Tryz.f32.body.getD .skip) (by kernel_rfl) (by decide) (by rw [show Tryz.f32.ntmps = 12 by kernel_rfl]; exact Nat.le_of_ble_eq_true rfl) (by kernel_rfl) ?_
 intro hσ hids
 rw [show comp Tryz.prog { own := [], ghosts := [] } (Tryz.f32.body.getD .skip) = c_spoil16 by kernel_rfl, show Tryz.f32.ntmps = 12 by kernel_rfl]
 unfold c_spoil16
 have hif : Ids σ.length (.wslice (l.map wI)) := hids _ (by simp)
 simp only [go_sem, simprocAttr]
 refine wpc_while (fun (i : Nat) => [(0, .wslice (l.map wI)), (4, .int .i64 l.length), (5, .int .i64 (i : Nat))]) (fun _ => σ) (fun i => i ≤ l.length) (fun i => l.length - i) 0 (Nat.zero_le _) (by (try dsimp only); first | exact ghk | exact ghk0) ?_
 intro i hi K hK hE hR
 by_cases h : i < l.length
 ·obtain ⟨x, hx⟩ := get_ex h; have hlt : ((i : Int) < (l.length : Int)) := (by omega); have hw : IntKind.i64.wrap ((i : Int) + 1) = ((i + 1 : Nat) : Int) := (by rw [wrap_ok (by omega)]; omega)
  simp only [go_sem, simprocAttr, hlt, hx, wI]
  refine hK _ _ (i + 1) (by omega) (by omega) ?_
  exact (by (try dsimp only); (try simp only [hw]); first | exact ghk | exact ghk0)
 ·have hlt : ¬ ((i : Int) < (l.length : Int)) := by omega
  simp only [go_sem, simprocAttr, hlt, hE]
  exact ret_gh0 (Ghost.keep0 (s' := []) (Nat.le_refl _) trivial hσ) (Nat.le_refl _) hσ ⟨rfl, rfl⟩
def c_copied16 : CCode := .seq (.ops [⟨some 2, .move (.lit (.slice .nil [])), none, []⟩]) (.seq (.ops [⟨some 3, .move (.lit (.slice .nil [])), none, []⟩]) (.seq (.seq (.ops [⟨some 6, .move (.tmp 0), none, []⟩, ⟨some 7, .blen 1 (.tmp 6), none, []⟩, ⟨some 8, .move (.lit (.int .i64 0)), none, []⟩]) (.block 0 (.loop (.seq (.ops [⟨some 9, .bin .lss .none (.tmp 8) (.tmp 7), none, []⟩]) (.seq (.cond (.tmp 9) .skip (.exit 0)) (.seq (.block 1 (.seq (.ops [⟨some 10, .iaddr 1 (.tmp 6) (.tmp 8), none, []⟩, ⟨some 11, .load none (.tmp 10), none, []⟩, ⟨some 5, .move (.tmp 11), none, []⟩]) (.ops [⟨some 12, .move (.tmp 3), none, []⟩, ⟨some 13, .move (.tmp 5), none, []⟩, ⟨some 14, .bappendC 1 8 (.lit (.slice .nil [])) (.tmp 13), none, []⟩, ⟨some 15, .bslice 1 [.tmp 14] false, none, []⟩, ⟨some 16, .bappend 1 24 (.tmp 12) (.tmp 15) false, none, []⟩, ⟨some 3, .move (.tmp 16), none, []⟩]))) (.ops [⟨some 17, .bin .add .none (.tmp 8) (.lit (.int .i64 1)), none, []⟩, ⟨some 8, .move (.tmp 17), none, []⟩]))))))) (.seq (.ops [⟨some 18, .move (.tmp 3), none, []⟩, ⟨some 2, .move (.tmp 18), none, []⟩]) .ret)))
set_option maxRecDepth 20000 in
theorem copied16_spec (g : List (List Int)) (tok : Tok) (σ : Store) (hg : LB g) :
  ACalls Tryz.prog 31 [.slice tok (g.map encL)] σ (isR (.slice .unk (g.map encL)) σ) := by
 refine ACalls.intro (rs := [(.tmp 2)]) (by kernel_rfl) { own := [], ghosts := [], cold := [(5, 2)] } Tryz.func31 (c := Tryz.f31.body.getD .skip) (by kernel_rfl) (by decide) (by rw [show Tryz.f31.ntmps = 19 by kernel_rfl]; exact Nat.le_of_ble_eq_true rfl) (by kernel_rfl) ?_
 intro hσ hids
 rw [show comp Tryz.prog { own := [], ghosts := [], cold := [(5, 2)] } (Tryz.f31.body.getD .skip) = c_copied16 by kernel_rfl, show Tryz.f31.ntmps = 19 by kernel_rfl]
 unfold c_copied16
 have hg1 := hg.1
 have hif : Ids σ.length (.slice tok (g.map encL)) := hids _ (by simp)
 have hs1 : ∀ n, IdsS (σ ++ [AObj.grow 1 n]).length (σ ++ [AObj.grow 1 n]) := fun n => idsS_push hσ trivial
 simp only [go_sem, simprocAttr]
 refine wpc_while (fun (i : Nat) => [(3, .slice (.grow σ.length) ((g.take i).map encLf)), (6, .slice tok (g.map encL)), (7, .int .i64 g.length), (8, .int .i64 (i : Nat))]) (fun i => σ ++ [.grow 1 (g.take i).length]) (fun i => i ≤ g.length) (fun i => g.length - i) 0 (Nat.zero_le _) (.begin0 3 1 _ (Nat.le_refl _) tellT hσ) ?_
 intro i hi K hK hE hR
 by_cases h : i < g.length
 ·obtain ⟨l, hx⟩ := get_ex h; have hlt : ((i : Int) < (g.length : Int)) := (by omega); have hw : IntKind.i64.wrap ((i : Int) + 1) = ((i + 1 : Nat) : Int) := (by rw [wrap_ok (by omega)]; omega)
  have hc : (g.take i).map encLf ++ [[AV.slice .fresh (l.map Ahl.encI)]] = (g.take (i + 1)).map encLf := by rw [take_succ' hx]; simp [encLf]
  have hall : ∀ e ∈ l, (Ahl.encI e).length = 1 ∧ (Ahl.encI e).all AV.one = true := fun _ _ => ⟨rfl, rfl⟩
  have hl : (g.take i).length = i := List.length_take_of_le (by omega)
  have hl1 : (g.take (i + 1)).length = i + 1 := List.length_take_of_le (by omega)
  have hbig : bigLen (i + 1) 24 := big_ok (by omega) (by omega)
  have hll := hg.2 l (List.mem_of_getElem? hx)
  have hbl : bigLen l.length 8 := big_ok (by omega) (by omega)
  simp only [go_sem, simprocAttr, hlt, hx, encL, hbig, hl, hc, hbl]
  refine ⟨hall, ?_⟩
  refine hK _ _ (i + 1) (by omega) (by omega) ?_
  simp only [hl1]
  exact (by (try dsimp only); (try simp only [ hw]); first | exact ghL (hs1 (i + 1)) | exact ghL0 (hs1 (i + 1)))
 ·have hlt : ¬ ((i : Int) < (g.length : Int)) := by omega
  rw [List.take_of_length_le (by omega)]
  simp only [go_sem, simprocAttr, hlt, hE]
  exact rtw (v := .slice .unk (g.map encL)) (Wk.lfu _ _) ⟨rfl, rfl⟩
end Go.Proofs.YtjmmldkailblmaaGreat
