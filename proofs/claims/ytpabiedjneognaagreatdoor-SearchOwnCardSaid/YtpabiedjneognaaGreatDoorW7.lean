/- 'forethoughtlaw06.SearchOwn' returns true for every task and state: no result shares memory with an argument (tied card). -/
import Derived.Lib.LaidTab
import GoSem.ClaimJoined
import Derived.Lay
import Derived.ProofKit
import Derived.OpenShut
import Derived.LaidMore
import Derived.SevenTiedAt
import Derived.Stop.Joined
import Derived.Test.YtpabiedjneognaaGreatDoorTie
import Derived.Test.YtpabiedjneognaaGreatDoorCards
import Derived.Test.YtpabiedjneognaaGreatDoorBase6
set_option maxRecDepth 20000
set_option linter.unusedVariables false
set_option linter.unusedSimpArgs false
namespace Go.Proofs.YtpabiedjneognaaGreatDoor
open Go.Ahl
theorem ids_wI6 {n : Nat} (hn : 0 < n) (l : List Int) : Ids n (.wslice (l.map wI)) := .wslice _ hn fun i e h j x hx => by
 rw [List.getElem?_map] at h
 cases q : l[i]? with
 | none => rw [q] at h; simp at h
 | some y =>
  rw [q] at h; simp at h; subst h
  match j with
  | 0 => simp [wI] at hx; subst hx; exact .cell _
  | j + 1 => simp [wI] at hx
theorem ids_wLs6 {n : Nat} (hn : 0 < n) (f : List (List Int)) : Ids n (.wslice (f.map wL)) := .wslice _ hn fun i e h j x hx => by
 rw [List.getElem?_map] at h
 cases q : f[i]? with
 | none => rw [q] at h; simp at h
 | some y =>
  rw [q] at h; simp at h; subst h
  match j with
  | 0 => simp [wL] at hx; subst hx; exact ids_wI6 hn _
  | j + 1 => simp [wL] at hx
def wD6 (x : List Int × Int × Int) : List AV := [.wslice (x.1.map wI), .cell (.int .i64), .cell (.int .i64)]
theorem ids_wD6 {n : Nat} (hn : 0 < n) (f : List (List Int × Int × Int)) : Ids n (.wslice (f.map wD6)) := .wslice _ hn fun i e h j x hx => by
 rw [List.getElem?_map] at h
 cases q : f[i]? with
 | none => rw [q] at h; simp at h
 | some y =>
  rw [q] at h; simp at h; subst h
  match j with
  | 0 => simp [wD6] at hx; subst hx; exact ids_wI6 hn _
  | 1 => simp [wD6] at hx; subst hx; exact .cell _
  | 2 => simp [wD6] at hx; subst hx; exact .cell _
  | j + 3 => simp [wD6] at hx
theorem wkn_D6 (f : List (List Int × Int × Int)) : Wkn (.slice .fresh (f.map encD6)) (.wslice (f.map wD6)) :=
 Wkn.map (enc := encD6) (enc' := wD6) (fun _ => rfl) (fun x j a b h1 h2 => by
  match j with
  | 0 => simp [encD6, wD6] at h1 h2; subst h1; subst h2; exact wkn_ints _
  | 1 => simp [encD6, wD6] at h1 h2; subst h1; subst h2; exact .int _ _
  | 2 => simp [encD6, wD6] at h1 h2; subst h1; subst h2; exact .int _ _
  | j + 3 => simp [encD6] at h1) f
def OptW (t : FTask) (s : List Int) (r' : AV) : Prop := ∃ (b : Bool) (c : Int) (tk : Ahl.Tok) (l : List Int) (e : Int), SearchR false t s 600 (.tuple [.agg [.bool b, .int .i64 c, .slice tk (l.map Ahl.encI)], .int .i64 e]) ∧ l.length ≤ 10000 ∧ r' = .tuple [.agg [.bool b, .int .i64 c, .wslice (l.map wI)], .int .i64 e]
theorem opt_wkn {t : FTask} {s : List Int} {r : AV} (h : SearchR false t s 600 r) : ∃ r', WknR r r' ∧ OptW t s r' := by
 have hz : ∀ e, SearchR false t s 600 (.tuple [.agg zeroC, .int .i64 e]) → ∃ r', WknR (.tuple [.agg zeroC, .int .i64 e]) r' ∧ OptW t s r' := fun e h =>
  ⟨_, .tuple (.cons (.agg (.cons (.flat rfl) (.cons (.flat rfl) (.cons (.of .nil) .nil)))) (.cons (.flat rfl) .nil)), false, 0, .nil, [], e, h, by simp, rfl⟩
 have h' := h
 rcases h with ⟨_, rfl⟩ | ⟨_, h⟩
 ·exact hz _ h'
 ·rcases h with ⟨rfl, _⟩ | ⟨rfl, _⟩ | ⟨c, l, rfl, _, hl, _⟩
  ·exact hz _ h'
  ·exact hz _ h'
  ·exact ⟨_, .tuple (.cons (.agg (.cons (.flat rfl) (.cons (.flat rfl) (.cons (.of (wkn_ints _)) .nil)))) (.cons (.flat rfl) .nil)), true, c, .fresh, actI l, 0, h', by simpa [actI] using hl, rfl⟩
abbrev Small6 (ls : List (List Int)) : Prop := ls.length ≤ 1000 ∧ ∀ x ∈ ls, x.length ≤ 1000
theorem rch_small {t : FTask} {s : List Int} {L : List (List Int)} (ht : TB t) (h0 : fineS t s 600 = 0) (hL : RchL t s L) (hl : (L.length : Int) ≤ 600) : Small6 L := by
 obtain ⟨hv, _⟩ := fineS_ok h0
 exact ⟨by omega, fun x hx => by have := (st_rng (valid_VT ht hv) ((hL.2 x).1 hx).1).1; omega⟩
theorem reach_wkn {t : FTask} {s : List Int} {r : AV} (ht : TB t) (h : ReachR t s 600 r) : ∃ r', WknR r r' ∧ ∃ (ls : List (List Int)) (e : Int), Small6 ls ∧ r' = .tuple [.wslice (ls.map wL), .int .i64 e] := by
 have hz : ∀ e, ∃ r', WknR (.tuple [.slice .nil [], .int .i64 e]) r' ∧ ∃ (ls : List (List Int)) (e : Int), Small6 ls ∧ r' = .tuple [.wslice (ls.map wL), .int .i64 e] := fun e =>
  ⟨_, .tuple (.cons (.of .nil) (.cons (.flat rfl) .nil)), [], e, ⟨by simp, by simp⟩, rfl⟩
 rcases h with ⟨_, rfl⟩ | ⟨h0, ⟨rfl, _⟩ | ⟨L, rfl, hL, hl⟩⟩
 ·exact hz _
 ·exact hz _
 ·exact ⟨_, .tuple (.cons (.of (wkn_lists _)) (.cons (.flat rfl) .nil)), L, 0, rch_small ht h0 hL hl, rfl⟩
theorem dist_wkn {t : FTask} {s : List Int} {r : AV} (ht : TB t) (h : DistR t s 600 r) : ∃ r', WknR r r' ∧ ∃ (ds : List (List Int × Int × Int)) (e : Int), (ds.length ≤ 1000 ∧ ∀ x ∈ ds, x.1.length ≤ 1000) ∧ r' = .tuple [.wslice (ds.map wD6), .int .i64 e] := by
 have hz : ∀ e, ∃ r', WknR (.tuple [.slice .nil [], .int .i64 e]) r' ∧ ∃ (ds : List (List Int × Int × Int)) (e : Int), (ds.length ≤ 1000 ∧ ∀ x ∈ ds, x.1.length ≤ 1000) ∧ r' = .tuple [.wslice (ds.map wD6), .int .i64 e] := fun e =>
  ⟨_, .tuple (.cons (.of .nil) (.cons (.flat rfl) .nil)), [], e, ⟨by simp, by simp⟩, rfl⟩
 rcases h with ⟨_, rfl⟩ | ⟨h0, ⟨rfl, _⟩ | ⟨L, rfl, hL, hl⟩⟩
 ·exact hz _
 ·exact hz _
 ·have hs := rch_small ht h0 hL hl
  refine ⟨_, .tuple (.cons (.of (wkn_D6 _)) (.cons (.flat rfl) .nil)), dL6 t s L, 0, ⟨by simpa [dL6] using hs.1, fun x hx => ?_⟩, rfl⟩
  obtain ⟨u, hu, rfl⟩ := List.mem_map.1 hx
  exact hs.2 u hu
def Again (t : FTask) (s : List Int) (c e : Int) (n : Nat) (r : AV) : Prop :=
 (n = 0 ∧ r = .tuple [.agg zeroC, .int .i64 e]) ∨ (e = 0 ∧ VT t ∧ WhB t ∧ StOk t s ∧ ∃ (p : List Nat) (v : List Int), r = .tuple [.agg (ansC c (actI p)), .int .i64 0] ∧ p.length = n ∧ RunT t p s v c ∧ goalT t v = true ∧ p.length ≤ 10000)
theorem best_same {t : FTask} {s : List Int} {c c' : Int} {l l' : List Nat} (h : BestRun false t s c l) (h' : BestRun false t s c' l') : c = c' ∧ l.length = l'.length := by
 obtain ⟨⟨v, h1, h2⟩, h3⟩ := h
 obtain ⟨⟨v', h1', h2'⟩, h3'⟩ := h'
 have a := h3 l' v' c' h1' h2' (MB + (l.length : Int) + l'.length) (by omega)
 have b := h3' l v c h1 h2 (MB + (l.length : Int) + l'.length) (by omega)
 have a : (MB + (l.length : Int) + l'.length) * c + l.length ≤ (MB + (l.length : Int) + l'.length) * c' + l'.length := a
 have b : (MB + (l.length : Int) + l'.length) * c' + l'.length ≤ (MB + (l.length : Int) + l'.length) * c + l.length := b
 have a := (lexle (M := MB + (l.length : Int) + l'.length) (by omega) (by unfold MB; omega) (by omega) (by unfold MB; omega)).1 a
 have b := (lexle (M := MB + (l.length : Int) + l'.length) (by omega) (by unfold MB; omega) (by omega) (by unfold MB; omega)).1 b
 omega
theorem again_of {t : FTask} {s : List Int} {b : Bool} {c : Int} {tk : Ahl.Tok} {l : List Int} {e : Int} {r : AV} (ht : TB t) (hall : validB t = true → StOk t s → ∃ all : List (List Int), all.Nodup ∧ all.length ≤ 600 ∧ ∀ u, u ∈ all ↔ RchO t s u)
  (h1 : SearchR false t s 600 (.tuple [.agg [.bool b, .int .i64 c, .slice tk (l.map Ahl.encI)], .int .i64 e])) (h2 : SearchR false t s 600 r) : Again t s c e l.length r := by
 have zl : ∀ {x : Int}, AV.tuple [.agg [.bool b, .int .i64 c, .slice tk (l.map Ahl.encI)], .int .i64 e] = .tuple [.agg zeroC, .int .i64 x] → l.length = 0 ∧ e = x := fun q => by
  simp only [zeroC, AV.tuple.injEq, List.cons.injEq, AV.agg.injEq, AV.bool.injEq, AV.int.injEq, AV.slice.injEq, true_and, and_true] at q
  obtain ⟨⟨_, _, _, q⟩, rfl⟩ := q
  exact ⟨by simpa using congrArg List.length q, rfl⟩
 rcases h1 with ⟨h0, h1⟩ | ⟨h0, h1⟩
 ·obtain ⟨q1, rfl⟩ := zl h1
  rcases h2 with ⟨_, rfl⟩ | ⟨q, _⟩
  ·exact .inl ⟨q1, rfl⟩
  ·exact absurd q h0
 rcases h2 with ⟨q, _⟩ | ⟨_, h2⟩
 ·exact absurd h0 q
 obtain ⟨hv, hst, _, _⟩ := fineS_ok h0
 obtain ⟨all, hand, hal, hamem⟩ := hall hv hst
 have hmany : ∀ m : Int, 600 ≤ m → ¬ ManyS t s m := fun m hm h => by
  obtain ⟨k, q1, q2, q3⟩ := h
  have := nodup_len6 q1 (m := all) fun x hx => (hamem x).2 (q2 x hx)
  omega
 rcases h1 with ⟨_, h | h⟩ | ⟨h1, hno⟩ | ⟨c1, l1, h1, hb1, hl1, _⟩
 ·exact absurd h (hmany _ (by omega))
 ·exact absurd h (hmany _ (by omega))
 ·obtain ⟨q1, rfl⟩ := zl h1
  rcases h2 with ⟨_, h | h⟩ | ⟨rfl, _⟩ | ⟨c2, l2, _, hb2, _⟩
  ·exact absurd h (hmany _ (by omega))
  ·exact absurd h (hmany _ (by omega))
  ·exact .inl ⟨q1, rfl⟩
  ·obtain ⟨⟨v, e1, e2⟩, _⟩ := hb2
   rw [hno _ _ _ e1] at e2; simp at e2
 ·simp only [ansC, AV.tuple.injEq, List.cons.injEq, AV.agg.injEq, AV.bool.injEq, AV.int.injEq, AV.slice.injEq, true_and, and_true] at h1
  obtain ⟨⟨_, rfl, _, q⟩, rfl⟩ := h1
  have hll : l.length = l1.length := by have := congrArg List.length q; simpa [actI] using this
  rcases h2 with ⟨_, h | h⟩ | ⟨_, hno⟩ | ⟨c2, l2, rfl, hb2, hl2, _⟩
  ·exact absurd h (hmany _ (by omega))
  ·exact absurd h (hmany _ (by omega))
  ·obtain ⟨⟨v, e1, e2⟩, _⟩ := hb1
   rw [hno _ _ _ e1] at e2; simp at e2
  ·obtain ⟨rfl, hlen⟩ := best_same hb1 hb2
   obtain ⟨⟨v, e1, e2⟩, _⟩ := hb2
   exact .inr ⟨rfl, valid_VT ht hv, valid_WhB hv, hst, l2, v, rfl, by omega, e1, e2, hl2⟩
theorem le_sum6 {l : List Nat} {x : Nat} (h : x ∈ l) : x ≤ l.sum := by
 induction l with
 | nil => simp at h
 | cons y l ih =>
  rw [List.sum_cons]
  rcases List.mem_cons.1 h with rfl | h
  ·omega
  ·have := ih h; omega
theorem CB_of6 {t : FTask} (h : fewT 400 t = true) : CB t := by
 unfold fewT at h
 simp only [Bool.and_eq_true, decide_eq_true_eq] at h
 have h := h.1
 unfold taskSize at h
 refine ⟨by omega, by omega, by omega, by omega, fun a ha => ?_⟩
 have h1 := le_sum6 (List.mem_map_of_mem (f := actSize) ha)
 have h2 : actSize a ≤ 400 := by omega
 unfold actSize whenSize at h2
 refine ⟨by omega, by omega, fun e he => ?_⟩
 have := le_sum6 (List.mem_map_of_mem (f := fun e : FEff => e.when_.length) he)
 omega
def c_spoil06 : CCode := .seq (.ops [oS 3 (.move (.tmp 0)), oS 4 (.blen 1 (.tmp 3)), oS 5 (.move (.lit (.int .i64 0)))]) (.block 0 (.loop (.seq (.ops [oS 6 (.bin .lss .none (.tmp 5) (.tmp 4))]) (.seq (.cond (.tmp 6) .skip (.exit 0)) (.seq (.block 1 (.seq (.ops [oS 7 (.move (.tmp 5)), oS 2 (.move (.tmp 7))]) (.ops [oS 8 (.move (.tmp 0)), oS 9 (.move (.tmp 2)), oS 10 (.iaddr 1 (.tmp 8) (.tmp 9)), oN (.store 1 (.tmp 10) (.lit (.int .i64 (-7))))]))) (.ops [oS 11 (.bin .add .none (.tmp 5) (.lit (.int .i64 1))), oS 5 (.move (.tmp 11))]))))))
theorem spoil06_spec (l : List Int) (σ : Store) (h0 : 0 < σ.length) (hl : l.length ≤ 1000000) : ACalls Tryz.prog 30 [.wslice (l.map wI)] σ (isR (.tuple []) σ) := by
 refine ACalls.intro (rs := []) (by kernel_rfl) { own := [], ghosts := [] } Tryz.func30 (c := Tryz.f30.body.getD .skip) (by kernel_rfl) (by decide) (by rw [show Tryz.f30.ntmps = 12 by kernel_rfl]; exact Nat.le_of_ble_eq_true rfl) (by kernel_rfl) ?_
 intro hσ hids
 rw [show comp Tryz.prog { own := [], ghosts := [] } (Tryz.f30.body.getD .skip) = c_spoil06 by kernel_rfl, show Tryz.f30.ntmps = 12 by kernel_rfl]
 unfold c_spoil06
 have hig : Ids σ.length (.wslice (l.map wI)) := ids_wI6 h0 l
 simp only [go_sem, simprocAttr]
 refine wpc_while (fun (i : Nat) => [(0, .wslice (l.map wI)), (4, .int .i64 l.length), (5, .int .i64 (i : Nat))]) (fun _ => σ) (fun i => i ≤ l.length) (fun i => l.length - i) 0 (Nat.zero_le _) (by (try dsimp only); exact ghA) ?_
 intro i hi K hK hE hR
 by_cases h : i < l.length
 ·obtain ⟨y, hx⟩ := get_ex h; have hlt : ((i : Int) < (l.length : Int)) := (by omega); have hw := wrapS (i := i) (by omega)
  have hi0 : (0 : Int) ≤ (i : Int) := by omega
  simp only [go_sem, simprocAttr, hlt, hx, wI, hi0]
  refine hK _ _ (i + 1) (by omega) (by omega) ?_
  (try dsimp only)
  rw [hw]
  exact ghA
 ·have hlt : ¬ ((i : Int) < (l.length : Int)) := by omega
  simp only [go_sem, simprocAttr, hlt, hE]
  exact ret_gh0 (Ghost.keep0 (s' := []) (Nat.le_refl _) trivial hσ) (Nat.le_refl _) hσ ⟨rfl, rfl⟩
def c_law : CCode := .seq (.ops [oS 2 (.box (.tmp 0)), oS 4 (.move (.lit (.bool false)))]) (.seq (.seq (.ops [oS 21 (.load (some 4) (.tmp 2)), oS 22 (.move (.tmp 1)), oS 23 (.call (.lit (.func 8 [])) [.tmp 21, .tmp 22]), oS 24 (.un .not (.tmp 23))]) (.cond (.tmp 24) (.seq (.ops [oS 25 (.call (.lit (.func 9 [])) []), oS 4 (.move (.tmp 25))]) .ret) .skip)) (.seq (.ops [oS 26 (.load (some 4) (.tmp 2)), oS 27 (.call (.lit (.func 29 [])) [.tmp 26]), oS 28 (.move (.tmp 1)), oS 29 (.bappendC 1 8 (.lit (.slice .nil [])) (.tmp 28)), oS 5 (.alloc (.agg [.slice .nil [], .slice .nil [], .slice .nil [], .slice .nil []])), oN (.store 4 (.tmp 5) (.tmp 27)), oS 6 (.move (.tmp 29))]) (.seq (.ops [oS 31 (.load (some 4) (.tmp 2)), oS 32 (.move (.tmp 1)), oS 33 (.call (.lit (.func 10 [])) [.tmp 31, .tmp 32, .lit (.int .i64 600)]), oS 30 (.move (.tmp 33)), oS 34 (.extract (.tmp 30) 0), oS 35 (.extract (.tmp 30) 1), oS 7 (.alloc (.agg [.bool false, .int .i64 0, .slice .nil []])), oN (.store 3 (.tmp 7) (.tmp 34)), oS 8 (.move (.tmp 35))]) (.seq (.ops [oS 36 (.faddr 2 (.tmp 7)), oS 37 (.load none (.tmp 36)), oS 38 (.blen 1 (.tmp 37)), oS 9 (.move (.tmp 38))]) (.seq (.seq (.ops [oS 39 (.faddr 2 (.tmp 7)), oS 40 (.load none (.tmp 39)), oS 41 (.blen 1 (.tmp 40)), oS 42 (.move (.lit (.int .i64 0)))]) (.block 0 (.loop (.seq (.ops [oS 43 (.bin .lss .none (.tmp 42) (.tmp 41))]) (.seq (.cond (.tmp 43) .skip (.exit 0)) (.seq (.block 1 (.seq (.ops [oS 44 (.move (.tmp 42)), oS 10 (.move (.tmp 44))]) (.ops [oS 45 (.faddr 2 (.tmp 7)), oS 46 (.load none (.tmp 45)), oS 47 (.move (.tmp 10)), oS 48 (.iaddr 1 (.tmp 46) (.tmp 47)), oN (.store 1 (.tmp 48) (.lit (.int .i64 (-7))))]))) (.ops [oS 49 (.bin .add .none (.tmp 42) (.lit (.int .i64 1))), oS 42 (.move (.tmp 49))]))))))) (.seq (.ops [oS 50 (.load (some 4) (.tmp 2)), oS 51 (.move (.tmp 1)), oS 52 (.call (.lit (.func 11 [])) [.tmp 50, .tmp 51, .lit (.int .i64 600)])]) (.seq (.ops [oS 54 (.load (some 4) (.tmp 2)), oS 55 (.move (.tmp 1)), oS 56 (.call (.lit (.func 25 [])) [.tmp 54, .tmp 55, .lit (.int .i64 600)]), oS 53 (.move (.tmp 56)), oS 57 (.extract (.tmp 53) 0), oS 58 (.extract (.tmp 53) 1), oS 11 (.move (.tmp 57)), oS 12 (.move (.tmp 58))]) (.seq (.ops [oS 60 (.load (some 4) (.tmp 2)), oS 61 (.move (.tmp 1)), oS 62 (.call (.lit (.func 26 [])) [.tmp 60, .tmp 61, .lit (.int .i64 600)]), oS 59 (.move (.tmp 62)), oS 63 (.extract (.tmp 59) 0), oS 64 (.extract (.tmp 59) 1), oS 13 (.move (.tmp 63)), oS 14 (.move (.tmp 64))]) (.seq (.seq (.ops [oS 65 (.move (.tmp 11)), oS 66 (.blen 1 (.tmp 65)), oS 67 (.move (.lit (.int .i64 0)))]) (.block 2 (.loop (.seq (.ops [oS 68 (.bin .lss .none (.tmp 67) (.tmp 66))]) (.seq (.cond (.tmp 68) .skip (.exit 2)) (.seq (.block 3 (.seq (.ops [oS 69 (.iaddr 1 (.tmp 65) (.tmp 67)), oS 70 (.load none (.tmp 69)), oS 16 (.move (.tmp 70))]) (.ops [oS 71 (.move (.tmp 16)), oS 72 (.call (.lit (.func 30 [])) [.tmp 71])]))) (.ops [oS 73 (.bin .add .none (.tmp 67) (.lit (.int .i64 1))), oS 67 (.move (.tmp 73))]))))))) (.seq (.seq (.ops [oS 74 (.move (.tmp 13)), oS 75 (.blen 1 (.tmp 74)), oS 76 (.move (.lit (.int .i64 0)))]) (.block 4 (.loop (.seq (.ops [oS 77 (.bin .lss .none (.tmp 76) (.tmp 75))]) (.seq (.cond (.tmp 77) .skip (.exit 4)) (.seq (.block 5 (.seq (.ops [oS 78 (.iaddr 3 (.tmp 74) (.tmp 76)), oS 79 (.load (some 3) (.tmp 78)), oS 18 (.alloc (.agg [.slice .nil [], .int .i64 0, .int .i64 0])), oN (.store 3 (.tmp 18) (.tmp 79))]) (.ops [oS 80 (.faddr 0 (.tmp 18)), oS 81 (.load none (.tmp 80)), oS 82 (.call (.lit (.func 30 [])) [.tmp 81])]))) (.ops [oS 83 (.bin .add .none (.tmp 76) (.lit (.int .i64 1))), oS 76 (.move (.tmp 83))]))))))) (.seq (.ops [oS 85 (.load (some 4) (.tmp 2)), oS 86 (.move (.tmp 1)), oS 87 (.call (.lit (.func 10 [])) [.tmp 85, .tmp 86, .lit (.int .i64 600)]), oS 84 (.move (.tmp 87)), oS 88 (.extract (.tmp 84) 0), oS 89 (.extract (.tmp 84) 1), oS 19 (.alloc (.agg [.bool false, .int .i64 0, .slice .nil []])), oN (.store 3 (.tmp 19) (.tmp 88)), oS 20 (.move (.tmp 89))]) (.seq (.ops [oS 90 (.load (some 4) (.tmp 5)), oS 91 (.load (some 4) (.tmp 2)), oS 92 (.call (.lit (.func 31 [])) [.tmp 90, .tmp 91]), oS 93 (.move (.tmp 92)), oG 94 93 true (.move (.tmp 6)), oG 95 93 true (.move (.tmp 1)), oG 96 93 true (.call (.lit (.func 28 [])) [.tmp 94, .tmp 95]), oS 97 (.pick (.tmp 93) (.tmp 96) (.lit (.bool false))), oS 98 (.move (.tmp 97)), oG 99 98 true (.move (.tmp 8)), oG 100 98 true (.move (.tmp 20)), oG 101 98 true (.bin .eql .none (.tmp 99) (.tmp 100)), oS 102 (.pick (.tmp 98) (.tmp 101) (.lit (.bool false))), oS 103 (.move (.tmp 102)), oG 104 103 true (.faddr 2 (.tmp 19)), oG 105 103 true (.load none (.tmp 104)), oG 106 103 true (.blen 1 (.tmp 105)), oG 107 103 true (.move (.tmp 9)), oG 108 103 true (.bin .eql .none (.tmp 106) (.tmp 107)), oS 109 (.pick (.tmp 103) (.tmp 108) (.lit (.bool false))), oS 110 (.move (.tmp 109)), oG 111 110 true (.move (.tmp 8)), oG 112 110 true (.bin .neq .none (.tmp 111) (.lit (.int .i64 0))), oG 113 110 true (.move (.tmp 112)), oG 114 113 false (.faddr 0 (.tmp 19)), oG 115 113 false (.load none (.tmp 114)), oG 116 113 false (.un .not (.tmp 115)), oG 117 110 true (.pick (.tmp 113) (.lit (.bool true)) (.tmp 116)), oG 118 110 true (.move (.tmp 117)), oG 119 118 false (.load (some 4) (.tmp 2)), oG 120 118 false (.move (.tmp 1)), oG 121 118 false (.load (some 3) (.tmp 19)), oG 122 118 false (.call (.lit (.func 24 [])) [.tmp 119, .tmp 120, .tmp 121]), oG 123 110 true (.pick (.tmp 118) (.lit (.bool true)) (.tmp 122)), oS 124 (.pick (.tmp 110) (.tmp 123) (.lit (.bool false))), oS 125 (.move (.tmp 124)), oG 126 125 true (.call (.lit (.func 9 [])) []), oS 127 (.pick (.tmp 125) (.tmp 126) (.lit (.bool false))), oS 4 (.move (.tmp 127))]) .ret))))))))))))
set_option maxHeartbeats 4000000 in
theorem own06_law (t : FTask) (s : List Int) (σ : Store) (hT : σ[0]? = some tabO) (ht : TB t) (hl : s.length ≤ 140737488355328) :
  ACalls Tryz.prog 6 [.agg (encTask t), .slice .unk (s.map Ahl.encI)] σ (isR (.bool true) σ) := by
 refine ACalls.intro (rs := [(.tmp 4)]) (by kernel_rfl) { own := [], ghosts := [], cold := [(3, 3)] } Tryz.func6 (c := Tryz.f6.body.getD .skip) (by kernel_rfl) (by decide) (by rw [show Tryz.f6.ntmps = 128 by kernel_rfl]; exact Nat.le_of_ble_eq_true rfl) (by kernel_rfl) ?_
 intro hσ hids
 rw [show comp Tryz.prog { own := [], ghosts := [], cold := [(3, 3)] } (Tryz.f6.body.getD .skip) = c_law by kernel_rfl, show Tryz.f6.ntmps = 128 by kernel_rfl]
 unfold c_law
 have hil : Ids σ.length (.slice .unk (s.map Ahl.encI)) := hids _ (by simp)
 have hT2 : ∀ r, (σ ++ r)[0]? = some tabO := fun r => by rw [List.getElem?_append_left (lt_of_get hT)]; exact hT
 have hσ0 := lt_of_get hT
 have hfew := fun σ => few06_spec t s .unk σ ht hl
 simp only [encTask] at hfew
 simp only [go_sem, simprocAttr, encTask]
 refine (hfew _).mono ?_
 rintro _ _ ⟨rfl, b, rfl, hb⟩
 cases b
 ·simp only [go_sem, simprocAttr]
  refine (awake06_spec _ (hT2 _)).is ?_
  simp only [go_sem, simprocAttr]
  exact rt (.bool true) ⟨rfl, rfl⟩
 obtain ⟨hfw, hs400, hall⟩ := hb rfl
 have hcb := CB_of6 hfw
 have it : Ids 0 (.agg (encTask t)) := ids_agg (ids_encTask t)
 have ib : Ids 0 (.slice .unk (s.map Ahl.encI)) := ids_map ids_encI s
 have ut := unf_task t
 have ub : Unf (.slice .unk (s.map Ahl.encI)) := .map unf_encI s
 have a3 : ∀ x ∈ [AV.agg (encTask t), .slice .unk (s.map Ahl.encI), .int .i64 600], Ids 0 x := by intro x hx; simp at hx; rcases hx with rfl | rfl | rfl <;> first | assumption | exact .int _ _
 have u3 : UnfL [AV.agg (encTask t), .slice .unk (s.map Ahl.encI), .int .i64 600] := .cons ut (.cons ub (.cons (.int _ _) .nil))
 have wOpt := fun σ hσ => (optimal_spec t s 600 .unk [tabO] rfl ht hl).weakT (Q := OptW t s) (fun r σ' hr => opt_wkn hr.2) a3 u3 σ hσ
 have wRea := fun σ hσ => (reach_spec t s 600 .unk [tabO] rfl ht hl).weakT (Q := fun r => ∃ (ls : List (List Int)) (e : Int), Small6 ls ∧ r = .tuple [.wslice (ls.map wL), .int .i64 e]) (fun r σ' hr => reach_wkn ht hr.2) a3 u3 σ hσ
 have wDis := fun σ hσ => (sdist_spec t s 600 .unk [tabO] rfl ht hl).weakT (Q := fun r => ∃ (ds : List (List Int × Int × Int)) (e : Int), (ds.length ≤ 1000 ∧ ∀ x ∈ ds, x.1.length ≤ 1000) ∧ r = .tuple [.wslice (ds.map wD6), .int .i64 e]) (fun r σ' hr => dist_wkn ht hr.2) a3 u3 σ hσ
 have hopt := fun τ hτ => optimal_spec t s 600 .unk τ hτ ht hl
 have hsho := fun τ hτ => shortest_spec t s 600 .unk τ hτ ht hl
 have hcp := copyTask_spec t
 have hst := same01_self t
 simp only [encTask] at wOpt wRea wDis hopt hsho hcp hst
 have hbs : bigLen s.length 8 := big_ok (by omega) (by omega)
 have hall1 : ∀ e ∈ s, (Ahl.encI e).length = 1 ∧ (Ahl.encI e).all AV.one = true := fun _ _ => ⟨rfl, rfl⟩
 have hd : ∀ b c n, ∀ l : List Int, IdsS (σ ++ ([AObj.row (encTask t), .row (encTask t), .dead, .row [.bool b, .int .i64 c, .wslice (l.map wI)]] ++ List.replicate n AObj.dead)).length (σ ++ ([AObj.row (encTask t), .row (encTask t), .dead, .row [.bool b, .int .i64 c, .wslice (l.map wI)]] ++ List.replicate n AObj.dead)) := fun b c n l => idsS_app _ hσ (by
  intro o ho
  simp only [List.cons_append, List.nil_append, List.mem_cons] at ho
  rcases ho with rfl | rfl | rfl | rfl | ho
  ·exact idsO_row (ids_encTask t)
  ·exact idsO_row (ids_encTask t)
  ·trivial
  ·exact idsO_row (idsL_cons (.bool _) (idsL_cons (.int _ _) (idsL_cons (ids_wI6 (by simp; try omega) l) idsL_nil)))
  ·rw [List.eq_of_mem_replicate ho]; trivial)
 have hd0 := fun b c l => hd b c 0 l
 have hd2 := fun b c l => hd b c 2 l
 simp only [List.replicate, List.cons_append, List.nil_append, List.append_nil, encTask] at hd0 hd2
 have hsA : ∀ b c x, setAll [AV.bool false, .int .i64 0, .slice .nil []] 0 [.bool b, .int .i64 c, x] = [.bool b, .int .i64 c, x] := fun _ _ _ => rfl
 simp only [go_sem, simprocAttr, encTask]
 refine (hcp _ hcb).is ?_
 simp only [go_sem, simprocAttr, hbs]
 refine ⟨hall1, ?_⟩
 refine (wOpt _ (hT2 _)).mono ?_
 rintro _ _ ⟨⟨b, c, tk, l, e, hr1, hll, rfl⟩, rfl⟩
 simp only [go_sem, simprocAttr, hsA, encTask]
 refine wpc_while (fun (i : Nat) => [(1, .slice .unk (s.map Ahl.encI)), (2, .ptr σ.length 0), (5, .ptr (σ.length + 1) 0), (6, .slice .fresh (s.map Ahl.encI)), (7, .ptr (σ.length + 3) 0), (8, .int .i64 e), (9, .int .i64 l.length), (41, .int .i64 l.length), (42, .int .i64 (i : Nat))])
  (fun _ => σ ++ [.row (encTask t), .row (encTask t), .dead, .row [.bool b, .int .i64 c, .wslice (l.map wI)]]) (fun i => i ≤ l.length) (fun i => l.length - i) 0 (Nat.zero_le _) ?_ ?_
 ·(try dsimp only)
  simp only [encTask]
  exact ghL0 (l := [.row _, .row _, .dead, .row _]) (hd0 _ _ _)
 intro i hi K hK hE hR
 by_cases h : i < l.length
 ·obtain ⟨y, hx⟩ := get_ex h; have hlt : ((i : Int) < (l.length : Int)) := (by omega); have hw := wrapS (i := i) (by omega)
  have hi0 : (0 : Int) ≤ (i : Int) := by omega
  simp only [go_sem, simprocAttr, hlt, hx, wI, hi0, encTask]
  refine hK _ _ (i + 1) (by omega) (by omega) ?_
  (try dsimp only)
  rw [hw]
  simp only [encTask]
  exact ghL0 (l := [.row _, .row _, .dead, .row _]) (hd0 _ _ _)
 have hlt : ¬ ((i : Int) < (l.length : Int)) := by omega
 simp only [go_sem, simprocAttr, hlt, hE, encTask]
 clear hK hE hR hlt h hi
 refine (hsho _ (hT2 _)).mono ?_
 rintro r2 _ ⟨rfl, hr2⟩
 simp only [go_sem, simprocAttr, encTask]
 refine (wRea _ (hT2 _)).mono ?_
 rintro _ _ ⟨⟨ls, e2, hls, rfl⟩, rfl⟩
 simp only [go_sem, simprocAttr, encTask]
 refine (wDis _ (hT2 _)).mono ?_
 rintro _ _ ⟨⟨ds, e3, hds, rfl⟩, rfl⟩
 simp only [go_sem, simprocAttr, encTask]
 have hils : Ids (σ.length + 6) (.wslice (ls.map wL)) := ids_wLs6 (by omega) ls
 have hids6 : Ids (σ.length + 6) (.wslice (ds.map wD6)) := ids_wD6 (by omega) ds
 refine wpc_while (fun (i : Nat) => [(1, .slice .unk (s.map Ahl.encI)), (2, .ptr σ.length 0), (5, .ptr (σ.length + 1) 0), (6, .slice .fresh (s.map Ahl.encI)), (8, .int .i64 e), (9, .int .i64 l.length), (13, .wslice (ds.map wD6)), (65, .wslice (ls.map wL)), (66, .int .i64 ls.length), (67, .int .i64 (i : Nat))])
  (fun _ => σ ++ [.row (encTask t), .row (encTask t), .dead, .row [.bool b, .int .i64 c, .wslice (l.map wI)], .dead, .dead]) (fun i => i ≤ ls.length) (fun i => ls.length - i) 0 (Nat.zero_le _) ?_ ?_
 ·(try dsimp only)
  simp only [encTask]
  exact ghL0 (l := [.row _, .row _, .dead, .row _, .dead, .dead]) (hd2 _ _ _)
 intro i hi K hK hE hR
 by_cases h : i < ls.length
 ·obtain ⟨u, hx⟩ := get_ex h; have hlt : ((i : Int) < (ls.length : Int)) := (by omega); have hw := wrapS (i := i) (by omega)
  have hul := hls.2 u (List.mem_of_getElem? hx)
  have hi0 : (0 : Int) ≤ (i : Int) := by omega
  simp only [go_sem, simprocAttr, hlt, hx, wL, hi0, encTask]
  refine (spoil06_spec u _ (by simp) (by omega)).is ?_
  simp only [go_sem, simprocAttr, encTask]
  refine hK _ _ (i + 1) (by omega) (by omega) ?_
  (try dsimp only)
  rw [hw]
  simp only [encTask]
  exact ghL0 (l := [.row _, .row _, .dead, .row _, .dead, .dead]) (hd2 _ _ _)
 have hlt : ¬ ((i : Int) < (ls.length : Int)) := by omega
 simp only [go_sem, simprocAttr, hlt, hE, encTask]
 clear hK hE hR hlt h hi
 refine wpc_while (fun (i : Nat) => [(1, .slice .unk (s.map Ahl.encI)), (2, .ptr σ.length 0), (5, .ptr (σ.length + 1) 0), (6, .slice .fresh (s.map Ahl.encI)), (8, .int .i64 e), (9, .int .i64 l.length), (74, .wslice (ds.map wD6)), (75, .int .i64 ds.length), (76, .int .i64 (i : Nat))])
  (fun _ => σ ++ [.row (encTask t), .row (encTask t), .dead, .row [.bool b, .int .i64 c, .wslice (l.map wI)], .dead, .dead]) (fun i => i ≤ ds.length) (fun i => ds.length - i) 0 (Nat.zero_le _) ?_ ?_
 ·(try dsimp only)
  simp only [encTask]
  exact ghL0 (l := [.row _, .row _, .dead, .row _, .dead, .dead]) (hd2 _ _ _)
 intro i hi K hK hE hR
 by_cases h : i < ds.length
 ·obtain ⟨u, hx⟩ := get_ex h; have hlt : ((i : Int) < (ds.length : Int)) := (by omega); have hw := wrapS (i := i) (by omega)
  have hul := hds.2 u (List.mem_of_getElem? hx)
  have hi0 : (0 : Int) ≤ (i : Int) := by omega
  simp only [go_sem, simprocAttr, hlt, hx, wD6, hi0, encTask]
  refine (spoil06_spec u.1 _ (by simp) (by omega)).is ?_
  simp only [go_sem, simprocAttr, encTask]
  refine hK _ _ (i + 1) (by omega) (by omega) ?_
  (try dsimp only)
  rw [hw]
  simp only [encTask]
  exact ghL (l := [.row _, .row _, .dead, .row _, .dead, .dead]) (hd2 _ _ _)
 have hlt : ¬ ((i : Int) < (ds.length : Int)) := by omega
 simp only [go_sem, simprocAttr, hlt, hE, encTask]
 clear hK hE hR hlt h hi
 refine (hopt _ (hT2 _)).mono ?_
 rintro r _ ⟨rfl, hr⟩
 have hag := again_of ht hall hr1 hr
 have hss : decide (s = s) = true := decide_eq_true rfl
 have hee : (e == e) = true := beq_self_eq_true _
 rcases hag with ⟨hn, rfl⟩ | ⟨rfl, hVT, hwh, hsto, p, v, rfl, hn, hrun, hgo, hpl⟩
 ·have hln : ((0 : Int) == (l.length : Int)) = true := by simp [hn]
  simp only [go_sem, simprocAttr, zeroC, hsA, encTask]
  refine (hst _ hcb).is ?_
  simp only [go_sem, simprocAttr, encTask]
  refine (sameInts_spec s s .fresh .unk _ hl hl).is ?_
  rw [hss]
  by_cases h0 : e = 0
  ·have h0' : (e != 0) = false := by simpa using h0
   simp only [go_sem, simprocAttr, hee, hln, h0', encTask]
   refine (awake06_spec _ (hT2 _)).is ?_
   simp only [go_sem, simprocAttr]
   exact rt (.bool true) ⟨rfl, rfl⟩
  ·have h0' : (e != 0) = true := by simpa using h0
   simp only [go_sem, simprocAttr, hee, hln, h0', encTask]
   refine (awake06_spec _ (hT2 _)).is ?_
   simp only [go_sem, simprocAttr]
   exact rt (.bool true) ⟨rfl, rfl⟩
 ·have hln : (((actI p).length : Int) == (l.length : Int)) = true := by simp [actI, hn]
  have h0' : ((0 : Int) != 0) = false := rfl
  have hpw := fun σ => planL06_spec t s v p c .unk σ hVT hwh hsto hrun hgo hpl
  simp only [ansC, encTask] at hpw
  simp only [go_sem, simprocAttr, ansC, hsA, encTask]
  refine (hst _ hcb).is ?_
  simp only [go_sem, simprocAttr, encTask]
  refine (sameInts_spec s s .fresh .unk _ hl hl).is ?_
  rw [hss]
  simp only [go_sem, simprocAttr, hee, hln, h0', encTask]
  refine (hpw _).is ?_
  simp only [go_sem, simprocAttr]
  refine (awake06_spec _ (hT2 _)).is ?_
  simp only [go_sem, simprocAttr]
  exact rt (.bool true) ⟨rfl, rfl⟩
end Go.Proofs.YtpabiedjneognaaGreatDoor
namespace Go.Ahl
section
variable {P : Program}
theorem srel_tab {w : World} {b : Nat} (hg : P.globalNamed "internal/strconv.uint64pow10" = some b) (h : Lib.TabIs P w "internal/strconv.uint64pow10" .u64 Go.Lib.pow10Tab) : SRel (memOf w) [.nowhere] [powObj b] w := by
 have h0 := srel_memOf w
 obtain ⟨arr, t, fz, hb, ha⟩ : ∃ arr t fz, w.heap[b]? = some (.cells arr t fz) ∧ arr = (Go.Lib.pow10Tab.map fun z => Value.int .u64 z).toArray := by
  unfold Lib.TabIs World.var? at h
  rw [hg] at h
  simp only [Option.bind_some] at h
  split at h
  ·rename_i arr t fz hq
   injection h with h
   exact ⟨arr, t, fz, hq, h⟩
  ·simp at h
 refine { len := rfl, im := h0.im, bs := h0.bs, obj := ?_, inj := ?_, lt := ?_, mp := fun b e h => by simp [memOf] at h, mpo := ?_, ok := ⟨Nat.le_refl _, ?_, fun b o K h => by simp [memOf] at h, h0.ok.fz⟩ }
 ·intro i l o h1 h2
  cases i with
  | succ i => simp at h1
  | zero =>
   simp at h1 h2; subst h1; subst h2
   refine ⟨?_, fun i v hv => ?_⟩
   ·simp only [memOf, hb, ha]; simp
   ·simp only [memOf, World.cell?, hb, ha]
    simpa using hv
 ·intro i j l l' o o' k h1 h2 h3 h4 h5
  cases i with
  | succ i => simp at h1
  | zero => simp at h1 h3; subst h1; subst h3; simp [own, powObj] at h5
 ·rintro k ⟨i, e | ⟨_, _, _, e, _⟩⟩ <;> (cases i <;> simp at e)
 ·intro i l o k h1 h2 h3
  cases i with
  | succ i => simp at h1
  | zero => simp at h1 h2; subst h1; subst h2; simp [own, powObj] at h3
 ·rintro k ⟨i, e | ⟨_, _, _, e, _⟩⟩ <;> (cases i <;> simp at e)
end
open Go.ChangeShapes Go.WideShapes Go.ChangeAt Go.RowKit
section
variable {P : Program}
theorem below_of_extT {m m' : Mem} {loc' : List Loc} {w w' : World} {n0 : Nat} (h : Ext n0 m [.nowhere] w m' loc' w') (hz : ∀ b o, m.wk b o = none) : Below w.heap.size w w' :=
 ⟨h.os, h.tape, h.output, h.size, fun b hb => h.frame b hb (by rintro ⟨i, e | ⟨_, _, _, e, _⟩⟩ <;> (cases i <;> simp at e)) (hz b)⟩
theorem tabIs_third {P : Program} {W : World} {name : String} {k : IntKind} {zs : List Int} {x y : String × DataW Unit} {g : Nat} {t e : TypeId} {n : Nat}
  (hg : P.globalNamed name = some g) (hty : (P.globals[g]?).map (·.type) = some t) (ht : P.underlying t = some (.array n e)) (he : P.underlying e = some (.int k)) (hce : P.cellsOf e = 1) (hct : P.cellsOf t = n)
  (h : laidMet P [x, y, (name, Lib.tabData k zs)] W) : Lib.TabIs P W name k zs := by
 obtain ⟨x1, x2⟩ := x
 obtain ⟨y1, y2⟩ := y
 obtain ⟨ps, ⟨_, _, _, _, _, _, _, _, _, _, ⟨_, _, _, _, _, _, _, _, _, _, ⟨g', t', cs, fuel, p, q, hg', ht', hvar, hd, _, _⟩, _⟩, _⟩, _⟩ := h
 obtain rfl := Option.some.inj (hg.symm.trans hg')
 obtain rfl := Option.some.inj (hty.symm.trans ht')
 unfold Lib.TabIs
 rw [hvar, ← Lib.cells_of_tab ht he hce hct hd]
theorem law_postT {H : Type} {enc : TypeId × Value → H} {f : FuncId} {fn : Func} {s : ChangeSpec} {tb : TypeId} (hf : P.funcs[f]? = some fn) (hb : fn.body.isSome = true) (hn : fn.name ≠ "runtime.NumGoroutine")
  (hs0 : s.vars = []) (hs : ∀ ds : List (DataW H), ds.length = fn.params.size → s.fn H ds = { results := [.lit (.bool true)], args := ds })
  (hl : laidOutB P = true) (hr : ∀ t ∈ fn.params.toList, P.readableRec t = true ∧ t < P.types.size) (hres : fn.resultTypes = #[tb]) (hbool : P.underlying tb = some .bool)
  {g : Nat} (hg : P.globalNamed "internal/strconv.uint64pow10" = some g) (hA : ReadsAll P fn.params.toList fun avs => ACalls P f avs [powObj g] (isR (.bool true) [powObj g]))
  {W : World} {base : Nat} {args : Array Value} {ds gs : List (DataW H)} {before : List MemPlace} (hval : ∀ (j : Nat) t v, fn.params[j]? = some t → args[j]? = some v → Value.okWide P W .any base t v)
  (hW : DataW.Whole enc P fn.params.toList s.vars false W args.toList ds gs before)
  (hT0 : Lib.TabIs P W "internal/strconv.uint64pow10" .u64 Go.Lib.pow10Tab) (hsz : (DataW.weightsEach P (fn.params.toList ++ s.plain.varTypes P) (ds ++ gs)).all (· ≤ reachBytes) = true) :
  Calls P f args W fun e W' => ∃ v, e = .returned v ∧ s.post enc P fn false true false false W args v W' := by
 have hW' := hW
 obtain ⟨p, q, hT, hV, rfl, hfz, hnd⟩ := hW
 rw [hs0] at hV
 obtain ⟨rfl, rfl⟩ := trodVars_none hV
 have hpl : s.plain.varTypes P = [] := by simp [DataSpec.varTypes, ChangeSpec.plain, hs0]
 rw [hpl, List.append_nil, List.append_nil] at hsz
 obtain ⟨avs, h1, h2, h3⟩ := hA H enc W base args.toList ds p (fun j t v a b => hval j t v (by simpa using a) (by simpa using b)) hT (fun x hx => by simpa using List.all_eq_true.1 hsz x hx)
 refine (h1.calls hf hb hn (srel_tab hg hT0) ⟨by simpa using h2, fun j x v a b => Rel.mono (loc := []) (loc' := [.nowhere]) (.refl _) (fun i l hi e => by simp at e) (h3 j x v a (by simpa using b))⟩).mono ?_
 rintro e W' ⟨v, rfl, r, σ', m', loc', ⟨rfl, rfl⟩, hrel, hsr, hext⟩
 have hv : v = .bool true := by cases hrel; rfl
 subst hv
 have hbl := below_of_extT hext (fun _ _ => rfl)
 have hlt : ∀ x ∈ p, x.block < W.heap.size := fun x hx => hW'.lt x (by simpa using hx)
 have hlen : ds.length = fn.params.size := by
  have : ∀ (ts : List TypeId) (vs : List Value) (ds : List (DataW H)) (ps : List MemPlace), DataW.TrodAll enc P W 0 (fun _ => true) true ts vs ds ps → ds.length = ts.length := by
   intro ts
   induction ts with
   | nil => intro vs ds ps h; obtain ⟨_, rfl, _⟩ := trodAll_nil h; rfl
   | cons t ts ih => intro vs ds ps h; obtain ⟨v, vs', d, ds', p, q, rfl, rfl, rfl, h1, h2⟩ := trodAll_cons h; simp [ih _ _ _ h2]
  simpa using this _ _ _ _ hT
 have hsp := hs (ds ++ []) (by simpa using hlen)
 refine ⟨_, rfl, post_same (pa := p) (pv := []) hW' ?_ ?_ ?_ rfl (hbl.frame _) (fun a ha => hbl.frozen ha) ?_⟩
 ·intro b sp hd
  rw [hsp, hres]
  exact trodAll_mk1 (shut_bool hbool _)
 ·intro sp hsp'
  rw [hsp, List.append_nil]
  exact trodAll_stays hl hr hT (fun x hx => hbl.same (hlt x hx)) (fun x hx => hsp' x (by simpa using hx))
 ·intro sp hsp'
  rw [hsp, hs0]; exact rfl
 ·exact ok_one hres rfl (okWide_bool_mk hbool _)
end
end Go.Ahl
namespace Go.Proofs.YtpabiedjneognaaGreatDoor
open Go.Ahl Go.ChangeShapes Go.WideShapes Go.ChangeAt Go.RowKit
abbrev rowLaid : List (String × DataW Unit) := [("math/bits.deBruijn32tab", Rows.laid_math_bits_deBruijn32tab), ("math/bits.deBruijn64tab", Rows.laid_math_bits_deBruijn64tab), ("internal/strconv.uint64pow10", Rows.laid_internal_strconv_uint64pow10)]
theorem pow_data : (Rows.laid_internal_strconv_uint64pow10 : DataW Unit) = Lib.tabData .u64 Go.Lib.pow10Tab := rfl
theorem tab_of_laid {W : World} (h : laidMetH Tryz.prog rowLaid W) : Lib.TabIs Tryz.prog W "internal/strconv.uint64pow10" .u64 Go.Lib.pow10Tab := by
 rw [MakeChecks.laidMetH_plain _ _ _ (by kernel_rfl)] at h
 unfold rowLaid at h
 rw [pow_data] at h
 exact tabIs_third (t := 218) (e := 182) (n := 20) tab_named (by kernel_rfl) (by kernel_rfl) (by kernel_rfl) (by kernel_rfl) (by kernel_rfl) h
theorem laid_met (os : Os) (args : Array Value) : laidMetH Tryz.prog rowLaid ((World.laidAll Tryz.prog os rowLaid).forCall (fun _ _ => 0) ⟨#[], args, []⟩).memory := by
 rw [MakeChecks.laidMetH_plain _ _ _ (by kernel_rfl)]; exact laidMet_laidAll _ (by kernel_rfl) (by kernel_rfl)
end Go.Proofs.YtpabiedjneognaaGreatDoor
namespace Go.Proofs.YtpabiedjneognaaGreatDoor
open Go.Ahl Go.ChangeShapes Go.WideShapes Go.ChangeAt Go.RowKit
theorem law_reads : ReadsAll Tryz.prog Tryz.f6.params.toList (fun avs => ACalls Tryz.prog 6 avs [tabO] (isR (.bool true) [tabO])) := by
 rw [show Tryz.f6.params.toList = [27, 23] by kernel_rfl]
 exact .cons ra_task fun t ht => .cons ra_ints fun s hs => .nil (own06_law t s [tabO] rfl ht hs.1)
set_option maxRecDepth 100000 in
theorem lifted (os : Os) (started : os.Started) (H : Type) (enc : TypeId × Value → H) :
  ReturnsInHanded {} Tryz.checked os 6 .any (fun w args => (Rows.searchOwnSpec.pre enc Tryz.prog Tryz.f6 Rows.searchOwnRow.domain false w args ∧ laidMetH Tryz.prog rowLaid w) ∧ sizedMet enc Tryz.prog Tryz.f6 (OpenSpec.ofChange Rows.searchOwnSpec) false w args)
   (Rows.searchOwnSpec.post enc Tryz.prog Tryz.f6 false true false false) := by
 refine returnsInHanded_of_change_and (C := Tryz.checked) (X := fun w _ => laidMetH Tryz.prog rowLaid w) (fun _ _ _ hh h => h.of_heap hh) own started (by kernel_rfl) Tryz.func6
  (ChangeSpec.witness_shaped (enc := enc) (C := Tryz.checked) (os := os) (X := fun w _ => laidMetH Tryz.prog rowLaid w) false (World.laidAll Tryz.prog os rowLaid) #[.agg #[.slice none 0 0, .slice none 0 0, .slice none 0 0, .slice none 0 0], .slice none 0 0] 8 (World.laidAll_os _ _ _)
   (World.shaped_of_ZipB (by kernel_rfl) (by kernel_rfl)) (by kernel_rfl) (by kernel_rfl) (by kernel_rfl) (laid_met os _)) ?_
 intro W base args ds gs before hval hW _ hsz hL _
 refine law_postT (P := Tryz.prog) Tryz.func6 (by kernel_rfl) (by decide) rfl ?_ laidOut (rdble (by kernel_rfl)) (by kernel_rfl) Tryz.underlying4 tab_named law_reads hval hW (tab_of_laid hL) hsz
 intro ds h
 rw [show Tryz.f6.params.size = 2 by kernel_rfl] at h
 match ds, h with
 | [a, b], _ => rfl
theorem row_holds : Rows.SearchOwnSaid :=
 OpenClaim.holds_of_wide 6 Tryz.f6 rfl rfl rfl rfl rfl rfl rfl ⟨rfl, rfl, rfl, rfl, rfl⟩ rfl rfl rfl rfl rfl (by kernel_rfl) Tryz.func6 (by kernel_rfl)
  (of_decide_eq_true (by kernel_rfl)) (by unfold Func.isWrapper; first | (rw [if_pos (by decide +kernel)]; kernel_rfl) | (rw [if_neg (by decide +kernel)]; exact ⟨rfl, rfl⟩))
  (fun os started H enc _ => lifted os started H enc)
theorem holds : Rows.SearchOwnCardSaid :=
 Claim7.holds_tied_plain_at .later [] [.data, .data, .data] true (true, "4b5b9ffcc6f8df805ecff25f1710d253db95cba1634782edf60db549af1a9c7c") true
  row_holds (fun _ h => by cases h) (by kernel_rfl) (fun _ h => by cases h) searchOwn_row_tie rfl ⟨rfl, rfl⟩ (by kernel_rfl) rfl
  (fun f fn hf hfn => by
   obtain rfl : f = 6 := Option.some.inj ((show Tryz.prog.funcNamed "forethought/forethoughtlaw06.SearchOwn" = some 6 by kernel_rfl).symm.trans hf) |>.symm
   obtain rfl : fn = Tryz.f6 := (Option.some.inj (Eq.trans (Eq.symm Tryz.func6) hfn)).symm
   exact ⟨by kernel_rfl, fun j t ht => by
    have hall : (Tryz.f6.params.toList.all fun u => !Tryz.prog.wantsStandIn u) = true := by kernel_rfl
    have hm : t ∈ Tryz.f6.params.toList := by simpa using Array.mem_of_getElem? ht
    show Tryz.prog.wantsStandIn t = false
    simpa using List.all_eq_true.1 hall t hm⟩)
  (by kernel_rfl)
end Go.Proofs.YtpabiedjneognaaGreatDoor
