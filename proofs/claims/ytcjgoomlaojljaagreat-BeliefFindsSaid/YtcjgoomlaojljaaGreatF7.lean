/- For any task and belief, Find returns a conformant plan of the least cost, and this cost, or the error, at every input of the form that the statement asks for. -/
import Derived.Test.YtcjgoomlaojljaaGreatBase6
set_option maxRecDepth 20000
set_option linter.unusedVariables false
set_option linter.unusedSimpArgs false
namespace Go.Proofs.YtcjgoomlaojljaaGreat
open Go.Ahl Go.ChangeShapes Go.WideShapes Go.ChangeAt Go.RowKit
theorem okLT {b : List (List Int)} (h : okL (okL okI) b) : LT b := ⟨h.1, fun s hs => (h.2 s hs).1⟩
theorem many_few {t : FTask} {b : Bel} {all : List Bel} (hb : b ∈ all) (hl : all.length ≤ 1500) (hc : ∀ u ∈ all, ∀ a v, a < t.actions.length → stB t u a = some v → v ∈ all) : ¬ manyB t b := by
 have hrun : ∀ (l : List Nat) (u v : Bel) (k : Int), u ∈ all → runD t.actions.length (stB t) (cN t) l u = some (v, k) → v ∈ all := by
  intro l
  induction l with
  | nil => intro u v k hu h; simp only [runD, Option.some.injEq, Prod.mk.injEq] at h; obtain ⟨rfl, _⟩ := h; exact hu
  | cons a l ih =>
   intro u v k hu h
   simp only [runD] at h
   split at h
   ·rename_i ha
    cases hs : stB t u a with
    | none => rw [hs] at h; simp at h
    | some w =>
     rw [hs] at h; dsimp only at h
     cases hr : runD t.actions.length (stB t) (cN t) l w with
     | none => rw [hr] at h; simp at h
     | some r =>
      rw [hr] at h
      simp only [Option.some.injEq, Prod.mk.injEq] at h
      have := ih w r.1 r.2 (hc u hu a w ha hs) (by rw [hr])
      rw [← h.1]; exact this
   ·simp at h
 rintro ⟨bs, h1, h2, h3⟩
 have := nodup_le17 (m := all) h1 fun u hu => by
  obtain ⟨_, l, v, h⟩ := h2 u hu
  exact hrun l b u v hb h
 omega
theorem goB_run {t : FTask} : ∀ (l : List Nat) (b : Bel) (c : Int) (v : Bel) (k : Int), runD t.actions.length (stB t) (cN t) l b = some (v, k) → goB t b c (l.map fun (a : Nat) => (a : Int)) = some (v, c + k)
 | [], b, c, v, k, h => by
  simp only [runD, Option.some.injEq, Prod.mk.injEq] at h
  obtain ⟨rfl, rfl⟩ := h
  simp [goB]
 | a :: l, b, c, v, k, h => by
  simp only [runD] at h
  split at h
  ·rename_i ha
   cases hs : stB t b a with
   | none => rw [hs] at h; simp at h
   | some w =>
    rw [hs] at h; dsimp only at h
    cases hr : runD t.actions.length (stB t) (cN t) l w with
    | none => rw [hr] at h; simp at h
    | some r =>
     rw [hr] at h
     simp only [Option.some.injEq, Prod.mk.injEq] at h
     have := goB_run l w (c + cN t a) r.1 r.2 (by rw [hr])
     rw [List.map_cons, goB, Int.toNat_natCast, hs]
     simp only
     rw [show c + costB t ((a : Nat) : Int) = c + cN t a from rfl, this, h.1, ← h.2, Int.add_assoc]
  ·simp at h
def c_law : CCode := .seq (.ops [oS 2 (.box (.tmp 0)), oS 4 (.move (.lit (.bool false)))]) (.seq (.seq (.ops [oS 13 (.load (some 4) (.tmp 2)), oS 14 (.move (.tmp 1)), oS 15 (.call (.lit (.func 7 [])) [.tmp 13, .tmp 14]), oS 16 (.un .not (.tmp 15))]) (.cond (.tmp 16) (.seq (.ops [oS 17 (.call (.lit (.func 8 [])) []), oS 4 (.move (.tmp 17))]) .ret) .skip)) (.seq (.ops [oS 18 (.load (some 4) (.tmp 2)), oS 19 (.move (.tmp 1)), oS 20 (.call (.lit (.func 12 [])) [.tmp 18, .tmp 19]), oS 5 (.move (.tmp 20))]) (.seq (.ops [oS 6 (.move (.lit (.int .i64 0))), oS 7 (.move (.lit (.bool true)))]) (.seq (.seq (.ops [oS 21 (.move (.tmp 5)), oS 22 (.bin .eql .none (.tmp 21) (.lit (.int .i64 0)))]) (.cond (.tmp 22) (.seq (.ops [oS 24 (.load (some 4) (.tmp 2)), oS 25 (.move (.tmp 1)), oS 26 (.call (.lit (.func 25 [])) [.tmp 24, .tmp 25, .lit (.int .i64 1500)]), oS 23 (.move (.tmp 26)), oS 27 (.extract (.tmp 23) 0), oS 28 (.extract (.tmp 23) 1), oS 6 (.move (.tmp 27)), oS 7 (.move (.tmp 28))]) (.seq (.ops [oS 29 (.move (.tmp 7)), oS 30 (.un .not (.tmp 29))]) (.cond (.tmp 30) (.seq (.ops [oS 31 (.call (.lit (.func 8 [])) []), oS 4 (.move (.tmp 31))]) .ret) .skip))) .skip)) (.seq (.ops [oS 33 (.load (some 4) (.tmp 2)), oS 34 (.move (.tmp 1)), oS 35 (.call (.lit (.func 26 [])) [.tmp 33, .tmp 34]), oS 32 (.move (.tmp 35)), oS 36 (.extract (.tmp 32) 0), oS 37 (.extract (.tmp 32) 1), oS 38 (.extract (.tmp 32) 2), oS 8 (.move (.tmp 36)), oS 9 (.move (.tmp 37)), oS 10 (.move (.tmp 38))]) (.seq (.seq (.ops [oS 39 (.move (.tmp 5)), oS 40 (.bin .eql .none (.tmp 39) (.lit (.int .i64 0))), oS 41 (.move (.tmp 40)), oG 42 41 true (.move (.tmp 6)), oG 43 41 true (.bin .lss .none (.tmp 42) (.lit (.int .i64 0))), oS 44 (.pick (.tmp 41) (.tmp 43) (.lit (.bool false)))]) (.cond (.tmp 44) (.ops [oS 5 (.move (.lit (.int .i64 4)))]) .skip)) (.seq (.seq (.ops [oS 45 (.move (.tmp 5)), oS 46 (.bin .neq .none (.tmp 45) (.lit (.int .i64 0)))]) (.cond (.tmp 46) (.seq (.ops [oS 47 (.move (.tmp 10)), oS 48 (.move (.tmp 5)), oS 49 (.bin .eql .none (.tmp 47) (.tmp 48)), oS 50 (.move (.tmp 49)), oG 51 50 true (.move (.tmp 8)), oG 52 50 true (.blen 1 (.tmp 51)), oG 53 50 true (.bin .eql .none (.tmp 52) (.lit (.int .i64 0))), oS 54 (.pick (.tmp 50) (.tmp 53) (.lit (.bool false))), oS 55 (.move (.tmp 54)), oG 56 55 true (.move (.tmp 9)), oG 57 55 true (.bin .eql .none (.tmp 56) (.lit (.int .i64 0))), oS 58 (.pick (.tmp 55) (.tmp 57) (.lit (.bool false))), oS 59 (.move (.tmp 58)), oG 60 59 true (.call (.lit (.func 8 [])) []), oS 61 (.pick (.tmp 59) (.tmp 60) (.lit (.bool false))), oS 4 (.move (.tmp 61))]) .ret) .skip)) (.seq (.ops [oS 63 (.load (some 4) (.tmp 2)), oS 64 (.move (.tmp 1)), oS 65 (.move (.tmp 8)), oS 66 (.call (.lit (.func 24 [])) [.tmp 63, .tmp 64, .tmp 65]), oS 62 (.move (.tmp 66)), oS 67 (.extract (.tmp 62) 0), oS 68 (.extract (.tmp 62) 1), oS 11 (.move (.tmp 67)), oS 12 (.move (.tmp 68))]) (.seq (.ops [oS 69 (.move (.tmp 10)), oS 70 (.bin .eql .none (.tmp 69) (.lit (.int .i64 0))), oS 71 (.move (.tmp 70)), oG 72 71 true (.load (some 4) (.tmp 2)), oG 73 71 true (.move (.tmp 8)), oG 74 71 true (.call (.lit (.func 23 [])) [.tmp 72, .tmp 73]), oS 75 (.pick (.tmp 71) (.tmp 74) (.lit (.bool false))), oS 76 (.move (.tmp 75)), oG 77 76 true (.move (.tmp 12)), oS 78 (.pick (.tmp 76) (.tmp 77) (.lit (.bool false))), oS 79 (.move (.tmp 78)), oG 80 79 true (.move (.tmp 11)), oG 81 79 true (.move (.tmp 6)), oG 82 79 true (.bin .eql .none (.tmp 80) (.tmp 81)), oS 83 (.pick (.tmp 79) (.tmp 82) (.lit (.bool false))), oS 84 (.move (.tmp 83)), oG 85 84 true (.move (.tmp 9)), oG 86 84 true (.move (.tmp 6)), oG 87 84 true (.bin .eql .none (.tmp 85) (.tmp 86)), oS 88 (.pick (.tmp 84) (.tmp 87) (.lit (.bool false))), oS 89 (.move (.tmp 88)), oG 90 89 true (.call (.lit (.func 8 [])) []), oS 91 (.pick (.tmp 89) (.tmp 90) (.lit (.bool false))), oS 4 (.move (.tmp 91))]) .ret)))))))))
set_option maxHeartbeats 1000000 in
theorem law_spec (t : FTask) (b : List (List Int)) (ht : TB t) (hb : okL (okL okI) b) (σ : Store) :
  ACalls Tryz.prog 5 [.agg (encTask t), .slice .unk (b.map encL)] σ (isR (.bool true) σ) := by
 refine ACalls.intro (rs := [(.tmp 4)]) (by kernel_rfl) { own := [], ghosts := [] } Tryz.func5 (c := Tryz.f5.body.getD .skip) (by kernel_rfl) (by decide) (by rw [show Tryz.f5.ntmps = 92 by kernel_rfl]; exact Nat.le_of_ble_eq_true rfl) (by kernel_rfl) ?_
 intro hσ hids
 rw [show comp Tryz.prog { own := [], ghosts := [] } (Tryz.f5.body.getD .skip) = c_law by kernel_rfl, show Tryz.f5.ntmps = 92 by kernel_rfl]
 unfold c_law
 have hLT := okLT hb
 simp only [go_sem, simprocAttr, encTask]
 refine ACalls.is (few17_spec t b _ _ ht hLT) ?_
 cases hfew : few17B t b
 ·simp only [go_sem, simprocAttr]
  refine (awake17_spec _).is ?_
  simp only [go_sem, simprocAttr]
  exact rt (.bool true) ⟨rfl, rfl⟩
 simp only [go_sem, simprocAttr, encTask]
 refine ACalls.is (fault17_spec t b .unk _ ht hLT) ?_
 have e00 : ((0 : Int) == 0) = true := rfl
 have n00 : ((0 : Int) != 0) = false := rfl
 have n40 : ((4 : Int) != 0) = true := rfl
 have e44 : ((4 : Int) == 4) = true := rfl
 have l00 : (((0 : Nat) : Int) == 0) = true := rfl
 by_cases he : bErr t b = 0
 ·obtain ⟨hv, hbel⟩ := bErr_zero he
  have hVT := valid_VT ht hv
  have hbo := bel_ok hbel
  rw [he]
  simp only [go_sem, simprocAttr, e00, encTask]
  refine ACalls.mono (best17_spec t b 1500 .unk _ hv hVT hbo (by omega) (by omega)) ?_
  rintro r _ ⟨hr, rfl⟩
  rcases hr with rfl | ⟨all, d, rfl, hnd, hba, hal, hcl, hd⟩
  ·simp only [go_sem, simprocAttr]
   refine (awake17_spec _).is ?_
   simp only [go_sem, simprocAttr]
   exact rt (.bool true) ⟨rfl, rfl⟩
  have hmany := many_few hba hal hcl
  simp only [go_sem, simprocAttr, encTask]
  refine ACalls.mono (bfind_spec t b .unk _ ht hLT) ?_
  rintro r _ ⟨hr, rfl⟩
  rcases hr with ⟨h, _⟩ | ⟨_, s, _, h⟩
  ·exact absurd he h
  rcases h with ⟨_, _, h⟩ | ⟨_, _, rfl, hno⟩ | ⟨_, i, x, l, _, _, _, _, hla, hrun, hg, hlow, h⟩
  ·exact absurd h hmany
  ·rcases hd with ⟨hd0, _, _⟩ | ⟨_, ⟨l, v, h1, h2⟩, _⟩
   ·simp only [go_sem, simprocAttr, e00, hd0, n40, e44, l00]
    refine (awake17_spec _).is ?_
    simp only [go_sem, simprocAttr]
    exact rt (.bool true) ⟨rfl, rfl⟩
   ·rw [hno l v d h1] at h2; simp at h2
  ·rcases h.symm with ⟨_, _, h⟩ | ⟨hll, rfl⟩
   ·exact absurd h hmany
   rcases hd with ⟨_, _, hno⟩ | ⟨hd0, ⟨m, v, h1, h2⟩, hlow2⟩
   ·rw [hno _ _ _ hrun] at hg; simp at hg
   have hxd : x.cost = d := by
    have a1 := hlow m v d h1 h2
    have a2 := hlow2 _ _ _ hrun hg
    omega
   subst hxd
   have hd0' : ¬ x.cost < 0 := by omega
   obtain ⟨p, hp⟩ : ∃ p, p = l.reverse.map fun (a : Nat) => (a : Int) := ⟨_, rfl⟩
   have hpl : p.length ≤ 10000 := by rw [hp, List.length_map, List.length_reverse]; exact hll
   have hpr : ∀ a ∈ p, 0 ≤ a ∧ a < (t.actions.length : Int) := fun a ha => by
    rw [hp] at ha
    obtain ⟨k, hk, rfl⟩ := List.mem_map.1 ha
    have := hla k (List.mem_reverse.1 hk); omega
   have hgo := goB_run l.reverse b 0 x.b x.cost hrun
   rw [← hp, Int.zero_add] at hgo
   have hplan : planB t b p = (x.cost, true) := by
    rw [planB, hgo]; simp only
    rw [show allH x.b t.goal = true from hg]; rfl
   have hli : slistedB t p = true := by
    unfold slistedB
    rw [decide_eq_true hpl, Bool.true_and, Bool.not_eq_true', List.any_eq_false]
    intro a ha
    have := hpr a ha
    unfold offB
    simp; omega
   rw [← hp]
   have hpl17 := fun σ => plan17_spec t b p .unk .fresh σ hv hVT hbo hpl hpr
   rw [hplan] at hpl17
   simp only [encTask] at hpl17
   simp only [go_sem, simprocAttr, e00, n00, hd0', encTask]
   refine ACalls.is (hpl17 _) ?_
   have hac := fun σ => actions02_spec t p .fresh σ ht (by omega)
   rw [hli] at hac
   simp only [encTask] at hac
   simp only [go_sem, simprocAttr, e00, encTask]
   refine ACalls.is (hac _) ?_
   have exx : (x.cost == x.cost) = true := beq_self_eq_true _
   simp only [go_sem, simprocAttr, exx]
   refine (awake17_spec _).is ?_
   simp only [go_sem, simprocAttr]
   exact rt (.bool true) ⟨rfl, rfl⟩
 ·have hg0 : (bErr t b == 0) = false := by simpa using he
  have hg0' : (bErr t b != 0) = true := by simpa using he
  have hgf : (bErr t b == bErr t b) = true := beq_self_eq_true _
  simp only [go_sem, simprocAttr, hg0, encTask]
  refine ACalls.mono (bfind_spec t b .unk _ ht hLT) ?_
  rintro r _ ⟨hr, rfl⟩
  rcases hr with ⟨_, rfl⟩ | ⟨h, _⟩
  ·simp only [go_sem, simprocAttr, hg0, hg0', hgf, e00, l00]
   refine (awake17_spec _).is ?_
   simp only [go_sem, simprocAttr]
   exact rt (.bool true) ⟨rfl, rfl⟩
  ·exact absurd h he
theorem law_reads : ReadsAll Tryz.prog Tryz.f5.params.toList (fun avs => ACalls Tryz.prog 5 avs [] (isR (.bool true) [])) := by
 rw [show Tryz.f5.params.toList = [27, 28] by kernel_rfl]
 exact .cons ra_task fun t ht => .cons ra_intss fun b hb => .nil (law_spec t b ht hb [])
set_option maxRecDepth 100000 in
theorem lifted (os : Os) (started : os.Started) (H : Type) (enc : TypeId × Value → H) :
  ReturnsInHanded {} Tryz.checked os 5 .any (Rows.beliefFindsSpec.pre6 enc Tryz.prog Tryz.f5 Rows.beliefFindsRow.domain false) (Rows.beliefFindsSpec.post enc Tryz.prog Tryz.f5 false true false false) := by
 refine returnsInHanded_of_change_sized (C := Tryz.checked) own started (by kernel_rfl) Tryz.func5
  (ChangeSpec.witness6 (enc := enc) (C := Tryz.checked) false ⟨#[], #[.agg #[.slice none 0 0, .slice none 0 0, .slice none 0 0, .slice none 0 0], .slice none 0 0], []⟩ 8 (by kernel_rfl) (by kernel_rfl) (by kernel_rfl) (by kernel_rfl)) ?_
 intro W base args ds gs before hval hW _ hsz _
 refine law_post (P := Tryz.prog) Tryz.func5 (by kernel_rfl) (by decide) rfl ?_ laidOut (rdble (by kernel_rfl)) (by kernel_rfl) Tryz.underlying4 law_reads hval hW hsz
 intro ds h
 rw [show Tryz.f5.params.size = 2 by kernel_rfl] at h
 match ds, h with
 | [a, b], _ => rfl
theorem holds : Rows.BeliefFindsSaid :=
 OpenClaim.holds_of_wide 5 Tryz.f5 rfl rfl rfl rfl rfl rfl rfl ⟨rfl, rfl, rfl, rfl, rfl⟩ rfl rfl rfl rfl rfl (by kernel_rfl) Tryz.func5 (by kernel_rfl)
  (of_decide_eq_true (by kernel_rfl)) (by unfold Func.isWrapper; first | (rw [if_pos (by decide +kernel)]; kernel_rfl) | (rw [if_neg (by decide +kernel)]; exact ⟨rfl, rfl⟩))
  (fun os started H enc _ => lifted os started H enc)
end Go.Proofs.YtcjgoomlaojljaaGreat
