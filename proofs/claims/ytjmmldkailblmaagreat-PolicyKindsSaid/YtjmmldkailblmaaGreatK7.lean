/- For any task, groups and entries, the law PolicyKinds answers true. -/
import Derived.Test.YtjmmldkailblmaaGreatBase6
set_option linter.unusedVariables false
set_option linter.unusedSimpArgs false
namespace Go.Proofs.YtjmmldkailblmaaGreat
open Go.Ahl
def chFrom : Nat → List (Option (List Nat)) → List (Nat × List Nat)
 | _, [] => []
 | k, some l :: r => (k, l) :: chFrom (k + 1) r
 | k, none :: r => chFrom (k + 1) r
def pO (p : List Nat → Bool) : Option (List Nat) → Bool
 | some l => p l
 | none => false
theorem any_ch (p : List Nat → Bool) : ∀ (k : Nat) (r : List (Option (List Nat))), (chFrom k r).any (fun c => p c.2) = r.any (pO p)
 | _, [] => rfl
 | k, some l :: r => by rw [chFrom, List.any_cons, List.any_cons, any_ch p (k + 1) r]; rfl
 | k, none :: r => by rw [chFrom, List.any_cons, any_ch p (k + 1) r]; simp [pO]
structure RW where
 ss : List (List Int)
 nx : List (List (Option (List Nat)))
 gl : List Bool
def RW.w (r : RW) : Wld := ⟨r.ss, r.nx.map (chFrom 0), r.gl⟩
theorem rw_ch (r : RW) (i : Nat) : (r.w.ch.getD i []) = chFrom 0 (r.nx.getD i []) := by
 show ((r.nx.map (chFrom 0)).getD i []) = _
 rw [List.getD_eq_getElem?_getD, List.getD_eq_getElem?_getD, List.getElem?_map]
 cases r.nx[i]? <;> rfl
def dF (w : Wld) (k i : Nat) : Int := (dIter w k).getD i 0
theorem lst_of {α : Type} {l : List α} {n : Nat} (d : α) (h : l.length = n) : l = lst n fun i => l.getD i d := by
 refine List.ext_getElem? fun i => ?_
 rcases Nat.lt_or_ge i n with hi | hi
 ·obtain ⟨x, hx⟩ := get_ex (show i < l.length by omega)
  rw [lst_get _ hi, hx, List.getD_eq_getElem?_getD, hx]; rfl
 ·rw [List.getElem?_eq_none (by omega), List.getElem?_eq_none (by rw [lst_len]; exact hi)]
theorem dIter_lst {w : Wld} (hw : WOk w) (k : Nat) : dIter w k = lst w.ss.length (dF w k) := lst_of 0 (dIter_len w hw k)
theorem dF_succ {w : Wld} (hw : WOk w) (k : Nat) {i : Nat} (hi : i < w.ss.length) : dF w (k + 1) i = if nowB w (dIter w k) i then ((k + 1 : Nat) : Int) else dF w k i := by
 show (setL (dIter w k) (nowL w (dIter w k)) ((k + 1 : Nat) : Int)).getD i 0 = _
 rw [get_setL, dIter_len w hw]
 by_cases h : nowB w (dIter w k) i = true
 ·rw [if_pos ⟨nowL_mem.2 ⟨hi, h⟩, hi⟩, if_pos h]
 ·rw [if_neg (fun q => h (nowL_mem.1 q.1).2), if_neg h]; rfl
theorem dF_zero {w : Wld} (hw : WOk w) {i : Nat} (hi : i < w.ss.length) : dF w 0 i = if goalB w i then 0 else -1 := by
 unfold dF goalB
 show (far0 w).getD i 0 = _
 unfold far0
 obtain ⟨b, hb⟩ := get_ex (show i < w.gl.length by rw [hw.gl]; exact hi)
 rw [List.getD_eq_getElem?_getD, List.getD_eq_getElem?_getD, List.getElem?_map, hb]
 rfl
theorem dF_range {w : Wld} (hw : WOk w) {i : Nat} (hi : i < w.ss.length) : ∀ k, dF w k i = -1 ∨ (0 ≤ dF w k i ∧ dF w k i ≤ (k : Nat))
 | 0 => by rw [dF_zero hw hi]; split <;> simp
 | k + 1 => by
  rw [dF_succ hw k hi]
  split
  ·right; omega
  ·rcases dF_range hw hi k with h | h
   ·exact .inl h
   ·right; omega
theorem dF_goal {w : Wld} (hw : WOk w) {i : Nat} (hi : i < w.ss.length) : ∀ k, dF w k i = 0 ↔ goalB w i = true
 | 0 => by rw [dF_zero hw hi]; cases goalB w i <;> simp
 | k + 1 => by
  rw [dF_succ hw k hi]
  split
  ·rename_i h
   have h1 : ¬ dF w k i = 0 := by
    unfold nowB negB at h
    rw [Bool.and_eq_true, decide_eq_true_eq] at h
    have := h.1
    unfold dF; omega
   rw [dF_goal hw hi k] at h1
   constructor
   ·intro q; omega
   ·intro q; exact absurd q h1
  ·exact dF_goal hw hi k
end Go.Proofs.YtjmmldkailblmaaGreat
namespace Go.Proofs.YtjmmldkailblmaaGreat
open Go.Ahl
def dgK (x : Int) : ByteArray := (bys [byteOf (48 + x)] ++ bys []) ++ bys [32]
def keyR (s : List Int) : ByteArray := s.foldl (fun b x => b ++ dgK x) (bys [])
def kl : List Int → List UInt8
 | [] => []
 | x :: s => byteOf (48 + x) :: 32 :: kl s
theorem keyR_list : ∀ (s : List Int) (b : ByteArray), (s.foldl (fun b x => b ++ dgK x) b).data.toList = b.data.toList ++ kl s
 | [], b => by simp [kl]
 | x :: s, b => by rw [List.foldl_cons, keyR_list s]; simp [kl, dgK, bys]
theorem kl_inj : ∀ {s s' : List Int}, (∀ x ∈ s, 0 ≤ x ∧ x < 10) → (∀ x ∈ s', 0 ≤ x ∧ x < 10) → kl s = kl s' → s = s'
 | [], [], _, _, _ => rfl
 | x :: s, [], _, _, h => by simp [kl] at h
 | [], y :: s', _, _, h => by simp [kl] at h
 | x :: s, y :: s', h1, h2, h => by
  rw [kl, kl] at h
  injection h with h3 h4
  injection h4 with _ h4
  have hx := h1 x List.mem_cons_self
  have hy := h2 y List.mem_cons_self
  have := byteOf_inj (a := 48 + x) (b := 48 + y) (by omega) (by omega) h3
  rw [kl_inj (fun z hz => h1 z (List.mem_cons_of_mem _ hz)) (fun z hz => h2 z (List.mem_cons_of_mem _ hz)) h4, show x = y by omega]
theorem keyR_inj {s s' : List Int} (h1 : ∀ x ∈ s, 0 ≤ x ∧ x < 10) (h2 : ∀ x ∈ s', 0 ≤ x ∧ x < 10) (h : keyR s = keyR s') : s = s' := by
 refine kl_inj h1 h2 ?_
 have := congrArg (fun b : ByteArray => b.data.toList) h
 unfold keyR at this
 simp only [keyR_list] at this
 simpa [bys] using this
theorem keyR_size : ∀ (s : List Int) (b : ByteArray), (s.foldl (fun b x => b ++ dgK x) b).size = b.size + 2 * s.length
 | [], b => by simp
 | x :: s, b => by
  rw [List.foldl_cons, keyR_size s, List.length_cons]
  have : (dgK x).size = 2 := rfl
  rw [ByteArray.size_append, this]; omega
def c_digits : CCode := .seq (.ops [oS 2 (.move (.lit (.str (bys []))))]) (.seq (.ops [oS 3 (.move (.lit (.str (bys []))))]) (.block 0 (.loop (.block 1 (.seq (.ops [oS 4 (.move (.tmp 0)), oS 5 (.bin .rem .none (.tmp 4) (.lit (.int .i64 10))), oS 6 (.bin .add .none (.lit (.int .i64 48)) (.tmp 5)), oS 7 (.conv .u8 (.tmp 6)), oS 8 (.bslice 1 [.tmp 7] false), oS 9 (.bstr (.tmp 8)), oS 10 (.move (.tmp 3)), oS 11 (.bin .add .none (.tmp 9) (.tmp 10)), oS 3 (.move (.tmp 11))]) (.seq (.ops [oS 12 (.move (.tmp 0)), oS 13 (.bin .quo .none (.tmp 12) (.lit (.int .i64 10))), oS 0 (.move (.tmp 13))]) (.seq (.ops [oS 14 (.move (.tmp 0)), oS 15 (.bin .eql .none (.tmp 14) (.lit (.int .i64 0)))]) (.cond (.tmp 15) (.seq (.ops [oS 16 (.move (.tmp 3)), oS 2 (.move (.tmp 16))]) .ret) .skip))))))))
set_option maxRecDepth 20000 in
theorem digits_spec (x : Int) (σ : Store) (h0 : 0 ≤ x) (h9 : x ≤ 9) : ACalls Tryz.prog 90 [.int .i64 x] σ (isR (.str (bys [byteOf (48 + x)] ++ bys [])) σ) := by
 refine ACalls.intro (rs := [(.tmp 2)]) (by kernel_rfl) { own := [], ghosts := [] } Tryz.func90 (c := Tryz.f90.body.getD .skip) (by kernel_rfl) (by decide) (by rw [show Tryz.f90.ntmps = 17 by kernel_rfl]; exact Nat.le_of_ble_eq_true rfl) (by kernel_rfl) ?_
 intro hσ hids
 rw [show comp Tryz.prog { own := [], ghosts := [] } (Tryz.f90.body.getD .skip) = c_digits by kernel_rfl, show Tryz.f90.ntmps = 17 by kernel_rfl]
 unfold c_digits
 simp only [go_sem, simprocAttr]
 refine wpc_while (fun (_ : Nat) => [(0, .int .i64 x), (3, .str (bys []))]) (fun _ => σ) (fun _ => True) (fun i => i) 0 trivial (by (try dsimp only); first | exact ghk | exact ghk0) ?_
 intro i _ K hK hE hR
 have hm : x.tmod 10 = x := Int.tmod_eq_of_lt h0 (by omega)
 have hq : x.tdiv 10 = 0 := Int.tdiv_eq_zero_of_lt h0 (by omega)
 have h48 : IntKind.i64.wrap (48 + x) = 48 + x := wrap_ok (by omega)
 have hz : IntKind.i64.wrap 0 = 0 := rfl
 have hu : ∀ tok K, aBstr (.slice tok [[AV.int .u8 (IntKind.u8.wrap (48 + x))]]) K = K (.str (bys [byteOf (48 + x)])) := fun tok K => by
  rw [← byteOf_nat]; exact e_bstr tok [byteOf (48 + x)] K
 simp only [go_sem, simprocAttr, hR, hm, hq, h48, hu, hz]
 have e2 : (bys [byteOf (48 + x)]).size = 1 := rfl
 have e0 : (bys []).size = 0 := rfl
 refine ⟨by rw [e2, e0]; decide, ?_⟩
 exact rt (.str (bys [byteOf (48 + x)] ++ bys [])) ⟨rfl, rfl⟩
def c_key02 : CCode := .seq (.ops [oS 2 (.move (.lit (.str (bys []))))]) (.seq (.ops [oS 3 (.move (.lit (.str (bys []))))]) (.seq (.seq (.ops [oS 6 (.move (.tmp 0)), oS 7 (.blen 1 (.tmp 6)), oS 8 (.move (.lit (.int .i64 0)))]) (.block 0 (.loop (.seq (.ops [oS 9 (.bin .lss .none (.tmp 8) (.tmp 7))]) (.seq (.cond (.tmp 9) .skip (.exit 0)) (.seq (.block 1 (.seq (.ops [oS 10 (.iaddr 1 (.tmp 6) (.tmp 8)), oS 11 (.load none (.tmp 10)), oS 5 (.move (.tmp 11))]) (.ops [oS 12 (.move (.tmp 3)), oS 13 (.move (.tmp 5)), oS 14 (.call (.lit (.func 90 [])) [.tmp 13]), oS 15 (.bin .add .none (.tmp 14) (.lit (.str (bys [32])))), oS 16 (.bin .add .none (.tmp 12) (.tmp 15)), oS 3 (.move (.tmp 16))]))) (.ops [oS 17 (.bin .add .none (.tmp 8) (.lit (.int .i64 1))), oS 8 (.move (.tmp 17))]))))))) (.seq (.ops [oS 18 (.move (.tmp 3)), oS 2 (.move (.tmp 18))]) .ret)))
set_option maxRecDepth 20000 in
theorem key02_spec (s : List Int) (tok : Tok) (σ : Store) (hs : s.length ≤ 1000000) (hd : ∀ x ∈ s, 0 ≤ x ∧ x < 10) : ACalls Tryz.prog 52 [.slice tok (s.map Ahl.encI)] σ (isR (.str (keyR s)) σ) := by
 refine ACalls.intro (rs := [(.tmp 2)]) (by kernel_rfl) { own := [], ghosts := [] } Tryz.func52 (c := Tryz.f52.body.getD .skip) (by kernel_rfl) (by decide) (by rw [show Tryz.f52.ntmps = 19 by kernel_rfl]; exact Nat.le_of_ble_eq_true rfl) (by kernel_rfl) ?_
 intro hσ hids
 rw [show comp Tryz.prog { own := [], ghosts := [] } (Tryz.f52.body.getD .skip) = c_key02 by kernel_rfl, show Tryz.f52.ntmps = 19 by kernel_rfl]
 unfold c_key02
 have hil : Ids σ.length (.slice tok (s.map Ahl.encI)) := hids _ (by simp)
 simp only [go_sem, simprocAttr]
 refine wpc_while (fun (i : Nat) => [(3, .str (keyR (s.take i))), (6, .slice tok (s.map Ahl.encI)), (7, .int .i64 s.length), (8, .int .i64 (i : Nat))]) (fun i => σ) (fun i => i ≤ s.length) (fun i => s.length - i) 0 (Nat.zero_le _) (by (try dsimp only); first | exact ghk | exact ghk0) ?_
 intro i hi K hK hE hR
 by_cases h : i < s.length
 ·obtain ⟨f, hx⟩ := get_ex h; have hlt : ((i : Int) < (s.length : Int)) := (by omega); have hw : IntKind.i64.wrap ((i : Int) + 1) = ((i + 1 : Nat) : Int) := (by rw [wrap_ok (by omega)]; omega)
  have hf := hd f (List.mem_of_getElem? hx)
  simp only [go_sem, simprocAttr, hlt, hx, Ahl.encI]
  refine (digits_spec f _ hf.1 (by omega)).is ?_
  simp only [go_sem, simprocAttr]
  have hsz : (keyR (s.take i)).size = 2 * i := by
   unfold keyR; rw [keyR_size, List.length_take_of_le hi]; show 0 + 2 * i = _; omega
  have e2 : (bys [byteOf (48 + f)]).size = 1 := rfl
  have e0 : (bys []).size = 0 := rfl
  have e1 : (bys [32]).size = 1 := rfl
  have hmx : IntKind.i64.max = 9223372036854775807 := rfl
  refine ⟨by rw [e2, e0, e1, hmx]; omega, by rw [hsz, e2, e0, e1, hmx]; omega, ?_⟩
  have hk : keyR (s.take i) ++ (bys [byteOf (48 + f)] ++ bys [] ++ bys [32]) = keyR (s.take (i + 1)) := by
   rw [take_succ' hx]; unfold keyR; rw [List.foldl_append]; rfl
  rw [hk]
  refine hK _ _ (i + 1) (by omega) (by first | omega | (simp only []; omega) | (simp; omega)) ?_; (try dsimp only); (try simp only [ hw]); first | exact ghk | exact ghk0
 ·have hlt : ¬ ((i : Int) < (s.length : Int)) := by omega
  rw [List.take_of_length_le (by omega)]
  simp only [go_sem, simprocAttr, hlt, hE]
  exact rt (.str (keyR s)) ⟨rfl, rfl⟩
end Go.Proofs.YtjmmldkailblmaaGreat
namespace Go.Proofs.YtjmmldkailblmaaGreat
open Go.Ahl
def encFromR : Nat → List (List Int) → List (AV × AV)
 | _, [] => []
 | k, s :: r => (.str (keyR s), .int .i64 (k : Nat)) :: encFromR (k + 1) r
def encWR (ss : List (List Int)) : List (AV × AV) := encFromR 0 ss
theorem encFromR_app : ∀ (k : Nat) (l m : List (List Int)), encFromR k (l ++ m) = encFromR k l ++ encFromR (k + l.length) m
 | k, [], m => by simp [encFromR]
 | k, s :: l, m => by rw [List.cons_append, encFromR, encFromR, encFromR_app (k + 1) l m, List.length_cons, List.cons_append, Nat.add_assoc, Nat.add_comm 1]
theorem encWR_snoc (ss : List (List Int)) (x : List Int) : encWR (ss ++ [x]) = encWR ss ++ [(.str (keyR x), .int .i64 (ss.length : Nat))] := by
 unfold encWR; rw [encFromR_app, Nat.zero_add]; rfl
def ApartR (ss : List (List Int)) (x : List Int) : Prop := ∀ y ∈ ss, keyR y = keyR x → y = x
theorem find_keyR (x : List Int) : ∀ (ss : List (List Int)) (k j : Nat), ApartR ss x →
  aFind (.str (keyR x)) (encFromR k ss) j = some (if x ∈ ss then some (j + ss.idxOf x, .int .i64 ((k + ss.idxOf x : Nat) : Int)) else none)
 | [], k, j, _ => by simp [encFromR, aFind]
 | s :: r, k, j, h => by
  rw [encFromR, aFind]
  by_cases e : s = x
  ·subst e
   have : keyEq (.str (keyR s)) (.str (keyR s)) = some true := by simp [keyEq]
   rw [this]
   simp
  ·have hk : ¬ keyR s = keyR x := fun q => e (h s List.mem_cons_self q)
   have : keyEq (.str (keyR x)) (.str (keyR s)) = some false := by
    simp only [keyEq, Option.some.injEq, beq_eq_false_iff_ne, ne_eq]
    exact fun q => hk q.symm
   rw [this]
   simp only
   rw [find_keyR x r (k + 1) (j + 1) (fun y hy => h y (List.mem_cons_of_mem _ hy))]
   have hxs : x ≠ s := fun q => e q.symm
   by_cases hm : x ∈ r
   ·rw [if_pos hm, if_pos (List.mem_cons_of_mem _ hm), List.idxOf_cons, show (s == x) = false by simpa using e]
    simp only [cond_false, Nat.add_comm, Nat.add_left_comm, Nat.add_assoc]
   ·rw [if_neg hm, if_neg (by simp [hxs, hm])]
theorem ids_encFromR (n : Nat) : ∀ (k : Nat) (ss : List (List Int)), ∀ (j : Nat) a b, (encFromR k ss)[j]? = some (a, b) → Ids n a ∧ Ids n b
 | _, [], j, a, b, h => by simp [encFromR] at h
 | k, s :: r, j, a, b, h => by
  rw [encFromR] at h
  cases j with
  | zero => simp at h; obtain ⟨rfl, rfl⟩ := h; exact ⟨.str _, .int _ _⟩
  | succ j => exact ids_encFromR n (k + 1) r j a b (by simpa using h)
theorem idsO_encWR (n : Nat) (ss : List (List Int)) : IdsO n (.map (encWR ss)) := ids_encFromR n 0 ss
theorem digits_of {n : Nat} (hn : n ≤ 10) {s : List Int} (h : risingB n (-1) s = true) : ∀ x ∈ s, 0 ≤ x ∧ x < 10 := fun x hx => by
 have := (rising_pw h).2 x hx; omega
theorem keyR_apart {n : Nat} (hn : n ≤ 10) {ss : List (List Int)} {x : List Int} (hs : ∀ y ∈ ss, risingB n (-1) y = true) (hx : risingB n (-1) x = true) : ApartR ss x := fun y hy h =>
 keyR_inj (digits_of hn (hs y hy)) (digits_of hn hx) h
def nxC : Option (List Nat) → AV
 | some l => .slice .unk (l.map encNt)
 | none => .slice .nil []
def encNx (o : Option (List Nat)) : List AV := [nxC o]
def encNl (r : List (Option (List Nat))) : List AV := [.slice .unk (r.map encNx)]
theorem ids_nxC {n : Nat} (o : Option (List Nat)) : Ids n (nxC o) := by
 cases o with
 | none => exact ids_nil _ (by simp)
 | some l => exact ids_map ids_encNt l
theorem ids_encNx {n : Nat} (o : Option (List Nat)) : IdsL n (encNx o) := idsL_cons (ids_nxC o) idsL_nil
theorem ids_encNl {n : Nat} (r : List (Option (List Nat))) : IdsL n (encNl r) := idsL_cons (ids_map ids_encNx r) idsL_nil
instance : IdE encNx := ⟨fun _ => ids_encNx⟩
instance : IdE encNl := ⟨fun _ => ids_encNl⟩
end Go.Proofs.YtjmmldkailblmaaGreat
namespace Go.Proofs.YtjmmldkailblmaaGreat
open Go.Ahl
structure ROk (r : RW) : Prop where
 w : WOk r.w
 wid : ∀ l ∈ r.nx, l.length ≤ 1000000
theorem ROk.nx {r : RW} (h : ROk r) : r.nx.length = r.ss.length := by
 have := h.w.ch
 simpa [RW.w] using this
theorem ROk.gl {r : RW} (h : ROk r) : r.gl.length = r.ss.length := h.w.gl
theorem ROk.len {r : RW} (h : ROk r) : r.ss.length ≤ 1000000 := h.w.len
theorem mem_chFrom {l : List Nat} : ∀ {row : List (Option (List Nat))} (k : Nat), some l ∈ row → ∃ j, (j, l) ∈ chFrom k row
 | some m :: row, k, h => by
  rcases List.mem_cons.1 h with e | h
  ·injection e with e; subst e; exact ⟨k, List.mem_cons_self⟩
  ·obtain ⟨j, hj⟩ := mem_chFrom (k + 1) h; exact ⟨j, List.mem_cons_of_mem _ hj⟩
 | none :: row, k, h => by
  rcases List.mem_cons.1 h with e | h
  ·exact absurd e (by simp)
  ·exact mem_chFrom (k + 1) h
theorem ROk.ent {r : RW} (h : ROk r) {row : List (Option (List Nat))} (hr : row ∈ r.nx) {l : List Nat} (hl : some l ∈ row) : l.length ≤ 1000000 ∧ l ≠ [] ∧ ∀ k ∈ l, k < r.ss.length := by
 obtain ⟨j, hj⟩ := mem_chFrom 0 hl
 exact h.w.some (chFrom 0 row) (List.mem_map_of_mem hr) (j, l) hj
def updF {α : Type} (g : Nat → α) (i : Nat) (c : α) (x : Nat) : α := if x = i then c else g x
theorem upd_set {α : Type} {N : Nat} (g : Nat → α) (i : Nat) (c : α) : (lst N g).set i c = lst N (updF g i c) := by
 refine List.ext_getElem? fun j => ?_
 rcases Nat.lt_or_ge j N with hj | hj
 ·rw [lst_get _ hj]
  by_cases e : j = i
  ·subst e; rw [List.getElem?_set_self (by rw [lst_len]; exact hj)]; simp [updF]
  ·rw [List.getElem?_set_ne (fun q => e q.symm), lst_get _ hj]; simp [updF, e]
 ·rw [List.getElem?_eq_none (by rw [List.length_set, lst_len]; exact hj), List.getElem?_eq_none (by rw [lst_len]; exact hj)]
end Go.Proofs.YtjmmldkailblmaaGreat
namespace Go.Proofs.YtjmmldkailblmaaGreat
open Go.Ahl
theorem updB_le2 {M : Nat → Bool} {j x : Nat} (h : M x = true) : updF M j true x = true := by unfold updF; split; rfl; exact h
theorem cnt_upd2 {N : Nat} {M : Nat → Bool} {j : Nat} (hj : j < N) (h : M j = false) : cnt N M < cnt N (updF M j true) :=
 cnt_strict (fun i _ hi => updB_le2 hi) ⟨j, hj, h, by simp [updF]⟩
def MonoR (N : Nat) (rule : (Nat → Bool) → Nat → Bool) : Prop := ∀ M S : Nat → Bool, (∀ i, i < N → M i = true → S i = true) → ∀ i, i < N → rule M i = true → rule S i = true
structure SoR (N : Nat) (init : Nat → Bool) (rule : (Nat → Bool) → Nat → Bool) (M : Nat → Bool) : Prop where
 base : ∀ i, i < N → init i = true → M i = true
 least : ∀ S : Nat → Bool, (∀ i, i < N → init i = true → S i = true) → (∀ i, i < N → rule S i = true → S i = true) → ∀ i, i < N → M i = true → S i = true
structure LfpR (N : Nat) (init : Nat → Bool) (rule : (Nat → Bool) → Nat → Bool) (M : Nat → Bool) : Prop extends SoR N init rule M where
 closed : ∀ i, i < N → rule M i = true → M i = true
structure PassR (N : Nat) (init : Nat → Bool) (rule : (Nat → Bool) → Nat → Bool) (M0 : Nat → Bool) (i : Nat) (M : Nat → Bool) (more : Bool) : Prop where
 so : SoR N init rule M
 le : ∀ x, M0 x = true → M x = true
 still : more = false → M = M0 ∧ ∀ i', i' < i → rule M0 i' = true → M0 i' = true
 grew : more = true → cnt N M0 < cnt N M
theorem PassR.zero {N : Nat} {init : Nat → Bool} {rule : (Nat → Bool) → Nat → Bool} {M0 : Nat → Bool} (h : SoR N init rule M0) : PassR N init rule M0 0 M0 false :=
 ⟨h, fun _ q => q, fun _ => ⟨rfl, fun i hi => absurd hi (by simp)⟩, fun q => absurd q (by simp)⟩
theorem PassR.add {N : Nat} {init : Nat → Bool} {rule : (Nat → Bool) → Nat → Bool} {M0 : Nat → Bool} {i : Nat} {M : Nat → Bool} {more : Bool} (hm : MonoR N rule) (h : PassR N init rule M0 i M more) (hi : i < N) (hn : M i = false) (hr : rule M i = true) :
  PassR N init rule M0 (i + 1) (updF M i true) true where
 so := ⟨fun x hx q => updB_le2 (h.so.base x hx q), fun S h0 hS x hx hx2 => by
  unfold updF at hx2
  split at hx2
  ·rename_i e; rw [e]
   exact hS i hi (hm M S (h.so.least S h0 hS) i hi hr)
  ·exact h.so.least S h0 hS x hx hx2⟩
 le x hx := updB_le2 (h.le x hx)
 still q := absurd q (by simp)
 grew _ := by
  have h1 : cnt N M0 ≤ cnt N M := cnt_mono fun i _ hi => h.le i hi
  have h2 := cnt_upd2 hi hn
  omega
theorem PassR.skip {N : Nat} {init : Nat → Bool} {rule : (Nat → Bool) → Nat → Bool} {M0 : Nat → Bool} {i : Nat} {M : Nat → Bool} {more : Bool} (h : PassR N init rule M0 i M more) (hr : M i = true ∨ rule M i = false) : PassR N init rule M0 (i + 1) M more :=
 ⟨h.so, h.le, fun q => by
  obtain ⟨e, hp⟩ := h.still q
  refine ⟨e, fun x hx hq => ?_⟩
  rcases Nat.lt_or_ge x i with q2 | q2
  ·exact hp x q2 hq
  ·have : x = i := by omega
   subst this
   rw [← e] at hq ⊢
   rcases hr with hr | hr
   ·exact hr
   ·rw [hr] at hq; simp at hq, h.grew⟩
theorem PassR.close {N : Nat} {init : Nat → Bool} {rule : (Nat → Bool) → Nat → Bool} {M0 : Nat → Bool} {M : Nat → Bool} {more : Bool} (h : PassR N init rule M0 N M more) (q : more = false) : ∀ i, i < N → rule M i = true → M i = true := by
 obtain ⟨e, hp⟩ := h.still q
 subst e; exact hp
theorem PassR.less {N : Nat} {init : Nat → Bool} {rule : (Nat → Bool) → Nat → Bool} {M0 : Nat → Bool} {i : Nat} {M : Nat → Bool} {more : Bool} (h : PassR N init rule M0 i M more) : 2 * (N - cnt N M) + (if more then 1 else 0) < 2 * (N - cnt N M0) + (if true then 1 else 0) := by
 have h1 := cnt_le N M
 have h2 := cnt_le N M0
 cases more
 ·have := (h.still rfl).1; subst this; simp
 ·have := h.grew rfl; simp; omega
theorem LfpR.unique {N : Nat} {init : Nat → Bool} {rule : (Nat → Bool) → Nat → Bool} {M S : Nat → Bool} (h : LfpR N init rule M) (k : LfpR N init rule S) : ∀ i, i < N → M i = S i := fun i hi => by
 have h1 := h.least S k.base k.closed i hi
 have h2 := k.least M h.base h.closed i hi
 cases hM : M i <;> cases hS : S i
 ·rfl
 ·rw [h2 hS] at hM; simp at hM
 ·rw [h1 hM] at hS; simp at hS
 ·rfl
def leadP (fin M : Nat → Bool) (l : List Nat) : Bool := l.all fin && l.any M
def leadsB (r : RW) (fin M : Nat → Bool) (i : Nat) : Bool := (r.nx.getD i []).any (pO (leadP fin M))
def ruleC (r : RW) (fin M : Nat → Bool) (i : Nat) : Bool := fin i && (goalB r.w i || leadsB r fin M i)
theorem leadP_mono {fin M S : Nat → Bool} {l : List Nat} {N : Nat} (hl : ∀ x ∈ l, x < N) (h : ∀ i, i < N → M i = true → S i = true) (q : leadP fin M l = true) : leadP fin S l = true := by
 unfold leadP at q ⊢
 rw [Bool.and_eq_true, List.any_eq_true] at q ⊢
 obtain ⟨q1, x, hx, q2⟩ := q
 exact ⟨q1, x, hx, h x (hl x hx) q2⟩
theorem row_lt {r : RW} (hr : ROk r) {i : Nat} {l : List Nat} (h : some l ∈ r.nx.getD i []) : ∀ x ∈ l, x < r.ss.length := by
 rw [List.getD_eq_getElem?_getD] at h
 cases hq : r.nx[i]? with
 | none => rw [hq] at h; simp at h
 | some row => rw [hq] at h; exact (hr.ent (List.mem_of_getElem? hq) h).2.2
theorem leadsB_mono {r : RW} (hr : ROk r) {fin M S : Nat → Bool} (h : ∀ i, i < r.ss.length → M i = true → S i = true) (i : Nat) (q : leadsB r fin M i = true) : leadsB r fin S i = true := by
 unfold leadsB at q ⊢
 rw [List.any_eq_true] at q ⊢
 obtain ⟨o, ho, q⟩ := q
 refine ⟨o, ho, ?_⟩
 cases o with
 | none => exact q
 | some l => exact leadP_mono (row_lt hr ho) h q
theorem leads_nC (r : RW) (fin M : Nat → Bool) (i : Nat) : leadsB r fin M i = decide (0 ≤ nC r.w fin M i) := by
 unfold leadsB nC
 have h1 := idxFrom_ge (nB fin M) (r.w.ch.getD i []) 0 (Int.le_refl _)
 have h2 : decide (idxFrom (nB fin M) 0 (r.w.ch.getD i []) ≥ 0) = decide (0 ≤ idxFrom (nB fin M) 0 (r.w.ch.getD i [])) := rfl
 rw [← h2, h1, rw_ch, ← any_ch (leadP fin M) 0]
 refine any_congr16 fun c _ => ?_
 unfold leadP nB
 congr 1
 induction c.2 with
 | nil => rfl
 | cons x l ih => rw [List.all_cons, List.any_cons, ih]; cases fin x <;> simp
theorem nIter_sub {w : Wld} {left : Nat → Bool} : ∀ (k i : Nat), (nIter w left k).2 i = true → left i = true
 | 0, i, h => by
  have h : (left i && goalB w i) = true := h
  rw [Bool.and_eq_true] at h; exact h.1
 | k + 1, i, h => by
  have h : ((nIter w left k).2 i || (left i && decide (0 ≤ nC w left (nIter w left k).2 i))) = true := h
  rw [Bool.or_eq_true, Bool.and_eq_true] at h
  rcases h with h | h
  ·exact nIter_sub k i h
  ·exact h.1
theorem nIter_goal {w : Wld} {left : Nat → Bool} {i : Nat} (h : left i = true) (hg : goalB w i = true) : ∀ k, (nIter w left k).2 i = true ∧ (nIter w left k).1 i = -1
 | 0 => ⟨by show (left i && goalB w i) = true; rw [h, hg]; rfl, rfl⟩
 | k + 1 => by
  obtain ⟨h1, h2⟩ := nIter_goal h hg k
  refine ⟨?_, ?_⟩
  ·show ((nIter w left k).2 i || _) = true
   rw [h1]; rfl
  ·show (if left i && !(nIter w left k).2 i then nC w left (nIter w left k).2 i else (nIter w left k).1 i) = -1
   rw [h1, h]; simpa using h2
theorem nIter_in {w : Wld} {left : Nat → Bool} {i : Nat} (hg : (left i && goalB w i) = false) : ∀ k, (nIter w left k).2 i = true → 0 ≤ (nIter w left k).1 i
 | 0, h => by
  have h : (left i && goalB w i) = true := h
  rw [hg] at h; simp at h
 | k + 1, h => by
  have h' : ((nIter w left k).2 i || (left i && decide (0 ≤ nC w left (nIter w left k).2 i))) = true := h
  show 0 ≤ (if left i && !(nIter w left k).2 i then nC w left (nIter w left k).2 i else (nIter w left k).1 i)
  cases hc : (nIter w left k).2 i
  ·rw [hc, Bool.false_or, Bool.and_eq_true, decide_eq_true_eq] at h'
   rw [h'.1]; simpa using h'.2
  ·simp only [Bool.not_true, Bool.and_false, Bool.false_eq_true, if_false]
   exact nIter_in hg k hc
theorem cStep_eq (w : Wld) (left : Nat → Bool) (i : Nat) : cStep w left i = (nIter w left (w.ss.length + 1)).2 i := by
 unfold cStep nearF
 cases hl : left i
 ·cases hq : (nIter w left (w.ss.length + 1)).2 i
  ·rfl
  ·rw [nIter_sub _ _ hq] at hl; simp at hl
 cases hg : goalB w i
 ·simp only [Bool.true_and, Bool.false_or]
  cases hq : (nIter w left (w.ss.length + 1)).2 i
  ·rw [nIter_out _ _ hq]; rfl
  ·exact decide_eq_true (nIter_in (by rw [hg]; simp) _ hq)
 ·rw [(nIter_goal hl hg _).1]; rfl
theorem nIter_cnt {w : Wld} {left : Nat → Bool} : ∀ k, (∀ j, j < k → ∃ i, i < w.ss.length ∧ newB w left (nIter w left j) i = true) → k ≤ cnt w.ss.length (nIter w left k).2
 | 0, _ => Nat.zero_le _
 | k + 1, h => by
  have h1 := nIter_cnt k fun j hj => h j (by omega)
  have h2 := nIter_grow (h k (by omega))
  omega
theorem newB_same {w : Wld} (hw : WOk w) {left : Nat → Bool} {s s' : NS} (h : NSame w.ss.length s s') {i : Nat} (hi : i < w.ss.length) : newB w left s i = newB w left s' i := by
 unfold newB
 rw [(h i hi).2, nC_same hw (fun j hj => (h j hj).2) hi]
theorem nIter_end {w : Wld} (hw : WOk w) (left : Nat → Bool) : ∀ i, i < w.ss.length → newB w left (nIter w left (w.ss.length + 1)) i = false := by
 have h : ∃ k, k < w.ss.length + 1 ∧ ∀ i, i < w.ss.length → newB w left (nIter w left k) i = false := by
  refine Classical.byContradiction fun q => ?_
  have h1 := nIter_cnt (w := w) (left := left) (w.ss.length + 1) fun j hj => by
   refine Classical.byContradiction fun q2 => q ⟨j, hj, fun i hi => ?_⟩
   cases hb : newB w left (nIter w left j) i
   ·rfl
   ·exact absurd ⟨i, hi, hb⟩ q2
  have h2 := cnt_le w.ss.length (nIter w left (w.ss.length + 1)).2
  omega
 obtain ⟨k, hk, hs⟩ := h
 have h1 := nIter_stop hw (nIter_still hs) (w.ss.length + 1 - k)
 rw [show k + (w.ss.length + 1 - k) = w.ss.length + 1 by omega] at h1
 intro i hi
 rw [newB_same hw h1 hi]; exact hs i hi
theorem cStep_lfp {r : RW} (hr : ROk r) (left : Nat → Bool) : LfpR r.ss.length (fun _ => false) (ruleC r left) (cStep r.w left) := by
 have e : cStep r.w left = (nIter r.w left (r.ss.length + 1)).2 := funext fun i => cStep_eq r.w left i
 rw [e]
 refine ⟨⟨fun _ _ q => absurd q (by simp), fun S _ hS i hi h => ?_⟩, fun i hi h => ?_⟩
 ·have key : ∀ k i, i < r.ss.length → (nIter r.w left k).2 i = true → S i = true := by
   intro k
   induction k with
   | zero =>
    intro i hi h
    have h : (left i && goalB r.w i) = true := h
    rw [Bool.and_eq_true] at h
    exact hS i hi (by unfold ruleC; rw [h.1, h.2]; rfl)
   | succ k ih =>
    intro i hi h
    have h : ((nIter r.w left k).2 i || (left i && decide (0 ≤ nC r.w left (nIter r.w left k).2 i))) = true := h
    rw [Bool.or_eq_true, Bool.and_eq_true] at h
    rcases h with h | h
    ·exact ih i hi h
    ·refine hS i hi ?_
     unfold ruleC
     rw [h.1, leadsB_mono hr ih i (by rw [leads_nC]; exact h.2)]; simp
  exact key _ i hi h
 ·unfold ruleC at h
  rw [Bool.and_eq_true, Bool.or_eq_true] at h
  rcases h with ⟨hl, hg | hg⟩
  ·exact (nIter_goal hl hg _).1
  ·have hn := nIter_end hr.w left i hi
   unfold newB at hn
   have hg' : leadsB r left (nIter r.w left (r.w.ss.length + 1)).2 i = true := hg
   rw [hl, ← leads_nC, hg'] at hn
   show (nIter r.w left (r.w.ss.length + 1)).2 i = true
   simpa using hn
end Go.Proofs.YtjmmldkailblmaaGreat
namespace Go.Proofs.YtjmmldkailblmaaGreat
open Go.Ahl
def d_polR_0 : List COp := [oS 18 (.load (some 4) (.tmp 4)), oS 19 (.move (.tmp 10)), oA 20 (.call (.lit (.func 49 [])) [.tmp 18, .tmp 19]) [0, 1], oA 21 (.un .not (.tmp 20)) [2], oA 22 (.move (.tmp 21)) [3, 2], ⟨some 23, .move (.tmp 3), some (some 22, false), [4]⟩, ⟨some 24, .move (.tmp 9), some (some 22, false), [4]⟩, ⟨some 25, .iaddr 1 (.tmp 23) (.tmp 24), some (some 22, false), [5, 6, 4]⟩, ⟨some 26, .load none (.tmp 25), some (some 22, false), [7, 4]⟩, ⟨some 27, .bin .lss .none (.tmp 26) (.lit (.int .i64 0)), some (some 22, false), [8, 4]⟩, oA 28 (.pick (.tmp 22) (.lit (.bool true)) (.tmp 27)) [4, 9], oA 29 (.move (.tmp 28)) [10, 4], ⟨some 30, .move (.tmp 3), some (some 29, false), [11]⟩, ⟨some 31, .move (.tmp 9), some (some 29, false), [11]⟩, ⟨some 32, .iaddr 1 (.tmp 30) (.tmp 31), some (some 29, false), [12, 13, 11]⟩, ⟨some 33, .load none (.tmp 32), some (some 29, false), [14, 11]⟩, ⟨some 34, .move (.tmp 1), some (some 29, false), [11]⟩, ⟨some 35, .blen 1 (.tmp 34), some (some 29, false), [16, 11]⟩, ⟨some 36, .bin .geq .none (.tmp 33) (.tmp 35), some (some 29, false), [15, 17, 11]⟩, oA 37 (.pick (.tmp 29) (.lit (.bool true)) (.tmp 36)) [11, 18], oA 38 (.move (.tmp 37)) [19, 11], ⟨some 39, .load (some 4) (.tmp 4), some (some 38, false), [20]⟩, ⟨some 40, .move (.tmp 1), some (some 38, false), [20]⟩, ⟨some 41, .move (.tmp 3), some (some 38, false), [20]⟩, ⟨some 42, .move (.tmp 9), some (some 38, false), [20]⟩, ⟨some 43, .iaddr 1 (.tmp 41) (.tmp 42), some (some 38, false), [23, 24, 20]⟩, ⟨some 44, .load none (.tmp 43), some (some 38, false), [25, 20]⟩, ⟨some 45, .iaddr 1 (.tmp 40) (.tmp 44), some (some 38, false), [22, 26, 20]⟩, ⟨some 46, .load none (.tmp 45), some (some 38, false), [27, 20]⟩, ⟨some 47, .move (.tmp 10), some (some 38, false), [20]⟩, ⟨some 48, .call (.lit (.func 28 [])) [.tmp 39, .tmp 46, .tmp 47], some (some 38, false), [21, 28, 29, 20, 20]⟩, ⟨some 49, .un .not (.tmp 48), some (some 38, false), [30, 20]⟩, oA 50 (.pick (.tmp 38) (.lit (.bool true)) (.tmp 49)) [20, 31], oA 51 (.move (.tmp 50)) [32, 30], ⟨some 52, .move (.tmp 10), some (some 51, false), [33]⟩, ⟨some 53, .faddr 2 (.tmp 4), some (some 51, false), [33]⟩, ⟨some 54, .load none (.tmp 53), some (some 51, false), [35, 33]⟩, ⟨some 55, .call (.lit (.func 51 [])) [.tmp 52, .tmp 54], some (some 51, false), [34, 36, 33, 33]⟩, oA 56 (.pick (.tmp 51) (.lit (.bool true)) (.tmp 55)) [33, 37], oA 57 (.move (.tmp 56)) [38, 37], ⟨some 58, .move (.tmp 9), some (some 57, false), [39]⟩, ⟨some 59, .bin .gtr .none (.tmp 58) (.lit (.int .i64 0)), some (some 57, false), [40, 39]⟩, ⟨some 60, .move (.tmp 59), some (some 57, false), [41, 39, 39]⟩, ⟨some 61, .move (.tmp 2), some (some 60, true), [42]⟩, ⟨some 62, .move (.tmp 9), some (some 60, true), [42]⟩, ⟨some 63, .bin .sub .none (.tmp 62) (.lit (.int .i64 1)), some (some 60, true), [44, 42]⟩, ⟨some 64, .iaddr 1 (.tmp 61) (.tmp 63), some (some 60, true), [43, 45, 42]⟩, ⟨some 65, .load none (.tmp 64), some (some 60, true), [46, 42]⟩, ⟨some 66, .move (.tmp 10), some (some 60, true), [42]⟩, ⟨some 67, .call (.lit (.func 33 [])) [.tmp 65, .tmp 66], some (some 60, true), [47, 48, 42, 42]⟩, ⟨some 68, .un .not (.tmp 67), some (some 60, true), [49, 42]⟩, ⟨some 69, .pick (.tmp 60) (.tmp 68) (.lit (.bool false)), some (some 57, false), [42, 50, 39]⟩, oA 70 (.pick (.tmp 57) (.lit (.bool true)) (.tmp 69)) [39, 51]]
theorem dr_polR_0 (P : Program) (nt n0 : Nat) (Q : Post) (s : Slots) (σ : Store) : wpc P nt n0 (.draw d_polR_0) Q s σ = aOpsD P nt [oS 18 (.load (some 4) (.tmp 4)), oS 19 (.move (.tmp 10)), oA 20 (.call (.lit (.func 49 [])) [.tmp 18, .tmp 19]) [0, 1], oA 21 (.un .not (.tmp 20)) [2], oA 22 (.move (.tmp 21)) [3, 2], ⟨some 23, .move (.tmp 3), some (some 22, false), [4]⟩, ⟨some 24, .move (.tmp 9), some (some 22, false), [4]⟩, ⟨some 25, .iaddr 1 (.tmp 23) (.tmp 24), some (some 22, false), [5, 6, 4]⟩, ⟨some 26, .load none (.tmp 25), some (some 22, false), [7, 4]⟩, ⟨some 27, .bin .lss .none (.tmp 26) (.lit (.int .i64 0)), some (some 22, false), [8, 4]⟩, oA 28 (.pick (.tmp 22) (.lit (.bool true)) (.tmp 27)) [4, 9], oA 29 (.move (.tmp 28)) [10, 4], ⟨some 30, .move (.tmp 3), some (some 29, false), [11]⟩, ⟨some 31, .move (.tmp 9), some (some 29, false), [11]⟩, ⟨some 32, .iaddr 1 (.tmp 30) (.tmp 31), some (some 29, false), [12, 13, 11]⟩, ⟨some 33, .load none (.tmp 32), some (some 29, false), [14, 11]⟩, ⟨some 34, .move (.tmp 1), some (some 29, false), [11]⟩, ⟨some 35, .blen 1 (.tmp 34), some (some 29, false), [16, 11]⟩, ⟨some 36, .bin .geq .none (.tmp 33) (.tmp 35), some (some 29, false), [15, 17, 11]⟩, oA 37 (.pick (.tmp 29) (.lit (.bool true)) (.tmp 36)) [11, 18], oA 38 (.move (.tmp 37)) [19, 11], ⟨some 39, .load (some 4) (.tmp 4), some (some 38, false), [20]⟩, ⟨some 40, .move (.tmp 1), some (some 38, false), [20]⟩, ⟨some 41, .move (.tmp 3), some (some 38, false), [20]⟩, ⟨some 42, .move (.tmp 9), some (some 38, false), [20]⟩, ⟨some 43, .iaddr 1 (.tmp 41) (.tmp 42), some (some 38, false), [23, 24, 20]⟩, ⟨some 44, .load none (.tmp 43), some (some 38, false), [25, 20]⟩, ⟨some 45, .iaddr 1 (.tmp 40) (.tmp 44), some (some 38, false), [22, 26, 20]⟩, ⟨some 46, .load none (.tmp 45), some (some 38, false), [27, 20]⟩, ⟨some 47, .move (.tmp 10), some (some 38, false), [20]⟩, ⟨some 48, .call (.lit (.func 28 [])) [.tmp 39, .tmp 46, .tmp 47], some (some 38, false), [21, 28, 29, 20, 20]⟩, ⟨some 49, .un .not (.tmp 48), some (some 38, false), [30, 20]⟩, oA 50 (.pick (.tmp 38) (.lit (.bool true)) (.tmp 49)) [20, 31], oA 51 (.move (.tmp 50)) [32, 30], ⟨some 52, .move (.tmp 10), some (some 51, false), [33]⟩, ⟨some 53, .faddr 2 (.tmp 4), some (some 51, false), [33]⟩, ⟨some 54, .load none (.tmp 53), some (some 51, false), [35, 33]⟩, ⟨some 55, .call (.lit (.func 51 [])) [.tmp 52, .tmp 54], some (some 51, false), [34, 36, 33, 33]⟩, oA 56 (.pick (.tmp 51) (.lit (.bool true)) (.tmp 55)) [33, 37], oA 57 (.move (.tmp 56)) [38, 37], ⟨some 58, .move (.tmp 9), some (some 57, false), [39]⟩, ⟨some 59, .bin .gtr .none (.tmp 58) (.lit (.int .i64 0)), some (some 57, false), [40, 39]⟩, ⟨some 60, .move (.tmp 59), some (some 57, false), [41, 39, 39]⟩, ⟨some 61, .move (.tmp 2), some (some 60, true), [42]⟩, ⟨some 62, .move (.tmp 9), some (some 60, true), [42]⟩, ⟨some 63, .bin .sub .none (.tmp 62) (.lit (.int .i64 1)), some (some 60, true), [44, 42]⟩, ⟨some 64, .iaddr 1 (.tmp 61) (.tmp 63), some (some 60, true), [43, 45, 42]⟩, ⟨some 65, .load none (.tmp 64), some (some 60, true), [46, 42]⟩, ⟨some 66, .move (.tmp 10), some (some 60, true), [42]⟩, ⟨some 67, .call (.lit (.func 33 [])) [.tmp 65, .tmp 66], some (some 60, true), [47, 48, 42, 42]⟩, ⟨some 68, .un .not (.tmp 67), some (some 60, true), [49, 42]⟩, ⟨some 69, .pick (.tmp 60) (.tmp 68) (.lit (.bool false)), some (some 57, false), [42, 50, 39]⟩, oA 70 (.pick (.tmp 57) (.lit (.bool true)) (.tmp 69)) [39, 51]] (Q .normal) s σ := wpc_draw _ (by decide)
attribute [local go_sem] dr_polR_0
def c_polR : CCode := .seq (.ops [oS 4 (.box (.tmp 0)), oS 8 (.move (.lit (.bool false)))]) (.seq (.seq (.ops [oS 11 (.move (.tmp 2)), oS 12 (.blen 1 (.tmp 11)), oS 13 (.move (.lit (.int .i64 0)))]) (.block 0 (.loop (.seq (.ops [oS 14 (.bin .lss .none (.tmp 13) (.tmp 12))]) (.seq (.cond (.tmp 14) .skip (.exit 0)) (.seq (.block 1 (.seq (.ops [oS 15 (.move (.tmp 13)), oS 16 (.iaddr 1 (.tmp 11) (.tmp 13)), oS 17 (.load none (.tmp 16)), oS 9 (.move (.tmp 15)), oS 10 (.move (.tmp 17))]) (.seq (.draw d_polR_0) (.cond (.tmp 70) (.seq (.ops [oS 8 (.move (.lit (.bool false)))]) .ret) .skip)))) (.ops [oS 71 (.bin .add .none (.tmp 13) (.lit (.int .i64 1))), oS 13 (.move (.tmp 71))]))))))) (.seq (.ops [oS 8 (.move (.lit (.bool true)))]) .ret))
set_option maxRecDepth 20000 in
set_option maxHeartbeats 4000000 in
theorem polR_spec (t : FTask) (g : List (List Int)) (p : List FEnt) (tok tok' tok'' : Tok) (σ : Store) (ht : TB t) (hg : LB g) (hch : choicesB t g = true) (hp : p.length ≤ 1000000) (hps : ∀ x ∈ p, x.1.length ≤ 1000000) :
  ACalls Tryz.prog 15 [.agg (encTask t), .slice tok (g.map encL), .slice tok' ((p.map (·.1)).map encL), .slice tok'' ((p.map (·.2)).map Ahl.encI)] σ (isR (.bool (polB t g p)) σ) := by
 refine ACalls.intro (rs := [(.tmp 8)]) (by kernel_rfl) { own := [], ghosts := [] } Tryz.func15 (c := Tryz.f15.body.getD .skip) (by kernel_rfl) (by decide) (by rw [show Tryz.f15.ntmps = 72 by kernel_rfl]; exact Nat.le_of_ble_eq_true rfl) (by kernel_rfl) ?_
 intro hσ hids
 rw [show comp Tryz.prog { own := [], ghosts := [] } (Tryz.f15.body.getD .skip) = c_polR by kernel_rfl, show Tryz.f15.ntmps = 72 by kernel_rfl]
 unfold c_polR
 have hil : Ids σ.length (.slice tok (g.map encL)) := hids _ (by simp)
 have hil1 : Ids σ.length (.slice tok' ((p.map (·.1)).map encL)) := hids _ (by simp)
 have hil2 : Ids σ.length (.slice tok'' ((p.map (·.2)).map Ahl.encI)) := hids _ (by simp)
 have hrowT : IdsS (σ ++ [AObj.row (encTask t)]).length (σ ++ [AObj.row (encTask t)]) := idsS_push hσ (idsO_row (ids_encTask t))
 have hSl : (p.map (·.1)).length = p.length := by simp
 have hGl : (p.map (·.2)).length = p.length := by simp
 have hSg : ∀ (i : Nat) (x : FEnt), p[i]? = some x → (p.map (·.1))[i]? = some x.1 := fun i x h => by rw [List.getElem?_map, h]; rfl
 have hGg : ∀ (i : Nat) (x : FEnt), p[i]? = some x → (p.map (·.2))[i]? = some x.2 := fun i x h => by rw [List.getElem?_map, h]; rfl
 generalize p.map (·.1) = S at hil1 hSl hSg ⊢
 generalize p.map (·.2) = G at hil2 hGl hGg ⊢
 simp only [encTask] at hrowT
 simp only [go_sem, simprocAttr, encTask]
 refine wpc_while (fun (i : Nat) => [(1, .slice tok (g.map encL)), (2, .slice tok' (S.map encL)), (3, .slice tok'' (G.map Ahl.encI)), (4, .ptr σ.length 0), (11, .slice tok' (S.map encL)), (12, .int .i64 S.length), (13, .int .i64 (i : Nat))])
  (fun _ => σ ++ [.row (encTask t)]) (fun i => i ≤ p.length ∧ ∀ j, j < i → ∀ x, p[j]? = some x → entB t g p j x = true) (fun i => p.length - i) 0 ⟨Nat.zero_le _, fun j hj => absurd hj (by simp)⟩ (by simp only [encTask]; exact ghL0 hrowT) ?_
 rintro i ⟨hi, hok⟩ K hK hE hR
 by_cases h : i < p.length
 ·obtain ⟨x, hx⟩ := get_ex h
  have hxm := List.mem_of_getElem? hx
  have hxl := hps x hxm
  have hxS := hSg i x hx
  have hxG := hGg i x hx
  have hlt : ((i : Int) < (S.length : Int)) := by omega
  have hltG : ((i : Int) < (G.length : Int)) := by omega
  have hw1 : IntKind.i64.wrap ((i : Int) + 1) = ((i + 1 : Nat) : Int) := by rw [wrap_ok (by omega)]; omega
  have hbad : entB t g p i x = false → polB t g p = false := fun q => by
   rw [Bool.eq_false_iff]; intro r
   rw [entB_get r hx] at q; simp at q
  simp only [go_sem, simprocAttr, hlt, hxS, encL, encTask]
  refine ⟨_, state02_spec t x.1 .unk _ (by omega), ?_⟩
  cases hr : risingB t.facts.length (-1) x.1
  ·simp only [go_sem, simprocAttr, hR]
   exact rt (.bool false) ⟨by rw [hbad (by unfold entB; rw [hr]; rfl)], rfl⟩
  by_cases hg0 : x.2 < 0
  ·simp only [go_sem, simprocAttr, hltG, hxG, Ahl.encI, hg0, hR]
   exact rt (.bool false) ⟨by rw [hbad (by unfold entB; rw [decide_eq_false (by omega : ¬ 0 ≤ x.2)]; simp)], rfl⟩
  by_cases hg1 : x.2 ≥ (g.length : Int)
  ·simp only [go_sem, simprocAttr, hltG, hxG, Ahl.encI, hg0, hg1, hR]
   exact rt (.bool false) ⟨by rw [hbad (by unfold entB; rw [decide_eq_false (by omega : ¬ x.2 < (g.length : Int))]; simp)], rfl⟩
  have hx0 : 0 ≤ x.2 := by omega
  obtain ⟨l, hgx⟩ := get_ex (show x.2.toNat < g.length by omega)
  have hgrp : grp g x.2.toNat = l := by unfold grp; rw [List.getD_eq_getElem?_getD, hgx]; rfl
  obtain ⟨c0, c1, c2, c3⟩ := grp_ok hch (show x.2.toNat < g.length by omega)
  rw [hgrp] at c0 c1 c2 c3
  have hll := hg.2 l c0
  simp only [go_sem, simprocAttr, hltG, hxG, Ahl.encI, hg0, hg1, hx0, hgx, encL, encTask]
  refine ⟨_, app16_spec t l x.1 .unk .unk _ ht c1 c2 (by omega), ?_⟩
  cases hap : appB t l x.1
  ·simp only [go_sem, simprocAttr, hR]
   exact rt (.bool false) ⟨by rw [hbad (by unfold entB; rw [hgrp, hap]; simp)], rfl⟩
  simp only [go_sem, simprocAttr, encTask]
  refine ⟨_, holds02_spec x.1 t.goal .unk .unk _ (by omega) (by have := ht.goal; omega), ?_⟩
  cases hgo : condHolds x.1 t.goal
  case true =>
   simp only [go_sem, simprocAttr, hR]
   exact rt (.bool false) ⟨by rw [hbad (by unfold entB; rw [hgo]; simp)], rfl⟩
  have hent : (i = 0 ∨ cmpInts (p.getD (i - 1) ([], 0)).1 x.1 < 0) → entB t g p i x = true := fun q => by
   unfold entB
   rw [hr, decide_eq_true hx0, decide_eq_true (by omega : x.2 < (g.length : Int)), hgrp, hap, hgo]
   simpa using q
  have hok' : entB t g p i x = true → ∀ j, j < i + 1 → ∀ x, p[j]? = some x → entB t g p j x = true := fun hent j hj z hz => by
   rcases Nat.lt_or_ge j i with q | q
   ·exact hok j q z hz
   ·have : j = i := by omega
    subst this; rw [hx] at hz; injection hz with hz; subst hz; exact hent
  by_cases hi0 : i = 0
  ·have hlt0 : ¬ ((i : Int) > 0) := by omega
   simp only [go_sem, simprocAttr, hlt0]
   refine hK _ _ (i + 1) ⟨by omega, hok' (hent (.inl hi0))⟩ (by omega) ?_
   rw [hw1]
   simp only [encTask]
   exact ghL0 hrowT
  ·have hlt0 : ((i : Int) > 0) := by omega
   obtain ⟨y, hy⟩ := get_ex (show i - 1 < p.length by omega)
   have hyl := hps y (List.mem_of_getElem? hy)
   have hyS := hSg (i - 1) y hy
   have hw2 : IntKind.i64.wrap ((i : Int) - 1) = ((i - 1 : Nat) : Int) := by rw [wrap_ok (by omega)]; omega
   have hgd : p.getD (i - 1) ([], 0) = y := by rw [List.getD_eq_getElem?_getD, hy]; rfl
   have hlt1 : (((i - 1 : Nat) : Int) < (S.length : Int)) := by omega
   simp only [go_sem, simprocAttr, hlt0, hw2, hyS, hlt1, encL]
   refine ⟨_, before13_spec y.1 x.1 .unk .unk _ (by omega) (by omega), ?_⟩
   by_cases hcq : cmpInts y.1 x.1 < 0
   ·rw [decide_eq_true hcq]
    simp only [go_sem, simprocAttr]
    refine hK _ _ (i + 1) ⟨by omega, hok' (hent (.inr (by rw [hgd]; exact hcq)))⟩ (by omega) ?_
    rw [hw1]
    simp only [encTask]
    exact ghL0 hrowT
   ·rw [decide_eq_false hcq]
    simp only [go_sem, simprocAttr, hR]
    exact rt (.bool false) ⟨by rw [hbad (by unfold entB; rw [hgd, decide_eq_false hi0, decide_eq_false hcq]; simp)], rfl⟩
 ·have hlt : ¬ ((i : Int) < (S.length : Int)) := by omega
  have hpol : polB t g p = true := by
   unfold polB
   refine List.all_eq_true.2 fun j hj => ?_
   obtain ⟨x, hx⟩ := get_ex (List.mem_range.1 hj)
   rw [List.getD_eq_getElem?_getD, hx]
   exact hok j (by have := List.mem_range.1 hj; omega) x hx
  simp only [go_sem, simprocAttr, hlt, hE]
  exact rt (.bool true) ⟨by rw [hpol], rfl⟩
end Go.Proofs.YtjmmldkailblmaaGreat
namespace Go.Proofs.YtjmmldkailblmaaGreat
open Go.Ahl
def encNe (l : List Nat) : List AV := [.slice .unk (l.map encNt)]
theorem ids_encNe {n : Nat} (l : List Nat) : IdsL n (encNe l) := idsL_cons (ids_map ids_encNt l) idsL_nil
instance : IdE encNe := ⟨fun _ => ids_encNe⟩
def ruleS (nx : List (List Nat)) (all : Bool) (M : Nat → Bool) (i : Nat) : Bool := if all then decide (0 < (nx.getD i []).length) && (nx.getD i []).all M else (nx.getD i []).any M
theorem ruleS_mono {nx : List (List Nat)} {N : Nat} (hl : ∀ l ∈ nx, ∀ x ∈ l, x < N) (all : Bool) : MonoR N (ruleS nx all) := fun M S h i _ q => by
 have hlt : ∀ x ∈ nx.getD i [], x < N := fun x hx => by
  rw [List.getD_eq_getElem?_getD] at hx
  cases e : nx[i]? with
  | none => rw [e] at hx; simp at hx
  | some l => rw [e] at hx; exact hl l (List.mem_of_getElem? e) x hx
 unfold ruleS at q ⊢
 cases all
 ·simp only [Bool.false_eq_true, if_false, List.any_eq_true] at q ⊢
  obtain ⟨x, hx, q⟩ := q
  exact ⟨x, hx, h x (hlt x hx) q⟩
 ·simp only [if_true, Bool.and_eq_true, List.all_eq_true] at q ⊢
  exact ⟨q.1, fun x hx => h x (hlt x hx) (q.2 x hx)⟩
theorem flat_encB : ∀ l : List Bool, (l.map encB).flatten = l.map ab
 | [] => rfl
 | b :: l => by rw [List.map_cons, List.flatten_cons, flat_encB l]; rfl
def d_sure_0 : List COp := [oS 37 (.move (.tmp 11)), oA 38 (.move (.tmp 37)) [0], ⟨some 39, .move (.tmp 7), some (some 38, true), [1]⟩, ⟨some 40, .move (.tmp 14), some (some 38, true), [1]⟩, ⟨some 41, .iaddr 1 (.tmp 39) (.tmp 40), some (some 38, true), [2, 3, 1]⟩, ⟨some 42, .load none (.tmp 41), some (some 38, true), [4, 1]⟩, oA 43 (.pick (.tmp 38) (.tmp 42) (.lit (.bool false))) [1, 5], oS 44 (.move (.tmp 12)), oA 45 (.move (.tmp 44)) [7, 1], ⟨some 46, .move (.tmp 7), some (some 45, false), [8]⟩, ⟨some 47, .move (.tmp 14), some (some 45, false), [8]⟩, ⟨some 48, .iaddr 1 (.tmp 46) (.tmp 47), some (some 45, false), [9, 10, 8]⟩, ⟨some 49, .load none (.tmp 48), some (some 45, false), [11, 8]⟩, oA 50 (.pick (.tmp 45) (.lit (.bool true)) (.tmp 49)) [8, 12], oA 11 (.move (.tmp 43)) [6, 8, 0, 1, 2, 3, 4, 5, 6], oA 12 (.move (.tmp 50)) [13, 14, 0, 1, 2, 3, 4, 5, 6, 7, 8, 9, 10, 11, 12, 13, 14]]
theorem dr_sure_0 (P : Program) (nt n0 : Nat) (Q : Post) (s : Slots) (σ : Store) : wpc P nt n0 (.draw d_sure_0) Q s σ = aOpsD P nt [oS 37 (.move (.tmp 11)), oA 38 (.move (.tmp 37)) [0], ⟨some 39, .move (.tmp 7), some (some 38, true), [1]⟩, ⟨some 40, .move (.tmp 14), some (some 38, true), [1]⟩, ⟨some 41, .iaddr 1 (.tmp 39) (.tmp 40), some (some 38, true), [2, 3, 1]⟩, ⟨some 42, .load none (.tmp 41), some (some 38, true), [4, 1]⟩, oA 43 (.pick (.tmp 38) (.tmp 42) (.lit (.bool false))) [1, 5], oS 44 (.move (.tmp 12)), oA 45 (.move (.tmp 44)) [7, 1], ⟨some 46, .move (.tmp 7), some (some 45, false), [8]⟩, ⟨some 47, .move (.tmp 14), some (some 45, false), [8]⟩, ⟨some 48, .iaddr 1 (.tmp 46) (.tmp 47), some (some 45, false), [9, 10, 8]⟩, ⟨some 49, .load none (.tmp 48), some (some 45, false), [11, 8]⟩, oA 50 (.pick (.tmp 45) (.lit (.bool true)) (.tmp 49)) [8, 12], oA 11 (.move (.tmp 43)) [6, 8, 0, 1, 2, 3, 4, 5, 6], oA 12 (.move (.tmp 50)) [13, 14, 0, 1, 2, 3, 4, 5, 6, 7, 8, 9, 10, 11, 12, 13, 14]] (Q .normal) s σ := wpc_draw _ (by decide)
attribute [local go_sem] dr_sure_0
def c_sure : CCode := .seq (.ops [oS 6 (.move (.lit (.bool false)))]) (.seq (.ops [oS 17 (.bslice 1 [] true), oS 18 (.move (.tmp 1)), oS 19 (.bappend 1 1 (.tmp 17) (.tmp 18) true), oS 7 (.move (.tmp 19))]) (.seq (.seq (.ops [oS 8 (.move (.lit (.bool true)))]) (.block 0 (.loop (.seq (.seq (.ops [oS 20 (.move (.tmp 8))]) (.cond (.tmp 20) .skip (.exit 0))) (.block 1 (.seq (.ops [oS 8 (.move (.lit (.bool false)))]) (.seq (.ops [oS 21 (.move (.tmp 0)), oS 22 (.blen 1 (.tmp 21)), oS 23 (.move (.lit (.int .i64 0)))]) (.block 2 (.loop (.seq (.ops [oS 24 (.bin .lss .none (.tmp 23) (.tmp 22))]) (.seq (.cond (.tmp 24) .skip (.exit 2)) (.seq (.block 3 (.seq (.ops [oS 25 (.move (.tmp 23)), oS 26 (.iaddr 1 (.tmp 21) (.tmp 23)), oS 27 (.load none (.tmp 26)), oS 9 (.move (.tmp 25)), oS 10 (.move (.tmp 27))]) (.seq (.ops [oS 28 (.move (.tmp 10)), oS 29 (.blen 1 (.tmp 28)), oS 30 (.bin .gtr .none (.tmp 29) (.lit (.int .i64 0))), oS 11 (.move (.tmp 30)), oS 12 (.move (.lit (.bool false)))]) (.seq (.seq (.ops [oS 31 (.move (.tmp 10)), oS 32 (.blen 1 (.tmp 31)), oS 33 (.move (.lit (.int .i64 0)))]) (.block 4 (.loop (.seq (.ops [oS 34 (.bin .lss .none (.tmp 33) (.tmp 32))]) (.seq (.cond (.tmp 34) .skip (.exit 4)) (.seq (.block 5 (.seq (.ops [oS 35 (.iaddr 1 (.tmp 31) (.tmp 33)), oS 36 (.load none (.tmp 35)), oS 14 (.move (.tmp 36))]) (.draw d_sure_0))) (.ops [oS 51 (.bin .add .none (.tmp 33) (.lit (.int .i64 1))), oS 33 (.move (.tmp 51))]))))))) (.seq (.ops [oS 52 (.move (.tmp 7)), oS 53 (.move (.tmp 9)), oS 54 (.iaddr 1 (.tmp 52) (.tmp 53)), oS 55 (.load none (.tmp 54)), oS 56 (.un .not (.tmp 55)), oS 57 (.move (.tmp 56)), oG 58 57 true (.move (.tmp 2)), oG 59 57 true (.move (.tmp 58)), oG 60 59 true (.move (.tmp 11)), oG 61 57 true (.pick (.tmp 59) (.tmp 60) (.lit (.bool false))), oG 62 57 true (.move (.tmp 61)), oG 63 62 false (.move (.tmp 2)), oG 64 62 false (.un .not (.tmp 63)), oG 65 62 false (.move (.tmp 64)), oG 66 65 true (.move (.tmp 12)), oG 67 62 false (.pick (.tmp 65) (.tmp 66) (.lit (.bool false))), oG 68 57 true (.pick (.tmp 62) (.lit (.bool true)) (.tmp 67)), oS 69 (.pick (.tmp 57) (.tmp 68) (.lit (.bool false)))]) (.cond (.tmp 69) (.ops [oS 70 (.move (.tmp 7)), oS 71 (.move (.tmp 9)), oS 72 (.iaddr 1 (.tmp 70) (.tmp 71)), oN (.store 1 (.tmp 72) (.lit (.bool true))), oS 8 (.move (.lit (.bool true)))]) .skip)))))) (.ops [oS 73 (.bin .add .none (.tmp 23) (.lit (.int .i64 1))), oS 23 (.move (.tmp 73))]))))))))))))) (.seq (.seq (.ghost (.ops [oS 74 (.move (.tmp 7)), oS 75 (.blen 1 (.tmp 74)), oS 76 (.move (.lit (.int .i64 0)))])) (.block 6 (.loop (.seq (.ops [oS 77 (.bin .lss .none (.tmp 76) (.tmp 75))]) (.seq (.cond (.tmp 77) .skip (.exit 6)) (.seq (.block 7 (.seq (.ops [oS 78 (.iaddr 1 (.tmp 74) (.tmp 76)), oS 79 (.load none (.tmp 78)), oS 16 (.move (.tmp 79))]) (.seq (.ops [oS 80 (.move (.tmp 16)), oS 81 (.un .not (.tmp 80))]) (.cond (.tmp 81) (.seq (.ops [oS 6 (.move (.lit (.bool false)))]) .ret) .skip)))) (.ops [oS 82 (.bin .add .none (.tmp 76) (.lit (.int .i64 1))), oS 76 (.move (.tmp 82))]))))))) (.seq (.ops [oS 6 (.move (.lit (.bool true)))]) .ret))))
set_option maxRecDepth 20000 in
set_option maxHeartbeats 4000000 in
theorem sure_spec (nx : List (List Nat)) (gl : List Bool) (all : Bool) (tok tok' : Tok) (σ : Store) (hn : nx.length = gl.length) (hlen : gl.length ≤ 1000000) (hl : ∀ l ∈ nx, l.length ≤ 1000000 ∧ ∀ x ∈ l, x < gl.length) :
  ACalls Tryz.prog 53 [.slice tok (nx.map encNe), .slice tok' (gl.map encB), .bool all] σ (fun v σ' => σ' = σ ∧ ∃ M, LfpR gl.length (fun i => gl.getD i false) (ruleS nx all) M ∧ v = .bool ((List.range gl.length).all M)) := by
 refine ACalls.intro (rs := [(.tmp 6)]) (by kernel_rfl) { own := [(1, 0), (1, 2)], ghosts := [17] } Tryz.func53 (c := Tryz.f53.body.getD .skip) (by kernel_rfl) (by decide) (by rw [show Tryz.f53.ntmps = 83 by kernel_rfl]; exact Nat.le_of_ble_eq_true rfl) (by kernel_rfl) ?_
 intro hσ hids
 rw [show comp Tryz.prog { own := [(1, 0), (1, 2)], ghosts := [17] } (Tryz.f53.body.getD .skip) = c_sure by kernel_rfl, show Tryz.f53.ntmps = 83 by kernel_rfl]
 unfold c_sure
 have hil : Ids σ.length (.slice tok (nx.map encNe)) := hids _ (by simp)
 have hmono := ruleS_mono (fun l h => (hl l h).2) all
 have hgl := lst_of false (show gl.length = gl.length from rfl)
 obtain ⟨N, hN⟩ : ∃ N, N = gl.length := ⟨_, rfl⟩
 rw [← hN] at hgl hn hlen hmono ⊢
 obtain ⟨gf, hgf⟩ : ∃ f : Nat → Bool, f = fun i => gl.getD i false := ⟨_, rfl⟩
 rw [← hgf] at hgl ⊢
 have hS : ∀ F : List Bool, IdsS (σ ++ [AObj.row (F.map ab)]).length (σ ++ [AObj.row (F.map ab)]) := fun F => idsS_push hσ (ids_ab _)
 have hbig : bigLen gl.length 1 := big_ok (by omega) (by omega)
 simp only [go_sem, simprocAttr, hbig]
 refine ⟨fun _ _ => ⟨rfl, rfl⟩, ?_⟩
 have hflat : (gl.map encB).flatten = (lst N gf).map ab := by
  rw [← hgl]; exact flat_encB gl
 try rw [hflat]
 try rw [← hN]
 have hs0 : SoR N gf (ruleS nx all) gf := ⟨fun _ _ q => q, fun S h0 _ => h0⟩
 refine wpc_while (fun (x : (Nat → Bool) × Bool) => [(0, .slice tok (nx.map encNe)), (2, .bool all), (7, .ref σ.length 1 0 N), (8, .bool x.2)])
  (fun x => σ ++ [AObj.row ((lst N x.1).map ab)]) (fun x => SoR N gf (ruleS nx all) x.1 ∧ (x.2 = false → ∀ i, i < N → ruleS nx all x.1 i = true → x.1 i = true)) (fun x => 2 * (N - cnt N x.1) + (if x.2 then 1 else 0)) (gf, true) ⟨hs0, fun q => absurd q (by simp)⟩ ?_ ?_
 ·exact ghL0 (l := [_]) (hS _)
 rintro ⟨M0, more0⟩ ⟨hM0, hcl⟩ K hK hE hR
 simp only at hM0 hcl
 cases more0
 ·simp only [go_sem, simprocAttr, hE]
  have hall : ∀ (i : Nat), (lst N M0).take i = lst (min i N) M0 := fun i => by unfold lst; rw [← List.map_take, List.take_range]
  refine Gh.of (s' := [(7, .ref σ.length 1 0 N)]) (σ' := σ ++ [AObj.row ((lst N M0).map ab)]) (ghL0 (l := [_]) (hS _)) ?_
  simp only [go_sem, simprocAttr]
  refine wpc_while (fun (i : Nat) => [(74, .ref σ.length 1 0 N), (75, .int .i64 N), (76, .int .i64 (i : Nat))])
   (fun _ => σ ++ [AObj.row ((lst N M0).map ab)]) (fun i => i ≤ N ∧ ∀ x, x < i → M0 x = true) (fun i => N - i) 0 ⟨Nat.zero_le _, fun x hx => absurd hx (by simp)⟩ (ghL0 (l := [_]) (hS _)) ?_
  rintro i ⟨hi, hv⟩ K2 hK2 hE2 hR2
  by_cases hiN : i < N
  ·have hlt : ((i : Int) < (N : Int)) := by omega
   have hw1 : IntKind.i64.wrap ((i : Int) + 1) = ((i + 1 : Nat) : Int) := by rw [wrap_ok (by omega)]; omega
   have h1 := lst_get M0 hiN
   cases hM : M0 i
   ·rw [hM] at h1
    simp only [go_sem, simprocAttr, hlt, hiN, h1, ab, hR2]
    have : (List.range N).all M0 = false := by
     rw [List.all_eq_false]; exact ⟨i, List.mem_range.2 hiN, by simp [hM]⟩
    exact rt (.bool false) ⟨rfl, M0, ⟨hM0, hcl rfl⟩, by rw [this]⟩
   ·rw [hM] at h1
    simp only [go_sem, simprocAttr, hlt, hiN, h1, ab]
    refine hK2 _ _ (i + 1) ⟨by omega, fun x hx => ?_⟩ (by omega) ?_
    ·rcases Nat.lt_or_ge x i with q | q
     ·exact hv x q
     ·have : x = i := by omega
      subst this; exact hM
    rw [hw1]
    exact ghL0 (l := [_]) (hS _)
  ·have hlt : ¬ ((i : Int) < (N : Int)) := by omega
   simp only [go_sem, simprocAttr, hlt, hE2]
   have : (List.range N).all M0 = true := by
    rw [List.all_eq_true]; exact fun x hx => hv x (by have := List.mem_range.1 hx; omega)
   exact rt (.bool true) ⟨rfl, M0, ⟨hM0, hcl rfl⟩, by rw [this]⟩
 ·simp only [go_sem, simprocAttr]
  refine wpc_while (fun (x : Nat × (Nat → Bool) × Bool) => [(0, .slice tok (nx.map encNe)), (2, .bool all), (7, .ref σ.length 1 0 N), (8, .bool x.2.2), (21, .slice tok (nx.map encNe)), (22, .int .i64 nx.length), (23, .int .i64 (x.1 : Nat))])
   (fun x => σ ++ [AObj.row ((lst N x.2.1).map ab)]) (fun x => x.1 ≤ N ∧ PassR N gf (ruleS nx all) M0 x.1 x.2.1 x.2.2) (fun x => N - x.1) (0, M0, false) ⟨Nat.zero_le _, .zero hM0⟩ (ghL0 (l := [_]) (hS _)) ?_
  rintro ⟨i, M, more⟩ ⟨hi, hP⟩ K2 hK2 hE2 hR2
  simp only at hi hP
  by_cases hiN : i < N
  ·have hlt : ((i : Int) < (nx.length : Int)) := by omega
   have hltN : ((i : Int) < (N : Int)) := by omega
   have hw1 : IntKind.i64.wrap ((i : Int) + 1) = ((i + 1 : Nat) : Int) := by rw [wrap_ok (by omega)]; omega
   obtain ⟨l, hx⟩ := get_ex (show i < nx.length by omega)
   obtain ⟨l1, l2⟩ := hl l (List.mem_of_getElem? hx)
   have hgd : nx.getD i [] = l := by rw [List.getD_eq_getElem?_getD, hx]; rfl
   have hru : ruleS nx all M i = if all then decide (0 < l.length) && l.all M else l.any M := by unfold ruleS; rw [hgd]
   have h2 := lst_get M hiN
   have hF1 : i + 1 ≤ (lst N M).length := by rw [lst_len]; omega
   have hpos : ((l.length : Int) > 0) = (0 < l.length) := propext ⟨fun _ => by omega, fun _ => by omega⟩
   simp only [go_sem, simprocAttr, hlt, hx, encNe, hpos]
   refine wpc_while (fun (j : Nat) => [(0, .slice tok (nx.map encNe)), (2, .bool all), (7, .ref σ.length 1 0 N), (8, .bool more), (9, .int .i64 (i : Nat)), (11, .bool (decide (0 < l.length) && (l.take j).all M)), (12, .bool ((l.take j).any M)), (21, .slice tok (nx.map encNe)), (22, .int .i64 nx.length), (23, .int .i64 (i : Nat)), (31, .slice .unk (l.map encNt)), (32, .int .i64 l.length), (33, .int .i64 (j : Nat))])
    (fun _ => σ ++ [AObj.row ((lst N M).map ab)]) (fun j => j ≤ l.length) (fun j => l.length - j) 0 (Nat.zero_le _) ?_ ?_
   ·simp only [List.take_zero, List.all_nil, List.any_nil, Bool.and_true]
    exact ghL0 (l := [_]) (hS _)
   intro j hj K3 hK3 hE3 hR3
   by_cases hjl : j < l.length
   ·obtain ⟨x, hx⟩ := get_ex hjl
    have hltj : ((j : Int) < (l.length : Int)) := by omega
    have hwj : IntKind.i64.wrap ((j : Int) + 1) = ((j + 1 : Nat) : Int) := by rw [wrap_ok (by omega)]; omega
    have hxN : x < N := by have := l2 x (List.mem_of_getElem? hx); omega
    have hxi : ((x : Int) < (N : Int)) := by omega
    have h1 := lst_get M hxN
    have e1 : (decide (0 < l.length) && (l.take (j + 1)).all M) = ((decide (0 < l.length) && (l.take j).all M) && M x) := by rw [take_succ' hx, List.all_append, Bool.and_assoc]; simp
    have e2 : (l.take (j + 1)).any M = ((l.take j).any M || M x) := by rw [take_succ' hx, List.any_append]; simp
    generalize (decide (0 < l.length) && (l.take j).all M) = A at e1
    generalize (l.take j).any M = B at e2
    cases A <;> cases B <;>
    ·simp only [go_sem, simprocAttr, hltj, hx, encNt, hxi, hxN, h1, ab]
     refine hK3 _ _ (j + 1) (by omega) (by omega) ?_
     rw [hwj, e1, e2]
     exact ghL0 (l := [_]) (hS _)
   ·have hltj : ¬ ((j : Int) < (l.length : Int)) := by omega
    rw [List.take_of_length_le (by omega)]
    have hadd : M i = false → ruleS nx all M i = true → PassR N gf (ruleS nx all) M0 (i + 1) (updF M i true) true := fun q1 q2 => hP.add hmono hiN q1 q2
    have hskip : (M i = true ∨ ruleS nx all M i = false) → PassR N gf (ruleS nx all) M0 (i + 1) M more := fun q => hP.skip q
    generalize (decide (0 < l.length) && l.all M) = A at hru
    generalize l.any M = B at hru
    generalize M i = m at h2 hadd hskip
    cases m
    case true =>
     simp only [go_sem, simprocAttr, hltj, hE3, hltN, hiN, h2, ab]
     refine hK2 _ _ (i + 1, M, more) ⟨by simp only []; omega, hskip (.inl rfl)⟩ (by simp only []; omega) ?_
     simp only [hw1]
     exact ghL0 (l := [_]) (hS _)
    cases all <;> cases A <;> cases B
    all_goals
     first
     | (simp only [go_sem, simprocAttr, hltj, hE3, hltN, hiN, h2, ab, hF1, set_ab16]; refine hK2 _ _ (i + 1, updF M i true, true) ⟨by simp only []; omega, hadd rfl hru⟩ (by simp only []; omega) ?_; simp only [hw1, upd_set]; exact ghL0 (l := [_]) (hS _))
     | (simp only [go_sem, simprocAttr, hltj, hE3, hltN, hiN, h2, ab]; refine hK2 _ _ (i + 1, M, more) ⟨by simp only []; omega, hskip (.inr hru)⟩ (by simp only []; omega) ?_; simp only [hw1]; exact ghL0 (l := [_]) (hS _))
  ·have hlt : ¬ ((i : Int) < (nx.length : Int)) := by omega
   have hie : i = N := by omega
   subst hie
   simp only [go_sem, simprocAttr, hlt, hE2]
   refine hK _ _ (M, more) ⟨hP.so, hP.close⟩ hP.less ?_
   exact ghL0 (l := [_]) (hS _)
end Go.Proofs.YtjmmldkailblmaaGreat
namespace Go.Proofs.YtjmmldkailblmaaGreat
open Go.Ahl
def nxL (t : FTask) (g : List (List Int)) (p : List FEnt) (ss : List (List Int)) (k : Nat) : List (List Nat) := (ss.take k).map fun s => (nxP t g p s).map ss.idxOf
def nxA (t : FTask) (g : List (List Int)) (p : List FEnt) : List (List Nat) := (ssP t g p).map fun s => (nxP t g p s).map (ssP t g p).idxOf
def rowP (t : FTask) (g : List (List Int)) (p : List FEnt) (ss : List (List Int)) (s : List Int) : List (Option (List Nat)) := match polG p s with
 | some n => List.replicate n.toNat none ++ [some ((nxP t g p s).map ss.idxOf)]
 | none => []
def rwP (t : FTask) (g : List (List Int)) (p : List FEnt) : RW := ⟨ssP t g p, (ssP t g p).map (rowP t g p (ssP t g p)), (ssP t g p).map fun s => condHolds s t.goal⟩
theorem chFrom_rep (l : List Nat) : ∀ (n k : Nat), chFrom k (List.replicate n none ++ [some l]) = [(k + n, l)]
 | 0, k => rfl
 | n + 1, k => by
  rw [List.replicate_succ, List.cons_append, chFrom, chFrom_rep l n (k + 1), show k + 1 + n = k + (n + 1) by omega]
theorem rwP_w (t : FTask) (g : List (List Int)) (p : List FEnt) : (rwP t g p).w = wldP t g p := by
 unfold RW.w rwP wldP
 simp only [List.map_map]
 congr 1
 refine List.map_congr_left fun s _ => ?_
 show chFrom 0 (rowP t g p (ssP t g p) s) = chP t g p (ssP t g p) s
 unfold rowP chP nxP
 cases polG p s with
 | none => rfl
 | some n => simp only []; rw [chFrom_rep, Nat.zero_add]
theorem rwP_ok {t : FTask} {g : List (List Int)} {p : List FEnt} (he : EOk t) (hc : choicesB t g = true) (hp : polB t g p = true) (hs : risingB t.facts.length (-1) t.init = true) (h8 : t.facts.length ≤ 8) (hg : g.length ≤ 1000) : ROk (rwP t g p) where
 w := by rw [rwP_w]; exact wldP_ok he hc hp hs h8
 wid l hl := by
  obtain ⟨s, _, rfl⟩ := List.mem_map.1 hl
  unfold rowP
  cases hq : polG p s with
  | none => simp
  | some n => have := (polG_ok hp hq).2.1; simp; omega
theorem nxA_get {t : FTask} {g : List (List Int)} {p : List FEnt} {i : Nat} {s : List Int} (h : (ssP t g p)[i]? = some s) : (nxA t g p).getD i [] = (nxP t g p s).map (ssP t g p).idxOf := by
 unfold nxA; rw [List.getD_eq_getElem?_getD, List.getElem?_map, h]; rfl
theorem any_rowP {t : FTask} {g : List (List Int)} {p : List FEnt} (q : List Nat → Bool) (s : List Int) (hq : q [] = false) : (rowP t g p (ssP t g p) s).any (pO q) = q ((nxP t g p s).map (ssP t g p).idxOf) := by
 unfold rowP nxP
 cases polG p s with
 | none => simp [hq]
 | some n =>
  simp only [List.any_append, List.any_cons, List.any_nil, Bool.or_false]
  have : (List.replicate n.toNat (none : Option (List Nat))).any (pO q) = false := by
   rw [List.any_eq_false]; intro x hx; rw [List.eq_of_mem_replicate hx]; simp [pO]
  rw [this]; rfl
theorem rwP_row {t : FTask} {g : List (List Int)} {p : List FEnt} {i : Nat} {s : List Int} (h : (ssP t g p)[i]? = some s) : (rwP t g p).nx.getD i [] = rowP t g p (ssP t g p) s := by
 show ((ssP t g p).map (rowP t g p (ssP t g p))).getD i [] = _
 rw [List.getD_eq_getElem?_getD, List.getElem?_map, h]; rfl
theorem dIter_end {w : Wld} (hw : WOk w) : nowL w (dIter w w.ss.length) = [] := by
 have h : ∃ k, k ≤ w.ss.length ∧ nowL w (dIter w k) = [] := by
  refine Classical.byContradiction fun q => ?_
  have key : ∀ k, k ≤ w.ss.length + 1 → k ≤ nonneg (dIter w k) := by
   intro k
   induction k with
   | zero => intro _; omega
   | succ k ih =>
    intro hk
    have h1 := ih (by omega)
    have h2 := nonneg_round (d := k + 1) (dIter_len w hw k) (fun e => q ⟨k, by omega, e⟩)
    have : dIter w (k + 1) = dRound w (dIter w k) (k + 1) := rfl
    rw [this]; omega
  have h1 := key (w.ss.length + 1) (by omega)
  have h2 := nonneg_len (dIter w (w.ss.length + 1))
  rw [dIter_len w hw] at h2; omega
 obtain ⟨k, hk, he⟩ := h
 have := dIter_stop he (w.ss.length - k)
 rw [show k + (w.ss.length - k) = w.ss.length by omega] at this
 rw [this]; exact he
section
variable {t : FTask} {g : List (List Int)} {p : List FEnt}
theorem nowB_rule (hr : ROk (rwP t g p)) {k i : Nat} (hi : i < (wldP t g p).ss.length) : nowB (wldP t g p) (dIter (wldP t g p) k) i = (decide (dF (wldP t g p) k i < 0) && ruleS (nxA t g p) true (fun j => decide (0 ≤ dF (wldP t g p) k j)) i) := by
 obtain ⟨s, hs⟩ := get_ex (show i < (ssP t g p).length from hi)
 have hch : (wldP t g p).ch.getD i [] = chFrom 0 (rowP t g p (ssP t g p) s) := by
  rw [← rwP_w, rw_ch, rwP_row hs]
 unfold nowB
 rw [hch]
 have e1 : (chFrom 0 (rowP t g p (ssP t g p) s)).any (okCo (dIter (wldP t g p) k)) = (chFrom 0 (rowP t g p (ssP t g p) s)).any (fun c => (fun l => decide (0 < l.length) && l.all fun j => decide (0 ≤ dF (wldP t g p) k j)) c.2) := by
  refine any_congr16 fun c hc => ?_
  have hne : c.2 ≠ [] := by
   have hm : (wldP t g p).ch.getD i [] ∈ (wldP t g p).ch := by
    rw [List.getD_eq_getElem?_getD, List.getElem?_eq_getElem (by have := hr.w.ch; rw [rwP_w] at this; rw [this]; exact hi)]; exact List.getElem_mem _
   have hw := hr.w
   rw [rwP_w] at hw
   exact (hw.some _ hm c (by rw [hch]; exact hc)).2.1
  have hp : decide (0 < c.2.length) = true := decide_eq_true (List.length_pos_iff.2 hne)
  simp only [hp, Bool.true_and]
  unfold okCo negB
  rw [Bool.eq_iff_iff, List.all_eq_true, Bool.not_eq_true', List.any_eq_false]
  refine forall_congr' fun j => forall_congr' fun hj => ?_
  have hg : (dIter (wldP t g p) k).getD j 0 = dF (wldP t g p) k j := rfl
  rw [hg, decide_eq_true_eq, decide_eq_true_eq]; omega
 rw [e1, any_ch (fun l => decide (0 < l.length) && l.all fun j => decide (0 ≤ dF (wldP t g p) k j)) 0, any_rowP _ s rfl]
 congr 1
 unfold ruleS
 rw [if_pos rfl, nxA_get hs]
theorem sure_all (hr : ROk (rwP t g p)) {M : Nat → Bool} (hM : LfpR (ssP t g p).length (goalB (wldP t g p)) (ruleS (nxA t g p) true) M) :
  (List.range (ssP t g p).length).all M = !((dIter (wldP t g p) (wldP t g p).ss.length).contains (-1)) := by
 have hw : WOk (wldP t g p) := by rw [← rwP_w]; exact hr.w
 obtain ⟨N, hN⟩ : ∃ N, N = (wldP t g p).ss.length := ⟨_, rfl⟩
 have hN2 : (ssP t g p).length = N := hN.symm
 rw [hN2] at hM ⊢
 rw [← hN]
 have hrs : ∀ k i, i < N → nowB (wldP t g p) (dIter (wldP t g p) k) i = _ := fun k i hi => nowB_rule hr (by omega)
 have hD : LfpR N (goalB (wldP t g p)) (ruleS (nxA t g p) true) (fun i => decide (0 ≤ dF (wldP t g p) N i)) := by
  refine ⟨⟨fun i hi hg => ?_, fun S h0 hS i hi h => ?_⟩, fun i hi h => ?_⟩
  ·have := (dF_goal hw (by omega : i < (wldP t g p).ss.length) N).2 hg
   simp only [decide_eq_true_eq]; omega
  ·have key : ∀ k i, i < N → 0 ≤ dF (wldP t g p) k i → S i = true := by
    intro k
    induction k with
    | zero =>
     intro i hi h
     refine h0 i hi ?_
     rw [dF_zero hw (by omega)] at h
     cases hg : goalB (wldP t g p) i
     ·rw [hg] at h; simp at h
     ·rfl
    | succ k ih =>
     intro i hi h
     rw [dF_succ hw k (by omega)] at h
     cases hn : nowB (wldP t g p) (dIter (wldP t g p) k) i
     ·rw [hn] at h; exact ih i hi (by simpa using h)
     ·rw [hrs k i hi, Bool.and_eq_true] at hn
      refine hS i hi ?_
      have h2 := hn.2
      unfold ruleS at h2 ⊢
      simp only [if_true, Bool.and_eq_true, List.all_eq_true, decide_eq_true_eq] at h2 ⊢
      refine ⟨h2.1, fun x hx => ih x ?_ (h2.2 x hx)⟩
      obtain ⟨s, hs⟩ := get_ex (show i < (ssP t g p).length by omega)
      rw [nxA_get hs] at hx
      have hm : some ((nxP t g p s).map (ssP t g p).idxOf) ∈ (rwP t g p).nx.getD i [] := by
       rw [rwP_row hs]
       unfold rowP nxP
       unfold nxP at hx
       cases hq : polG p s with
       | none => rw [hq] at hx; simp at hx
       | some n => simp
      have := row_lt hr hm x hx
      have : (rwP t g p).ss.length = N := hN2
      omega
   exact key N i hi (by simpa using h)
  ·have he := dIter_end hw
   rw [← hN] at he
   simp only [decide_eq_true_eq]
   refine Classical.byContradiction fun q => ?_
   have hn : nowB (wldP t g p) (dIter (wldP t g p) N) i = true := by
    rw [hrs N i hi, h, decide_eq_true (by omega)]; rfl
   have := nowL_mem.2 ⟨(by omega : i < (wldP t g p).ss.length), hn⟩
   rw [he] at this; simp at this
 have hu := LfpR.unique hM hD
 rw [dIter_lst hw, ← hN]
 cases hall : (List.range N).all M
 ·rw [List.all_eq_false] at hall
  obtain ⟨i, hi, hf⟩ := hall
  have hi := List.mem_range.1 hi
  rw [hu i hi] at hf
  have h1 := dF_range hw (by omega : i < (wldP t g p).ss.length) N
  have h2 : dF (wldP t g p) N i = -1 := by
   simp only [decide_eq_true_eq] at hf; omega
  have : (lst N (dF (wldP t g p) N)).contains (-1) = true := by
   rw [List.contains_iff_mem]
   exact List.mem_map.2 ⟨i, List.mem_range.2 hi, h2⟩
  rw [this]; rfl
 ·rw [List.all_eq_true] at hall
  have : (lst N (dF (wldP t g p) N)).contains (-1) = false := by
   cases hc : (lst N (dF (wldP t g p) N)).contains (-1)
   ·rfl
   ·rw [List.contains_iff_mem] at hc
    obtain ⟨i, hi, h2⟩ := List.mem_map.1 hc
    have h3 := hall i hi
    rw [hu i (List.mem_range.1 hi)] at h3
    simp only [decide_eq_true_eq] at h3; omega
  rw [this]; rfl
theorem sure_some (hr : ROk (rwP t g p)) {M : Nat → Bool} (hM : LfpR (ssP t g p).length (goalB (wldP t g p)) (ruleS (nxA t g p) false) M) :
  (List.range (ssP t g p).length).all M = !(badB (wldP t g p)) := by
 have hl := cStep_lfp hr fun _ => true
 rw [rwP_w] at hl
 have hN : (rwP t g p).ss.length = (ssP t g p).length := rfl
 rw [hN] at hl
 have hru : ∀ S i, i < (ssP t g p).length → ruleC (rwP t g p) (fun _ => true) S i = (goalB (wldP t g p) i || ruleS (nxA t g p) false S i) := fun S i hi => by
  obtain ⟨s, hs⟩ := get_ex hi
  unfold ruleC leadsB ruleS
  rw [rwP_w, rwP_row hs, any_rowP _ s rfl, nxA_get hs]
  unfold leadP
  simp only [Bool.true_and, Bool.false_eq_true, if_false]
  rw [show ∀ l : List Nat, (l.all fun _ => true) = true from fun l => List.all_eq_true.2 fun _ _ => rfl, Bool.true_and]
 have hD : LfpR (ssP t g p).length (goalB (wldP t g p)) (ruleS (nxA t g p) false) (cStep (wldP t g p) fun _ => true) := by
  refine ⟨⟨fun i hi hg => hl.closed i hi (by rw [hru _ i hi, hg]; rfl), fun S h0 hS i hi h => ?_⟩, fun i hi h => hl.closed i hi (by rw [hru _ i hi, h]; simp)⟩
  refine hl.least S (fun _ _ q => absurd q (by simp)) (fun x hx q => ?_) i hi h
  rw [hru S x hx, Bool.or_eq_true] at q
  exact q.elim (h0 x hx) (hS x hx)
 have hu := LfpR.unique hM hD
 unfold badB
 have hN2 : (wldP t g p).ss.length = (ssP t g p).length := rfl
 rw [hN2]
 have e : ∀ i, cStep (wldP t g p) (fun _ => true) i = !(!goalB (wldP t g p) i && decide (nearF (wldP t g p) (fun _ => true) i < 0)) := fun i => by
  unfold cStep
  have : decide (0 ≤ nearF (wldP t g p) (fun _ => true) i) = !decide (nearF (wldP t g p) (fun _ => true) i < 0) := by
   rw [← decide_not]; congr 1; exact propext (by omega)
  rw [this]
  cases goalB (wldP t g p) i <;> simp
 rw [List.any_eq_not_all_not]
 simp only [Bool.not_not]
 rw [Bool.eq_iff_iff, List.all_eq_true, List.all_eq_true]
 refine forall_congr' fun i => forall_congr' fun hi => ?_
 rw [hu i (List.mem_range.1 hi), e]
end
end Go.Proofs.YtjmmldkailblmaaGreat
namespace Go.Proofs.YtjmmldkailblmaaGreat
open Go.Ahl
def ofR (x : FEnt) : AV × AV := (.str (keyR x.1), .int .i64 (x.2 + 1))
theorem ids_ofR (n : Nat) (l : List FEnt) : IdsO n (.map (l.map ofR)) := by
 intro j a b h
 rw [List.getElem?_map] at h
 obtain ⟨x, _, hx⟩ := Option.map_eq_some_iff.1 h
 simp only [ofR, Prod.mk.injEq] at hx
 obtain ⟨rfl, rfl⟩ := hx
 exact ⟨.str _, .int _ _⟩
theorem find_ofR (x : List Int) : ∀ (l : List FEnt) (k : Nat), (∀ y ∈ l, keyR y.1 = keyR x → y.1 = x) → ∃ i : Nat, aFind (.str (keyR x)) (l.map ofR) k = some ((polG l x).map fun n => (i, .int .i64 (n + 1)))
 | [], k, _ => ⟨0, by simp [aFind, polG]⟩
 | y :: l, k, h => by
  rw [List.map_cons, ofR, aFind]
  by_cases e : y.1 = x
  ·refine ⟨k, ?_⟩
   have : keyEq (.str (keyR x)) (.str (keyR y.1)) = some true := by rw [e]; simp [keyEq]
   rw [this]
   simp [polG, e]
  ·obtain ⟨i, hi⟩ := find_ofR x l (k + 1) fun z hz => h z (List.mem_cons_of_mem _ hz)
   refine ⟨i, ?_⟩
   have hk : ¬ keyR y.1 = keyR x := fun q => e (h y List.mem_cons_self q)
   have : keyEq (.str (keyR x)) (.str (keyR y.1)) = some false := by
    simp only [keyEq, Option.some.injEq, beq_eq_false_iff_ne, ne_eq]
    exact fun q => hk q.symm
   rw [this]
   simp only
   rw [hi]
   unfold polG
   rw [List.find?_cons_of_neg (by simpa using e)]
theorem wkL_app {a b c d : List AV} (h : WkL a b) (k : WkL c d) : WkL (a ++ c) (b ++ d) := by
 induction h with
 | nil => exact k
 | cons h _ ih => exact .cons h ih
def nC1 (l : List Nat) : AV := .slice .unk (l.map encNt)
theorem nxL_step {t : FTask} {g : List (List Int)} {p : List FEnt} {k : Nat} {s : List Int} (h : (gK (nxP t g p) t.init k)[k]? = some s) :
  nxL t g p (gK (nxP t g p) t.init (k + 1)) (k + 1) = nxL t g p (gK (nxP t g p) t.init k) k ++ [(nxP t g p s).map (gK (nxP t g p) t.init (k + 1)).idxOf] := by
 have hp := gK_pre1 (nx := nxP t g p) (s0 := t.init) k
 have hk := lt_of_get h
 unfold nxL
 rw [take_succ' (hp.get h), take_pre hp (by omega), List.map_append]
 congr 1
 refine List.map_congr_left fun x hx => ?_
 obtain ⟨j, hj, rfl⟩ := List.getElem_of_mem hx
 have hj2 : j < k := by rw [List.length_take] at hj; omega
 refine List.map_congr_left fun y hy => hp.idx ?_
 exact gK_closed k j _ hj2 (by rw [List.getElem_take]; exact List.getElem?_eq_getElem _) y hy
def d_kindR_0 : List COp := [oS 34 (.move (.tmp 10)), oS 35 (.move (.tmp 12)), oA 36 (.call (.lit (.func 52 [])) [.tmp 35]) [1], oS 37 (.move (.tmp 3)), oS 38 (.move (.tmp 11)), oA 39 (.iaddr 1 (.tmp 37) (.tmp 38)) [3, 4], oA 40 (.load none (.tmp 39)) [5], oA 41 (.bin .add .none (.tmp 40) (.lit (.int .i64 1))) [6], ⟨none, .mapup true (.tmp 34) (.tmp 36) (.tmp 41), none, [0, 2, 7, 2, 0, 1, 2, 3, 4, 5, 6, 7]⟩]
theorem dr_kindR_0 (P : Program) (nt n0 : Nat) (Q : Post) (s : Slots) (σ : Store) : wpc P nt n0 (.draw d_kindR_0) Q s σ = aOpsD P nt [oS 34 (.move (.tmp 10)), oS 35 (.move (.tmp 12)), oA 36 (.call (.lit (.func 52 [])) [.tmp 35]) [1], oS 37 (.move (.tmp 3)), oS 38 (.move (.tmp 11)), oA 39 (.iaddr 1 (.tmp 37) (.tmp 38)) [3, 4], oA 40 (.load none (.tmp 39)) [5], oA 41 (.bin .add .none (.tmp 40) (.lit (.int .i64 1))) [6], ⟨none, .mapup true (.tmp 34) (.tmp 36) (.tmp 41), none, [0, 2, 7, 2, 0, 1, 2, 3, 4, 5, 6, 7]⟩] (Q .normal) s σ := wpc_draw _ (by decide)
def d_kindR_1 : List COp := [oS 57 (.move (.tmp 13)), oS 58 (.move (.tmp 19)), oA 59 (.iaddr 1 (.tmp 57) (.tmp 58)) [0, 1], oA 60 (.load none (.tmp 59)) [2], oS 61 (.faddr 2 (.tmp 4)), oA 62 (.load none (.tmp 61)) [4], oA 63 (.call (.lit (.func 51 [])) [.tmp 60, .tmp 62]) [3, 5], oA 20 (.move (.tmp 63)) [6, 6, 0, 1, 2, 3, 4, 5, 6]]
theorem dr_kindR_1 (P : Program) (nt n0 : Nat) (Q : Post) (s : Slots) (σ : Store) : wpc P nt n0 (.draw d_kindR_1) Q s σ = aOpsD P nt [oS 57 (.move (.tmp 13)), oS 58 (.move (.tmp 19)), oA 59 (.iaddr 1 (.tmp 57) (.tmp 58)) [0, 1], oA 60 (.load none (.tmp 59)) [2], oS 61 (.faddr 2 (.tmp 4)), oA 62 (.load none (.tmp 61)) [4], oA 63 (.call (.lit (.func 51 [])) [.tmp 60, .tmp 62]) [3, 5], oA 20 (.move (.tmp 63)) [6, 6, 0, 1, 2, 3, 4, 5, 6]] (Q .normal) s σ := wpc_draw _ (by decide)
def d_kindR_2 : List COp := [oS 92 (.load (some 4) (.tmp 4)), oS 93 (.move (.tmp 1)), oS 94 (.move (.tmp 21)), oA 95 (.bin .sub .none (.tmp 94) (.lit (.int .i64 1))) [2], oA 96 (.iaddr 1 (.tmp 93) (.tmp 95)) [1, 3], oA 97 (.load none (.tmp 96)) [4], oS 98 (.move (.tmp 13)), oS 99 (.move (.tmp 19)), oA 100 (.iaddr 1 (.tmp 98) (.tmp 99)) [6, 7], oA 101 (.load none (.tmp 100)) [8], oA 102 (.call (.lit (.func 29 [])) [.tmp 92, .tmp 97, .tmp 101]) [0, 5, 9], oA 103 (.blen 1 (.tmp 102)) [10], oS 104 (.move (.lit (.int .i64 0)))]
theorem dr_kindR_2 (P : Program) (nt n0 : Nat) (Q : Post) (s : Slots) (σ : Store) : wpc P nt n0 (.draw d_kindR_2) Q s σ = aOpsD P nt [oS 92 (.load (some 4) (.tmp 4)), oS 93 (.move (.tmp 1)), oS 94 (.move (.tmp 21)), oA 95 (.bin .sub .none (.tmp 94) (.lit (.int .i64 1))) [2], oA 96 (.iaddr 1 (.tmp 93) (.tmp 95)) [1, 3], oA 97 (.load none (.tmp 96)) [4], oS 98 (.move (.tmp 13)), oS 99 (.move (.tmp 19)), oA 100 (.iaddr 1 (.tmp 98) (.tmp 99)) [6, 7], oA 101 (.load none (.tmp 100)) [8], oA 102 (.call (.lit (.func 29 [])) [.tmp 92, .tmp 97, .tmp 101]) [0, 5, 9], oA 103 (.blen 1 (.tmp 102)) [10], oS 104 (.move (.lit (.int .i64 0)))] (Q .normal) s σ := wpc_draw _ (by decide)
attribute [local go_sem] dr_kindR_0 dr_kindR_1 dr_kindR_2
def c_kindR : CCode := .seq (.ops [oS 4 (.box (.tmp 0)), oS 8 (.move (.lit (.int .i64 0))), oS 9 (.move (.lit (.slice .nil [])))]) (.seq (.ops [oS 26 .mkmap, oS 10 (.move (.tmp 26))]) (.seq (.seq (.ops [oS 27 (.move (.tmp 2)), oS 28 (.blen 1 (.tmp 27)), oS 29 (.move (.lit (.int .i64 0)))]) (.block 0 (.loop (.seq (.ops [oS 30 (.bin .lss .none (.tmp 29) (.tmp 28))]) (.seq (.cond (.tmp 30) .skip (.exit 0)) (.seq (.block 1 (.seq (.ops [oS 31 (.move (.tmp 29)), oS 32 (.iaddr 1 (.tmp 27) (.tmp 29)), oS 33 (.load none (.tmp 32)), oS 11 (.move (.tmp 31)), oS 12 (.move (.tmp 33))]) (.draw d_kindR_0))) (.ops [oS 42 (.bin .add .none (.tmp 29) (.lit (.int .i64 1))), oS 29 (.move (.tmp 42))]))))))) (.seq (.ops [oS 43 (.faddr 1 (.tmp 4)), oS 44 (.load none (.tmp 43)), oS 45 (.bslice 1 [.tmp 44] false), oS 13 (.move (.tmp 45))]) (.seq (.ops [oS 46 .mkmap, oS 47 (.faddr 1 (.tmp 4)), oS 48 (.load none (.tmp 47)), oS 49 (.call (.lit (.func 52 [])) [.tmp 48]), oN (.mapup true (.tmp 46) (.tmp 49) (.lit (.int .i64 0))), oS 50 (.move (.tmp 46)), oS 14 (.move (.tmp 50))]) (.seq (.ops [oS 15 (.move (.lit (.slice .nil [])))]) (.seq (.ops [oS 16 (.move (.lit (.slice .nil [])))]) (.seq (.ops [oS 17 (.move (.lit (.bool false))), oS 18 (.move (.lit (.bool true)))]) (.seq (.seq (.ops [oS 19 (.move (.lit (.int .i64 0)))]) (.block 2 (.loop (.seq (.seq (.ops [oS 51 (.move (.tmp 19)), oS 52 (.move (.tmp 13)), oS 53 (.blen 1 (.tmp 52)), oS 54 (.bin .lss .none (.tmp 51) (.tmp 53))]) (.cond (.tmp 54) .skip (.exit 2))) (.seq (.block 3 (.seq (.draw d_kindR_1) (.seq (.ops [oS 64 (.move (.tmp 16)), oS 65 (.move (.tmp 20)), oS 66 (.bsliceC 1 [.tmp 65]), oS 67 (.bappend 1 1 (.tmp 64) (.tmp 66) false), oS 68 (.move (.tmp 15)), oS 69 (.bsliceC 1 [.lit (.slice .nil [])]), oS 70 (.bappend 1 24 (.tmp 68) (.tmp 69) true), oS 16 (.move (.tmp 67)), oS 15 (.move (.tmp 70))]) (.seq (.ghost (.ops [oS 71 (.move (.tmp 10)), oS 72 (.move (.tmp 13)), oS 73 (.move (.tmp 19)), oS 74 (.iaddr 1 (.tmp 72) (.tmp 73)), oS 75 (.load none (.tmp 74)), oS 76 (.call (.lit (.func 52 [])) [.tmp 75]), oS 77 (.lookup true (.int .i64 0) (.tmp 71) (.tmp 76) false), oS 21 (.move (.tmp 77))])) (.seq (.ops [oS 78 (.move (.tmp 17)), oS 79 (.move (.tmp 78)), oG 80 79 false (.move (.tmp 20)), oS 81 (.pick (.tmp 79) (.lit (.bool true)) (.tmp 80)), oS 82 (.move (.tmp 18)), oS 83 (.move (.tmp 82)), oG 84 83 true (.move (.tmp 20)), oG 85 83 true (.move (.tmp 84)), oG 86 85 false (.move (.tmp 21)), oG 87 85 false (.bin .gtr .none (.tmp 86) (.lit (.int .i64 0))), oG 88 83 true (.pick (.tmp 85) (.lit (.bool true)) (.tmp 87)), oS 89 (.pick (.tmp 83) (.tmp 88) (.lit (.bool false))), oS 17 (.move (.tmp 81)), oS 18 (.move (.tmp 89))]) (.seq (.seq (.ops [oS 90 (.move (.tmp 21)), oS 91 (.bin .eql .none (.tmp 90) (.lit (.int .i64 0)))]) (.cond (.tmp 91) (.exit 3) .skip)) (.seq (.draw d_kindR_2) (.block 4 (.loop (.seq (.ops [oS 105 (.bin .lss .none (.tmp 104) (.tmp 103))]) (.seq (.cond (.tmp 105) .skip (.exit 4)) (.seq (.block 5 (.seq (.ops [oS 106 (.iaddr 1 (.tmp 102) (.tmp 104)), oS 107 (.load none (.tmp 106)), oS 23 (.move (.tmp 107))]) (.seq (.ops [oS 109 (.move (.tmp 14)), oS 110 (.move (.tmp 23)), oS 111 (.call (.lit (.func 52 [])) [.tmp 110]), oS 112 (.lookup true (.int .i64 0) (.tmp 109) (.tmp 111) true), oS 108 (.move (.tmp 112)), oS 113 (.extract (.tmp 108) 0), oS 114 (.extract (.tmp 108) 1), oS 24 (.move (.tmp 113)), oS 25 (.move (.tmp 114))]) (.seq (.seq (.ops [oS 115 (.move (.tmp 25)), oS 116 (.un .not (.tmp 115))]) (.cond (.tmp 116) (.seq (.ops [oS 117 (.move (.tmp 13)), oS 118 (.blen 1 (.tmp 117)), oS 24 (.move (.tmp 118))]) (.seq (.ops [oS 119 (.move (.tmp 14)), oS 120 (.move (.tmp 23)), oS 121 (.call (.lit (.func 52 [])) [.tmp 120]), oS 122 (.move (.tmp 24)), oN (.mapup true (.tmp 119) (.tmp 121) (.tmp 122))]) (.ops [oS 123 (.move (.tmp 13)), oS 124 (.move (.tmp 23)), oS 125 (.bsliceC 1 [.tmp 124]), oS 126 (.bappend 1 24 (.tmp 123) (.tmp 125) false), oS 13 (.move (.tmp 126))]))) .skip)) (.ops [oS 127 (.move (.tmp 15)), oS 128 (.move (.tmp 19)), oS 129 (.move (.tmp 15)), oS 130 (.move (.tmp 19)), oS 131 (.iaddr 1 (.tmp 129) (.tmp 130)), oS 132 (.load none (.tmp 131)), oS 133 (.move (.tmp 24)), oS 134 (.bsliceC 1 [.tmp 133]), oS 135 (.bappend 1 8 (.tmp 132) (.tmp 134) false), oS 136 (.iaddr 1 (.tmp 127) (.tmp 128)), oN (.store 1 (.tmp 136) (.tmp 135))]))))) (.ops [oS 137 (.bin .add .none (.tmp 104) (.lit (.int .i64 1))), oS 104 (.move (.tmp 137))]))))))))))))) (.ops [oS 55 (.move (.tmp 19)), oS 56 (.bin .add .none (.tmp 55) (.lit (.int .i64 1))), oS 19 (.move (.tmp 56))])))))) (.seq (.block 6 (.seq (.ghost (.ops [oS 139 (.move (.tmp 18)), oS 140 (.move (.tmp 139)), oG 141 140 true (.move (.tmp 15)), oG 142 140 true (.move (.tmp 16)), oG 143 140 true (.call (.lit (.func 53 [])) [.tmp 141, .tmp 142, .lit (.bool true)]), oS 144 (.pick (.tmp 140) (.tmp 143) (.lit (.bool false))), oS 138 (.move (.tmp 144))])) (.cond (.tmp 138) (.seq (.ops [oS 145 (.move (.tmp 13)), oS 8 (.move (.lit (.int .i64 3))), oS 9 (.move (.tmp 145))]) .ret) (.seq (.ops [oS 147 (.move (.tmp 18)), oS 148 (.move (.tmp 147)), oG 149 148 true (.move (.tmp 15)), oG 150 148 true (.move (.tmp 16)), oG 151 148 true (.call (.lit (.func 53 [])) [.tmp 149, .tmp 150, .lit (.bool false)]), oS 152 (.pick (.tmp 148) (.tmp 151) (.lit (.bool false))), oS 146 (.move (.tmp 152))]) (.cond (.tmp 146) (.seq (.ops [oS 153 (.move (.tmp 13)), oS 8 (.move (.lit (.int .i64 2))), oS 9 (.move (.tmp 153))]) .ret) (.seq (.ops [oS 155 (.move (.tmp 17)), oS 154 (.move (.tmp 155))]) (.cond (.tmp 154) (.seq (.ops [oS 156 (.move (.tmp 13)), oS 8 (.move (.lit (.int .i64 1))), oS 9 (.move (.tmp 156))]) .ret) .skip))))))) (.seq (.ops [oS 157 (.move (.tmp 13)), oS 8 (.move (.lit (.int .i64 0))), oS 9 (.move (.tmp 157))]) .ret))))))))))
set_option maxRecDepth 20000 in
set_option maxHeartbeats 8000000 in
theorem kindR_spec (t : FTask) (g : List (List Int)) (p : List FEnt) (tok tok' tok'' : Tok) (σ : Store) (hsz : taskSize t ≤ 300) (hb : PB t) (hg : LB g) (hg3 : ∀ l ∈ g, l.length ≤ 300) (hv : validB t = true) (h7 : t.facts.length ≤ 7) (hch : choicesB t g = true) (hpol : polB t g p = true) (hp : p.length ≤ 1000000) (hps : ∀ x ∈ p, x.1.length ≤ 1000000) :
  ACalls Tryz.prog 16 [.agg (encTask t), .slice tok (g.map encL), .slice tok' ((p.map (·.1)).map encL), .slice tok'' ((p.map (·.2)).map Ahl.encI)] σ (isR (.tuple [.int .i64 (kindN t g p), .slice .unk ((ssP t g p).map encL)]) σ) := by
 refine ACalls.intro (rs := [(.tmp 8), (.tmp 9)]) (by kernel_rfl) { own := [(16, 6)], ghosts := [17, 30], cold := [(16, 2), (16, 5), (27, 2), (28, 7)] } Tryz.func16 (c := Tryz.f16.body.getD .skip) (by kernel_rfl) (by decide) (by rw [show Tryz.f16.ntmps = 158 by kernel_rfl]; exact Nat.le_of_ble_eq_true rfl) (by kernel_rfl) ?_
 intro hσ hids
 rw [show comp Tryz.prog { own := [(16, 6)], ghosts := [17, 30], cold := [(16, 2), (16, 5), (27, 2), (28, 7)] } (Tryz.f16.body.getD .skip) = c_kindR by kernel_rfl, show Tryz.f16.ntmps = 158 by kernel_rfl]
 unfold c_kindR
 have hil : Ids σ.length (.slice tok (g.map encL)) := hids _ (by simp)
 have hil1 : Ids σ.length (.slice tok' ((p.map (·.1)).map encL)) := hids _ (by simp)
 have hil2 : Ids σ.length (.slice tok'' ((p.map (·.2)).map Ahl.encI)) := hids _ (by simp)
 obtain ⟨hSB, hEO, hfl⟩ := valid_SB hb hv
 have hri := valid_init16 hv
 have hgl2 : g.length ≤ 200 := by unfold choicesB at hch; rw [Bool.and_eq_true, decide_eq_true_eq] at hch; exact hch.1
 have h2n : 2 ^ t.facts.length ≤ 128 := Nat.pow_le_pow_right (n := 2) (by omega) h7
 have hn8 : ∀ y, risingB t.facts.length (-1) y = true → y.length ≤ 8 := fun y hy => by
  rcases rising_len hy (by omega) with q | q
  ·omega
  ·rw [q]; simp
 have hdg : ∀ y, risingB t.facts.length (-1) y = true → ∀ x ∈ y, 0 ≤ x ∧ x < 10 := fun y hy => digits_of (n := t.facts.length) (by omega) hy
 have hnx := nxP_rising hEO hch hpol
 have hSl : (p.map (·.1)).length = p.length := by simp
 have hGl : (p.map (·.2)).length = p.length := by simp
 have hSg : ∀ (i : Nat) (x : FEnt), p[i]? = some x → (p.map (·.1))[i]? = some x.1 := fun i x h => by rw [List.getElem?_map, h]; rfl
 have hGg : ∀ (i : Nat) (x : FEnt), p[i]? = some x → (p.map (·.2))[i]? = some x.2 := fun i x h => by rw [List.getElem?_map, h]; rfl
 generalize p.map (·.1) = S at hil1 hSl hSg ⊢
 generalize p.map (·.2) = G at hil2 hGl hGg ⊢
 have hS0 : ∀ es : List FEnt, IdsS (σ ++ [AObj.row (encTask t), .map (es.map ofR)]).length (σ ++ [AObj.row (encTask t), .map (es.map ofR)]) := fun es => idsS_app _ hσ (all_cons' (idsO_row (ids_encTask t)) (all_cons' (ids_ofR _ _) all_nil'))
 simp only [go_sem, simprocAttr, encTask]
 refine wpc_while (fun (i : Nat) => [(1, .slice tok (g.map encL)), (3, .slice tok'' (G.map Ahl.encI)), (4, .ptr σ.length 0), (10, .map (σ.length + 1)), (27, .slice tok' (S.map encL)), (28, .int .i64 S.length), (29, .int .i64 (i : Nat))])
  (fun i => σ ++ [.row (encTask t), .map ((p.take i).map ofR)]) (fun i => i ≤ p.length) (fun i => p.length - i) 0 (Nat.zero_le _) ?_ ?_
 ·exact ghL0 (hS0 [])
 intro i hi K hK hE hR
 by_cases h : i < p.length
 ·obtain ⟨x, hx⟩ := get_ex h
  have hxS := hSg i x hx
  have hxG := hGg i x hx
  have hlt : ((i : Int) < (S.length : Int)) := by omega
  have hltG : ((i : Int) < (G.length : Int)) := by omega
  have hw1 : IntKind.i64.wrap ((i : Int) + 1) = ((i + 1 : Nat) : Int) := by rw [wrap_ok (by omega)]; omega
  obtain ⟨hr, hx0, hx1, _⟩ := entB_parts (entB_get hpol hx)
  have hxl := hn8 x.1 hr
  have hw2 : IntKind.i64.wrap (x.2 + 1) = x.2 + 1 := wrap_ok (by omega)
  have hrise := pol_rise (t := t) (g := g) (p := p) (i + 1) fun j _ z hz => entB_get hpol hz
  rw [take_succ' hx, List.pairwise_append] at hrise
  have hnew : ∀ z ∈ p.take i, z.1 ≠ x.1 := fun z hz e => by
   have := hrise.2.2 z hz x (by simp)
   rw [e, cmpInts_refl] at this; omega
  have hrz : ∀ z ∈ (p.take i).map (·.1), risingB t.facts.length (-1) z = true := fun z hz => by
   obtain ⟨u, hu, rfl⟩ := List.mem_map.1 hz
   obtain ⟨j, hj⟩ := List.getElem?_of_mem (List.mem_of_mem_take hu)
   exact (entB_parts (entB_get hpol hj)).1
  obtain ⟨fi, hfi⟩ := find_ofR x.1 (p.take i) 0 fun z hz => keyR_apart (n := t.facts.length) (by omega) hrz hr z.1 (List.mem_map.2 ⟨z, hz, rfl⟩)
  rw [polG_none hnew] at hfi
  simp only [Option.map_none] at hfi
  have e2 : (p.take i).map ofR ++ [(AV.str (keyR x.1), AV.int .i64 (x.2 + 1))] = (p.take (i + 1)).map ofR := by rw [take_succ' hx, List.map_append]; rfl
  simp only [go_sem, simprocAttr, hlt, hxS, encL]
  refine ⟨_, key02_spec x.1 .unk _ (by omega) (hdg _ hr), ?_⟩
  simp only [go_sem, simprocAttr, hltG, hxG, Ahl.encI, hw2, hfi, e2]
  refine hK _ _ (i + 1) (by omega) (by omega) ?_
  rw [hw1]
  exact ghL0 (hS0 _)
 have hlt : ¬ ((i : Int) < (S.length : Int)) := by omega
 rw [List.take_of_length_le (by omega)]
 simp only [go_sem, simprocAttr, hlt, hE, encTask]
 clear hK hE hR hlt h hi
 refine (key02_spec t.init .unk _ (by have := hn8 _ hri; omega) (hdg _ hri)).is ?_
 have hfn : aFind (AV.str (keyR t.init)) [] 0 = some none := rfl
 simp only [go_sem, simprocAttr, hfn]
 have hWd : ∀ (m : Nat) ss (gl : List Bool) (cs : List AV), σ.length + 6 ≤ m → (∀ x ∈ cs, ∀ n, Ids n x) → ∀ o ∈ ([AObj.row (encTask t), AObj.map (List.map ofR p), AObj.grow 1 (@List.length (List Int) ss), AObj.map (encWR ss), AObj.grow 1 (@List.length Bool gl), AObj.row cs]), IdsO m o := by
  intro m ss gl cs hm hcs o ho
  simp only [List.mem_cons, List.not_mem_nil, or_false] at ho
  rcases ho with rfl | rfl | rfl | rfl | rfl | rfl
  ·exact idsO_row (ids_encTask t)
  ·exact ids_ofR _ _
  ·trivial
  ·exact idsO_encWR _ _
  ·trivial
  ·exact idsO_row fun x hx => hcs x hx _
 have hWS : ∀ ss (gl : List Bool) (cs : List AV) (l : Store), (∀ x ∈ cs, ∀ n, Ids n x) → (∀ o ∈ l, IdsO (σ.length + 6 + l.length) o) → IdsS (σ ++ (([AObj.row (encTask t), AObj.map (List.map ofR p), AObj.grow 1 (@List.length (List Int) ss), AObj.map (encWR ss), AObj.grow 1 (@List.length Bool gl), AObj.row cs]) ++ l)).length (σ ++ (([AObj.row (encTask t), AObj.map (List.map ofR p), AObj.grow 1 (@List.length (List Int) ss), AObj.map (encWR ss), AObj.grow 1 (@List.length Bool gl), AObj.row cs]) ++ l)) := fun ss gl cs l hcs hl => idsS_app _ hσ fun o ho => by
  rcases List.mem_append.1 ho with ho | ho
  ·exact hWd _ ss gl cs (by simp) hcs o ho
  ·have := hl o ho
   refine cast (congrArg (fun z => IdsO z o) ?_) this
   simp; omega
 have hcsI : ∀ (l : List (List Nat)), ∀ x ∈ l.map nC1, ∀ n, Ids n x := fun l x hx n => by
  obtain ⟨y, _, rfl⟩ := List.mem_map.1 hx
  exact ids_map ids_encNt _
 have hW0 : ∀ ss (gl : List Bool) (l : List (List Nat)), IdsS (σ ++ ([AObj.row (encTask t), AObj.map (List.map ofR p), AObj.grow 1 (@List.length (List Int) ss), AObj.map (encWR ss), AObj.grow 1 (@List.length Bool gl), AObj.row (l.map nC1)])).length (σ ++ ([AObj.row (encTask t), AObj.map (List.map ofR p), AObj.grow 1 (@List.length (List Int) ss), AObj.map (encWR ss), AObj.grow 1 (@List.length Bool gl), AObj.row (l.map nC1)])) := fun ss gl l => by
  have := hWS ss gl (l.map nC1) [] (hcsI l) (by simp)
  rwa [List.append_nil] at this
 have hg1 : ∀ k (ss : List (List Int)), (gK (nxP t g p) t.init k) = ss → ∀ (s : Slots) (σ' : Store), True := fun _ _ _ _ _ => trivial
 refine wpc_while (fun (k : Nat) => [(1, .slice tok (g.map encL)), (4, .ptr σ.length 0), (10, .map (σ.length + 1)), (13, .slice (.grow (σ.length + 2)) ((gK (nxP t g p) t.init k).map encL)), (14, .map (σ.length + 3)), (15, .ref (σ.length + 5) 1 0 k), (16, .slice (.grow (σ.length + 4)) ((GLp t (gK (nxP t g p) t.init k) k).map encB)), (17, .bool (weakB t ((gK (nxP t g p) t.init k).take k))), (18, .bool (shutB t p ((gK (nxP t g p) t.init k).take k))), (19, .int .i64 (k : Nat))])
  (fun k => σ ++ [AObj.row (encTask t), AObj.map (List.map ofR p), AObj.grow 1 (@List.length (List Int) (gK (nxP t g p) t.init k)), AObj.map (encWR (gK (nxP t g p) t.init k)), AObj.grow 1 (@List.length Bool (GLp t (gK (nxP t g p) t.init k) k)), AObj.row ((nxL t g p (gK (nxP t g p) t.init k) k).map nC1)])
  (fun k => k ≤ (gK (nxP t g p) t.init k).length) (fun k => 256 - k) 0 (Nat.zero_le _) ?_ ?_
 ·refine Ghost.trans (Ghost.tok 16 1 (.inl rfl)) ?_
  refine Ghost.trans (Ghost.row0 15 1 0 (.inl rfl)) ?_
  have := hW0 [t.init] [] []
  simp only [List.length_append, List.length_cons, List.length_nil, Nat.zero_add, Nat.reduceAdd, List.append_assoc, List.cons_append, List.nil_append]
  exact ghL0 this
 intro k hk K hK hE hR
 have hrs := gK_rising hri hnx k
 have hll := gK_len hri hnx k
 by_cases h : k < (gK (nxP t g p) t.init k).length
 ·obtain ⟨s, hx⟩ := get_ex h
  have hsr := hrs s (List.mem_of_getElem? hx)
  have hs8 := hn8 s hsr
  have hlt : ((k : Int) < ((gK (nxP t g p) t.init k).length : Int)) := by omega
  have hw0 : IntKind.i64.wrap ((k : Int) + 1) = ((k + 1 : Nat) : Int) := by rw [wrap_ok (by omega)]; omega
  have hbig : bigLen (k + 1) 1 := big_ok (by omega) (by omega)
  have hbig24 : bigLen (k + 1) 24 := big_ok (by omega) (by omega)
  have hstp := gK_step hx
  have hNs := nxL_step hx
  have hGs := GLp_step (t := t) hx
  have htk : (gK (nxP t g p) t.init (k + 1)).take (k + 1) = (gK (nxP t g p) t.init k).take k ++ [s] := by
   rw [take_succ' ((gK_pre1 k).get hx), take_pre (gK_pre1 k) (by omega)]
  have hsh : shutB t p ((gK (nxP t g p) t.init (k + 1)).take (k + 1)) = (shutB t p ((gK (nxP t g p) t.init k).take k) && ((polG p s).isSome || condHolds s t.goal)) := by
   rw [htk]; unfold shutB; rw [List.all_append]; simp
  have hwe : weakB t ((gK (nxP t g p) t.init (k + 1)).take (k + 1)) = (weakB t ((gK (nxP t g p) t.init k).take k) || condHolds s t.goal) := by
   rw [htk]; unfold weakB; rw [List.any_append]; simp
  have hGl : (GLp t (gK (nxP t g p) t.init k) k).length = k := by unfold GLp; rw [List.length_map, List.length_take]; omega
  have hNl0 : (nxL t g p (gK (nxP t g p) t.init k) k).length = k := by unfold nxL; rw [List.length_map, List.length_take]; omega
  generalize shutB t p ((gK (nxP t g p) t.init k).take k) = sh0 at hsh
  generalize weakB t ((gK (nxP t g p) t.init k).take k) = we0 at hwe
  generalize GLp t (gK (nxP t g p) t.init k) k = GL0 at hGl hGs
  generalize nxL t g p (gK (nxP t g p) t.init k) k = NL0 at hNl0 hNs
  generalize hss : gK (nxP t g p) t.init k = ss at hk hrs hll h hx hlt hstp
  generalize hN : gK (nxP t g p) t.init (k + 1) = N at hstp hNs hGs hsh hwe
  have hNr := gK_rising hri hnx (k + 1)
  have hNl := gK_len hri hnx (k + 1)
  rw [hN] at hNr hNl
  have hcsl : (NL0.map nC1).length = k := by rw [List.length_map, hNl0]
  have hcs0 := hcsI NL0
  simp only [go_sem, simprocAttr, hlt, hx, encL, encTask]
  refine ⟨_, holds02_spec s t.goal .unk .unk _ (by omega) (by have := hb.tb.goal; omega), ?_⟩
  generalize hcb : condHolds s t.goal = b at hsh hwe hGs
  have hGf : List.map encB GL0 ++ [[AV.bool b]] = List.map encB (GL0 ++ [b]) := by rw [List.map_append]; rfl
  have hG1l : (GL0 ++ [b]).length = k + 1 := by simp [hGl]
  simp only [go_sem, simprocAttr, hGl, hbig, hGf, hcsl, hbig24]
  have hcsI2 : ∀ x ∈ NL0.map nC1 ++ [AV.slice .nil []], ∀ n, Ids n x := fun x hx n => by
   rcases List.mem_append.1 hx with hx | hx
   ·exact hcs0 x hx n
   ·rw [List.mem_singleton] at hx; subst hx; exact ids_nil _ (by simp)
  have hS5 : IdsS (σ ++ [AObj.row (encTask t), .map (p.map ofR), .grow 1 ss.length, .map (encWR ss), .grow 1 (k + 1)]).length (σ ++ [AObj.row (encTask t), .map (p.map ofR), .grow 1 ss.length, .map (encWR ss), .grow 1 (k + 1)]) := idsS_app _ hσ (all_cons' (idsO_row (ids_encTask t)) (all_cons' (ids_ofR _ _) (all_cons' trivial (all_cons' (idsO_encWR _ _) (all_cons' trivial all_nil')))))
  refine Gh.of (ghMoveL (l := [AObj.row (encTask t), .map (p.map ofR), .grow 1 ss.length, .map (encWR ss), .grow 1 (k + 1)]) (g := [.dead, .row (NL0.map nC1 ++ [AV.slice .nil []])])
   (s' := [(1, .slice tok (g.map encL)), (4, .ptr σ.length 0), (10, .map (σ.length + 1)), (13, .slice (.grow (σ.length + 2)) (ss.map encL)), (14, .map (σ.length + 3)), (15, .ref (σ.length + 5) 1 0 (k + 1)), (16, .slice (.grow (σ.length + 4)) ((GL0 ++ [b]).map encB)), (17, .bool we0), (18, .bool sh0), (19, .int .i64 (k : Nat)), (20, .bool b)]) 5 1 rfl rfl hS5 (idsO_row fun x hx => hcsI2 x hx _) (by (simp only [TellM, lk, Nat.reduceBEq, cond_true, cond_false, and_true]; and_intros <;> first | exact .ref _ _ _ | exact .keep (.refl _) (by first | exact ids_mapE _ | assumption | exact .int _ _ | exact .bool _ | exact .ptr _ _ (by omega) | exact .map _ (by omega) | exact ids_growE (by omega) _ | (refine ids_up ?_ (by assumption); omega))))) ?_
  have hpr : ∀ z ∈ p.map (·.1), risingB t.facts.length (-1) z = true := fun z hz => by
   obtain ⟨u, hu, rfl⟩ := List.mem_map.1 hz
   obtain ⟨j, hj⟩ := List.getElem?_of_mem hu
   exact (entB_parts (entB_get hpol hj)).1
  obtain ⟨fi, hfi⟩ := find_ofR s p 0 fun z hz => keyR_apart (n := t.facts.length) (by omega) hpr hsr z.1 (List.mem_map.2 ⟨z, hz, rfl⟩)
  simp only [List.cons_append, List.nil_append]
  rw [show AObj.grow 1 (k + 1) = AObj.grow 1 (GL0 ++ [b]).length by rw [hG1l]]
  generalize hG1 : GL0 ++ [b] = G1 at hG1l hGs
  simp only [go_sem, simprocAttr, hlt, hx, encL]
  refine (key02_spec s .unk _ (by omega) (hdg _ hsr)).is ?_
  cases hpg : polG p s with
  | none =>
   rw [hpg] at hfi hsh
   simp only [Option.map_none, Option.isSome_none, Bool.false_or] at hfi hsh
   have hNs2 : N = ss := by rw [hstp]; unfold nxP; rw [hpg]; rfl
   have hcN : (nxP t g p s).map N.idxOf = [] := by unfold nxP; rw [hpg]; rfl
   rw [hcN] at hNs
   have hcf : (nxL t g p N (k + 1)).map nC1 = NL0.map nC1 ++ [AV.slice .unk []] := by rw [hNs, List.map_append]; rfl
   cases we0 <;> cases sh0 <;> cases b
   all_goals
    simp only [go_sem, simprocAttr, hfi]
    refine hK _ _ (k + 1) (by rw [hN, hNs2]; omega) (by omega) ?_
    rw [hN, hw0, hsh, hwe, hGs, hcf, hNs2]
    refine Ghost.trans (Ghost.rewk (σ.length + 5) (xs := NL0.map nC1 ++ [AV.slice .nil []]) (ys := NL0.map nC1 ++ [AV.slice .unk []]) (by simp) ?_) ?_
    ·exact wkL_app (WkL.refl _) (WkL.one (Wk.unk _ _))
    have := hW0 ss G1 (nxL t g p N (k + 1))
    rw [hcf] at this
    simp only [g_set, List.set_cons_succ, List.set_cons_zero]
    exact ghL0 this
  | some n =>
   rw [hpg] at hfi hsh
   simp only [Option.map_some, Option.isSome_some, Bool.true_or, Bool.and_true] at hfi hsh
   obtain ⟨hn0, hn1, _, hna, _⟩ := polG_ok hpol hpg
   obtain ⟨l, hgx⟩ := get_ex hn1
   have hgrp : grp g n.toNat = l := by unfold grp; rw [List.getD_eq_getElem?_getD, hgx]; rfl
   obtain ⟨c0, c1, c2, c3⟩ := grp_ok hch hn1
   rw [hgrp] at c0 c1 c2 c3 hna
   have hll2 := hg.2 l c0
   have hNO : N = addAll ss (outsL t l s) := by rw [hstp]; unfold nxP; rw [hpg]; show addAll ss (outsL t (grp g n.toNat) s) = _; rw [hgrp]
   have hcN : (nxP t g p s).map N.idxOf = (outsL t l s).map N.idxOf := by unfold nxP; rw [hpg]; show (outsL t (grp g n.toNat) s).map N.idxOf = _; rw [hgrp]
   rw [hcN] at hNs
   have hol : (outsL t l s).length ≤ 256 := by
    have h1 : (outsL t l s).Nodup := (outs_strict t l s).imp fun {a b} q e => by subst e; exact absurd q (by unfold ltL; rw [cmpInts_refl]; omega)
    have := nodup_sub_len h1 (m := N) fun y hy => by rw [hNO]; exact mem_addAll.2 (.inr hy)
    omega
   have hor : ∀ y ∈ outsL t l s, risingB t.facts.length (-1) y = true := outs_rising hEO hsr c2
   have hpos : ((n + 1 : Int) > 0) := by omega
   have hne1 : ((n + 1 : Int) == 0) = false := by simp; omega
   have hwn : IntKind.i64.wrap (n + 1 - 1) = n := by rw [wrap_ok (by omega)]; omega
   have hos := fun σ => outs16_spec t l s .unk .unk σ hb.tb hSB hEO (by omega) (by have := hg3 l c0; omega) c2 (whens16 hsz) hsr
   simp only [encTask] at hos
   generalize outsL t l s = O at hNO hol hor hNs hos hcN
   have hcf : (nxL t g p N (k + 1)).map nC1 = NL0.map nC1 ++ [nC1 (O.map N.idxOf)] := by rw [hNs, List.map_append]; rfl
   have hklen : k < (NL0.map nC1 ++ [AV.slice .nil []]).length := by rw [List.length_append, hcsl]; simp
   have hRl : (NL0.map nC1 ++ [AV.slice .nil []]).length = k + 1 := by rw [List.length_append, hcsl]; rfl
   have hsetk : ∀ v, (NL0.map nC1 ++ [AV.slice .nil []]).set k v = NL0.map nC1 ++ [v] := fun v => by rw [List.set_append_right _ _ (by omega), hcsl, Nat.sub_self]; rfl
   have hgetk : (NL0.map nC1 ++ [AV.slice .nil []])[k]? = some (AV.slice .nil []) := by rw [List.getElem?_append_right (by omega), hcsl, Nat.sub_self]; rfl
   have hJS : ∀ ss' (ys : List Nat) j, IdsS (σ ++ ((([AObj.row (encTask t), AObj.map (List.map ofR p), AObj.grow 1 (@List.length (List Int) ss'), AObj.map (encWR ss'), AObj.grow 1 (@List.length Bool G1), AObj.row (NL0.map nC1 ++ [AV.slice (.grow (σ.length + 6)) (ys.map encNt)])])) ++ [AObj.grow 1 j])).length (σ ++ ((([AObj.row (encTask t), AObj.map (List.map ofR p), AObj.grow 1 (@List.length (List Int) ss'), AObj.map (encWR ss'), AObj.grow 1 (@List.length Bool G1), AObj.row (NL0.map nC1 ++ [AV.slice (.grow (σ.length + 6)) (ys.map encNt)])])) ++ [AObj.grow 1 j])) := by
    intro ss' ys j
    refine idsS_app _ hσ fun o ho => ?_
    simp only [List.cons_append, List.nil_append, List.mem_cons, List.not_mem_nil, or_false] at ho
    rcases ho with rfl | rfl | rfl | rfl | rfl | rfl | rfl
    ·exact idsO_row (ids_encTask t)
    ·exact ids_ofR _ _
    ·trivial
    ·exact idsO_encWR _ _
    ·trivial
    ·refine idsO_row fun x hx => ?_
     rcases List.mem_append.1 hx with hx | hx
     ·exact hcs0 x hx _
     ·rw [List.mem_singleton] at hx; subst hx; exact ids_grow_map ids_encNt (by simp)
    ·trivial
   obtain ⟨w1, hw1⟩ : ∃ w, w = (we0 || b) := ⟨_, rfl⟩
   obtain ⟨s1, hs1⟩ : ∃ w, w = sh0 := ⟨_, rfl⟩
   rw [← hw1] at hwe
   rw [← hs1] at hsh
   have hgetR : ∀ v, (NL0.map nC1 ++ [v])[k]? = some v := fun v => by rw [List.getElem?_append_right (by omega), hcsl, Nat.sub_self]; rfl
   have hsetR : ∀ v v', (NL0.map nC1 ++ [v]).set k v' = NL0.map nC1 ++ [v'] := fun v v' => by rw [List.set_append_right _ _ (by omega), hcsl, Nat.sub_self]; rfl
   have hlenR : ∀ v, (NL0.map nC1 ++ [v]).length = k + 1 := fun v => by rw [List.length_append, hcsl]; rfl
   have hkk : ((k : Int) < ((k + 1 : Nat) : Int)) := by omega
   have hk1N : k + 1 ≤ N.length := by
    have := (pre_addAll O ss).len
    rw [← hNO] at this; omega
   have hlts := hlt
   have hxs := hx
   cases we0 <;> cases sh0 <;> cases b
   all_goals
    simp only [go_sem, simprocAttr, hfi, hpos, hne1, hwn, hn0, hgx, encL, hlt, hx, encTask]
    refine ⟨_, hos _, ?_⟩
    simp only [go_sem, simprocAttr]
    refine wpc_while (fun (j : Nat) => [(1, .slice tok (g.map encL)), (4, .ptr σ.length 0), (10, .map (σ.length + 1)), (13, .slice (.grow (σ.length + 2)) ((addAll ss (O.take j)).map encL)), (14, .map (σ.length + 3)), (15, .ref (σ.length + 5) 1 0 (k + 1)), (16, .slice (.grow (σ.length + 4)) (G1.map encB)), (17, .bool w1), (18, .bool s1), (19, .int .i64 (k : Nat)), (102, .slice .unk (O.map encL)), (103, .int .i64 O.length), (104, .int .i64 (j : Nat))])
     (fun j => σ ++ ((([AObj.row (encTask t), AObj.map (List.map ofR p), AObj.grow 1 (@List.length (List Int) (addAll ss (O.take j))), AObj.map (encWR (addAll ss (O.take j))), AObj.grow 1 (@List.length Bool G1), AObj.row (NL0.map nC1 ++ [.slice (.grow (σ.length + 6)) (((O.take j).map N.idxOf).map encNt)])])) ++ [.grow 1 j])) (fun j => j ≤ O.length) (fun j => O.length - j) 0 (Nat.zero_le _) ?_ ?_
    ·refine Ghost.trans (Ghost.tokRow (σ.length + 5) k 1 (cells := NL0.map nC1 ++ [.slice .nil []]) (by simp) (hgetR _)) ?_
     simp only [List.length_append, List.length_cons, List.length_nil, Nat.zero_add, Nat.reduceAdd, List.append_assoc, List.cons_append, List.nil_append, g_set, List.set_cons_succ, List.set_cons_zero, hsetR]
     rw [hw1, hs1]
     exact ghL0 (hJS ss [] 0)
    intro j hj K3 hK3 hE3 hR3
    by_cases h3 : j < O.length
    ·obtain ⟨x, hx⟩ := get_ex h3
     have hlt : ((j : Int) < (O.length : Int)) := by omega
     have hw2 : IntKind.i64.wrap ((j : Int) + 1) = ((j + 1 : Nat) : Int) := by rw [wrap_ok (by omega)]; omega
     have hbig2 : bigLen (j + 1) 8 := big_ok (by omega) (by omega)
     have hxr := hor x (List.mem_of_getElem? hx)
     have hxl := hn8 x hxr
     have hpj : Pre (addAll ss (O.take j)) N := by rw [hNO]; exact pre_take ss O j
     have hpj1 : Pre (addAll ss (O.take (j + 1))) N := by rw [hNO]; exact pre_take ss O (j + 1)
     have hat := addAll_take hx ss
     generalize addAll ss (O.take j) = cur at hpj hat
     rw [hat] at hpj1
     have hjl := hpj.len
     have hidx : (addS cur x).idxOf x = N.idxOf x := (hpj1.idx (mem_addS.2 (.inr rfl))).symm
     have hlj : (((O.take j).map N.idxOf).map encNt).length = j := by simp; omega
     have hfj : ((O.take j).map N.idxOf).map encNt ++ [[AV.int .i64 ((N.idxOf x : Nat) : Int)]] = ((O.take (j + 1)).map N.idxOf).map encNt := by
      rw [take_succ' hx, List.map_append, List.map_append]; rfl
     have hfind := find_keyR x cur 0 0 (keyR_apart (n := t.facts.length) (by omega) (fun y hy => hNr y (hpj.mem hy)) hxr)
     simp only [Nat.zero_add] at hfind
     have hfind : aFind (.str (keyR x)) (encWR cur) 0 = _ := hfind
     simp only [go_sem, simprocAttr, hlt, hx, encL]
     refine (key02_spec x .unk _ (by omega) (hdg x hxr)).is ?_
     by_cases hm : x ∈ cur
     ·rw [if_pos hm] at hfind
      rw [addS_in hm] at hidx hat hpj1
      rw [hidx] at hfind
      simp only [go_sem, simprocAttr, hfind, hgetR, hsetR, hlenR, hkk, hlj, hbig2, hfj, hw2]
      refine ⟨by omega, by omega, ?_⟩
      refine hK3 _ _ (j + 1) (by omega) (by omega) ?_
      rw [hat]
      exact ghL0 (hJS _ _ _)
     ·rw [if_neg hm] at hfind
      rw [addS_out hm] at hidx hat hpj1
      rw [pos_new hm] at hidx
      have hcl : cur.length + 1 ≤ N.length := by simpa using hpj1.len
      have hbc : bigLen (cur.length + 1) 24 := big_ok (by omega) (by omega)
      have hmf : encWR cur ++ [(AV.str (keyR x), AV.int .i64 (cur.length : Nat))] = encWR (cur ++ [x]) := (encWR_snoc cur x).symm
      have hcf2 : cur.map encL ++ [[AV.slice .unk (x.map Ahl.encI)]] = (cur ++ [x]).map encL := by rw [List.map_append]; rfl
      have hcl2 : (cur ++ [x]).length = cur.length + 1 := by simp
      rw [← hidx] at hfj
      simp only [go_sem, simprocAttr, hfind]
      refine (key02_spec x .unk _ (by omega) (hdg x hxr)).is ?_
      simp only [go_sem, simprocAttr, hfind, hmf, hcf2, hbc, hgetR, hsetR, hlenR, hkk, hlj, hbig2, hfj, hw2]
      refine ⟨by omega, by omega, ?_⟩
      refine hK3 _ _ (j + 1) (by omega) (by omega) ?_
      rw [hat]
      have := hJS (cur ++ [x]) ((O.take (j + 1)).map N.idxOf) (j + 1)
      rw [hcl2] at this ⊢
      exact ghL0 this
    ·have hlt : ¬ ((j : Int) < (O.length : Int)) := by omega
     rw [List.take_of_length_le (by omega), ← hNO]
     simp only [go_sem, simprocAttr, hlt, hE3]
     refine hK _ _ (k + 1) (by rw [hN]; exact hk1N) (by omega) ?_
     rw [hN, hw0, hsh, hwe, hGs, hcf]
     refine Ghost.trans (Ghost.rewk (σ.length + 5) (xs := NL0.map nC1 ++ [AV.slice (.grow (σ.length + 6)) ((O.map N.idxOf).map encNt)]) (ys := NL0.map nC1 ++ [nC1 (O.map N.idxOf)]) (by simp) (wkL_app (WkL.refl _) (WkL.one (Wk.unk _ _)))) ?_
     have := hW0 N G1 (nxL t g p N (k + 1))
     rw [hcf] at this
     simp only [g_set, List.cons_append, List.nil_append, List.set_cons_succ, List.set_cons_zero]
     refine Ghost.keepL (g := [AObj.grow 1 j]) (k := 6) (([AObj.row (encTask t), AObj.map (List.map ofR p), AObj.grow 1 (@List.length (List Int) N), AObj.map (encWR N), AObj.grow 1 (@List.length Bool G1), AObj.row (NL0.map nC1 ++ [nC1 (O.map N.idxOf)])])) rfl (Nat.le_refl _) ?_ this
     exact tellT
 have hlt : ¬ ((k : Int) < ((gK (nxP t g p) t.init k).length : Int)) := by omega
 have hke : k = (gK (nxP t g p) t.init k).length := by omega
 have hsF : ssP t g p = gK (nxP t g p) t.init k := by
  have := gK_stop (nx := nxP t g p) (s0 := t.init) (k := k) (by omega) (2 ^ t.facts.length - k)
  rwa [show k + (2 ^ t.facts.length - k) = 2 ^ t.facts.length by omega] at this
 have hnA : nxL t g p (gK (nxP t g p) t.init k) k = nxA t g p := by
  unfold nxL nxA; rw [List.take_of_length_le (by omega), ← hsF]
 have hgA : GLp t (gK (nxP t g p) t.init k) k = (wldP t g p).gl := by
  unfold GLp wldP; rw [List.take_of_length_le (by omega), ← hsF]
 rw [hnA, hgA, List.take_of_length_le (by omega), ← hsF]
 rw [← hsF] at hke hlt
 simp only [go_sem, simprocAttr, hlt, hE]
 clear hK hE hR hk hrs hll h hlt
 have hr := rwP_ok hEO hch hpol hri (by omega) (by omega)
 have hAl : (nxA t g p).length = k := by unfold nxA; rw [List.length_map]; exact hke.symm
 have hgl : (wldP t g p).gl.length = k := by unfold wldP; rw [List.length_map]; exact hke.symm
 have hk128 : k ≤ 128 := by
  have := gK_len hri hnx (2 ^ t.facts.length)
  rw [hke]; unfold ssP; omega
 have hAo : ∀ l ∈ nxA t g p, l.length ≤ 1000000 ∧ ∀ x ∈ l, x < (wldP t g p).gl.length := fun l hl => by
  obtain ⟨s, hs, rfl⟩ := List.mem_map.1 hl
  obtain ⟨i, hi⟩ := List.getElem?_of_mem hs
  by_cases hq : (nxP t g p s).map (ssP t g p).idxOf = []
  ·rw [hq]; simp
  ·have hm : some ((nxP t g p s).map (ssP t g p).idxOf) ∈ (rwP t g p).nx.getD i [] := by
    rw [rwP_row hi]
    unfold rowP nxP
    unfold nxP at hq
    cases hq2 : polG p s with
    | none => rw [hq2] at hq; exact absurd rfl hq
    | some n => simp
   have hrow : (rwP t g p).nx.getD i [] ∈ (rwP t g p).nx := by
    have hil := lt_of_get hi
    rw [List.getD_eq_getElem?_getD, List.getElem?_eq_getElem (by rw [hr.nx]; exact hil)]; exact List.getElem_mem _
   obtain ⟨e1, _, e3⟩ := hr.ent hrow hm
   refine ⟨e1, fun x hx => ?_⟩
   have : x < (ssP t g p).length := e3 x hx
   omega
 have hkn : kindN t g p = kindOf (wldP t g p) (shutB t p (ssP t g p)) (weakB t (ssP t g p)) := rfl
 refine Gh.of (Ghost.freeze 15 ((nxA t g p).map encNe) (id := σ.length + 5) (sz := 1) (off := 0) (len := k) (cells := (nxA t g p).map nC1) rfl (by simp) (by simp [hAl]) ?_) ?_
 ·intro i e he
  rw [List.getElem?_map] at he
  obtain ⟨o, ho, rfl⟩ := Option.map_eq_some_iff.1 he
  refine ⟨rfl, fun j hj => ?_⟩
  have : j = 0 := by omega
  subst this
  rw [List.getElem?_map, show 0 + (i * 1 + 0) = i by omega, ho]; rfl
 have hs1 := fun M (hM : LfpR (wldP t g p).gl.length (fun i => (wldP t g p).gl.getD i false) (ruleS (nxA t g p) true) M) => sure_all (t := t) (g := g) (p := p) hr (M := M) (by rw [← hke, ← hgl]; exact hM)
 have hs2 := fun M (hM : LfpR (wldP t g p).gl.length (fun i => (wldP t g p).gl.getD i false) (ruleS (nxA t g p) false) M) => sure_some (t := t) (g := g) (p := p) hr (M := M) (by rw [← hke, ← hgl]; exact hM)
 have hsu := fun all tk σ => sure_spec (nxA t g p) (wldP t g p).gl all .unk tk σ (by omega) (by omega) hAo
 unfold kindOf at hkn
 generalize shutB t p (ssP t g p) = sh at hkn ⊢
 generalize weakB t (ssP t g p) = we at hkn ⊢
 have hlen2 : (ssP t g p).length = (wldP t g p).gl.length := by omega
 rw [hlen2] at hs1 hs2
 generalize (dIter (wldP t g p) (wldP t g p).ss.length).contains (-1) = cD at hkn hs1
 generalize badB (wldP t g p) = cB at hkn hs2
 cases sh
 ·have hkn : kindN t g p = if we then 1 else 0 := hkn
  cases we
  ·simp only [go_sem, simprocAttr]
   exact rT (.int .i64 0) (.slice .unk ((ssP t g p).map encL)) ⟨by rw [hkn]; rfl, rfl⟩
  ·simp only [go_sem, simprocAttr]
   exact rT (.int .i64 1) (.slice .unk ((ssP t g p).map encL)) ⟨by rw [hkn]; rfl, rfl⟩
 ·simp only [go_sem, simprocAttr]
  refine (hsu true _ _).mono ?_
  rintro _ _ ⟨rfl, M1, hM1, rfl⟩
  rw [hs1 M1 hM1]
  cases cD
  ·have hkn : kindN t g p = 3 := hkn
   simp only [go_sem, simprocAttr]
   exact rT (.int .i64 3) (.slice .unk ((ssP t g p).map encL)) ⟨by rw [hkn], rfl⟩
  ·simp only [go_sem, simprocAttr]
   refine (hsu false _ _).mono ?_
   rintro _ _ ⟨rfl, M2, hM2, rfl⟩
   rw [hs2 M2 hM2]
   cases cB
   ·have hkn : kindN t g p = 2 := hkn
    simp only [go_sem, simprocAttr]
    exact rT (.int .i64 2) (.slice .unk ((ssP t g p).map encL)) ⟨by rw [hkn], rfl⟩
   ·have hkn : kindN t g p = if we then 1 else 0 := hkn
    cases we
    ·simp only [go_sem, simprocAttr]
     exact rT (.int .i64 0) (.slice .unk ((ssP t g p).map encL)) ⟨by rw [hkn]; rfl, rfl⟩
    ·simp only [go_sem, simprocAttr]
     exact rT (.int .i64 1) (.slice .unk ((ssP t g p).map encL)) ⟨by rw [hkn]; rfl, rfl⟩
end Go.Proofs.YtjmmldkailblmaaGreat
namespace Go.Proofs.YtjmmldkailblmaaGreat
open Go.Ahl Go.ChangeShapes Go.WideShapes Go.ChangeAt Go.RowKit
theorem rd_ent : Reads Tryz.prog 68 encEn (fun e => e.1.length ≤ 140737488355328) :=
 (Reads.struct Tryz.underlying68 (by kernel_rfl) (ReadsFs.cons (by rfl) rd_ints (.cons (by kernel_rfl) rd_int (.nil _)))).conv (fun x => (x.1, x.2.1)) (fun x => rfl) (fun x h => h.1.1)
theorem rd_ents : Reads Tryz.prog 29 (Ahl.encS encEn) (okL fun e => e.1.length ≤ 140737488355328) := .slice Tryz.underlying29 (Nat.le_of_ble_eq_true (by kernel_rfl)) (Nat.le_of_ble_eq_true (by kernel_rfl)) rd_ent
theorem ra_ents : RArg Tryz.prog 29 (fun l : List FEnt => .slice .unk (l.map encEn)) (okL fun e => e.1.length ≤ 140737488355328) := .one rd_ents (by intro d h; rw [Tryz.underlying29] at h; injection h with h; subst h; rfl)
def c_law : CCode := .seq (.ops [oS 3 (.box (.tmp 0)), oS 6 (.move (.lit (.bool false)))]) (.seq (.seq (.ops [oS 13 (.load (some 4) (.tmp 3)), oS 14 (.move (.tmp 1)), oS 15 (.call (.lit (.func 8 [])) [.tmp 13, .tmp 14]), oS 16 (.un .not (.tmp 15)), oS 17 (.move (.tmp 16)), oG 18 17 false (.move (.tmp 2)), oG 19 17 false (.call (.lit (.func 9 [])) [.tmp 18]), oG 20 17 false (.un .not (.tmp 19)), oS 21 (.pick (.tmp 17) (.lit (.bool true)) (.tmp 20))]) (.cond (.tmp 21) (.seq (.ops [oS 22 (.call (.lit (.func 10 [])) []), oS 6 (.move (.tmp 22))]) .ret) .skip)) (.seq (.ops [oS 24 (.load (some 4) (.tmp 3)), oS 25 (.move (.tmp 1)), oS 26 (.move (.tmp 2)), oS 27 (.call (.lit (.func 11 [])) [.tmp 24, .tmp 25, .tmp 26]), oS 23 (.move (.tmp 27)), oS 28 (.extract (.tmp 23) 0), oS 29 (.extract (.tmp 23) 1), oS 7 (.move (.tmp 28)), oS 8 (.move (.tmp 29))]) (.seq (.ops [oS 9 (.move (.lit (.int .i64 10)))]) (.seq (.seq (.ops [oS 30 (.load (some 4) (.tmp 3)), oS 31 (.call (.lit (.func 12 [])) [.tmp 30])]) (.cond (.tmp 31) (.ops [oS 32 (.load (some 4) (.tmp 3)), oS 33 (.move (.tmp 1)), oS 34 (.faddr 1 (.tmp 3)), oS 35 (.load none (.tmp 34)), oS 36 (.call (.lit (.func 13 [])) [.tmp 32, .tmp 33, .tmp 35]), oS 9 (.move (.tmp 36))]) .skip)) (.seq (.ops [oS 38 (.move (.tmp 2)), oS 39 (.call (.lit (.func 14 [])) [.tmp 38]), oS 37 (.move (.tmp 39)), oS 40 (.extract (.tmp 37) 0), oS 41 (.extract (.tmp 37) 1), oS 10 (.move (.tmp 40)), oS 11 (.move (.tmp 41))]) (.seq (.seq (.ops [oS 42 (.move (.tmp 9)), oS 43 (.bin .eql .none (.tmp 42) (.lit (.int .i64 0))), oS 44 (.move (.tmp 43)), oG 45 44 true (.load (some 4) (.tmp 3)), oG 46 44 true (.move (.tmp 1)), oG 47 44 true (.move (.tmp 10)), oG 48 44 true (.move (.tmp 11)), oG 49 44 true (.call (.lit (.func 15 [])) [.tmp 45, .tmp 46, .tmp 47, .tmp 48]), oG 50 44 true (.un .not (.tmp 49)), oS 51 (.pick (.tmp 44) (.tmp 50) (.lit (.bool false)))]) (.cond (.tmp 51) (.ops [oS 9 (.move (.lit (.int .i64 161)))]) .skip)) (.seq (.ops [oS 12 (.move (.lit (.int .i64 0)))]) (.seq (.seq (.ops [oS 52 (.move (.tmp 9)), oS 53 (.bin .eql .none (.tmp 52) (.lit (.int .i64 0)))]) (.cond (.tmp 53) (.ops [oS 55 (.load (some 4) (.tmp 3)), oS 56 (.move (.tmp 1)), oS 57 (.move (.tmp 10)), oS 58 (.move (.tmp 11)), oS 59 (.call (.lit (.func 16 [])) [.tmp 55, .tmp 56, .tmp 57, .tmp 58]), oS 54 (.move (.tmp 59)), oS 60 (.extract (.tmp 54) 0), oS 61 (.extract (.tmp 54) 1), oS 12 (.move (.tmp 60))]) .skip)) (.seq (.ops [oS 62 (.move (.tmp 8)), oS 63 (.move (.tmp 9)), oS 64 (.bin .eql .none (.tmp 62) (.tmp 63)), oS 65 (.move (.tmp 64)), oG 66 65 true (.move (.tmp 7)), oG 67 65 true (.move (.tmp 12)), oG 68 65 true (.bin .eql .none (.tmp 66) (.tmp 67)), oS 69 (.pick (.tmp 65) (.tmp 68) (.lit (.bool false))), oS 70 (.move (.tmp 69)), oG 71 70 true (.call (.lit (.func 10 [])) []), oS 72 (.pick (.tmp 70) (.tmp 71) (.lit (.bool false))), oS 6 (.move (.tmp 72))]) .ret)))))))))
set_option maxRecDepth 20000 in
set_option maxHeartbeats 4000000 in
theorem law_spec (t : FTask) (g : List (List Int)) (p : List FEnt) (ht : TB t) (hg : okL (okL okI) g) (hp : okL (fun e : FEnt => e.1.length ≤ 140737488355328) p) (σ : Store) :
  ACalls Tryz.prog 3 [.agg (encTask t), .slice .unk (g.map encL), .slice .unk (p.map encEn)] σ (isR (.bool true) σ) := by
 refine ACalls.intro (rs := [(.tmp 6)]) (by kernel_rfl) { own := [], ghosts := [] } Tryz.func3 (c := Tryz.f3.body.getD .skip) (by kernel_rfl) (by decide) (by rw [show Tryz.f3.ntmps = 73 by kernel_rfl]; exact Nat.le_of_ble_eq_true rfl) (by kernel_rfl) ?_
 intro hσ hids
 rw [show comp Tryz.prog { own := [], ghosts := [] } (Tryz.f3.body.getD .skip) = c_law by kernel_rfl, show Tryz.f3.ntmps = 73 by kernel_rfl]
 unfold c_law
 have hEB : EB p := hp
 simp only [go_sem, simprocAttr, encTask]
 refine ACalls.is (few16_spec t g _ _ ht ⟨hg.1, fun l hl => (hg.2 l hl).1⟩) ?_
 cases hfew : few16B t g
 ·simp only [go_sem, simprocAttr]
  refine (awake16_spec _).is ?_
  simp only [go_sem, simprocAttr]
  exact rt (.bool true) ⟨rfl, rfl⟩
 obtain ⟨hsz, hgz, h7⟩ := few16_facts hfew
 have hLB := few16_LB hgz
 have hPB := few16_PB ht hsz
 have h8 : validB t = true → t.facts.length ≤ 8 := fun hv => by have := h7 hv; omega
 simp only [go_sem, simprocAttr]
 refine (fewEn_spec p .unk _ hEB).is ?_
 cases hfe : fewEB p
 ·simp only [go_sem, simprocAttr]
  refine (awake16_spec _).is ?_
  simp only [go_sem, simprocAttr]
  exact rt (.bool true) ⟨rfl, rfl⟩
 unfold fewEB at hfe
 simp only [Bool.and_eq_true, decide_eq_true_eq, List.all_eq_true] at hfe
 obtain ⟨hpl, hps⟩ := hfe
 have hpl6 : p.length ≤ 1000000 := by omega
 have hps6 : ∀ x ∈ p, x.1.length ≤ 1000000 := fun x hx => by have := hps x hx; omega
 have hki := fun σ => pKind_spec t g p .unk .unk σ hPB hLB h8 hpl6 (fun x hx => by have := hps x hx; omega)
 have hfa := fun σ => fault16_spec t g t.init .unk .unk σ ht hLB (by have := ht.init; omega)
 simp only [encTask] at hki hfa
 simp only [go_sem, simprocAttr, encTask]
 refine (hki _).is ?_
 have hkr : ∃ a b, KindR t g p = .tuple [.int .i64 a, .int .i64 b] ∧ ((askE t g ≠ 0 ∧ a = 0 ∧ b = askE t g) ∨ (askE t g = 0 ∧ polB t g p = false ∧ a = 0 ∧ b = 161) ∨ (askE t g = 0 ∧ polB t g p = true ∧ a = kindN t g p ∧ b = 0)) := by
  unfold KindR
  by_cases h1 : askE t g = 0
  ·rw [if_pos h1]
   cases h2 : polB t g p
   ·exact ⟨_, _, rfl, .inr (.inl ⟨h1, rfl, rfl, rfl⟩)⟩
   ·exact ⟨_, _, rfl, .inr (.inr ⟨h1, rfl, rfl, rfl⟩)⟩
  ·rw [if_neg h1]; exact ⟨_, _, rfl, .inl ⟨h1, rfl, rfl⟩⟩
 obtain ⟨ka, kb, hkr, hkc⟩ := hkr
 rw [hkr]
 simp only [go_sem, simprocAttr, encTask]
 refine (is01_spec t _ ht).is ?_
 have z00 : ((0 : Int) == 0) = true := rfl
 cases hv : validB t
 ·have hak : askE t g = 10 := by unfold askE; rw [hv]; rfl
  have e10 : ((10 : Int) == 10) = true := rfl
  have n10 : ((10 : Int) == 0) = false := rfl
  rcases hkc with ⟨_, rfl, rfl⟩ | ⟨h1, _⟩ | ⟨h1, _⟩
  ·rw [hak]
   simp only [go_sem, simprocAttr]
   refine (parts16_spec p .unk _ hEB hpl6).is ?_
   simp only [go_sem, simprocAttr, e10, n10, z00]
   refine (awake16_spec _).is ?_
   simp only [go_sem, simprocAttr]
   exact rt (.bool true) ⟨rfl, rfl⟩
  ·omega
  ·omega
 have hgi := give_init g hv
 simp only [go_sem, simprocAttr, encTask]
 refine (hfa _).is ?_
 rw [hgi]
 simp only [go_sem, simprocAttr]
 refine (parts16_spec p .unk _ hEB hpl6).is ?_
 rcases hkc with ⟨h1, rfl, rfl⟩ | ⟨h1, h2, rfl, rfl⟩ | ⟨h1, h2, rfl, rfl⟩
 ·have e1 : (askE t g == 0) = false := by simpa using h1
  simp only [go_sem, simprocAttr, e1, z00, beq_self_eq_true]
  refine (awake16_spec _).is ?_
  simp only [go_sem, simprocAttr]
  exact rt (.bool true) ⟨rfl, rfl⟩
 all_goals
  obtain ⟨-, hch⟩ := askE_zero h1
  have hpo := fun σ => polR_spec t g p .unk .unk .unk σ ht hLB hch hpl6 hps6
  simp only [encTask] at hpo
  rw [h1]
  simp only [go_sem, simprocAttr, z00, encTask]
  refine (hpo _).is ?_
  rw [h2]
 ·have e61 : ((161 : Int) == 161) = true := rfl
  have n61 : ((161 : Int) == 0) = false := rfl
  simp only [go_sem, simprocAttr, z00, e61, n61]
  refine (awake16_spec _).is ?_
  simp only [go_sem, simprocAttr]
  exact rt (.bool true) ⟨rfl, rfl⟩
 ·have hkR := fun σ => kindR_spec t g p .unk .unk .unk σ hsz hPB hLB hgz.2 hv (h7 hv) hch h2 hpl6 hps6
  simp only [encTask] at hkR
  simp only [go_sem, simprocAttr, z00, encTask]
  refine (hkR _).is ?_
  simp only [go_sem, simprocAttr, z00, beq_self_eq_true]
  refine (awake16_spec _).is ?_
  simp only [go_sem, simprocAttr]
  exact rt (.bool true) ⟨rfl, rfl⟩
theorem law_reads : ReadsAll Tryz.prog Tryz.f3.params.toList (fun avs => ACalls Tryz.prog 3 avs [] (isR (.bool true) [])) := by
 rw [show Tryz.f3.params.toList = [27, 28, 29] by kernel_rfl]
 exact .cons ra_task fun t ht => .cons ra_intss fun g hg => .cons ra_ents fun p hp => .nil (law_spec t g p ht hg hp [])
set_option maxRecDepth 100000 in
theorem lifted (os : Os) (started : os.Started) (H : Type) (enc : TypeId × Value → H) :
  ReturnsInHanded {} Tryz.checked os 3 .any (Rows.policyKindsSpec.pre6 enc Tryz.prog Tryz.f3 Rows.policyKindsRow.domain false) (Rows.policyKindsSpec.post enc Tryz.prog Tryz.f3 false true false false) := by
 refine returnsInHanded_of_change_sized (C := Tryz.checked) own started (by kernel_rfl) Tryz.func3
  (ChangeSpec.witness6 (enc := enc) (C := Tryz.checked) false ⟨#[], #[.agg #[.slice none 0 0, .slice none 0 0, .slice none 0 0, .slice none 0 0], .slice none 0 0, .slice none 0 0], []⟩ 8 (by kernel_rfl) (by kernel_rfl) (by kernel_rfl) (by kernel_rfl)) ?_
 intro W base args ds gs before hval hW _ hsz _
 refine law_post (P := Tryz.prog) Tryz.func3 (by kernel_rfl) (by decide) rfl ?_ laidOut (rdble (by kernel_rfl)) (by kernel_rfl) Tryz.underlying4 law_reads hval hW hsz
 intro ds h
 rw [show Tryz.f3.params.size = 3 by kernel_rfl] at h
 match ds, h with
 | [a, b, c], _ => rfl
theorem holds : Rows.PolicyKindsSaid :=
 OpenClaim.holds_of_wide 3 Tryz.f3 rfl rfl rfl rfl rfl rfl rfl ⟨rfl, rfl, rfl, rfl, rfl⟩ rfl rfl rfl rfl rfl (by kernel_rfl) Tryz.func3 (by kernel_rfl)
  (of_decide_eq_true (by kernel_rfl)) (by unfold Func.isWrapper; first | (rw [if_pos (by decide +kernel)]; kernel_rfl) | (rw [if_neg (by decide +kernel)]; exact ⟨rfl, rfl⟩))
  (fun os started H enc _ => lifted os started H enc)
end Go.Proofs.YtjmmldkailblmaaGreat
