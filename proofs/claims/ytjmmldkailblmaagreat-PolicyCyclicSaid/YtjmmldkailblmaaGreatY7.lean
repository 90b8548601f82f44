/- For any task and groups, the law PolicyCyclic answers true. -/
import Derived.Test.YtjmmldkailblmaaGreatBase6
set_option maxRecDepth 20000
set_option linter.unusedVariables false
set_option linter.unusedSimpArgs false
namespace Go.Proofs.YtjmmldkailblmaaGreat
open Go.Ahl
def nxO (t : FTask) (g ss : List (List Int)) (s : List Int) (i : Nat) : List (Option (List Nat)) :=
 (List.range i).map fun j => if appB t (grp g j) s then some ((outsL t (grp g j) s).map ss.idxOf) else none
def chFrom : Nat → List (Option (List Nat)) → List (Nat × List Nat)
 | _, [] => []
 | k, some l :: r => (k, l) :: chFrom (k + 1) r
 | k, none :: r => chFrom (k + 1) r
theorem chFrom_app : ∀ (k : Nat) (a b : List (Option (List Nat))), chFrom k (a ++ b) = chFrom k a ++ chFrom (k + a.length) b
 | k, [], b => by simp [chFrom]
 | k, some l :: a, b => by
  rw [List.cons_append, chFrom, chFrom, chFrom_app (k + 1) a b, List.cons_append, List.length_cons, show k + 1 + a.length = k + (a.length + 1) by omega]
 | k, none :: a, b => by
  rw [List.cons_append, chFrom, chFrom, chFrom_app (k + 1) a b, List.length_cons, show k + 1 + a.length = k + (a.length + 1) by omega]
theorem nxO_len (t : FTask) (g ss : List (List Int)) (s : List Int) (i : Nat) : (nxO t g ss s i).length = i := by simp [nxO]
theorem nxO_succ (t : FTask) (g ss : List (List Int)) (s : List Int) (i : Nat) : nxO t g ss s (i + 1) = nxO t g ss s i ++ [if appB t (grp g i) s then some ((outsL t (grp g i) s).map ss.idxOf) else none] := by
 unfold nxO; rw [List.range_succ, List.map_append]; rfl
theorem chFrom_nxO (t : FTask) (g ss : List (List Int)) (s : List Int) : ∀ i, chFrom 0 (nxO t g ss s i) = chG t g s ss i
 | 0 => rfl
 | i + 1 => by
  rw [chG_succ, nxO_succ, chFrom_app, chFrom_nxO t g ss s i, nxO_len, Nat.zero_add]
  congr 1
  split <;> rfl
def pO (p : List Nat → Bool) : Option (List Nat) → Bool
 | some l => p l
 | none => false
theorem any_ch (p : List Nat → Bool) : ∀ (k : Nat) (r : List (Option (List Nat))), (chFrom k r).any (fun c => p c.2) = r.any (pO p)
 | _, [] => rfl
 | k, some l :: r => by rw [chFrom, List.any_cons, List.any_cons, any_ch p (k + 1) r]; rfl
 | k, none :: r => by rw [chFrom, List.any_cons, any_ch p (k + 1) r]; simp [pO]
structure RW where
 ss : List (List Int)
 nx : List (List (Option (List Nat)))
 gl : List Bool
def RW.w (r : RW) : Wld := ⟨r.ss, r.nx.map (chFrom 0), r.gl⟩
def rwF (t : FTask) (g : List (List Int)) (s0 : List Int) : RW :=
 ⟨ssF t g s0, (ssF t g s0).map fun s => nxO t g (ssF t g s0) s g.length, (ssF t g s0).map fun s => condHolds s t.goal⟩
theorem rwF_w (t : FTask) (g : List (List Int)) (s0 : List Int) : (rwF t g s0).w = wldF t g s0 := by
 unfold RW.w rwF wldF
 simp only [List.map_map]
 congr 1
 refine List.map_congr_left fun s _ => ?_
 exact chFrom_nxO _ _ _ _ _
theorem rw_ch (r : RW) (i : Nat) : (r.w.ch.getD i []) = chFrom 0 (r.nx.getD i []) := by
 show ((r.nx.map (chFrom 0)).getD i []) = _
 rw [List.getD_eq_getElem?_getD, List.getD_eq_getElem?_getD, List.getElem?_map]
 cases r.nx[i]? <;> rfl
def dF (w : Wld) (k i : Nat) : Int := (dIter w k).getD i 0
theorem lst_of {α : Type} {l : List α} {n : Nat} (d : α) (h : l.length = n) : l = lst n fun i => l.getD i d := by
 refine List.ext_getElem? fun i => ?_
 rcases Nat.lt_or_ge i n with hi | hi
 ·obtain ⟨x, hx⟩ := get_ex (show i < l.length by omega)
  rw [lst_get _ hi, hx, List.getD_eq_getElem?_getD, hx]; rfl
 ·rw [List.getElem?_eq_none (by omega), List.getElem?_eq_none (by rw [lst_len]; exact hi)]
theorem dIter_lst {w : Wld} (hw : WOk w) (k : Nat) : dIter w k = lst w.ss.length (dF w k) := lst_of 0 (dIter_len w hw k)
theorem dF_succ {w : Wld} (hw : WOk w) (k : Nat) {i : Nat} (hi : i < w.ss.length) : dF w (k + 1) i = if nowB w (dIter w k) i then ((k + 1 : Nat) : Int) else dF w k i := by
 show (setL (dIter w k) (nowL w (dIter w k)) ((k + 1 : Nat) : Int)).getD i 0 = _
 rw [get_setL, dIter_len w hw]
 by_cases h : nowB w (dIter w k) i = true
 ·rw [if_pos ⟨nowL_mem.2 ⟨hi, h⟩, hi⟩, if_pos h]
 ·rw [if_neg (fun q => h (nowL_mem.1 q.1).2), if_neg h]; rfl
theorem dF_zero {w : Wld} (hw : WOk w) {i : Nat} (hi : i < w.ss.length) : dF w 0 i = if goalB w i then 0 else -1 := by
 unfold dF goalB
 show (far0 w).getD i 0 = _
 unfold far0
 obtain ⟨b, hb⟩ := get_ex (show i < w.gl.length by rw [hw.gl]; exact hi)
 rw [List.getD_eq_getElem?_getD, List.getD_eq_getElem?_getD, List.getElem?_map, hb]
 rfl
theorem dF_range {w : Wld} (hw : WOk w) {i : Nat} (hi : i < w.ss.length) : ∀ k, dF w k i = -1 ∨ (0 ≤ dF w k i ∧ dF w k i ≤ (k : Nat))
 | 0 => by rw [dF_zero hw hi]; split <;> simp
 | k + 1 => by
  rw [dF_succ hw k hi]
  split
  ·right; omega
  ·rcases dF_range hw hi k with h | h
   ·exact .inl h
   ·right; omega
theorem dF_goal {w : Wld} (hw : WOk w) {i : Nat} (hi : i < w.ss.length) : ∀ k, dF w k i = 0 ↔ goalB w i = true
 | 0 => by rw [dF_zero hw hi]; cases goalB w i <;> simp
 | k + 1 => by
  rw [dF_succ hw k hi]
  split
  ·rename_i h
   have h1 : ¬ dF w k i = 0 := by
    unfold nowB negB at h
    rw [Bool.and_eq_true, decide_eq_true_eq] at h
    have := h.1
    unfold dF; omega
   rw [dF_goal hw hi k] at h1
   constructor
   ·intro q; omega
   ·intro q; exact absurd q h1
  ·exact dF_goal hw hi k
def dgK (x : Int) : ByteArray := (bys [byteOf (48 + x)] ++ bys []) ++ bys [32]
def keyR (s : List Int) : ByteArray := s.foldl (fun b x => b ++ dgK x) (bys [])
def kl : List Int → List UInt8
 | [] => []
 | x :: s => byteOf (48 + x) :: 32 :: kl s
theorem keyR_list : ∀ (s : List Int) (b : ByteArray), (s.foldl (fun b x => b ++ dgK x) b).data.toList = b.data.toList ++ kl s
 | [], b => by simp [kl]
 | x :: s, b => by rw [List.foldl_cons, keyR_list s]; simp [kl, dgK, bys]
theorem kl_inj : ∀ {s s' : List Int}, (∀ x ∈ s, 0 ≤ x ∧ x < 10) → (∀ x ∈ s', 0 ≤ x ∧ x < 10) → kl s = kl s' → s = s'
 | [], [], _, _, _ => rfl
 | x :: s, [], _, _, h => by simp [kl] at h
 | [], y :: s', _, _, h => by simp [kl] at h
 | x :: s, y :: s', h1, h2, h => by
  rw [kl, kl] at h
  injection h with h3 h4
  injection h4 with _ h4
  have hx := h1 x List.mem_cons_self
  have hy := h2 y List.mem_cons_self
  have := byteOf_inj (a := 48 + x) (b := 48 + y) (by omega) (by omega) h3
  rw [kl_inj (fun z hz => h1 z (List.mem_cons_of_mem _ hz)) (fun z hz => h2 z (List.mem_cons_of_mem _ hz)) h4, show x = y by omega]
theorem keyR_inj {s s' : List Int} (h1 : ∀ x ∈ s, 0 ≤ x ∧ x < 10) (h2 : ∀ x ∈ s', 0 ≤ x ∧ x < 10) (h : keyR s = keyR s') : s = s' := by
 refine kl_inj h1 h2 ?_
 have := congrArg (fun b : ByteArray => b.data.toList) h
 unfold keyR at this
 simp only [keyR_list] at this
 simpa [bys] using this
theorem keyR_size : ∀ (s : List Int) (b : ByteArray), (s.foldl (fun b x => b ++ dgK x) b).size = b.size + 2 * s.length
 | [], b => by simp
 | x :: s, b => by
  rw [List.foldl_cons, keyR_size s, List.length_cons]
  have : (dgK x).size = 2 := rfl
  rw [ByteArray.size_append, this]; omega
def c_digits : CCode := .seq (.ops [oS 2 (.move (.lit (.str (bys []))))]) (.seq (.ops [oS 3 (.move (.lit (.str (bys []))))]) (.block 0 (.loop (.block 1 (.seq (.ops [oS 4 (.move (.tmp 0)), oS 5 (.bin .rem .none (.tmp 4) (.lit (.int .i64 10))), oS 6 (.bin .add .none (.lit (.int .i64 48)) (.tmp 5)), oS 7 (.conv .u8 (.tmp 6)), oS 8 (.bslice 1 [.tmp 7] false), oS 9 (.bstr (.tmp 8)), oS 10 (.move (.tmp 3)), oS 11 (.bin .add .none (.tmp 9) (.tmp 10)), oS 3 (.move (.tmp 11))]) (.seq (.ops [oS 12 (.move (.tmp 0)), oS 13 (.bin .quo .none (.tmp 12) (.lit (.int .i64 10))), oS 0 (.move (.tmp 13))]) (.seq (.ops [oS 14 (.move (.tmp 0)), oS 15 (.bin .eql .none (.tmp 14) (.lit (.int .i64 0)))]) (.cond (.tmp 15) (.seq (.ops [oS 16 (.move (.tmp 3)), oS 2 (.move (.tmp 16))]) .ret) .skip))))))))
theorem digits_spec (x : Int) (σ : Store) (h0 : 0 ≤ x) (h9 : x ≤ 9) : ACalls Tryz.prog 90 [.int .i64 x] σ (isR (.str (bys [byteOf (48 + x)] ++ bys [])) σ) := by
 refine ACalls.intro (rs := [(.tmp 2)]) (by kernel_rfl) { own := [], ghosts := [] } Tryz.func90 (c := Tryz.f90.body.getD .skip) (by kernel_rfl) (by decide) (by rw [show Tryz.f90.ntmps = 17 by kernel_rfl]; exact Nat.le_of_ble_eq_true rfl) (by kernel_rfl) ?_
 intro hσ hids
 rw [show comp Tryz.prog { own := [], ghosts := [] } (Tryz.f90.body.getD .skip) = c_digits by kernel_rfl, show Tryz.f90.ntmps = 17 by kernel_rfl]
 unfold c_digits
 simp only [go_sem, simprocAttr]
 refine wpc_while (fun (_ : Nat) => [(0, .int .i64 x), (3, .str (bys []))]) (fun _ => σ) (fun _ => True) (fun i => i) 0 trivial (by (try dsimp only); exact ghA) ?_
 intro i _ K hK hE hR
 have hm : x.tmod 10 = x := Int.tmod_eq_of_lt h0 (by omega)
 have hq : x.tdiv 10 = 0 := Int.tdiv_eq_zero_of_lt h0 (by omega)
 have h48 : IntKind.i64.wrap (48 + x) = 48 + x := wrap_ok (by omega)
 have hz : IntKind.i64.wrap 0 = 0 := rfl
 have hu : ∀ tok K, aBstr (.slice tok [[AV.int .u8 (IntKind.u8.wrap (48 + x))]]) K = K (.str (bys [byteOf (48 + x)])) := fun tok K => by
  rw [← byteOf_nat]; exact e_bstr tok [byteOf (48 + x)] K
 simp only [go_sem, simprocAttr, hR, hm, hq, h48, hu, hz]
 have e2 : (bys [byteOf (48 + x)]).size = 1 := rfl
 have e0 : (bys []).size = 0 := rfl
 refine ⟨by rw [e2, e0]; decide, ?_⟩
 exact rt (.str (bys [byteOf (48 + x)] ++ bys [])) ⟨rfl, rfl⟩
def c_key02 : CCode := .seq (.ops [oS 2 (.move (.lit (.str (bys []))))]) (.seq (.ops [oS 3 (.move (.lit (.str (bys []))))]) (.seq (.seq (.ops [oS 6 (.move (.tmp 0)), oS 7 (.blen 1 (.tmp 6)), oS 8 (.move (.lit (.int .i64 0)))]) (.block 0 (.loop (.seq (.ops [oS 9 (.bin .lss .none (.tmp 8) (.tmp 7))]) (.seq (.cond (.tmp 9) .skip (.exit 0)) (.seq (.block 1 (.seq (.ops [oS 10 (.iaddr 1 (.tmp 6) (.tmp 8)), oS 11 (.load none (.tmp 10)), oS 5 (.move (.tmp 11))]) (.ops [oS 12 (.move (.tmp 3)), oS 13 (.move (.tmp 5)), oS 14 (.call (.lit (.func 90 [])) [.tmp 13]), oS 15 (.bin .add .none (.tmp 14) (.lit (.str (bys [32])))), oS 16 (.bin .add .none (.tmp 12) (.tmp 15)), oS 3 (.move (.tmp 16))]))) (.ops [oS 17 (.bin .add .none (.tmp 8) (.lit (.int .i64 1))), oS 8 (.move (.tmp 17))]))))))) (.seq (.ops [oS 18 (.move (.tmp 3)), oS 2 (.move (.tmp 18))]) .ret)))
theorem key02_spec (s : List Int) (tok : Tok) (σ : Store) (hs : s.length ≤ 1000000) (hd : ∀ x ∈ s, 0 ≤ x ∧ x < 10) : ACalls Tryz.prog 52 [.slice tok (s.map Ahl.encI)] σ (isR (.str (keyR s)) σ) := by
 refine ACalls.intro (rs := [(.tmp 2)]) (by kernel_rfl) { own := [], ghosts := [] } Tryz.func52 (c := Tryz.f52.body.getD .skip) (by kernel_rfl) (by decide) (by rw [show Tryz.f52.ntmps = 19 by kernel_rfl]; exact Nat.le_of_ble_eq_true rfl) (by kernel_rfl) ?_
 intro hσ hids
 rw [show comp Tryz.prog { own := [], ghosts := [] } (Tryz.f52.body.getD .skip) = c_key02 by kernel_rfl, show Tryz.f52.ntmps = 19 by kernel_rfl]
 unfold c_key02
 have hil : Ids σ.length (.slice tok (s.map Ahl.encI)) := hids _ (by simp)
 simp only [go_sem, simprocAttr]
 refine wpc_while (fun (i : Nat) => [(3, .str (keyR (s.take i))), (6, .slice tok (s.map Ahl.encI)), (7, .int .i64 s.length), (8, .int .i64 (i : Nat))]) (fun i => σ) (fun i => i ≤ s.length) (fun i => s.length - i) 0 (Nat.zero_le _) (by (try dsimp only); exact ghA) ?_
 intro i hi K hK hE hR
 by_cases h : i < s.length
 ·obtain ⟨f, hx⟩ := get_ex h; have hlt : ((i : Int) < (s.length : Int)) := (by omega); have hw := wrapS (i := i) (by omega)
  have hf := hd f (List.mem_of_getElem? hx)
  simp only [go_sem, simprocAttr, hlt, hx, Ahl.encI]
  refine (digits_spec f _ hf.1 (by omega)).is ?_
  simp only [go_sem, simprocAttr]
  have hsz : (keyR (s.take i)).size = 2 * i := by
   unfold keyR; rw [keyR_size, List.length_take_of_le hi]; show 0 + 2 * i = _; omega
  have e2 : (bys [byteOf (48 + f)]).size = 1 := rfl
  have e0 : (bys []).size = 0 := rfl
  have e1 : (bys [32]).size = 1 := rfl
  have hmx : IntKind.i64.max = 9223372036854775807 := rfl
  refine ⟨by rw [e2, e0, e1, hmx]; omega, by rw [hsz, e2, e0, e1, hmx]; omega, ?_⟩
  have hk : keyR (s.take i) ++ (bys [byteOf (48 + f)] ++ bys [] ++ bys [32]) = keyR (s.take (i + 1)) := by
   rw [take_succ' hx]; unfold keyR; rw [List.foldl_append]; rfl
  rw [hk]
  refine hK _ _ (i + 1) (by omega) om ?_; (try dsimp only); (try simp only [ hw]); exact ghA
 ·have hlt : ¬ ((i : Int) < (s.length : Int)) := by omega
  rw [List.take_of_length_le (by omega)]
  simp only [go_sem, simprocAttr, hlt, hE]
  exact rt (.str (keyR s)) ⟨rfl, rfl⟩
def encFromR : Nat → List (List Int) → List (AV × AV)
 | _, [] => []
 | k, s :: r => (.str (keyR s), .int .i64 (k : Nat)) :: encFromR (k + 1) r
def encWR (ss : List (List Int)) : List (AV × AV) := encFromR 0 ss
theorem encFromR_app : ∀ (k : Nat) (l m : List (List Int)), encFromR k (l ++ m) = encFromR k l ++ encFromR (k + l.length) m
 | k, [], m => by simp [encFromR]
 | k, s :: l, m => by rw [List.cons_append, encFromR, encFromR, encFromR_app (k + 1) l m, List.length_cons, List.cons_append, Nat.add_assoc, Nat.add_comm 1]
theorem encWR_snoc (ss : List (List Int)) (x : List Int) : encWR (ss ++ [x]) = encWR ss ++ [(.str (keyR x), .int .i64 (ss.length : Nat))] := by
 unfold encWR; rw [encFromR_app, Nat.zero_add]; rfl
def ApartR (ss : List (List Int)) (x : List Int) : Prop := ∀ y ∈ ss, keyR y = keyR x → y = x
theorem find_keyR (x : List Int) : ∀ (ss : List (List Int)) (k j : Nat), ApartR ss x →
  aFind (.str (keyR x)) (encFromR k ss) j = some (if x ∈ ss then some (j + ss.idxOf x, .int .i64 ((k + ss.idxOf x : Nat) : Int)) else none)
 | [], k, j, _ => by simp [encFromR, aFind]
 | s :: r, k, j, h => by
  rw [encFromR, aFind]
  by_cases e : s = x
  ·subst e
   have : keyEq (.str (keyR s)) (.str (keyR s)) = some true := by simp [keyEq]
   rw [this]
   simp
  ·have hk : ¬ keyR s = keyR x := fun q => e (h s List.mem_cons_self q)
   have : keyEq (.str (keyR x)) (.str (keyR s)) = some false := by
    simp only [keyEq, Option.some.injEq, beq_eq_false_iff_ne, ne_eq]
    exact fun q => hk q.symm
   rw [this]
   simp only
   rw [find_keyR x r (k + 1) (j + 1) (fun y hy => h y (List.mem_cons_of_mem _ hy))]
   have hxs : x ≠ s := fun q => e q.symm
   by_cases hm : x ∈ r
   ·rw [if_pos hm, if_pos (List.mem_cons_of_mem _ hm), List.idxOf_cons, show (s == x) = false by simpa using e]
    simp only [cond_false, Nat.add_comm, Nat.add_left_comm, Nat.add_assoc]
   ·rw [if_neg hm, if_neg (by simp [hxs, hm])]
theorem ids_encFromR (n : Nat) : ∀ (k : Nat) (ss : List (List Int)), ∀ (j : Nat) a b, (encFromR k ss)[j]? = some (a, b) → Ids n a ∧ Ids n b
 | _, [], j, a, b, h => by simp [encFromR] at h
 | k, s :: r, j, a, b, h => by
  rw [encFromR] at h
  cases j with
  | zero => simp at h; obtain ⟨rfl, rfl⟩ := h; exact ⟨.str _, .int _ _⟩
  | succ j => exact ids_encFromR n (k + 1) r j a b (by simpa using h)
theorem idsO_encWR (n : Nat) (ss : List (List Int)) : IdsO n (.map (encWR ss)) := ids_encFromR n 0 ss
theorem digits_of {n : Nat} (hn : n ≤ 10) {s : List Int} (h : risingB n (-1) s = true) : ∀ x ∈ s, 0 ≤ x ∧ x < 10 := fun x hx => by
 have := (rising_pw h).2 x hx; omega
theorem keyR_apart {n : Nat} (hn : n ≤ 10) {ss : List (List Int)} {x : List Int} (hs : ∀ y ∈ ss, risingB n (-1) y = true) (hx : risingB n (-1) x = true) : ApartR ss x := fun y hy h =>
 keyR_inj (digits_of hn (hs y hy)) (digits_of hn hx) h
def nxC : Option (List Nat) → AV
 | some l => .slice .unk (l.map encNt)
 | none => .slice .nil []
def encNx (o : Option (List Nat)) : List AV := [nxC o]
def encNl (r : List (Option (List Nat))) : List AV := [.slice .unk (r.map encNx)]
theorem ids_nxC {n : Nat} (o : Option (List Nat)) : Ids n (nxC o) := by
 cases o with
 | none => exact ids_nil _ (by simp)
 | some l => exact ids_map ids_encNt l
theorem ids_encNx {n : Nat} (o : Option (List Nat)) : IdsL n (encNx o) := idsL_cons (ids_nxC o) idsL_nil
theorem ids_encNl {n : Nat} (r : List (Option (List Nat))) : IdsL n (encNl r) := idsL_cons (ids_map ids_encNx r) idsL_nil
instance : IdE encNx := ⟨fun _ => ids_encNx⟩
instance : IdE encNl := ⟨fun _ => ids_encNl⟩
def encRW (r : RW) : List AV := [.slice .unk (r.ss.map encL), .slice .unk (r.nx.map encNl), .slice .unk (r.gl.map encB)]
def NX (t : FTask) (g ss : List (List Int)) (k : Nat) : List (List (Option (List Nat))) := (List.range k).map fun j => nxO t g ss (ss.getD j []) g.length
theorem nxO_pre {t : FTask} {g : List (List Int)} {s : List Int} {ss ss' : List (List Int)} (h : Pre ss ss') {i : Nat} (hm : ∀ j, j < i → ∀ y ∈ outsAt t g s j, y ∈ ss) : nxO t g ss' s i = nxO t g ss s i := by
 unfold nxO
 refine List.map_congr_left fun j hj => ?_
 cases ha : appB t (grp g j) s
 ·rfl
 ·rw [if_pos rfl, if_pos rfl]
  congr 1
  refine List.map_congr_left fun y hy => h.idx (hm j (List.mem_range.1 hj) y ?_)
  unfold outsAt; rw [if_pos ha]; exact hy
theorem NX_step {t : FTask} {g : List (List Int)} {s0 s : List Int} {k : Nat} (h : (ssK t g s0 k)[k]? = some s) : NX t g (ssK t g s0 (k + 1)) (k + 1) = NX t g (ssK t g s0 k) k ++ [nxO t g (ssK t g s0 (k + 1)) s g.length] := by
 have hp : Pre (ssK t g s0 k) (ssK t g s0 (k + 1)) := pre_growS _ _
 unfold NX
 rw [List.range_succ, List.map_append]
 congr 1
 ·refine List.map_congr_left fun j hj => ?_
  have hj := List.mem_range.1 hj
  obtain ⟨x, hx⟩ := get_ex (show j < (ssK t g s0 k).length by have := lt_of_get h; omega)
  rw [getD_get hx, getD_get (hp.get hx)]
  exact nxO_pre hp fun i hi y hy => closed_ssK k j x hj hx i hi y hy
 ·rw [List.map_singleton, getD_get (hp.get h)]
theorem NX_end {t : FTask} {g ss : List (List Int)} : NX t g ss ss.length = ss.map fun s => nxO t g ss s g.length := by
 unfold NX
 apply List.ext_getElem?
 intro i
 rw [List.getElem?_map, List.getElem?_map]
 rcases Nat.lt_or_ge i ss.length with h | h
 ·rw [List.getElem?_range h, List.getElem?_eq_getElem h]
  simp [List.getD_eq_getElem?_getD, List.getElem?_eq_getElem h]
 ·rw [List.getElem?_eq_none (by simpa using h), List.getElem?_eq_none h]; rfl
theorem wkL_set {a b : AV} : ∀ (l : List AV) (i : Nat), Wk a b → WkL (l.set i a) (l.set i b)
 | [], _, _ => .nil
 | x :: l, 0, h => .cons h (WkL.refl l)
 | x :: l, i + 1, h => .cons (.refl x) (wkL_set l i h)
theorem tokR {n0 nt : Nat} {s : Slots} (t : FTask) (s0 : List Int) (σ : Store) : Ghost n0 nt s (σ ++ [.row (encTask t), .row [.slice .nil [], .slice .nil [], .slice .nil []], .grow 1 1, .row [.slice (.grow (σ.length + 2)) [[.slice .unk (s0.map Ahl.encI)]], .slice .nil [], .slice .nil []], .map (encWR [s0])]) s (σ ++ [AObj.row (encTask t), AObj.row [AV.slice .nil [], AV.slice .nil [], AV.slice .nil []], AObj.grow 1 (List.length [s0]), AObj.row [AV.slice (.grow (σ.length + 2)) (List.map encL [s0]), AV.slice (.grow (σ.length + 5)) (List.map encNl []), AV.slice (.grow (σ.length + 6)) (List.map encB [])], AObj.map (encWR [s0]), AObj.grow 1 (@List.length (List (Option (List Nat))) []), AObj.grow 1 (@List.length Bool [])]) := by
 have g1 := Ghost.tokRow (n0 := n0) (nt := nt) (s := s) (σ := σ ++ [.row (encTask t), .row [.slice .nil [], .slice .nil [], .slice .nil []], .grow 1 1, .row [.slice (.grow (σ.length + 2)) [[.slice .unk (s0.map Ahl.encI)]], .slice .nil [], .slice .nil []], .map (encWR [s0])]) (σ.length + 3) 1 1 (by simp; rfl) rfl
 have g2 := Ghost.tokRow (n0 := n0) (nt := nt) (s := s) (σ := σ ++ [.row (encTask t), .row [.slice .nil [], .slice .nil [], .slice .nil []], .grow 1 1, .row [.slice (.grow (σ.length + 2)) [[.slice .unk (s0.map Ahl.encI)]], .slice (.grow (σ.length + 5)) [], .slice .nil []], .map (encWR [s0]), .grow 1 0]) (σ.length + 3) 2 1 (by simp; rfl) rfl
 simp only [List.length_append, List.length_cons, List.length_nil, Nat.zero_add, Nat.reduceAdd, List.append_assoc, List.cons_append, List.nil_append, g_set, List.set_cons_succ, List.set_cons_zero] at g1 g2
 exact g1.trans g2
def e_reachR_0 : List COp := [oS 34 (.faddr 2 (.tmp 10)), oA 35 (.load none (.tmp 34)) [0], oS 36 (.faddr 0 (.tmp 10)), oA 37 (.load none (.tmp 36)) [2], oS 38 (.move (.tmp 12)), oA 39 (.iaddr 1 (.tmp 37) (.tmp 38)) [3, 4], oA 40 (.load none (.tmp 39)) [5], oS 41 (.faddr 2 (.tmp 4)), oA 42 (.load none (.tmp 41)) [7], oA 43 (.call (.lit (.func 51 [])) [.tmp 40, .tmp 42]) [6, 8], oA 44 (.bsliceC 1 [.tmp 43]) [9], oA 45 (.bappend 1 1 (.tmp 35) (.tmp 44) false) [1, 10, 9], oA 46 (.faddr 2 (.tmp 10)) [0, 1, 2, 3, 4, 5, 6, 7, 8, 9, 10, 11], ⟨none, .store 1 (.tmp 46) (.tmp 45), none, [12, 11, 11, 0, 1, 2, 3, 4, 5, 6, 7, 8, 9, 10, 11]⟩]
def d_reachR_0 : List COp := e_reachR_0
theorem dr_reachR_0 (P : Program) (nt n0 : Nat) (Q : Post) (s : Slots) (σ : Store) : wpc P nt n0 (.draw d_reachR_0) Q s σ = aOpsD P nt e_reachR_0 (Q .normal) s σ := wpc_draw _ (by decide)
def e_reachR_1 : List COp := [oS 57 (.load (some 4) (.tmp 4)), oS 58 (.move (.tmp 15)), oS 59 (.faddr 0 (.tmp 10)), oA 60 (.load none (.tmp 59)) [2], oS 61 (.move (.tmp 12)), oA 62 (.iaddr 1 (.tmp 60) (.tmp 61)) [3, 4], oA 63 (.load none (.tmp 62)) [5], oA 64 (.call (.lit (.func 28 [])) [.tmp 57, .tmp 58, .tmp 63]) [0, 1, 6], oA 65 (.un .not (.tmp 64)) [7]]
def d_reachR_1 : List COp := e_reachR_1
theorem dr_reachR_1 (P : Program) (nt n0 : Nat) (Q : Post) (s : Slots) (σ : Store) : wpc P nt n0 (.draw d_reachR_1) Q s σ = aOpsD P nt e_reachR_1 (Q .normal) s σ := wpc_draw _ (by decide)
def e_reachR_2 : List COp := [oS 66 (.load (some 4) (.tmp 4)), oS 67 (.move (.tmp 15)), oS 68 (.faddr 0 (.tmp 10)), oA 69 (.load none (.tmp 68)) [2], oS 70 (.move (.tmp 12)), oA 71 (.iaddr 1 (.tmp 69) (.tmp 70)) [3, 4], oA 72 (.load none (.tmp 71)) [5], oA 73 (.call (.lit (.func 29 [])) [.tmp 66, .tmp 67, .tmp 72]) [0, 1, 6], oA 74 (.blen 1 (.tmp 73)) [7], oS 75 (.move (.lit (.int .i64 0)))]
def d_reachR_2 : List COp := e_reachR_2
theorem dr_reachR_2 (P : Program) (nt n0 : Nat) (Q : Post) (s : Slots) (σ : Store) : wpc P nt n0 (.draw d_reachR_2) Q s σ = aOpsD P nt e_reachR_2 (Q .normal) s σ := wpc_draw _ (by decide)
attribute [local go_sem] dr_reachR_0 e_reachR_0 dr_reachR_1 e_reachR_1 dr_reachR_2 e_reachR_2
def c_reachR : CCode := .seq (.ops [oS 4 (.box (.tmp 0)), oS 8 (.alloc (.agg [.slice .nil [], .slice .nil [], .slice .nil []])), oS 9 (.move (.lit (.bool false)))]) (.seq (.ops [oS 20 (.move (.tmp 2)), oS 21 (.bslice 1 [.tmp 20] false), oS 22 (.build [.slice .nil [], .slice .nil [], .slice .nil []] [(0, 1, .tmp 21)]), oS 10 (.alloc (.agg [.slice .nil [], .slice .nil [], .slice .nil []])), oN (.store 3 (.tmp 10) (.tmp 22))]) (.seq (.ops [oS 23 .mkmap, oS 24 (.move (.tmp 2)), oS 25 (.call (.lit (.func 52 [])) [.tmp 24]), oN (.mapup true (.tmp 23) (.tmp 25) (.lit (.int .i64 0))), oS 26 (.move (.tmp 23)), oS 11 (.move (.tmp 26))]) (.seq (.seq (.ghost (.ops [oS 12 (.move (.lit (.int .i64 0)))])) (.block 0 (.loop (.seq (.seq (.ops [oS 27 (.move (.tmp 12)), oS 28 (.faddr 0 (.tmp 10)), oS 29 (.load none (.tmp 28)), oS 30 (.blen 1 (.tmp 29)), oS 31 (.bin .lss .none (.tmp 27) (.tmp 30))]) (.cond (.tmp 31) .skip (.exit 0))) (.seq (.block 1 (.seq (.draw d_reachR_0) (.seq (.ops [oS 47 (.move (.tmp 1)), oS 48 (.blen 1 (.tmp 47)), oS 49 (.mkslice 1 24 [.slice .nil []] (.tmp 48) (.tmp 48) true), oS 13 (.move (.tmp 49))]) (.seq (.seq (.ops [oS 50 (.move (.tmp 1)), oS 51 (.blen 1 (.tmp 50)), oS 52 (.move (.lit (.int .i64 0)))]) (.block 2 (.loop (.seq (.ops [oS 53 (.bin .lss .none (.tmp 52) (.tmp 51))]) (.seq (.cond (.tmp 53) .skip (.exit 2)) (.seq (.block 3 (.seq (.ops [oS 54 (.move (.tmp 52)), oS 55 (.iaddr 1 (.tmp 50) (.tmp 52)), oS 56 (.load none (.tmp 55)), oS 14 (.move (.tmp 54)), oS 15 (.move (.tmp 56))]) (.seq (.seq (.draw d_reachR_1) (.cond (.tmp 65) (.exit 3) .skip)) (.seq (.draw d_reachR_2) (.block 4 (.loop (.seq (.ops [oS 76 (.bin .lss .none (.tmp 75) (.tmp 74))]) (.seq (.cond (.tmp 76) .skip (.exit 4)) (.seq (.block 5 (.seq (.ops [oS 77 (.iaddr 1 (.tmp 73) (.tmp 75)), oS 78 (.load none (.tmp 77)), oS 17 (.move (.tmp 78))]) (.seq (.ops [oS 80 (.move (.tmp 11)), oS 81 (.move (.tmp 17)), oS 82 (.call (.lit (.func 52 [])) [.tmp 81]), oS 83 (.lookup true (.int .i64 0) (.tmp 80) (.tmp 82) true), oS 79 (.move (.tmp 83)), oS 84 (.extract (.tmp 79) 0), oS 85 (.extract (.tmp 79) 1), oS 18 (.move (.tmp 84)), oS 19 (.move (.tmp 85))]) (.seq (.seq (.ops [oS 86 (.move (.tmp 19)), oS 87 (.un .not (.tmp 86))]) (.cond (.tmp 87) (.seq (.seq (.ops [oS 88 (.faddr 0 (.tmp 10)), oS 89 (.load none (.tmp 88)), oS 90 (.blen 1 (.tmp 89)), oS 91 (.move (.tmp 3)), oS 92 (.bin .eql .none (.tmp 90) (.tmp 91))]) (.cond (.tmp 92) (.seq (.ops [oS 93 (.build [.slice .nil [], .slice .nil [], .slice .nil []] []), oN (.store 3 (.tmp 8) (.tmp 93)), oS 9 (.move (.lit (.bool false)))]) .ret) .skip)) (.seq (.ops [oS 94 (.faddr 0 (.tmp 10)), oS 95 (.load none (.tmp 94)), oS 96 (.blen 1 (.tmp 95)), oS 18 (.move (.tmp 96))]) (.seq (.ops [oS 97 (.move (.tmp 11)), oS 98 (.move (.tmp 17)), oS 99 (.call (.lit (.func 52 [])) [.tmp 98]), oS 100 (.move (.tmp 18)), oN (.mapup true (.tmp 97) (.tmp 99) (.tmp 100))]) (.ops [oS 101 (.faddr 0 (.tmp 10)), oS 102 (.load none (.tmp 101)), oS 103 (.move (.tmp 17)), oS 104 (.bsliceC 1 [.tmp 103]), oS 105 (.bappend 1 24 (.tmp 102) (.tmp 104) false), oS 106 (.faddr 0 (.tmp 10)), oN (.store 1 (.tmp 106) (.tmp 105))])))) .skip)) (.ops [oS 107 (.move (.tmp 13)), oS 108 (.move (.tmp 14)), oS 109 (.move (.tmp 13)), oS 110 (.move (.tmp 14)), oS 111 (.iaddr 1 (.tmp 109) (.tmp 110)), oS 112 (.load none (.tmp 111)), oS 113 (.move (.tmp 18)), oS 114 (.bsliceC 1 [.tmp 113]), oS 115 (.bappend 1 8 (.tmp 112) (.tmp 114) false), oS 116 (.iaddr 1 (.tmp 107) (.tmp 108)), oN (.store 1 (.tmp 116) (.tmp 115))]))))) (.ops [oS 117 (.bin .add .none (.tmp 75) (.lit (.int .i64 1))), oS 75 (.move (.tmp 117))])))))))))) (.ops [oS 118 (.bin .add .none (.tmp 52) (.lit (.int .i64 1))), oS 52 (.move (.tmp 118))]))))))) (.ghost (.ops [oS 119 (.faddr 1 (.tmp 10)), oS 120 (.load none (.tmp 119)), oS 121 (.move (.tmp 13)), oS 122 (.bsliceC 1 [.tmp 121]), oS 123 (.bappend 1 24 (.tmp 120) (.tmp 122) false), oS 124 (.faddr 1 (.tmp 10)), oN (.store 1 (.tmp 124) (.tmp 123))])))))) (.ops [oS 32 (.move (.tmp 12)), oS 33 (.bin .add .none (.tmp 32) (.lit (.int .i64 1))), oS 12 (.move (.tmp 33))])))))) (.seq (.ops [oS 125 (.load (some 3) (.tmp 10)), oN (.store 3 (.tmp 8) (.tmp 125)), oS 9 (.move (.lit (.bool true)))]) .ret))))
set_option maxHeartbeats 4000000 in
theorem reachR_spec (t : FTask) (g : List (List Int)) (s0 : List Int) (tok : Tok) (σ : Store) (hsz : taskSize t ≤ 300) (hb : PB t) (hg : LB g) (hg3 : ∀ l ∈ g, l.length ≤ 300) (hv : validB t = true) (h7 : t.facts.length ≤ 7) (hc : choicesB t g = true) (hs : risingB t.facts.length (-1) s0 = true) :
  ACalls Tryz.prog 19 [.agg (encTask t), .slice tok (g.map encL), .slice .unk (s0.map Ahl.encI), .int .i64 128] σ (isR (.tuple [.agg (encRW (rwF t g s0)), .bool true]) σ) := by
 refine ACalls.intro (rs := [(.cell (some 3) 8), (.tmp 9)]) (by kernel_rfl) { own := [(7, 2)], ghosts := [3, 25], cold := [(6, 10), (21, 3), (22, 7), (25, 3)] } Tryz.func19 (c := Tryz.f19.body.getD .skip) (by kernel_rfl) (by decide) (by rw [show Tryz.f19.ntmps = 126 by kernel_rfl]; exact Nat.le_of_ble_eq_true rfl) (by kernel_rfl) ?_
 intro hσ hids
 rw [show comp Tryz.prog { own := [(7, 2)], ghosts := [3, 25], cold := [(6, 10), (21, 3), (22, 7), (25, 3)] } (Tryz.f19.body.getD .skip) = c_reachR by kernel_rfl, show Tryz.f19.ntmps = 126 by kernel_rfl]
 unfold c_reachR
 have hig : Ids σ.length (.slice tok (g.map encL)) := hids _ (by simp)
 obtain ⟨hSB, he, hfl⟩ := valid_SB hb hv
 have h2n : 2 ^ t.facts.length ≤ 128 := Nat.pow_le_pow_right (n := 2) (by omega) h7
 have hn8 : ∀ y, risingB t.facts.length (-1) y = true → y.length ≤ 8 := fun y hy => by
  rcases rising_len hy (by omega) with q | q
  ·omega
  ·rw [q]; simp
 have hdg : ∀ y, risingB t.facts.length (-1) y = true → ∀ x ∈ y, 0 ≤ x ∧ x < 10 := fun y hy => digits_of (n := t.facts.length) (by omega) hy
 simp only [go_sem, simprocAttr, encTask]
 refine (key02_spec s0 .unk _ (by have := hn8 s0 hs; omega) (hdg _ hs)).is ?_
 have hfn : aFind (AV.str (keyR s0)) [] 0 = some none := rfl
 simp only [go_sem, simprocAttr, hfn]
 refine Gh.of (tokR t s0 σ) ?_
 simp only [go_sem, simprocAttr]
 have hwI : ∀ (n : Nat) ss ch gl, σ.length + 7 ≤ n → ∀ o ∈ ([AObj.row (encTask t), AObj.row [AV.slice .nil [], AV.slice .nil [], AV.slice .nil []], AObj.grow 1 (List.length ss), AObj.row [AV.slice (.grow (σ.length + 2)) (List.map encL ss), AV.slice (.grow (σ.length + 5)) (List.map encNl ch), AV.slice (.grow (σ.length + 6)) (List.map encB gl)], AObj.map (encWR ss), AObj.grow 1 (@List.length (List (Option (List Nat))) ch), AObj.grow 1 (List.length gl)]), IdsO n o := by
  intro n ss ch gl hn o ho
  simp only [List.mem_cons, List.not_mem_nil, or_false] at ho
  rcases ho with rfl | rfl | rfl | rfl | rfl | rfl | rfl
  ·exact idsO_row (ids_encTask t)
  ·exact idsO_row (idsL_cons (ids_nil _ (by simp)) (idsL_cons (ids_nil _ (by simp)) (idsL_cons (ids_nil _ (by simp)) idsL_nil)))
  ·trivial
  ·exact idsO_row (idsL_cons (ids_grow_map ids_encL (by omega)) (idsL_cons (ids_grow_map ids_encNl (by omega)) (idsL_cons (ids_grow_map ids_encB (by omega)) idsL_nil)))
  ·exact idsO_encWR _ _
  all_goals trivial
 have hW : ∀ ss ch gl, IdsS (σ ++ [AObj.row (encTask t), AObj.row [AV.slice .nil [], AV.slice .nil [], AV.slice .nil []], AObj.grow 1 (List.length ss), AObj.row [AV.slice (.grow (σ.length + 2)) (List.map encL ss), AV.slice (.grow (σ.length + 5)) (List.map encNl ch), AV.slice (.grow (σ.length + 6)) (List.map encB gl)], AObj.map (encWR ss), AObj.grow 1 (@List.length (List (Option (List Nat))) ch), AObj.grow 1 (List.length gl)]).length (σ ++ [AObj.row (encTask t), AObj.row [AV.slice .nil [], AV.slice .nil [], AV.slice .nil []], AObj.grow 1 (List.length ss), AObj.row [AV.slice (.grow (σ.length + 2)) (List.map encL ss), AV.slice (.grow (σ.length + 5)) (List.map encNl ch), AV.slice (.grow (σ.length + 6)) (List.map encB gl)], AObj.map (encWR ss), AObj.grow 1 (@List.length (List (Option (List Nat))) ch), AObj.grow 1 (List.length gl)]) := fun ss ch gl => idsS_app _ hσ (hwI _ ss ch gl (by simp))
 refine wpc_while (fun (k : Nat) => [(1, .slice tok (g.map encL)), (3, .int .i64 128), (4, .ptr σ.length 0), (8, .ptr (σ.length + 1) 0), (10, .ptr (σ.length + 3) 0), (11, .map (σ.length + 4)), (12, .int .i64 (k : Nat))])
  (fun k => σ ++ [AObj.row (encTask t), AObj.row [AV.slice .nil [], AV.slice .nil [], AV.slice .nil []], AObj.grow 1 (List.length (ssK t g s0 k)), AObj.row [AV.slice (.grow (σ.length + 2)) (List.map encL (ssK t g s0 k)), AV.slice (.grow (σ.length + 5)) (List.map encNl (NX t g (ssK t g s0 k) k)), AV.slice (.grow (σ.length + 6)) (List.map encB (GL t (ssK t g s0 k) k))], AObj.map (encWR (ssK t g s0 k)), AObj.grow 1 (@List.length (List (Option (List Nat))) (NX t g (ssK t g s0 k) k)), AObj.grow 1 (List.length (GL t (ssK t g s0 k) k))])
  (fun k => k ≤ (ssK t g s0 k).length) (fun k => 256 - k) 0 (Nat.zero_le _) ?_ ?_
 ·exact ghL0 (hW (ssK t g s0 0) [] [])
 intro k hk K hK hE hR
 have hrs := rising_ssK he hc hs k
 have hll := ssK_len he hc hs k
 have hNXl : ∀ ss k, (NX t g ss k).length = k := fun ss k => by simp [NX]
 have hGLl : ∀ ss k, (GL t ss k).length = k := fun ss k => by simp [GL]
 by_cases h : k < (ssK t g s0 k).length
 ·obtain ⟨s, hx⟩ := get_ex h
  have hsr := hrs s (List.mem_of_getElem? hx)
  have hs8 := hn8 s hsr
  have hlt : ((k : Int) < ((ssK t g s0 k).length : Int)) := by omega
  have hw0 := wrapS (i := k) (by omega)
  have hbig : bigLen (k + 1) 1 := big_ok (by omega) (by omega)
  have hssu := ssK_succ hx
  have hNXs := NX_step hx
  have hGLs := GL_step hx
  generalize hss : ssK t g s0 k = ss at hk hrs hll h hx hlt hssu hNXs hGLs
  have hnd : ss.Nodup := by rw [← hss]; exact nodup_ssK s0 k
  have hC := hNXl ss k
  have hG := hGLl ss k
  generalize NX t g ss k = C at hC hNXs
  have hG1l : (GL t ss k ++ [condHolds s t.goal]).length = k + 1 := by simp [hG]
  generalize hG1 : GL t ss k ++ [condHolds s t.goal] = G1 at hG1l hGLs
  have hGf : List.map encB (GL t ss k) ++ [[AV.bool (condHolds s t.goal)]] = List.map encB G1 := by rw [← hG1, List.map_append]; rfl
  generalize hN : ssK t g s0 (k + 1) = N at hssu hNXs hGLs
  have hNr := rising_ssK he hc hs (k + 1)
  rw [hN] at hNr
  have hNl := ssK_len he hc hs (k + 1)
  rw [hN] at hNl
  simp only [go_sem, simprocAttr, hlt, hx, encL, encTask]
  refine ⟨_, holds02_spec s t.goal .unk .unk _ (by omega) (by have := hb.tb.goal; omega), ?_⟩
  simp only [go_sem, simprocAttr, hGLl, hbig, hGf, aMkslice]
  rw [← hG1l]
  have hgl8 : g.length ≤ 1000000 := by unfold choicesB at hc; rw [Bool.and_eq_true, decide_eq_true_eq] at hc; omega
  refine ⟨Int.le_refl _, by omega, by omega, ?_⟩
  have hWr : ∀ ss' (l : Store), (∀ o ∈ l, IdsO (σ.length + 7 + l.length) o) → IdsS (σ ++ (([AObj.row (encTask t), AObj.row [AV.slice .nil [], AV.slice .nil [], AV.slice .nil []], AObj.grow 1 (List.length ss'), AObj.row [AV.slice (.grow (σ.length + 2)) (List.map encL ss'), AV.slice (.grow (σ.length + 5)) (List.map encNl C), AV.slice (.grow (σ.length + 6)) (List.map encB G1)], AObj.map (encWR ss'), AObj.grow 1 (@List.length (List (Option (List Nat))) C), AObj.grow 1 (List.length G1)]) ++ l)).length (σ ++ (([AObj.row (encTask t), AObj.row [AV.slice .nil [], AV.slice .nil [], AV.slice .nil []], AObj.grow 1 (List.length ss'), AObj.row [AV.slice (.grow (σ.length + 2)) (List.map encL ss'), AV.slice (.grow (σ.length + 5)) (List.map encNl C), AV.slice (.grow (σ.length + 6)) (List.map encB G1)], AObj.map (encWR ss'), AObj.grow 1 (@List.length (List (Option (List Nat))) C), AObj.grow 1 (List.length G1)]) ++ l)) := fun ss' l hl => idsS_app _ hσ fun o ho => by
   rcases List.mem_append.1 ho with ho | ho
   ·exact hwI _ ss' C G1 (by simp) o ho
   ·have := hl o ho
    simpa [Nat.add_assoc, Nat.add_comm, Nat.add_left_comm] using this
  obtain ⟨f, hf⟩ : ∃ f : Nat → AV, f = fun j => nxC (if appB t (grp g j) s then some ((outsL t (grp g j) s).map N.idxOf) else none) := ⟨_, rfl⟩
  have hfi : ∀ n j, Ids n (f j) := fun n j => by rw [hf]; exact ids_nxC _
  have hz : ∀ n, Ids n (AV.slice .nil []) := fun n => ids_nil _ (by simp)
  have hR : ∀ n i, IdsO n (.row (lst g.length (split f (fun _ => AV.slice .nil []) i))) := fun n i => idsO_row fun x hx => by
   obtain ⟨j, _, rfl⟩ := List.mem_map.1 hx
   unfold split; split
   ·exact hfi _ _
   ·exact hz _
  have hW1 : ∀ ss' i, IdsS (σ ++ (([AObj.row (encTask t), AObj.row [AV.slice .nil [], AV.slice .nil [], AV.slice .nil []], AObj.grow 1 (List.length ss'), AObj.row [AV.slice (.grow (σ.length + 2)) (List.map encL ss'), AV.slice (.grow (σ.length + 5)) (List.map encNl C), AV.slice (.grow (σ.length + 6)) (List.map encB G1)], AObj.map (encWR ss'), AObj.grow 1 (@List.length (List (Option (List Nat))) C), AObj.grow 1 (List.length G1)]) ++ [AObj.row (lst g.length (split f (fun _ => AV.slice .nil []) i))])).length (σ ++ (([AObj.row (encTask t), AObj.row [AV.slice .nil [], AV.slice .nil [], AV.slice .nil []], AObj.grow 1 (List.length ss'), AObj.row [AV.slice (.grow (σ.length + 2)) (List.map encL ss'), AV.slice (.grow (σ.length + 5)) (List.map encNl C), AV.slice (.grow (σ.length + 6)) (List.map encB G1)], AObj.map (encWR ss'), AObj.grow 1 (@List.length (List (Option (List Nat))) C), AObj.grow 1 (List.length G1)]) ++ [AObj.row (lst g.length (split f (fun _ => AV.slice .nil []) i))])) := fun ss' i => hWr ss' _ (by
   intro o ho
   rw [List.mem_singleton] at ho; subst ho; exact hR _ i)
  have hrep : (List.replicate g.length [AV.slice .nil []]).flatten = lst g.length (split f (fun _ => AV.slice .nil []) 0) := by
   rw [lst_zero, ← lst_const]
   generalize g.length = n
   induction n with
   | zero => rfl
   | succ n ih => rw [List.replicate_succ, List.flatten_cons, ih, List.replicate_succ]; rfl
  rw [hrep]
  refine wpc_while (fun (i : Nat) => [(1, .slice tok (g.map encL)), (3, .int .i64 128), (4, .ptr σ.length 0), (8, .ptr (σ.length + 1) 0), (10, .ptr (σ.length + 3) 0), (11, .map (σ.length + 4)), (12, .int .i64 (k : Nat)), (13, .ref (σ.length + 7) 1 0 g.length), (50, .slice tok (g.map encL)), (51, .int .i64 g.length), (52, .int .i64 (i : Nat))])
   (fun i => σ ++ (([AObj.row (encTask t), AObj.row [AV.slice .nil [], AV.slice .nil [], AV.slice .nil []], AObj.grow 1 (List.length (growG t g s ss i)), AObj.row [AV.slice (.grow (σ.length + 2)) (List.map encL (growG t g s ss i)), AV.slice (.grow (σ.length + 5)) (List.map encNl C), AV.slice (.grow (σ.length + 6)) (List.map encB G1)], AObj.map (encWR (growG t g s ss i)), AObj.grow 1 (@List.length (List (Option (List Nat))) C), AObj.grow 1 (List.length G1)]) ++ [.row (lst g.length (split f (fun _ => .slice .nil []) i))]))
   (fun i => i ≤ g.length) (fun i => g.length - i) 0 (Nat.zero_le _) ?_ ?_
  ·exact ghL0 (hW1 ss 0)
  intro i hi K2 hK2 hE2 hR2
  by_cases h : i < g.length
  ·obtain ⟨l, hx⟩ := get_ex h
   have hlm := List.mem_of_getElem? hx
   have hlt : ((i : Int) < (g.length : Int)) := by omega
   have hw := wrapS (i := i) (by omega)
   have hgi : grp g i = l := by unfold grp; rw [List.getD_eq_getElem?_getD, hx]; rfl
   obtain ⟨-, c1, c2, c3⟩ := grp_ok hc h
   rw [hgi] at c1 c2 c3
   have hgs : growG t g s ss (i + 1) = addAll (growG t g s ss i) (outsAt t g s i) := growG_succ s ss i
   unfold outsAt at hgs
   rw [hgi] at hgs
   have hfe : f i = nxC (if appB t l s then some ((outsL t l s).map N.idxOf) else none) := by rw [hf]; simp only [hgi]
   have hpre : Pre (growG t g s ss i) N := by
    rw [hssu]
    have := pre_growGG (t := t) (g := g) s ss i (g.length - i)
    rwa [show i + (g.length - i) = g.length by omega] at this
   have hgx : (growG t g s ss i)[k]? = some s := by
    have := (pre_growG (t := t) (g := g) s ss i).get ‹ss[k]? = some s›
    exact this
   simp only [go_sem, simprocAttr, hlt, hx, hgx, encL, encTask]
   refine ⟨_, app16_spec t l s .unk .unk _ hb.tb c1 c2 (by omega), ?_⟩
   cases hap : appB t l s
   ·rw [hap] at hgs hfe
    have hgs : growG t g s ss (i + 1) = growG t g s ss i := hgs
    simp only [go_sem, simprocAttr, encTask, hw]
    refine hK2 _ _ (i + 1) (by omega) (by omega) ?_
    rw [hgs, ← lst_same (i := i) (f := f) (g := fun _ => .slice .nil []) hfe]
    exact ghL0 (hW1 _ i)
   ·rw [hap] at hgs hfe
    simp only [if_true] at hgs hfe
    simp only [go_sem, simprocAttr, hgx, encL, encTask]
    refine ⟨_, outs16_spec t l s .unk .unk _ hb.tb hSB he (by omega) (by have := hg3 l hlm; omega) c2 (whens16 hsz) hsr, ?_⟩
    have hpE : Pre (addAll (growG t g s ss i) (outsL t l s)) N := by
     rw [← hgs, hssu]
     have := pre_growGG (t := t) (g := g) s ss (i + 1) (g.length - (i + 1))
     rwa [show i + 1 + (g.length - (i + 1)) = g.length by omega] at this
    have hol : (outsL t l s).length ≤ 256 := by
     have h1 : (outsL t l s).Nodup := (outs_strict t l s).imp fun {a b} q e => by subst e; exact absurd q (by unfold ltL; rw [cmpInts_refl]; omega)
     have := nodup_sub_len h1 (m := N) fun y hy => hpE.mem (mem_addAll.2 (.inr hy))
     omega
    have hor : ∀ y ∈ outsL t l s, risingB t.facts.length (-1) y = true := outs_rising he hsr c2
    generalize outsL t l s = O at hpE hol hor hgs hfe
    generalize growG t g s ss i = G0 at hpE hgs hgx hpre
    simp only [go_sem, simprocAttr]
    have hWj : ∀ ss' (ys : List Nat) j, IdsS (σ ++ (([AObj.row (encTask t), AObj.row [AV.slice .nil [], AV.slice .nil [], AV.slice .nil []], AObj.grow 1 (List.length ss'), AObj.row [AV.slice (.grow (σ.length + 2)) (List.map encL ss'), AV.slice (.grow (σ.length + 5)) (List.map encNl C), AV.slice (.grow (σ.length + 6)) (List.map encB G1)], AObj.map (encWR ss'), AObj.grow 1 (@List.length (List (Option (List Nat))) C), AObj.grow 1 (List.length G1)]) ++ [AObj.row ((lst g.length (split f (fun _ => AV.slice .nil []) i)).set i (.slice (.grow (σ.length + 8)) (ys.map encNt))), AObj.grow 1 j])).length (σ ++ (([AObj.row (encTask t), AObj.row [AV.slice .nil [], AV.slice .nil [], AV.slice .nil []], AObj.grow 1 (List.length ss'), AObj.row [AV.slice (.grow (σ.length + 2)) (List.map encL ss'), AV.slice (.grow (σ.length + 5)) (List.map encNl C), AV.slice (.grow (σ.length + 6)) (List.map encB G1)], AObj.map (encWR ss'), AObj.grow 1 (@List.length (List (Option (List Nat))) C), AObj.grow 1 (List.length G1)]) ++ [AObj.row ((lst g.length (split f (fun _ => AV.slice .nil []) i)).set i (.slice (.grow (σ.length + 8)) (ys.map encNt))), AObj.grow 1 j])) := fun ss' ys j => hWr _ _ (by
     intro o ho
     simp only [List.mem_cons, List.not_mem_nil, or_false] at ho
     rcases ho with rfl | rfl
     ·intro q x hx
      rcases get_set hx with ⟨_, rfl⟩ | ⟨_, hx⟩
      ·exact ids_grow_map ids_encNt (by simp)
      ·exact hR _ i q x hx
     ·trivial)
    refine wpc_while (fun (j : Nat) => [(1, .slice tok (g.map encL)), (3, .int .i64 128), (4, .ptr σ.length 0), (8, .ptr (σ.length + 1) 0), (10, .ptr (σ.length + 3) 0), (11, .map (σ.length + 4)), (12, .int .i64 (k : Nat)), (13, .ref (σ.length + 7) 1 0 g.length), (14, .int .i64 (i : Nat)), (50, .slice tok (g.map encL)), (51, .int .i64 g.length), (52, .int .i64 (i : Nat)), (73, .slice .unk (O.map encL)), (74, .int .i64 O.length), (75, .int .i64 (j : Nat))])
     (fun j => σ ++ (([AObj.row (encTask t), AObj.row [AV.slice .nil [], AV.slice .nil [], AV.slice .nil []], AObj.grow 1 (List.length (addAll G0 (O.take j))), AObj.row [AV.slice (.grow (σ.length + 2)) (List.map encL (addAll G0 (O.take j))), AV.slice (.grow (σ.length + 5)) (List.map encNl C), AV.slice (.grow (σ.length + 6)) (List.map encB G1)], AObj.map (encWR (addAll G0 (O.take j))), AObj.grow 1 (@List.length (List (Option (List Nat))) C), AObj.grow 1 (List.length G1)]) ++ [.row ((lst g.length (split f (fun _ => .slice .nil []) i)).set i (.slice (.grow (σ.length + 8)) (((O.take j).map N.idxOf).map encNt))), .grow 1 j]))
     (fun j => j ≤ O.length) (fun j => O.length - j) 0 (Nat.zero_le _) ?_ ?_
    ·refine Ghost.trans (Ghost.tokRow (σ.length + 7) i 1 (cells := lst g.length (split f (fun _ => .slice .nil []) i)) (by simp) ?_) ?_
     ·rw [lst_get _ h]; unfold split; rw [if_neg (by omega)]
     simp only [List.length_append, List.length_cons, List.length_nil, Nat.zero_add, Nat.reduceAdd, List.append_assoc, List.cons_append, List.nil_append, g_set, List.set_cons_succ, List.set_cons_zero]
     exact ghL0 (hWj G0 [] 0)
    have hRl : (lst g.length (split f (fun _ => AV.slice .nil []) i)).length = g.length := lst_len _ _
    have hRs : (lst g.length (split f (fun _ => AV.slice .nil []) i)).set i (f i) = lst g.length (split f (fun _ => AV.slice .nil []) (i + 1)) := lst_set f _ h
    generalize lst g.length (split f (fun _ => AV.slice .nil []) i) = R0 at hWj hRl hRs
    have hgR : ∀ v, (R0.set i v)[i]? = some v := fun v => List.getElem?_set_self (by omega)
    intro j hj K3 hK3 hE3 hR3
    by_cases h3 : j < O.length
    ·obtain ⟨x, hx⟩ := get_ex h3
     have hlt : ((j : Int) < (O.length : Int)) := by omega
     have hlti : ((i : Int) < (g.length : Int)) := by omega
     have hw2 := wrapS (i := j) (by omega)
     have hbig2 : bigLen (j + 1) 8 := big_ok (by omega) (by omega)
     have hxr := hor x (List.mem_of_getElem? hx)
     have hxl := hn8 x hxr
     have hpj : Pre (addAll G0 (O.take j)) N := (pre_take G0 O j).trans hpE
     have hpj1 : Pre (addAll G0 (O.take (j + 1))) N := (pre_take G0 O (j + 1)).trans hpE
     have hat := addAll_take hx G0
     generalize addAll G0 (O.take j) = cur at hpj hat
     rw [hat] at hpj1
     have hjl := hpj.len
     have hidx : (addS cur x).idxOf x = N.idxOf x := (hpj1.idx (mem_addS.2 (.inr rfl))).symm
     have hlj : (((O.take j).map N.idxOf).map encNt).length = j := by simp; omega
     have hfj : ((O.take j).map N.idxOf).map encNt ++ [[AV.int .i64 ((N.idxOf x : Nat) : Int)]] = ((O.take (j + 1)).map N.idxOf).map encNt := by
      rw [take_succ' hx, List.map_append, List.map_append]; rfl
     have hfind := find_keyR x cur 0 0 (keyR_apart (n := t.facts.length) (by omega) (fun y hy => hNr y (hpj.mem hy)) hxr)
     simp only [Nat.zero_add] at hfind
     have hfind : aFind (.str (keyR x)) (encWR cur) 0 = _ := hfind
     simp only [go_sem, simprocAttr, hlt, hx, encL]
     refine (key02_spec x .unk _ (by omega) (hdg x hxr)).is ?_
     by_cases hm : x ∈ cur
     ·rw [if_pos hm] at hfind
      rw [addS_in hm] at hidx hat hpj1
      rw [hidx] at hfind
      simp only [go_sem, simprocAttr, hfind, hgR, hlti, hlj, hbig2, hfj, hw2, List.set_set, hRl]
      refine ⟨h, h, by rw [List.length_set]; omega, ?_⟩
      refine hK3 _ _ (j + 1) (by omega) (by omega) ?_
      rw [hat]
      exact ghL0 (hWj _ _ _)
     ·rw [if_neg hm] at hfind
      rw [addS_out hm] at hidx hat hpj1
      rw [pos_new hm] at hidx
      have hcl : cur.length + 1 ≤ N.length := by simpa using hpj1.len
      have hne : ((cur.length : Int) == 128) = false := by simp; omega
      have hbc : bigLen (cur.length + 1) 24 := big_ok (by omega) (by omega)
      have hmf : encWR cur ++ [(AV.str (keyR x), AV.int .i64 (cur.length : Nat))] = encWR (cur ++ [x]) := (encWR_snoc cur x).symm
      have hcf : cur.map encL ++ [[AV.slice .unk (x.map Ahl.encI)]] = (cur ++ [x]).map encL := by rw [List.map_append]; rfl
      have hcl2 : (cur ++ [x]).length = cur.length + 1 := by simp
      rw [← hidx] at hfj
      simp only [go_sem, simprocAttr, hfind, hne]
      refine (key02_spec x .unk _ (by omega) (hdg x hxr)).is ?_
      simp only [go_sem, simprocAttr, hfind, hmf, hcf, hbc, hgR, hlti, hlj, hbig2, hfj, hw2, List.set_set, hRl]
      refine ⟨h, h, by rw [List.length_set]; omega, ?_⟩
      refine hK3 _ _ (j + 1) (by omega) (by omega) ?_
      rw [hat]
      have := hWj (cur ++ [x]) ((O.take (j + 1)).map N.idxOf) (j + 1)
      rw [hcl2] at this ⊢
      exact ghL0 this
    ·have hlt : ¬ ((j : Int) < (O.length : Int)) := by omega
     rw [List.take_of_length_le (by omega), ← hgs]
     simp only [go_sem, simprocAttr, hlt, hE3, hw]
     have hfe : f i = .slice .unk ((O.map N.idxOf).map encNt) := hfe
     refine hK2 _ _ (i + 1) (by omega) (by omega) ?_
     refine Ghost.trans (Ghost.rewk (σ.length + 7) (xs := R0.set i (.slice (.grow (σ.length + 8)) ((O.map N.idxOf).map encNt))) (ys := R0.set i (.slice .unk ((O.map N.idxOf).map encNt))) (by simp) (wkL_set R0 i (Wk.unk _ _))) ?_
     simp only [g_set, List.cons_append, List.nil_append, List.set_cons_succ, List.set_cons_zero]
     rw [← hfe, hRs]
     have := hW1 (growG t g s ss (i + 1)) (i + 1)
     simp only [List.cons_append, List.nil_append] at this ⊢
     refine Ghost.keepL (g := [AObj.grow 1 j]) (k := 8) (([AObj.row (encTask t), AObj.row [AV.slice .nil [], AV.slice .nil [], AV.slice .nil []], AObj.grow 1 (List.length (growG t g s ss (i + 1))), AObj.row [AV.slice (.grow (σ.length + 2)) (List.map encL (growG t g s ss (i + 1))), AV.slice (.grow (σ.length + 5)) (List.map encNl C), AV.slice (.grow (σ.length + 6)) (List.map encB G1)], AObj.map (encWR (growG t g s ss (i + 1))), AObj.grow 1 (@List.length (List (Option (List Nat))) C), AObj.grow 1 (List.length G1)]) ++ [AObj.row (lst g.length (split f (fun _ => AV.slice .nil []) (i + 1)))]) rfl (Nat.le_refl _) ?_ (hW1 _ _)
     exact tellT
  ·have hig' : i = g.length := by omega
   have hlt : ¬ ((i : Int) < (g.length : Int)) := by omega
   subst hig'
   rw [← hssu]
   simp only [go_sem, simprocAttr, hlt, hE2]
   have hcells : lst g.length (split f (fun _ => AV.slice .nil []) g.length) = (nxO t g N s g.length).map nxC := by
    rw [lst_full _ _ (Nat.le_refl _), hf]; unfold lst nxO; rw [List.map_map]; rfl
   rw [hcells]
   refine Gh.of (Ghost.freeze 13 ((nxO t g N s g.length).map encNx) (id := σ.length + 7) (sz := 1) (off := 0) (len := g.length) rfl (by simp; rfl) (by simp [nxO]) ?_) ?_
   ·intro i e he
    rw [List.getElem?_map] at he
    obtain ⟨o, ho, rfl⟩ := Option.map_eq_some_iff.1 he
    refine ⟨rfl, fun j hj => ?_⟩
    have : j = 0 := by omega
    subst this
    rw [List.getElem?_map, show 0 + (i * 1 + 0) = i by omega, ho]; rfl
   have hCf : C.map encNl ++ [[AV.slice .unk ((nxO t g N s g.length).map encNx)]] = (NX t g N (k + 1)).map encNl := by rw [hNXs, List.map_append]; rfl
   have hCl : (NX t g N (k + 1)).length = k + 1 := hNXl _ _
   have hbig4 : bigLen (k + 1) 24 := big_ok (by omega) (by omega)
   simp only [go_sem, simprocAttr, hC, hbig4, hCf, hw0]
   refine hK _ _ (k + 1) ?_ (by omega) ?_
   ·rw [hN]
    have := (pre_growS (t := t) (g := g) ss k).len
    have e : growS t g ss k = N := by rw [← hN, ← hss]; rfl
    rw [e] at this; omega
   ·rw [hN]
    rw [← hGLs, show AObj.grow 1 (k + 1) = AObj.grow 1 (NX t g N (k + 1)).length by rw [hCl]]
    have hGk : (GL t N (k + 1)).length = k + 1 := hGLl _ _
    refine Ghost.keepL (g := [AObj.dead]) (k := 7) ([AObj.row (encTask t), AObj.row [AV.slice .nil [], AV.slice .nil [], AV.slice .nil []], AObj.grow 1 (List.length N), AObj.row [AV.slice (.grow (σ.length + 2)) (List.map encL N), AV.slice (.grow (σ.length + 5)) (List.map encNl (NX t g N (k + 1))), AV.slice (.grow (σ.length + 6)) (List.map encB (GL t N (k + 1)))], AObj.map (encWR N), AObj.grow 1 (@List.length (List (Option (List Nat))) (NX t g N (k + 1))), AObj.grow 1 (List.length (GL t N (k + 1)))]) rfl (Nat.le_refl _) ?_ (hW _ _ _)
    exact tellT
 ·have hke : k = (ssK t g s0 k).length := by omega
  have hlt : ¬ ((k : Int) < ((ssK t g s0 k).length : Int)) := by omega
  simp only [go_sem, simprocAttr, hlt, hE]
  have hkl : k ≤ 2 ^ t.facts.length := by have := ssK_len he hc hs k; omega
  have hF : ssF t g s0 = ssK t g s0 k := ssF_of he hc hs (by omega) hkl
  have e1 : encRW (rwF t g s0) = [.slice .unk ((ssK t g s0 k).map encL), .slice .unk ((NX t g (ssK t g s0 k) k).map encNl), .slice .unk ((GL t (ssK t g s0 k) k).map encB)] := by
   have c := NX_end (t := t) (g := g) (ss := ssK t g s0 k)
   have d := GL_end (t := t) (ss := ssK t g s0 k)
   rw [← hke] at c d
   rw [c, d]; unfold encRW rwF; rw [hF]
  refine ret_cN2 (σ := σ) (id := σ.length + 1) (x := .bool true) (cells := encRW (rwF t g s0)) rfl (by simp; rfl) (by omega) ?_ (by rw [e1]; rfl) rfl (by simp) hσ ?_ (.bool _) ⟨rfl, rfl⟩
  ·rw [e1]; exact .cons (Wk.unk _ _) (.cons (Wk.unk _ _) (.cons (Wk.unk _ _) .nil))
  ·rw [e1]; exact ids_agg (idsL_cons (ids_map ids_encL _) (idsL_cons (ids_map ids_encNl _) (idsL_cons (ids_map ids_encB _) idsL_nil)))
structure ROk (r : RW) : Prop where
 w : WOk r.w
 wid : ∀ l ∈ r.nx, l.length ≤ 1000000
theorem ROk.nx {r : RW} (h : ROk r) : r.nx.length = r.ss.length := by
 have := h.w.ch
 simpa [RW.w] using this
theorem ROk.gl {r : RW} (h : ROk r) : r.gl.length = r.ss.length := h.w.gl
theorem ROk.len {r : RW} (h : ROk r) : r.ss.length ≤ 1000000 := h.w.len
theorem mem_chFrom {l : List Nat} : ∀ {row : List (Option (List Nat))} (k : Nat), some l ∈ row → ∃ j, (j, l) ∈ chFrom k row
 | some m :: row, k, h => by
  rcases List.mem_cons.1 h with e | h
  ·injection e with e; subst e; exact ⟨k, List.mem_cons_self⟩
  ·obtain ⟨j, hj⟩ := mem_chFrom (k + 1) h; exact ⟨j, List.mem_cons_of_mem _ hj⟩
 | none :: row, k, h => by
  rcases List.mem_cons.1 h with e | h
  ·exact absurd e (by simp)
  ·exact mem_chFrom (k + 1) h
theorem ROk.ent {r : RW} (h : ROk r) {row : List (Option (List Nat))} (hr : row ∈ r.nx) {l : List Nat} (hl : some l ∈ row) : l.length ≤ 1000000 ∧ l ≠ [] ∧ ∀ k ∈ l, k < r.ss.length := by
 obtain ⟨j, hj⟩ := mem_chFrom 0 hl
 exact h.w.some (chFrom 0 row) (List.mem_map_of_mem hr) (j, l) hj
def updF {α : Type} (g : Nat → α) (i : Nat) (c : α) (x : Nat) : α := if x = i then c else g x
theorem upd_set {α : Type} {N : Nat} (g : Nat → α) (i : Nat) (c : α) : (lst N g).set i c = lst N (updF g i c) := by
 refine List.ext_getElem? fun j => ?_
 rcases Nat.lt_or_ge j N with hj | hj
 ·rw [lst_get _ hj]
  by_cases e : j = i
  ·subst e; rw [List.getElem?_set_self (by rw [lst_len]; exact hj)]; simp [updF]
  ·rw [List.getElem?_set_ne (fun q => e q.symm), lst_get _ hj]; simp [updF, e]
 ·rw [List.getElem?_eq_none (by rw [List.length_set, lst_len]; exact hj), List.getElem?_eq_none (by rw [lst_len]; exact hj)]
theorem updB_le2 {M : Nat → Bool} {j x : Nat} (h : M x = true) : updF M j true x = true := by unfold updF; split; rfl; exact h
theorem cnt_upd2 {N : Nat} {M : Nat → Bool} {j : Nat} (hj : j < N) (h : M j = false) : cnt N M < cnt N (updF M j true) :=
 cnt_strict (fun i _ hi => updB_le2 hi) ⟨j, hj, h, by simp [updF]⟩
def MonoR (N : Nat) (rule : (Nat → Bool) → Nat → Bool) : Prop := ∀ M S : Nat → Bool, (∀ i, i < N → M i = true → S i = true) → ∀ i, i < N → rule M i = true → rule S i = true
structure SoR (N : Nat) (init : Nat → Bool) (rule : (Nat → Bool) → Nat → Bool) (M : Nat → Bool) : Prop where
 base : ∀ i, i < N → init i = true → M i = true
 least : ∀ S : Nat → Bool, (∀ i, i < N → init i = true → S i = true) → (∀ i, i < N → rule S i = true → S i = true) → ∀ i, i < N → M i = true → S i = true
structure LfpR (N : Nat) (init : Nat → Bool) (rule : (Nat → Bool) → Nat → Bool) (M : Nat → Bool) : Prop extends SoR N init rule M where
 closed : ∀ i, i < N → rule M i = true → M i = true
structure PassR (N : Nat) (init : Nat → Bool) (rule : (Nat → Bool) → Nat → Bool) (M0 : Nat → Bool) (i : Nat) (M : Nat → Bool) (more : Bool) : Prop where
 so : SoR N init rule M
 le : ∀ x, M0 x = true → M x = true
 still : more = false → M = M0 ∧ ∀ i', i' < i → rule M0 i' = true → M0 i' = true
 grew : more = true → cnt N M0 < cnt N M
theorem PassR.zero {N : Nat} {init : Nat → Bool} {rule : (Nat → Bool) → Nat → Bool} {M0 : Nat → Bool} (h : SoR N init rule M0) : PassR N init rule M0 0 M0 false :=
 ⟨h, fun _ q => q, fun _ => ⟨rfl, fun i hi => absurd hi (by simp)⟩, fun q => absurd q (by simp)⟩
theorem PassR.add {N : Nat} {init : Nat → Bool} {rule : (Nat → Bool) → Nat → Bool} {M0 : Nat → Bool} {i : Nat} {M : Nat → Bool} {more : Bool} (hm : MonoR N rule) (h : PassR N init rule M0 i M more) (hi : i < N) (hn : M i = false) (hr : rule M i = true) :
  PassR N init rule M0 (i + 1) (updF M i true) true where
 so := ⟨fun x hx q => updB_le2 (h.so.base x hx q), fun S h0 hS x hx hx2 => by
  unfold updF at hx2
  split at hx2
  ·rename_i e; rw [e]
   exact hS i hi (hm M S (h.so.least S h0 hS) i hi hr)
  ·exact h.so.least S h0 hS x hx hx2⟩
 le x hx := updB_le2 (h.le x hx)
 still q := absurd q (by simp)
 grew _ := by
  have h1 : cnt N M0 ≤ cnt N M := cnt_mono fun i _ hi => h.le i hi
  have h2 := cnt_upd2 hi hn
  omega
theorem PassR.skip {N : Nat} {init : Nat → Bool} {rule : (Nat → Bool) → Nat → Bool} {M0 : Nat → Bool} {i : Nat} {M : Nat → Bool} {more : Bool} (h : PassR N init rule M0 i M more) (hr : M i = true ∨ rule M i = false) : PassR N init rule M0 (i + 1) M more :=
 ⟨h.so, h.le, fun q => by
  obtain ⟨e, hp⟩ := h.still q
  refine ⟨e, fun x hx hq => ?_⟩
  rcases Nat.lt_or_ge x i with q2 | q2
  ·exact hp x q2 hq
  ·have : x = i := by omega
   subst this
   rw [← e] at hq ⊢
   rcases hr with hr | hr
   ·exact hr
   ·rw [hr] at hq; simp at hq, h.grew⟩
theorem PassR.close {N : Nat} {init : Nat → Bool} {rule : (Nat → Bool) → Nat → Bool} {M0 : Nat → Bool} {M : Nat → Bool} {more : Bool} (h : PassR N init rule M0 N M more) (q : more = false) : ∀ i, i < N → rule M i = true → M i = true := by
 obtain ⟨e, hp⟩ := h.still q
 subst e; exact hp
theorem PassR.less {N : Nat} {init : Nat → Bool} {rule : (Nat → Bool) → Nat → Bool} {M0 : Nat → Bool} {i : Nat} {M : Nat → Bool} {more : Bool} (h : PassR N init rule M0 i M more) : 2 * (N - cnt N M) + (if more then 1 else 0) < 2 * (N - cnt N M0) + (if true then 1 else 0) := by
 have h1 := cnt_le N M
 have h2 := cnt_le N M0
 cases more
 ·have := (h.still rfl).1; subst this; simp
 ·have := h.grew rfl; simp; omega
theorem LfpR.unique {N : Nat} {init : Nat → Bool} {rule : (Nat → Bool) → Nat → Bool} {M S : Nat → Bool} (h : LfpR N init rule M) (k : LfpR N init rule S) : ∀ i, i < N → M i = S i := fun i hi => by
 have h1 := h.least S k.base k.closed i hi
 have h2 := k.least M h.base h.closed i hi
 cases hM : M i <;> cases hS : S i
 ·rfl
 ·rw [h2 hS] at hM; simp at hM
 ·rw [h1 hM] at hS; simp at hS
 ·rfl
def leadP (fin M : Nat → Bool) (l : List Nat) : Bool := l.all fin && l.any M
def leadsB (r : RW) (fin M : Nat → Bool) (i : Nat) : Bool := (r.nx.getD i []).any (pO (leadP fin M))
def ruleC (r : RW) (fin M : Nat → Bool) (i : Nat) : Bool := fin i && (goalB r.w i || leadsB r fin M i)
theorem leadP_mono {fin M S : Nat → Bool} {l : List Nat} {N : Nat} (hl : ∀ x ∈ l, x < N) (h : ∀ i, i < N → M i = true → S i = true) (q : leadP fin M l = true) : leadP fin S l = true := by
 unfold leadP at q ⊢
 rw [Bool.and_eq_true, List.any_eq_true] at q ⊢
 obtain ⟨q1, x, hx, q2⟩ := q
 exact ⟨q1, x, hx, h x (hl x hx) q2⟩
theorem row_lt {r : RW} (hr : ROk r) {i : Nat} {l : List Nat} (h : some l ∈ r.nx.getD i []) : ∀ x ∈ l, x < r.ss.length := by
 rw [List.getD_eq_getElem?_getD] at h
 cases hq : r.nx[i]? with
 | none => rw [hq] at h; simp at h
 | some row => rw [hq] at h; exact (hr.ent (List.mem_of_getElem? hq) h).2.2
theorem leadsB_mono {r : RW} (hr : ROk r) {fin M S : Nat → Bool} (h : ∀ i, i < r.ss.length → M i = true → S i = true) (i : Nat) (q : leadsB r fin M i = true) : leadsB r fin S i = true := by
 unfold leadsB at q ⊢
 rw [List.any_eq_true] at q ⊢
 obtain ⟨o, ho, q⟩ := q
 refine ⟨o, ho, ?_⟩
 cases o with
 | none => exact q
 | some l => exact leadP_mono (row_lt hr ho) h q
theorem ruleC_mono {r : RW} (hr : ROk r) (fin : Nat → Bool) : MonoR r.ss.length (ruleC r fin) := fun M S h i hi q => by
 unfold ruleC at q ⊢
 rw [Bool.and_eq_true, Bool.or_eq_true] at q ⊢
 exact ⟨q.1, q.2.imp id (leadsB_mono hr h i)⟩
theorem leads_nC (r : RW) (fin M : Nat → Bool) (i : Nat) : leadsB r fin M i = decide (0 ≤ nC r.w fin M i) := by
 unfold leadsB nC
 have h1 := idxFrom_ge (nB fin M) (r.w.ch.getD i []) 0 (Int.le_refl _)
 have h2 : decide (idxFrom (nB fin M) 0 (r.w.ch.getD i []) ≥ 0) = decide (0 ≤ idxFrom (nB fin M) 0 (r.w.ch.getD i [])) := rfl
 rw [← h2, h1, rw_ch, ← any_ch (leadP fin M) 0]
 refine any_congr16 fun c _ => ?_
 unfold leadP nB
 congr 1
 induction c.2 with
 | nil => rfl
 | cons x l ih => rw [List.all_cons, List.any_cons, ih]; cases fin x <;> simp
theorem nIter_sub {w : Wld} {left : Nat → Bool} : ∀ (k i : Nat), (nIter w left k).2 i = true → left i = true
 | 0, i, h => by
  have h : (left i && goalB w i) = true := h
  rw [Bool.and_eq_true] at h; exact h.1
 | k + 1, i, h => by
  have h : ((nIter w left k).2 i || (left i && decide (0 ≤ nC w left (nIter w left k).2 i))) = true := h
  rw [Bool.or_eq_true, Bool.and_eq_true] at h
  rcases h with h | h
  ·exact nIter_sub k i h
  ·exact h.1
theorem nIter_goal {w : Wld} {left : Nat → Bool} {i : Nat} (h : left i = true) (hg : goalB w i = true) : ∀ k, (nIter w left k).2 i = true ∧ (nIter w left k).1 i = -1
 | 0 => ⟨by show (left i && goalB w i) = true; rw [h, hg]; rfl, rfl⟩
 | k + 1 => by
  obtain ⟨h1, h2⟩ := nIter_goal h hg k
  refine ⟨?_, ?_⟩
  ·show ((nIter w left k).2 i || _) = true
   rw [h1]; rfl
  ·show (if left i && !(nIter w left k).2 i then nC w left (nIter w left k).2 i else (nIter w left k).1 i) = -1
   rw [h1, h]; simpa using h2
theorem nIter_in {w : Wld} {left : Nat → Bool} {i : Nat} (hg : (left i && goalB w i) = false) : ∀ k, (nIter w left k).2 i = true → 0 ≤ (nIter w left k).1 i
 | 0, h => by
  have h : (left i && goalB w i) = true := h
  rw [hg] at h; simp at h
 | k + 1, h => by
  have h' : ((nIter w left k).2 i || (left i && decide (0 ≤ nC w left (nIter w left k).2 i))) = true := h
  show 0 ≤ (if left i && !(nIter w left k).2 i then nC w left (nIter w left k).2 i else (nIter w left k).1 i)
  cases hc : (nIter w left k).2 i
  ·rw [hc, Bool.false_or, Bool.and_eq_true, decide_eq_true_eq] at h'
   rw [h'.1]; simpa using h'.2
  ·simp only [Bool.not_true, Bool.and_false, Bool.false_eq_true, if_false]
   exact nIter_in hg k hc
theorem cStep_eq (w : Wld) (left : Nat → Bool) (i : Nat) : cStep w left i = (nIter w left (w.ss.length + 1)).2 i := by
 unfold cStep nearF
 cases hl : left i
 ·cases hq : (nIter w left (w.ss.length + 1)).2 i
  ·rfl
  ·rw [nIter_sub _ _ hq] at hl; simp at hl
 cases hg : goalB w i
 ·simp only [Bool.true_and, Bool.false_or]
  cases hq : (nIter w left (w.ss.length + 1)).2 i
  ·rw [nIter_out _ _ hq]; rfl
  ·exact decide_eq_true (nIter_in (by rw [hg]; simp) _ hq)
 ·rw [(nIter_goal hl hg _).1]; rfl
theorem nIter_cnt {w : Wld} {left : Nat → Bool} : ∀ k, (∀ j, j < k → ∃ i, i < w.ss.length ∧ newB w left (nIter w left j) i = true) → k ≤ cnt w.ss.length (nIter w left k).2
 | 0, _ => Nat.zero_le _
 | k + 1, h => by
  have h1 := nIter_cnt k fun j hj => h j (by omega)
  have h2 := nIter_grow (h k (by omega))
  omega
theorem newB_same {w : Wld} (hw : WOk w) {left : Nat → Bool} {s s' : NS} (h : NSame w.ss.length s s') {i : Nat} (hi : i < w.ss.length) : newB w left s i = newB w left s' i := by
 unfold newB
 rw [(h i hi).2, nC_same hw (fun j hj => (h j hj).2) hi]
theorem nIter_end {w : Wld} (hw : WOk w) (left : Nat → Bool) : ∀ i, i < w.ss.length → newB w left (nIter w left (w.ss.length + 1)) i = false := by
 have h : ∃ k, k < w.ss.length + 1 ∧ ∀ i, i < w.ss.length → newB w left (nIter w left k) i = false := by
  refine Classical.byContradiction fun q => ?_
  have h1 := nIter_cnt (w := w) (left := left) (w.ss.length + 1) fun j hj => by
   refine Classical.byContradiction fun q2 => q ⟨j, hj, fun i hi => ?_⟩
   cases hb : newB w left (nIter w left j) i
   ·rfl
   ·exact absurd ⟨i, hi, hb⟩ q2
  have h2 := cnt_le w.ss.length (nIter w left (w.ss.length + 1)).2
  omega
 obtain ⟨k, hk, hs⟩ := h
 have h1 := nIter_stop hw (nIter_still hs) (w.ss.length + 1 - k)
 rw [show k + (w.ss.length + 1 - k) = w.ss.length + 1 by omega] at h1
 intro i hi
 rw [newB_same hw h1 hi]; exact hs i hi
theorem cStep_lfp {r : RW} (hr : ROk r) (left : Nat → Bool) : LfpR r.ss.length (fun _ => false) (ruleC r left) (cStep r.w left) := by
 have e : cStep r.w left = (nIter r.w left (r.ss.length + 1)).2 := funext fun i => cStep_eq r.w left i
 rw [e]
 refine ⟨⟨fun _ _ q => absurd q (by simp), fun S _ hS i hi h => ?_⟩, fun i hi h => ?_⟩
 ·have key : ∀ k i, i < r.ss.length → (nIter r.w left k).2 i = true → S i = true := by
   intro k
   induction k with
   | zero =>
    intro i hi h
    have h : (left i && goalB r.w i) = true := h
    rw [Bool.and_eq_true] at h
    exact hS i hi (by unfold ruleC; rw [h.1, h.2]; rfl)
   | succ k ih =>
    intro i hi h
    have h : ((nIter r.w left k).2 i || (left i && decide (0 ≤ nC r.w left (nIter r.w left k).2 i))) = true := h
    rw [Bool.or_eq_true, Bool.and_eq_true] at h
    rcases h with h | h
    ·exact ih i hi h
    ·refine hS i hi ?_
     unfold ruleC
     rw [h.1, leadsB_mono hr ih i (by rw [leads_nC]; exact h.2)]; simp
  exact key _ i hi h
 ·unfold ruleC at h
  rw [Bool.and_eq_true, Bool.or_eq_true] at h
  rcases h with ⟨hl, hg | hg⟩
  ·exact (nIter_goal hl hg _).1
  ·have hn := nIter_end hr.w left i hi
   unfold newB at hn
   have hg' : leadsB r left (nIter r.w left (r.w.ss.length + 1)).2 i = true := hg
   rw [hl, ← leads_nC, hg'] at hn
   show (nIter r.w left (r.w.ss.length + 1)).2 i = true
   simpa using hn
def e_leads_0 : List COp := [oS 33 (.move (.tmp 11)), oA 34 (.move (.tmp 33)) [0], ⟨some 35, .move (.tmp 2), some (some 34, true), [1]⟩, ⟨some 36, .move (.tmp 14), some (some 34, true), [1]⟩, ⟨some 37, .iaddr 1 (.tmp 35) (.tmp 36), some (some 34, true), [2, 3, 1]⟩, ⟨some 38, .load none (.tmp 37), some (some 34, true), [4, 1]⟩, oA 39 (.pick (.tmp 34) (.tmp 38) (.lit (.bool false))) [1, 5], oS 40 (.move (.tmp 12)), oA 41 (.move (.tmp 40)) [7, 1], ⟨some 42, .move (.tmp 3), some (some 41, false), [8]⟩, ⟨some 43, .move (.tmp 14), some (some 41, false), [8]⟩, ⟨some 44, .iaddr 1 (.tmp 42) (.tmp 43), some (some 41, false), [9, 10, 8]⟩, ⟨some 45, .load none (.tmp 44), some (some 41, false), [11, 8]⟩, oA 46 (.pick (.tmp 41) (.lit (.bool true)) (.tmp 45)) [8, 12], oA 11 (.move (.tmp 39)) [6, 8, 0, 1, 2, 3, 4, 5, 6], oA 12 (.move (.tmp 46)) [13, 14, 0, 1, 2, 3, 4, 5, 6, 7, 8, 9, 10, 11, 12, 13, 14]]
def d_leads_0 : List COp := e_leads_0
theorem dr_leads_0 (P : Program) (nt n0 : Nat) (Q : Post) (s : Slots) (σ : Store) : wpc P nt n0 (.draw d_leads_0) Q s σ = aOpsD P nt e_leads_0 (Q .normal) s σ := wpc_draw _ (by decide)
attribute [local go_sem] dr_leads_0 e_leads_0
def c_leads : CCode := .seq (.ops [oS 4 (.box (.tmp 0)), oS 8 (.move (.lit (.bool false)))]) (.seq (.seq (.ops [oS 15 (.faddr 1 (.tmp 4)), oS 16 (.load none (.tmp 15)), oS 17 (.move (.tmp 1)), oS 18 (.iaddr 1 (.tmp 16) (.tmp 17)), oS 19 (.load none (.tmp 18)), oS 20 (.blen 1 (.tmp 19)), oS 21 (.move (.lit (.int .i64 0)))]) (.block 0 (.loop (.seq (.ops [oS 22 (.bin .lss .none (.tmp 21) (.tmp 20))]) (.seq (.cond (.tmp 22) .skip (.exit 0)) (.seq (.block 1 (.seq (.ops [oS 23 (.iaddr 1 (.tmp 19) (.tmp 21)), oS 24 (.load none (.tmp 23)), oS 10 (.move (.tmp 24))]) (.seq (.ops [oS 25 (.move (.tmp 10)), oS 26 (.bin .neq .slice (.tmp 25) (.lit (.slice .nil []))), oS 11 (.move (.tmp 26)), oS 12 (.move (.lit (.bool false)))]) (.seq (.seq (.ops [oS 27 (.move (.tmp 10)), oS 28 (.blen 1 (.tmp 27)), oS 29 (.move (.lit (.int .i64 0)))]) (.block 2 (.loop (.seq (.ops [oS 30 (.bin .lss .none (.tmp 29) (.tmp 28))]) (.seq (.cond (.tmp 30) .skip (.exit 2)) (.seq (.block 3 (.seq (.ops [oS 31 (.iaddr 1 (.tmp 27) (.tmp 29)), oS 32 (.load none (.tmp 31)), oS 14 (.move (.tmp 32))]) (.draw d_leads_0))) (.ops [oS 47 (.bin .add .none (.tmp 29) (.lit (.int .i64 1))), oS 29 (.move (.tmp 47))]))))))) (.seq (.ops [oS 48 (.move (.tmp 11)), oS 49 (.move (.tmp 48)), oG 50 49 true (.move (.tmp 12)), oS 51 (.pick (.tmp 49) (.tmp 50) (.lit (.bool false)))]) (.cond (.tmp 51) (.seq (.ops [oS 8 (.move (.lit (.bool true)))]) .ret) .skip)))))) (.ops [oS 52 (.bin .add .none (.tmp 21) (.lit (.int .i64 1))), oS 21 (.move (.tmp 52))]))))))) (.seq (.ops [oS 8 (.move (.lit (.bool false)))]) .ret))
theorem leads_spec (r : RW) (i : Nat) (fin M : Nat → Bool) (a b N : Nat) (σ : Store) (h : ROk r) (hN : N = r.ss.length) (hi : i < N) (ha : σ[a]? = some (.row ((lst N fin).map ab))) (hb : σ[b]? = some (.row ((lst N M).map ab))) :
  ACalls Tryz.prog 64 [.agg (encRW r), .int .i64 (i : Nat), .ref a 1 0 N, .ref b 1 0 N] σ (isR (.bool (leadsB r fin M i)) σ) := by
 refine ACalls.intro (rs := [(.tmp 8)]) (by kernel_rfl) { own := [], ghosts := [] } Tryz.func64 (c := Tryz.f64.body.getD .skip) (by kernel_rfl) (by decide) (by rw [show Tryz.f64.ntmps = 53 by kernel_rfl]; exact Nat.le_of_ble_eq_true rfl) (by kernel_rfl) ?_
 intro hσ hids
 rw [show comp Tryz.prog { own := [], ghosts := [] } (Tryz.f64.body.getD .skip) = c_leads by kernel_rfl, show Tryz.f64.ntmps = 53 by kernel_rfl]
 unfold c_leads
 have hal := lt_of_get ha
 have hbl := lt_of_get hb
 have hnx := h.nx
 have hga : ∀ l, (σ ++ l)[a]? = some (.row ((lst N fin).map ab)) := fun l => by rw [List.getElem?_append_left hal]; exact ha
 have hgb : ∀ l, (σ ++ l)[b]? = some (.row ((lst N M).map ab)) := fun l => by rw [List.getElem?_append_left hbl]; exact hb
 obtain ⟨row, hr⟩ := get_ex (show i < r.nx.length by omega)
 have hrm := List.mem_of_getElem? hr
 have hrl := h.wid row hrm
 have hlead : leadsB r fin M i = row.any (pO (leadP fin M)) := by unfold leadsB; rw [List.getD_eq_getElem?_getD, hr]; rfl
 rw [hlead]
 simp only [go_sem, simprocAttr, encRW, hr, encNl]
 refine wpc_while (fun (j : Nat) => [(2, .ref a 1 0 N), (3, .ref b 1 0 N), (19, .slice .unk (row.map encNx)), (20, .int .i64 row.length), (21, .int .i64 (j : Nat))]) (fun _ => σ) (fun j => j ≤ row.length ∧ row.any (pO (leadP fin M)) = (row.drop j).any (pO (leadP fin M))) (fun j => row.length - j) 0 ⟨Nat.zero_le _, rfl⟩ (by (try dsimp only); exact ghA) ?_
 rintro j ⟨hj, hv⟩ K hK hE hR
 by_cases hjl : j < row.length
 ·obtain ⟨o, ho⟩ := get_ex hjl
  have hltj : ((j : Int) < (row.length : Int)) := by omega
  have hwj := wrapS (i := j) (by omega)
  rw [drop_cons ho, List.any_cons] at hv
  cases o with
  | none =>
   have hv : _ = (row.drop (j + 1)).any (pO (leadP fin M)) := hv
   simp only [go_sem, simprocAttr, hltj, ho, encNx, nxC]
   intro b' _ hb'
   have := hb' trivial
   subst this
   refine wpc_while (fun (k : Nat) => [(2, .ref a 1 0 N), (3, .ref b 1 0 N), (11, .bool false), (12, .bool false), (19, .slice .unk (row.map encNx)), (20, .int .i64 row.length), (21, .int .i64 (j : Nat)), (28, .int .i64 0), (29, .int .i64 0)]) (fun _ => σ) (fun _ => True) (fun k => k) 0 trivial (by (try dsimp only); exact ghA) ?_
   intro k _ K2 hK2 hE2 hR2
   simp only [go_sem, simprocAttr, hE2]
   refine hK _ _ (j + 1) ⟨by omega, hv⟩ (by omega) ?_
   rw [hwj]
   exact ghk0
  | some l =>
   obtain ⟨l1, l2, l3⟩ := h.ent hrm (List.mem_of_getElem? ho)
   simp only [go_sem, simprocAttr, hltj, ho, encNx, nxC]
   intro b' hb' _
   have := hb' (by simpa using l2)
   subst this
   refine wpc_while (fun (k : Nat) => [(2, .ref a 1 0 N), (3, .ref b 1 0 N), (11, .bool ((l.take k).all fin)), (12, .bool ((l.take k).any M)), (19, .slice .unk (row.map encNx)), (20, .int .i64 row.length), (21, .int .i64 (j : Nat)), (27, .slice .unk (l.map encNt)), (28, .int .i64 l.length), (29, .int .i64 (k : Nat))]) (fun _ => σ) (fun k => k ≤ l.length) (fun k => l.length - k) 0 (Nat.zero_le _) (by (try dsimp only); exact ghA) ?_
   intro k hk K2 hK2 hE2 hR2
   by_cases hkl : k < l.length
   ·obtain ⟨x, hx⟩ := get_ex hkl
    have hltk : ((k : Int) < (l.length : Int)) := by omega
    have hwk := wrapS (i := k) (by omega)
    have hxN : x < N := by have := l3 x (List.mem_of_getElem? hx); omega
    have hxi : ((x : Int) < (N : Int)) := by omega
    have h1 := lst_get fin hxN
    have h2 := lst_get M hxN
    have e1 : (l.take (k + 1)).all fin = ((l.take k).all fin && fin x) := by rw [take_succ' hx, List.all_append]; simp
    have e2 : (l.take (k + 1)).any M = ((l.take k).any M || M x) := by rw [take_succ' hx, List.any_append]; simp
    generalize (l.take k).all fin = A at e1
    generalize (l.take k).any M = B at e2
    cases A <;> cases B <;>
    ·simp only [go_sem, simprocAttr, hltk, hx, encNt, hxi, hxN, hga, hgb, ha, hb, h1, h2, ab]
     refine hK2 _ _ (k + 1) (by omega) (by omega) ?_
     rw [hwk, e1, e2]
     exact ghk0
   ·have hltk : ¬ ((k : Int) < (l.length : Int)) := by omega
    rw [List.take_of_length_le (by omega)]
    have hp : pO (leadP fin M) (some l) = (l.all fin && l.any M) := rfl
    rw [hp] at hv
    generalize l.all fin = A at hv
    generalize l.any M = B at hv
    cases A
    ·simp only [go_sem, simprocAttr, hltk, hE2]
     refine hK _ _ (j + 1) ⟨by omega, by rw [hv]; rfl⟩ (by omega) ?_
     rw [hwj]
     exact ghk0
    cases B
    ·simp only [go_sem, simprocAttr, hltk, hE2]
     refine hK _ _ (j + 1) ⟨by omega, by rw [hv]; rfl⟩ (by omega) ?_
     rw [hwj]
     exact ghk0
    ·simp only [go_sem, simprocAttr, hltk, hE2, hR]
     exact rt (.bool true) ⟨by rw [hv]; rfl, rfl⟩
 ·have hltj : ¬ ((j : Int) < (row.length : Int)) := by omega
  rw [drop_len hjl] at hv
  simp only [go_sem, simprocAttr, hltj, hE]
  exact rt (.bool false) ⟨by rw [hv]; rfl, rfl⟩
theorem rep_ab1 (n : Nat) : (List.replicate n [AV.bool false]).flatten = (lst n fun _ => false).map ab := by
 rw [← lst_const]
 induction n with
 | zero => rfl
 | succ n ih => rw [List.replicate_succ, List.flatten_cons, ih, List.replicate_succ]; rfl
def sameB (f g : Nat → Bool) (i : Nat) : Bool := (List.range i).all fun x => f x == g x
theorem sameB_succ (f g : Nat → Bool) (i : Nat) : sameB f g (i + 1) = (sameB f g i && (f i == g i)) := by
 unfold sameB; rw [List.range_succ, List.all_append]; simp
theorem cStep_sub {w : Wld} {left : Nat → Bool} {i : Nat} (h : cStep w left i = true) : left i = true := by
 unfold cStep at h; rw [Bool.and_eq_true] at h; exact h.1
def e_cycW_0 : List COp := [oS 66 (.move (.tmp 8)), oA 67 (.move (.tmp 66)) [0], ⟨some 68, .move (.tmp 3), some (some 67, true), [1]⟩, ⟨some 69, .move (.tmp 9), some (some 67, true), [1]⟩, ⟨some 70, .iaddr 1 (.tmp 68) (.tmp 69), some (some 67, true), [2, 3, 1]⟩, ⟨some 71, .load none (.tmp 70), some (some 67, true), [4, 1]⟩, ⟨some 72, .move (.tmp 5), some (some 67, true), [1]⟩, ⟨some 73, .move (.tmp 9), some (some 67, true), [1]⟩, ⟨some 74, .iaddr 1 (.tmp 72) (.tmp 73), some (some 67, true), [6, 7, 1]⟩, ⟨some 75, .load none (.tmp 74), some (some 67, true), [8, 1]⟩, ⟨some 76, .bin .eql .bool (.tmp 71) (.tmp 75), some (some 67, true), [5, 9, 1]⟩, oA 77 (.pick (.tmp 67) (.tmp 76) (.lit (.bool false))) [1, 10], oA 8 (.move (.tmp 77)) [11, 1, 0, 1, 2, 3, 4, 5, 6, 7, 8, 9, 10, 11]]
def d_cycW_0 : List COp := e_cycW_0
theorem dr_cycW_0 (P : Program) (nt n0 : Nat) (Q : Post) (s : Slots) (σ : Store) : wpc P nt n0 (.draw d_cycW_0) Q s σ = aOpsD P nt e_cycW_0 (Q .normal) s σ := wpc_draw _ (by decide)
attribute [local go_sem] dr_cycW_0 e_cycW_0
def c_cycW : CCode := .seq (.ops [oS 1 (.box (.tmp 0)), oS 2 (.move (.lit (.bool false)))]) (.seq (.ops [oS 10 (.faddr 0 (.tmp 1)), oS 11 (.load none (.tmp 10)), oS 12 (.blen 1 (.tmp 11)), oS 13 (.mkslice 1 1 [.bool false] (.tmp 12) (.tmp 12) true), oS 3 (.move (.tmp 13))]) (.seq (.seq (.ops [oS 14 (.move (.tmp 3)), oS 15 (.blen 1 (.tmp 14)), oS 16 (.move (.lit (.int .i64 0)))]) (.block 0 (.loop (.seq (.ops [oS 17 (.bin .lss .none (.tmp 16) (.tmp 15))]) (.seq (.cond (.tmp 17) .skip (.exit 0)) (.seq (.block 1 (.seq (.ops [oS 18 (.move (.tmp 16)), oS 4 (.move (.tmp 18))]) (.ops [oS 19 (.move (.tmp 3)), oS 20 (.move (.tmp 4)), oS 21 (.iaddr 1 (.tmp 19) (.tmp 20)), oN (.store 1 (.tmp 21) (.lit (.bool true)))]))) (.ops [oS 22 (.bin .add .none (.tmp 16) (.lit (.int .i64 1))), oS 16 (.move (.tmp 22))]))))))) (.block 2 (.loop (.block 3 (.seq (.ops [oS 23 (.move (.tmp 3)), oS 24 (.blen 1 (.tmp 23)), oS 25 (.mkslice 1 1 [.bool false] (.tmp 24) (.tmp 24) true), oS 5 (.move (.tmp 25))]) (.seq (.seq (.ops [oS 6 (.move (.lit (.bool true)))]) (.block 4 (.loop (.seq (.seq (.ops [oS 26 (.move (.tmp 6))]) (.cond (.tmp 26) .skip (.exit 4))) (.block 5 (.seq (.ops [oS 6 (.move (.lit (.bool false)))]) (.seq (.ops [oS 27 (.move (.tmp 3)), oS 28 (.blen 1 (.tmp 27)), oS 29 (.move (.lit (.int .i64 0)))]) (.block 6 (.loop (.seq (.ops [oS 30 (.bin .lss .none (.tmp 29) (.tmp 28))]) (.seq (.cond (.tmp 30) .skip (.exit 6)) (.seq (.block 7 (.seq (.ops [oS 31 (.move (.tmp 29)), oS 7 (.move (.tmp 31))]) (.seq (.ops [oS 32 (.move (.tmp 3)), oS 33 (.move (.tmp 7)), oS 34 (.iaddr 1 (.tmp 32) (.tmp 33)), oS 35 (.load none (.tmp 34)), oS 36 (.move (.tmp 35)), oG 37 36 true (.move (.tmp 5)), oG 38 36 true (.move (.tmp 7)), oG 39 36 true (.iaddr 1 (.tmp 37) (.tmp 38)), oG 40 36 true (.load none (.tmp 39)), oG 41 36 true (.un .not (.tmp 40)), oS 42 (.pick (.tmp 36) (.tmp 41) (.lit (.bool false))), oS 43 (.move (.tmp 42)), oG 44 43 true (.faddr 2 (.tmp 1)), oG 45 43 true (.load none (.tmp 44)), oG 46 43 true (.move (.tmp 7)), oG 47 43 true (.iaddr 1 (.tmp 45) (.tmp 46)), oG 48 43 true (.load none (.tmp 47)), oG 49 43 true (.move (.tmp 48)), oG 50 49 false (.load (some 3) (.tmp 1)), oG 51 49 false (.move (.tmp 7)), oG 52 49 false (.move (.tmp 3)), oG 53 49 false (.move (.tmp 5)), oG 54 49 false (.call (.lit (.func 64 [])) [.tmp 50, .tmp 51, .tmp 52, .tmp 53]), oG 55 43 true (.pick (.tmp 49) (.lit (.bool true)) (.tmp 54)), oS 56 (.pick (.tmp 43) (.tmp 55) (.lit (.bool false)))]) (.cond (.tmp 56) (.ops [oS 57 (.move (.tmp 5)), oS 58 (.move (.tmp 7)), oS 59 (.iaddr 1 (.tmp 57) (.tmp 58)), oN (.store 1 (.tmp 59) (.lit (.bool true))), oS 6 (.move (.lit (.bool true)))]) .skip)))) (.ops [oS 60 (.bin .add .none (.tmp 29) (.lit (.int .i64 1))), oS 29 (.move (.tmp 60))]))))))))))))) (.seq (.ops [oS 8 (.move (.lit (.bool true)))]) (.seq (.seq (.ops [oS 61 (.move (.tmp 3)), oS 62 (.blen 1 (.tmp 61)), oS 63 (.move (.lit (.int .i64 0)))]) (.block 8 (.loop (.seq (.ops [oS 64 (.bin .lss .none (.tmp 63) (.tmp 62))]) (.seq (.cond (.tmp 64) .skip (.exit 8)) (.seq (.block 9 (.seq (.ops [oS 65 (.move (.tmp 63)), oS 9 (.move (.tmp 65))]) (.draw d_cycW_0))) (.ops [oS 78 (.bin .add .none (.tmp 63) (.lit (.int .i64 1))), oS 63 (.move (.tmp 78))]))))))) (.seq (.seq (.ops [oS 79 (.move (.tmp 8))]) (.cond (.tmp 79) (.seq (.ops [oS 80 (.move (.tmp 3)), oS 81 (.iaddr 1 (.tmp 80) (.lit (.int .i64 0))), oS 82 (.load none (.tmp 81)), oS 2 (.move (.tmp 82))]) .ret) .skip)) (.ops [oS 83 (.move (.tmp 5)), oS 3 (.move (.tmp 83))])))))))))))
set_option maxHeartbeats 4000000 in
theorem cycW_spec (r : RW) (σ : Store) (h : ROk r) (h0 : 0 < r.ss.length) :
  ACalls Tryz.prog 25 [.agg (encRW r)] σ (fun v σ' => σ' = σ ∧ ∃ m, (∀ i, i < r.ss.length → cIter r.w (m + 1) i = cIter r.w m i) ∧ v = .bool (cIter r.w m 0)) := by
 refine ACalls.intro (rs := [(.tmp 2)]) (by kernel_rfl) { own := [(1, 3), (7, 2)], ghosts := [] } Tryz.func25 (c := Tryz.f25.body.getD .skip) (by kernel_rfl) (by decide) (by rw [show Tryz.f25.ntmps = 84 by kernel_rfl]; exact Nat.le_of_ble_eq_true rfl) (by kernel_rfl) ?_
 intro hσ hids
 rw [show comp Tryz.prog { own := [(1, 3), (7, 2)], ghosts := [] } (Tryz.f25.body.getD .skip) = c_cycW by kernel_rfl, show Tryz.f25.ntmps = 84 by kernel_rfl]
 unfold c_cycW
 have hlen := h.len
 have hgl := h.gl
 have hrow : ∀ n, IdsL n (encRW r) := fun n => idsL_cons (ids_map ids_encL _) (idsL_cons (ids_map ids_encNl _) (idsL_cons (ids_map ids_encB _) idsL_nil))
 have hS : ∀ F : List Bool, IdsS (σ ++ [AObj.row (encRW r), AObj.row (List.map ab F)]).length (σ ++ [AObj.row (encRW r), AObj.row (List.map ab F)]) := fun F => idsS_app _ hσ (all_cons' (idsO_row (hrow _)) (all_cons' (ids_ab _) all_nil'))
 have hS2 : ∀ F G : List Bool, IdsS (σ ++ [AObj.row (encRW r), AObj.row (F.map ab), AObj.row (G.map ab)]).length (σ ++ [AObj.row (encRW r), AObj.row (F.map ab), AObj.row (G.map ab)]) := fun F G => idsS_app _ hσ (all_cons' (idsO_row (hrow _)) (all_cons' (ids_ab _) (all_cons' (ids_ab _) all_nil')))
 have hS1 : IdsS (σ ++ [AObj.row (encRW r)]).length (σ ++ [AObj.row (encRW r)]) := idsS_push hσ (idsO_row (hrow _))
 have hle := fun i fin M a b N σ hN hi ha hb => leads_spec r i fin M a b N σ h hN hi ha hb
 obtain ⟨N, hN⟩ : ∃ N, N = r.ss.length := ⟨_, rfl⟩
 simp only [encRW] at hle
 simp only [go_sem, simprocAttr, encRW, aMkslice, ← hN]
 rw [← hN] at h0 hlen hgl
 refine ⟨Int.le_refl _, by omega, by omega, ?_⟩
 rw [rep_ab1, ← lst_zero (cIter r.w 0) (fun _ => false)]
 refine wpc_while (fun (i : Nat) => [(1, .ptr σ.length 0), (3, .ref (σ.length + 1) 1 0 N), (15, .int .i64 N), (16, .int .i64 (i : Nat))])
  (fun i => σ ++ [AObj.row (encRW r), AObj.row (List.map ab (lst N (split (cIter r.w 0) (fun _ => false) i)))]) (fun i => i ≤ N) (fun i => N - i) 0 (Nat.zero_le _) ?_ ?_
 ·have := hS (lst N (split (cIter r.w 0) (fun _ => false) 0))
  simp only [encRW] at this ⊢
  exact ghL0 this
 intro i hi K hK hE hR
 by_cases hiN : i < N
 ·have hlt : ((i : Int) < (N : Int)) := by omega
  have hw1 := wrapS (i := i) (by omega)
  have hset := lst_set (cIter r.w 0) (fun _ => false) hiN
  have hF1 : i + 1 ≤ (lst N (split (cIter r.w 0) (fun _ => false) i)).length := by rw [lst_len]; omega
  have hset : (lst N (split (cIter r.w 0) (fun _ => false) i)).set i true = _ := hset
  simp only [go_sem, simprocAttr, hlt, hiN, hF1, set_ab16, hset]
  refine hK _ _ (i + 1) (by omega) (by omega) ?_
  rw [hw1]
  exact ghL0 (hS _)
 have hlt : ¬ ((i : Int) < (N : Int)) := by omega
 rw [lst_full _ _ (by omega)]
 simp only [go_sem, simprocAttr, hlt, hE]
 clear hK hE hR hlt hiN hi
 refine wpc_while (fun (k : Nat) => [(1, .ptr σ.length 0), (3, .ref (σ.length + 1) 1 0 N)]) (fun k => σ ++ [AObj.row (encRW r), AObj.row (List.map ab (lst N (cIter r.w k)))]) (fun _ => True) (fun k => cnt N (cIter r.w k)) 0 trivial (ghL0 (hS _)) ?_
 intro k _ K hK hE hR
 have hlfp := cStep_lfp h (cIter r.w k)
 have hmono := ruleC_mono h (cIter r.w k)
 have hsub : ∀ i, cIter r.w (k + 1) i = true → cIter r.w k i = true := fun i hi => cStep_sub hi
 have hck : cIter r.w (k + 1) = cStep r.w (cIter r.w k) := rfl
 rw [← hck, ← hN] at hlfp
 rw [← hN] at hmono
 have hpost : (∀ i, i < N → cIter r.w (k + 1) i = cIter r.w k i) → ∃ m, (∀ i, i < r.ss.length → cIter r.w (m + 1) i = cIter r.w m i) ∧ AV.bool (cIter r.w k 0) = .bool (cIter r.w m 0) := fun q => ⟨k, by rw [← hN]; exact q, rfl⟩
 generalize hnx : cIter r.w (k + 1) = nxt at hlfp hsub hpost
 obtain ⟨fin, hfin⟩ : ∃ f, f = cIter r.w k := ⟨_, rfl⟩
 rw [← hfin] at hlfp hmono hsub hpost ⊢
 simp only [go_sem, simprocAttr, aMkslice]
 refine ⟨Int.le_refl _, by omega, by omega, ?_⟩
 rw [rep_ab1]
 have hs0 : SoR N (fun _ => false) (ruleC r fin) (fun _ => false) := ⟨fun _ _ q => absurd q (by simp), fun _ _ _ _ _ q => absurd q (by simp)⟩
 refine wpc_while (fun (x : (Nat → Bool) × Bool) => [(1, .ptr σ.length 0), (3, .ref (σ.length + 1) 1 0 N), (5, .ref (σ.length + 2) 1 0 N), (6, .bool x.2)])
  (fun x => σ ++ [AObj.row (encRW r), AObj.row ((lst N fin).map ab), AObj.row ((lst N x.1).map ab)]) (fun x => SoR N (fun _ => false) (ruleC r fin) x.1 ∧ (x.2 = false → ∀ i, i < N → ruleC r fin x.1 i = true → x.1 i = true)) (fun x => 2 * (N - cnt N x.1) + (if x.2 then 1 else 0)) (fun _ => false, true) ⟨hs0, fun q => absurd q (by simp)⟩ (ghL0 (hS2 _ _)) ?_
 rintro ⟨M0, more0⟩ ⟨hM0, hcl⟩ K2 hK2 hE2 hR2
 simp only at hM0 hcl
 cases more0
 ·have hMn : lst N M0 = lst N nxt := lst_ext (LfpR.unique ⟨hM0, hcl rfl⟩ hlfp)
  rw [hMn]
  simp only [go_sem, simprocAttr, hE2]
  refine wpc_while (fun (i : Nat) => [(1, .ptr σ.length 0), (3, .ref (σ.length + 1) 1 0 N), (5, .ref (σ.length + 2) 1 0 N), (8, .bool (sameB fin nxt i)), (62, .int .i64 N), (63, .int .i64 (i : Nat))])
   (fun i => σ ++ [AObj.row (encRW r), AObj.row ((lst N fin).map ab), AObj.row ((lst N nxt).map ab)]) (fun i => i ≤ N) (fun i => N - i) 0 (Nat.zero_le _) (ghL0 (hS2 _ _)) ?_
  intro i hi K3 hK3 hE3 hR3
  by_cases hiN : i < N
  ·have hlt : ((i : Int) < (N : Int)) := by omega
   have hw1 := wrapS (i := i) (by omega)
   have h1 := lst_get fin hiN
   have h2 := lst_get nxt hiN
   have e1 := sameB_succ fin nxt i
   generalize sameB fin nxt i = A at e1
   cases A
   ·simp only [go_sem, simprocAttr, hlt]
    refine hK3 _ _ (i + 1) (by omega) (by omega) ?_
    rw [hw1, e1]
    exact ghL0 (hS2 _ _)
   ·simp only [go_sem, simprocAttr, hlt, hiN, h1, h2, ab]
    refine hK3 _ _ (i + 1) (by omega) (by omega) ?_
    rw [hw1, e1]
    simp only [Bool.true_and]
    exact ghL0 (hS2 _ _)
  ·have hlt : ¬ ((i : Int) < (N : Int)) := by omega
   have hie : i = N := by omega
   subst hie
   have hall : sameB fin nxt i = true → ∀ x, x < i → nxt x = fin x := fun q x hx => by
    have := List.all_eq_true.1 q x (List.mem_range.2 hx)
    exact (eq_of_beq this).symm
   have hex : sameB fin nxt i = false → ∃ x, x < i ∧ nxt x = false ∧ fin x = true := fun q => by
    unfold sameB at q
    rw [List.all_eq_false] at q
    obtain ⟨x, hx, q⟩ := q
    refine ⟨x, List.mem_range.1 hx, ?_⟩
    have hs := hsub x
    cases hf : fin x <;> cases hn : nxt x <;> simp [hf, hn] at q hs ⊢
   have h1 := lst_get fin h0
   have h0i : ((0 : Int) < (i : Int)) := by omega
   cases hq : sameB fin nxt i
   ·obtain ⟨x, hx, q1, q2⟩ := hex hq
    simp only [go_sem, simprocAttr, hlt, hE3]
    refine hK _ _ (k + 1) trivial ?_ ?_
    ·rw [hnx, ← hfin]
     exact cnt_strict (fun y _ hy => hsub y hy) ⟨x, hx, q1, q2⟩
    ·rw [hnx]
     refine ghMoveL (l := [AObj.row (encRW r)]) (g := [.row _, .row ((lst i nxt).map ab)]) 1 1 rfl rfl hS1 (ids_ab _) ⟨.keep (.refl _) (.ptr _ _ (by omega)), .ref _ _ _, trivial⟩
   ·obtain ⟨m, hm1, hm2⟩ := hpost (hall hq)
    simp only [go_sem, simprocAttr, hlt, hE3, h0i, h0, h1, ab, hR]
    exact rt (.bool (fin 0)) ⟨rfl, m, fun x hx => hm1 x (by omega), hm2⟩
 ·simp only [go_sem, simprocAttr]
  refine wpc_while (fun (x : Nat × (Nat → Bool) × Bool) => [(1, .ptr σ.length 0), (3, .ref (σ.length + 1) 1 0 N), (5, .ref (σ.length + 2) 1 0 N), (6, .bool x.2.2), (28, .int .i64 N), (29, .int .i64 (x.1 : Nat))])
   (fun x => σ ++ [AObj.row (encRW r), AObj.row ((lst N fin).map ab), AObj.row ((lst N x.2.1).map ab)]) (fun x => x.1 ≤ N ∧ PassR N (fun _ => false) (ruleC r fin) M0 x.1 x.2.1 x.2.2) (fun x => N - x.1) (0, M0, false) ⟨Nat.zero_le _, .zero hM0⟩ (ghL0 (hS2 _ _)) ?_
  rintro ⟨i, M, more⟩ ⟨hi, hP⟩ K3 hK3 hE3 hR3
  simp only at hi hP
  by_cases hiN : i < N
  ·have hlt : ((i : Int) < (N : Int)) := by omega
   have hw1 := wrapS (i := i) (by omega)
   have h1 := lst_get fin hiN
   have h2 := lst_get M hiN
   obtain ⟨b, hb⟩ := get_ex (show i < r.gl.length by omega)
   have hgb : goalB r.w i = b := by unfold goalB; rw [List.getD_eq_getElem?_getD]; show r.gl[i]?.getD false = b; rw [hb]; rfl
   have hru : ruleC r fin M i = (fin i && (b || leadsB r fin M i)) := by unfold ruleC; rw [hgb]
   have hF1 : i + 1 ≤ (lst N M).length := by rw [lst_len]; omega
   cases hf : fin i
   ·rw [hf] at h1 hru
    simp only [go_sem, simprocAttr, hlt, hiN, h1, ab]
    refine hK3 _ _ (i + 1, M, more) ⟨by simp only []; omega, hP.skip (.inr hru)⟩ (by simp only []; omega) ?_
    simp only [hw1]
    exact ghL0 (hS2 _ _)
   rw [hf] at h1 hru
   cases hM : M i
   case true =>
    rw [hM] at h2
    simp only [go_sem, simprocAttr, hlt, hiN, h1, h2, ab]
    refine hK3 _ _ (i + 1, M, more) ⟨by simp only []; omega, hP.skip (.inl hM)⟩ (by simp only []; omega) ?_
    simp only [hw1]
    exact ghL0 (hS2 _ _)
   rw [hM] at h2
   cases b
   ·simp only [go_sem, simprocAttr, hlt, hiN, h1, h2, ab, encRW, hb, encB]
    refine (hle i fin M (σ.length + 1) (σ.length + 2) N _ hN hiN (by simp) (by simp)).is ?_
    cases hl : leadsB r fin M i
    ·simp only [go_sem, simprocAttr]
     refine hK3 _ _ (i + 1, M, more) ⟨by simp only []; omega, hP.skip (.inr (by rw [hru, hl]; rfl))⟩ (by simp only []; omega) ?_
     simp only [hw1, encRW]
     have := hS2 (lst N fin) (lst N M)
     simp only [encRW] at this
     exact ghL0 this
    ·simp only [go_sem, simprocAttr, hlt, hiN, hF1, set_ab16]
     refine hK3 _ _ (i + 1, updF M i true, true) ⟨by simp only []; omega, hP.add hmono hiN hM (by rw [hru, hl]; rfl)⟩ (by simp only []; omega) ?_
     simp only [hw1, upd_set, encRW]
     have := hS2 (lst N fin) (lst N (updF M i true))
     simp only [encRW] at this
     exact ghL0 this
   ·simp only [go_sem, simprocAttr, hlt, hiN, h1, h2, ab, encRW, hb, encB, hF1, set_ab16]
    refine hK3 _ _ (i + 1, updF M i true, true) ⟨by simp only []; omega, hP.add hmono hiN hM (by rw [hru]; rfl)⟩ (by simp only []; omega) ?_
    simp only [hw1, upd_set, encRW]
    have := hS2 (lst N fin) (lst N (updF M i true))
    simp only [encRW] at this
    exact ghL0 this
  ·have hlt : ¬ ((i : Int) < (N : Int)) := by omega
   have hie : i = N := by omega
   subst hie
   simp only [go_sem, simprocAttr, hlt, hE3]
   refine hK2 _ _ (M, more) ⟨hP.so, hP.close⟩ hP.less ?_
   exact ghL0 (hS2 _ _)
def e_polR_0 : List COp := [oS 18 (.load (some 4) (.tmp 4)), oS 19 (.move (.tmp 10)), oA 20 (.call (.lit (.func 49 [])) [.tmp 18, .tmp 19]) [0, 1], oA 21 (.un .not (.tmp 20)) [2], oA 22 (.move (.tmp 21)) [3, 2], ⟨some 23, .move (.tmp 3), some (some 22, false), [4]⟩, ⟨some 24, .move (.tmp 9), some (some 22, false), [4]⟩, ⟨some 25, .iaddr 1 (.tmp 23) (.tmp 24), some (some 22, false), [5, 6, 4]⟩, ⟨some 26, .load none (.tmp 25), some (some 22, false), [7, 4]⟩, ⟨some 27, .bin .lss .none (.tmp 26) (.lit (.int .i64 0)), some (some 22, false), [8, 4]⟩, oA 28 (.pick (.tmp 22) (.lit (.bool true)) (.tmp 27)) [4, 9], oA 29 (.move (.tmp 28)) [10, 4], ⟨some 30, .move (.tmp 3), some (some 29, false), [11]⟩, ⟨some 31, .move (.tmp 9), some (some 29, false), [11]⟩, ⟨some 32, .iaddr 1 (.tmp 30) (.tmp 31), some (some 29, false), [12, 13, 11]⟩, ⟨some 33, .load none (.tmp 32), some (some 29, false), [14, 11]⟩, ⟨some 34, .move (.tmp 1), some (some 29, false), [11]⟩, ⟨some 35, .blen 1 (.tmp 34), some (some 29, false), [16, 11]⟩, ⟨some 36, .bin .geq .none (.tmp 33) (.tmp 35), some (some 29, false), [15, 17, 11]⟩, oA 37 (.pick (.tmp 29) (.lit (.bool true)) (.tmp 36)) [11, 18], oA 38 (.move (.tmp 37)) [19, 11], ⟨some 39, .load (some 4) (.tmp 4), some (some 38, false), [20]⟩, ⟨some 40, .move (.tmp 1), some (some 38, false), [20]⟩, ⟨some 41, .move (.tmp 3), some (some 38, false), [20]⟩, ⟨some 42, .move (.tmp 9), some (some 38, false), [20]⟩, ⟨some 43, .iaddr 1 (.tmp 41) (.tmp 42), some (some 38, false), [23, 24, 20]⟩, ⟨some 44, .load none (.tmp 43), some (some 38, false), [25, 20]⟩, ⟨some 45, .iaddr 1 (.tmp 40) (.tmp 44), some (some 38, false), [22, 26, 20]⟩, ⟨some 46, .load none (.tmp 45), some (some 38, false), [27, 20]⟩, ⟨some 47, .move (.tmp 10), some (some 38, false), [20]⟩, ⟨some 48, .call (.lit (.func 28 [])) [.tmp 39, .tmp 46, .tmp 47], some (some 38, false), [21, 28, 29, 20, 20]⟩, ⟨some 49, .un .not (.tmp 48), some (some 38, false), [30, 20]⟩, oA 50 (.pick (.tmp 38) (.lit (.bool true)) (.tmp 49)) [20, 31], oA 51 (.move (.tmp 50)) [32, 30], ⟨some 52, .move (.tmp 10), some (some 51, false), [33]⟩, ⟨some 53, .faddr 2 (.tmp 4), some (some 51, false), [33]⟩, ⟨some 54, .load none (.tmp 53), some (some 51, false), [35, 33]⟩, ⟨some 55, .call (.lit (.func 51 [])) [.tmp 52, .tmp 54], some (some 51, false), [34, 36, 33, 33]⟩, oA 56 (.pick (.tmp 51) (.lit (.bool true)) (.tmp 55)) [33, 37], oA 57 (.move (.tmp 56)) [38, 37], ⟨some 58, .move (.tmp 9), some (some 57, false), [39]⟩, ⟨some 59, .bin .gtr .none (.tmp 58) (.lit (.int .i64 0)), some (some 57, false), [40, 39]⟩, ⟨some 60, .move (.tmp 59), some (some 57, false), [41, 39, 39]⟩, ⟨some 61, .move (.tmp 2), some (some 60, true), [42]⟩, ⟨some 62, .move (.tmp 9), some (some 60, true), [42]⟩, ⟨some 63, .bin .sub .none (.tmp 62) (.lit (.int .i64 1)), some (some 60, true), [44, 42]⟩, ⟨some 64, .iaddr 1 (.tmp 61) (.tmp 63), some (some 60, true), [43, 45, 42]⟩, ⟨some 65, .load none (.tmp 64), some (some 60, true), [46, 42]⟩, ⟨some 66, .move (.tmp 10), some (some 60, true), [42]⟩, ⟨some 67, .call (.lit (.func 33 [])) [.tmp 65, .tmp 66], some (some 60, true), [47, 48, 42, 42]⟩, ⟨some 68, .un .not (.tmp 67), some (some 60, true), [49, 42]⟩, ⟨some 69, .pick (.tmp 60) (.tmp 68) (.lit (.bool false)), some (some 57, false), [42, 50, 39]⟩, oA 70 (.pick (.tmp 57) (.lit (.bool true)) (.tmp 69)) [39, 51]]
def d_polR_0 : List COp := e_polR_0
theorem dr_polR_0 (P : Program) (nt n0 : Nat) (Q : Post) (s : Slots) (σ : Store) : wpc P nt n0 (.draw d_polR_0) Q s σ = aOpsD P nt e_polR_0 (Q .normal) s σ := wpc_draw _ (by decide)
attribute [local go_sem] dr_polR_0 e_polR_0
def c_polR : CCode := .seq (.ops [oS 4 (.box (.tmp 0)), oS 8 (.move (.lit (.bool false)))]) (.seq (.seq (.ops [oS 11 (.move (.tmp 2)), oS 12 (.blen 1 (.tmp 11)), oS 13 (.move (.lit (.int .i64 0)))]) (.block 0 (.loop (.seq (.ops [oS 14 (.bin .lss .none (.tmp 13) (.tmp 12))]) (.seq (.cond (.tmp 14) .skip (.exit 0)) (.seq (.block 1 (.seq (.ops [oS 15 (.move (.tmp 13)), oS 16 (.iaddr 1 (.tmp 11) (.tmp 13)), oS 17 (.load none (.tmp 16)), oS 9 (.move (.tmp 15)), oS 10 (.move (.tmp 17))]) (.seq (.draw d_polR_0) (.cond (.tmp 70) (.seq (.ops [oS 8 (.move (.lit (.bool false)))]) .ret) .skip)))) (.ops [oS 71 (.bin .add .none (.tmp 13) (.lit (.int .i64 1))), oS 13 (.move (.tmp 71))]))))))) (.seq (.ops [oS 8 (.move (.lit (.bool true)))]) .ret))
set_option maxHeartbeats 4000000 in
theorem polR_spec (t : FTask) (g : List (List Int)) (p : List FEnt) (tok tok' tok'' : Tok) (σ : Store) (ht : TB t) (hg : LB g) (hch : choicesB t g = true) (hp : p.length ≤ 1000000) (hps : ∀ x ∈ p, x.1.length ≤ 1000000) :
  ACalls Tryz.prog 15 [.agg (encTask t), .slice tok (g.map encL), .slice tok' ((p.map (·.1)).map encL), .slice tok'' ((p.map (·.2)).map Ahl.encI)] σ (isR (.bool (polB t g p)) σ) := by
 refine ACalls.intro (rs := [(.tmp 8)]) (by kernel_rfl) { own := [], ghosts := [] } Tryz.func15 (c := Tryz.f15.body.getD .skip) (by kernel_rfl) (by decide) (by rw [show Tryz.f15.ntmps = 72 by kernel_rfl]; exact Nat.le_of_ble_eq_true rfl) (by kernel_rfl) ?_
 intro hσ hids
 rw [show comp Tryz.prog { own := [], ghosts := [] } (Tryz.f15.body.getD .skip) = c_polR by kernel_rfl, show Tryz.f15.ntmps = 72 by kernel_rfl]
 unfold c_polR
 have hil : Ids σ.length (.slice tok (g.map encL)) := hids _ (by simp)
 have hil1 : Ids σ.length (.slice tok' ((p.map (·.1)).map encL)) := hids _ (by simp)
 have hil2 : Ids σ.length (.slice tok'' ((p.map (·.2)).map Ahl.encI)) := hids _ (by simp)
 have hrowT : IdsS (σ ++ [AObj.row (encTask t)]).length (σ ++ [AObj.row (encTask t)]) := idsS_push hσ (idsO_row (ids_encTask t))
 have hSl : (p.map (·.1)).length = p.length := by simp
 have hGl : (p.map (·.2)).length = p.length := by simp
 have hSg : ∀ (i : Nat) (x : FEnt), p[i]? = some x → (p.map (·.1))[i]? = some x.1 := fun i x h => by rw [List.getElem?_map, h]; rfl
 have hGg : ∀ (i : Nat) (x : FEnt), p[i]? = some x → (p.map (·.2))[i]? = some x.2 := fun i x h => by rw [List.getElem?_map, h]; rfl
 generalize p.map (·.1) = S at hil1 hSl hSg ⊢
 generalize p.map (·.2) = G at hil2 hGl hGg ⊢
 simp only [encTask] at hrowT
 simp only [go_sem, simprocAttr, encTask]
 refine wpc_while (fun (i : Nat) => [(1, .slice tok (g.map encL)), (2, .slice tok' (S.map encL)), (3, .slice tok'' (G.map Ahl.encI)), (4, .ptr σ.length 0), (11, .slice tok' (S.map encL)), (12, .int .i64 S.length), (13, .int .i64 (i : Nat))])
  (fun _ => σ ++ [.row (encTask t)]) (fun i => i ≤ p.length ∧ ∀ j, j < i → ∀ x, p[j]? = some x → entB t g p j x = true) (fun i => p.length - i) 0 ⟨Nat.zero_le _, fun j hj => absurd hj (by simp)⟩ (by simp only [encTask]; exact ghL0 hrowT) ?_
 rintro i ⟨hi, hok⟩ K hK hE hR
 by_cases h : i < p.length
 ·obtain ⟨x, hx⟩ := get_ex h
  have hxm := List.mem_of_getElem? hx
  have hxl := hps x hxm
  have hxS := hSg i x hx
  have hxG := hGg i x hx
  have hlt : ((i : Int) < (S.length : Int)) := by omega
  have hltG : ((i : Int) < (G.length : Int)) := by omega
  have hw1 := wrapS (i := i) (by omega)
  have hbad : entB t g p i x = false → polB t g p = false := fun q => by
   rw [Bool.eq_false_iff]; intro r
   rw [entB_get r hx] at q; simp at q
  simp only [go_sem, simprocAttr, hlt, hxS, encL, encTask]
  refine ⟨_, state02_spec t x.1 .unk _ (by omega), ?_⟩
  cases hr : risingB t.facts.length (-1) x.1
  ·simp only [go_sem, simprocAttr, hR]
   exact rt (.bool false) ⟨by rw [hbad (by unfold entB; rw [hr]; rfl)], rfl⟩
  by_cases hg0 : x.2 < 0
  ·simp only [go_sem, simprocAttr, hltG, hxG, Ahl.encI, hg0, hR]
   exact rt (.bool false) ⟨by rw [hbad (by unfold entB; rw [decide_eq_false (by omega : ¬ 0 ≤ x.2)]; simp)], rfl⟩
  by_cases hg1 : x.2 ≥ (g.length : Int)
  ·simp only [go_sem, simprocAttr, hltG, hxG, Ahl.encI, hg0, hg1, hR]
   exact rt (.bool false) ⟨by rw [hbad (by unfold entB; rw [decide_eq_false (by omega : ¬ x.2 < (g.length : Int))]; simp)], rfl⟩
  have hx0 : 0 ≤ x.2 := by omega
  obtain ⟨l, hgx⟩ := get_ex (show x.2.toNat < g.length by omega)
  have hgrp : grp g x.2.toNat = l := by unfold grp; rw [List.getD_eq_getElem?_getD, hgx]; rfl
  obtain ⟨c0, c1, c2, c3⟩ := grp_ok hch (show x.2.toNat < g.length by omega)
  rw [hgrp] at c0 c1 c2 c3
  have hll := hg.2 l c0
  simp only [go_sem, simprocAttr, hltG, hxG, Ahl.encI, hg0, hg1, hx0, hgx, encL, encTask]
  refine ⟨_, app16_spec t l x.1 .unk .unk _ ht c1 c2 (by omega), ?_⟩
  cases hap : appB t l x.1
  ·simp only [go_sem, simprocAttr, hR]
   exact rt (.bool false) ⟨by rw [hbad (by unfold entB; rw [hgrp, hap]; simp)], rfl⟩
  simp only [go_sem, simprocAttr, encTask]
  refine ⟨_, holds02_spec x.1 t.goal .unk .unk _ (by omega) (by have := ht.goal; omega), ?_⟩
  cases hgo : condHolds x.1 t.goal
  case true =>
   simp only [go_sem, simprocAttr, hR]
   exact rt (.bool false) ⟨by rw [hbad (by unfold entB; rw [hgo]; simp)], rfl⟩
  have hent : (i = 0 ∨ cmpInts (p.getD (i - 1) ([], 0)).1 x.1 < 0) → entB t g p i x = true := fun q => by
   unfold entB
   rw [hr, decide_eq_true hx0, decide_eq_true (by omega : x.2 < (g.length : Int)), hgrp, hap, hgo]
   simpa using q
  have hok' : entB t g p i x = true → ∀ j, j < i + 1 → ∀ x, p[j]? = some x → entB t g p j x = true := fun hent j hj z hz => by
   rcases Nat.lt_or_ge j i with q | q
   ·exact hok j q z hz
   ·have : j = i := by omega
    subst this; rw [hx] at hz; injection hz with hz; subst hz; exact hent
  by_cases hi0 : i = 0
  ·have hlt0 : ¬ ((i : Int) > 0) := by omega
   simp only [go_sem, simprocAttr, hlt0]
   refine hK _ _ (i + 1) ⟨by omega, hok' (hent (.inl hi0))⟩ (by omega) ?_
   rw [hw1]
   simp only [encTask]
   exact ghL0 hrowT
  ·have hlt0 : ((i : Int) > 0) := by omega
   obtain ⟨y, hy⟩ := get_ex (show i - 1 < p.length by omega)
   have hyl := hps y (List.mem_of_getElem? hy)
   have hyS := hSg (i - 1) y hy
   have hw2 : IntKind.i64.wrap ((i : Int) - 1) = ((i - 1 : Nat) : Int) := by rw [wrap_ok (by omega)]; omega
   have hgd : p.getD (i - 1) ([], 0) = y := by rw [List.getD_eq_getElem?_getD, hy]; rfl
   have hlt1 : (((i - 1 : Nat) : Int) < (S.length : Int)) := by omega
   simp only [go_sem, simprocAttr, hlt0, hw2, hyS, hlt1, encL]
   refine ⟨_, before13_spec y.1 x.1 .unk .unk _ (by omega) (by omega), ?_⟩
   by_cases hcq : cmpInts y.1 x.1 < 0
   ·rw [decide_eq_true hcq]
    simp only [go_sem, simprocAttr]
    refine hK _ _ (i + 1) ⟨by omega, hok' (hent (.inr (by rw [hgd]; exact hcq)))⟩ (by omega) ?_
    rw [hw1]
    simp only [encTask]
    exact ghL0 hrowT
   ·rw [decide_eq_false hcq]
    simp only [go_sem, simprocAttr, hR]
    exact rt (.bool false) ⟨by rw [hbad (by unfold entB; rw [hgd, decide_eq_false hi0, decide_eq_false hcq]; simp)], rfl⟩
 ·have hlt : ¬ ((i : Int) < (S.length : Int)) := by omega
  have hpol : polB t g p = true := by
   unfold polB
   refine List.all_eq_true.2 fun j hj => ?_
   obtain ⟨x, hx⟩ := get_ex (List.mem_range.1 hj)
   rw [List.getD_eq_getElem?_getD, hx]
   exact hok j (by have := List.mem_range.1 hj; omega) x hx
  simp only [go_sem, simprocAttr, hlt, hE]
  exact rt (.bool true) ⟨by rw [hpol], rfl⟩
def encNe (l : List Nat) : List AV := [.slice .unk (l.map encNt)]
theorem ids_encNe {n : Nat} (l : List Nat) : IdsL n (encNe l) := idsL_cons (ids_map ids_encNt l) idsL_nil
instance : IdE encNe := ⟨fun _ => ids_encNe⟩
def ruleS (nx : List (List Nat)) (all : Bool) (M : Nat → Bool) (i : Nat) : Bool := if all then decide (0 < (nx.getD i []).length) && (nx.getD i []).all M else (nx.getD i []).any M
theorem ruleS_mono {nx : List (List Nat)} {N : Nat} (hl : ∀ l ∈ nx, ∀ x ∈ l, x < N) (all : Bool) : MonoR N (ruleS nx all) := fun M S h i _ q => by
 have hlt : ∀ x ∈ nx.getD i [], x < N := fun x hx => by
  rw [List.getD_eq_getElem?_getD] at hx
  cases e : nx[i]? with
  | none => rw [e] at hx; simp at hx
  | some l => rw [e] at hx; exact hl l (List.mem_of_getElem? e) x hx
 unfold ruleS at q ⊢
 cases all
 ·simp only [Bool.false_eq_true, if_false, List.any_eq_true] at q ⊢
  obtain ⟨x, hx, q⟩ := q
  exact ⟨x, hx, h x (hlt x hx) q⟩
 ·simp only [if_true, Bool.and_eq_true, List.all_eq_true] at q ⊢
  exact ⟨q.1, fun x hx => h x (hlt x hx) (q.2 x hx)⟩
theorem flat_encB : ∀ l : List Bool, (l.map encB).flatten = l.map ab
 | [] => rfl
 | b :: l => by rw [List.map_cons, List.flatten_cons, flat_encB l]; rfl
def e_sure_0 : List COp := [oS 37 (.move (.tmp 11)), oA 38 (.move (.tmp 37)) [0], ⟨some 39, .move (.tmp 7), some (some 38, true), [1]⟩, ⟨some 40, .move (.tmp 14), some (some 38, true), [1]⟩, ⟨some 41, .iaddr 1 (.tmp 39) (.tmp 40), some (some 38, true), [2, 3, 1]⟩, ⟨some 42, .load none (.tmp 41), some (some 38, true), [4, 1]⟩, oA 43 (.pick (.tmp 38) (.tmp 42) (.lit (.bool false))) [1, 5], oS 44 (.move (.tmp 12)), oA 45 (.move (.tmp 44)) [7, 1], ⟨some 46, .move (.tmp 7), some (some 45, false), [8]⟩, ⟨some 47, .move (.tmp 14), some (some 45, false), [8]⟩, ⟨some 48, .iaddr 1 (.tmp 46) (.tmp 47), some (some 45, false), [9, 10, 8]⟩, ⟨some 49, .load none (.tmp 48), some (some 45, false), [11, 8]⟩, oA 50 (.pick (.tmp 45) (.lit (.bool true)) (.tmp 49)) [8, 12], oA 11 (.move (.tmp 43)) [6, 8, 0, 1, 2, 3, 4, 5, 6], oA 12 (.move (.tmp 50)) [13, 14, 0, 1, 2, 3, 4, 5, 6, 7, 8, 9, 10, 11, 12, 13, 14]]
def d_sure_0 : List COp := e_sure_0
theorem dr_sure_0 (P : Program) (nt n0 : Nat) (Q : Post) (s : Slots) (σ : Store) : wpc P nt n0 (.draw d_sure_0) Q s σ = aOpsD P nt e_sure_0 (Q .normal) s σ := wpc_draw _ (by decide)
attribute [local go_sem] dr_sure_0 e_sure_0
def c_sure : CCode := .seq (.ops [oS 6 (.move (.lit (.bool false)))]) (.seq (.ops [oS 17 (.bslice 1 [] true), oS 18 (.move (.tmp 1)), oS 19 (.bappend 1 1 (.tmp 17) (.tmp 18) true), oS 7 (.move (.tmp 19))]) (.seq (.seq (.ops [oS 8 (.move (.lit (.bool true)))]) (.block 0 (.loop (.seq (.seq (.ops [oS 20 (.move (.tmp 8))]) (.cond (.tmp 20) .skip (.exit 0))) (.block 1 (.seq (.ops [oS 8 (.move (.lit (.bool false)))]) (.seq (.ops [oS 21 (.move (.tmp 0)), oS 22 (.blen 1 (.tmp 21)), oS 23 (.move (.lit (.int .i64 0)))]) (.block 2 (.loop (.seq (.ops [oS 24 (.bin .lss .none (.tmp 23) (.tmp 22))]) (.seq (.cond (.tmp 24) .skip (.exit 2)) (.seq (.block 3 (.seq (.ops [oS 25 (.move (.tmp 23)), oS 26 (.iaddr 1 (.tmp 21) (.tmp 23)), oS 27 (.load none (.tmp 26)), oS 9 (.move (.tmp 25)), oS 10 (.move (.tmp 27))]) (.seq (.ops [oS 28 (.move (.tmp 10)), oS 29 (.blen 1 (.tmp 28)), oS 30 (.bin .gtr .none (.tmp 29) (.lit (.int .i64 0))), oS 11 (.move (.tmp 30)), oS 12 (.move (.lit (.bool false)))]) (.seq (.seq (.ops [oS 31 (.move (.tmp 10)), oS 32 (.blen 1 (.tmp 31)), oS 33 (.move (.lit (.int .i64 0)))]) (.block 4 (.loop (.seq (.ops [oS 34 (.bin .lss .none (.tmp 33) (.tmp 32))]) (.seq (.cond (.tmp 34) .skip (.exit 4)) (.seq (.block 5 (.seq (.ops [oS 35 (.iaddr 1 (.tmp 31) (.tmp 33)), oS 36 (.load none (.tmp 35)), oS 14 (.move (.tmp 36))]) (.draw d_sure_0))) (.ops [oS 51 (.bin .add .none (.tmp 33) (.lit (.int .i64 1))), oS 33 (.move (.tmp 51))]))))))) (.seq (.ops [oS 52 (.move (.tmp 7)), oS 53 (.move (.tmp 9)), oS 54 (.iaddr 1 (.tmp 52) (.tmp 53)), oS 55 (.load none (.tmp 54)), oS 56 (.un .not (.tmp 55)), oS 57 (.move (.tmp 56)), oG 58 57 true (.move (.tmp 2)), oG 59 57 true (.move (.tmp 58)), oG 60 59 true (.move (.tmp 11)), oG 61 57 true (.pick (.tmp 59) (.tmp 60) (.lit (.bool false))), oG 62 57 true (.move (.tmp 61)), oG 63 62 false (.move (.tmp 2)), oG 64 62 false (.un .not (.tmp 63)), oG 65 62 false (.move (.tmp 64)), oG 66 65 true (.move (.tmp 12)), oG 67 62 false (.pick (.tmp 65) (.tmp 66) (.lit (.bool false))), oG 68 57 true (.pick (.tmp 62) (.lit (.bool true)) (.tmp 67)), oS 69 (.pick (.tmp 57) (.tmp 68) (.lit (.bool false)))]) (.cond (.tmp 69) (.ops [oS 70 (.move (.tmp 7)), oS 71 (.move (.tmp 9)), oS 72 (.iaddr 1 (.tmp 70) (.tmp 71)), oN (.store 1 (.tmp 72) (.lit (.bool true))), oS 8 (.move (.lit (.bool true)))]) .skip)))))) (.ops [oS 73 (.bin .add .none (.tmp 23) (.lit (.int .i64 1))), oS 23 (.move (.tmp 73))]))))))))))))) (.seq (.seq (.ghost (.ops [oS 74 (.move (.tmp 7)), oS 75 (.blen 1 (.tmp 74)), oS 76 (.move (.lit (.int .i64 0)))])) (.block 6 (.loop (.seq (.ops [oS 77 (.bin .lss .none (.tmp 76) (.tmp 75))]) (.seq (.cond (.tmp 77) .skip (.exit 6)) (.seq (.block 7 (.seq (.ops [oS 78 (.iaddr 1 (.tmp 74) (.tmp 76)), oS 79 (.load none (.tmp 78)), oS 16 (.move (.tmp 79))]) (.seq (.ops [oS 80 (.move (.tmp 16)), oS 81 (.un .not (.tmp 80))]) (.cond (.tmp 81) (.seq (.ops [oS 6 (.move (.lit (.bool false)))]) .ret) .skip)))) (.ops [oS 82 (.bin .add .none (.tmp 76) (.lit (.int .i64 1))), oS 76 (.move (.tmp 82))]))))))) (.seq (.ops [oS 6 (.move (.lit (.bool true)))]) .ret))))
set_option maxHeartbeats 4000000 in
theorem sure_spec (nx : List (List Nat)) (gl : List Bool) (all : Bool) (tok tok' : Tok) (σ : Store) (hn : nx.length = gl.length) (hlen : gl.length ≤ 1000000) (hl : ∀ l ∈ nx, l.length ≤ 1000000 ∧ ∀ x ∈ l, x < gl.length) :
  ACalls Tryz.prog 53 [.slice tok (nx.map encNe), .slice tok' (gl.map encB), .bool all] σ (fun v σ' => σ' = σ ∧ ∃ M, LfpR gl.length (fun i => gl.getD i false) (ruleS nx all) M ∧ v = .bool ((List.range gl.length).all M)) := by
 refine ACalls.intro (rs := [(.tmp 6)]) (by kernel_rfl) { own := [(1, 0), (1, 2)], ghosts := [17] } Tryz.func53 (c := Tryz.f53.body.getD .skip) (by kernel_rfl) (by decide) (by rw [show Tryz.f53.ntmps = 83 by kernel_rfl]; exact Nat.le_of_ble_eq_true rfl) (by kernel_rfl) ?_
 intro hσ hids
 rw [show comp Tryz.prog { own := [(1, 0), (1, 2)], ghosts := [17] } (Tryz.f53.body.getD .skip) = c_sure by kernel_rfl, show Tryz.f53.ntmps = 83 by kernel_rfl]
 unfold c_sure
 have hil : Ids σ.length (.slice tok (nx.map encNe)) := hids _ (by simp)
 have hmono := ruleS_mono (fun l h => (hl l h).2) all
 have hgl := lst_of false (show gl.length = gl.length from rfl)
 obtain ⟨N, hN⟩ : ∃ N, N = gl.length := ⟨_, rfl⟩
 rw [← hN] at hgl hn hlen hmono ⊢
 obtain ⟨gf, hgf⟩ : ∃ f : Nat → Bool, f = fun i => gl.getD i false := ⟨_, rfl⟩
 rw [← hgf] at hgl ⊢
 have hS : ∀ F : List Bool, IdsS (σ ++ [AObj.row (F.map ab)]).length (σ ++ [AObj.row (F.map ab)]) := fun F => idsS_push hσ (ids_ab _)
 have hbig : bigLen gl.length 1 := big_ok (by omega) (by omega)
 simp only [go_sem, simprocAttr, hbig]
 refine ⟨fun _ _ => ⟨rfl, rfl⟩, ?_⟩
 have hflat : (gl.map encB).flatten = (lst N gf).map ab := by
  rw [← hgl]; exact flat_encB gl
 try rw [hflat]
 try rw [← hN]
 have hs0 : SoR N gf (ruleS nx all) gf := ⟨fun _ _ q => q, fun S h0 _ => h0⟩
 refine wpc_while (fun (x : (Nat → Bool) × Bool) => [(0, .slice tok (nx.map encNe)), (2, .bool all), (7, .ref σ.length 1 0 N), (8, .bool x.2)])
  (fun x => σ ++ [AObj.row ((lst N x.1).map ab)]) (fun x => SoR N gf (ruleS nx all) x.1 ∧ (x.2 = false → ∀ i, i < N → ruleS nx all x.1 i = true → x.1 i = true)) (fun x => 2 * (N - cnt N x.1) + (if x.2 then 1 else 0)) (gf, true) ⟨hs0, fun q => absurd q (by simp)⟩ ?_ ?_
 ·exact ghL0 (l := [_]) (hS _)
 rintro ⟨M0, more0⟩ ⟨hM0, hcl⟩ K hK hE hR
 simp only at hM0 hcl
 cases more0
 ·simp only [go_sem, simprocAttr, hE]
  have hall : ∀ (i : Nat), (lst N M0).take i = lst (min i N) M0 := fun i => by unfold lst; rw [← List.map_take, List.take_range]
  refine Gh.of (s' := [(7, .ref σ.length 1 0 N)]) (σ' := σ ++ [AObj.row ((lst N M0).map ab)]) (ghL0 (l := [_]) (hS _)) ?_
  simp only [go_sem, simprocAttr]
  refine wpc_while (fun (i : Nat) => [(74, .ref σ.length 1 0 N), (75, .int .i64 N), (76, .int .i64 (i : Nat))])
   (fun _ => σ ++ [AObj.row ((lst N M0).map ab)]) (fun i => i ≤ N ∧ ∀ x, x < i → M0 x = true) (fun i => N - i) 0 ⟨Nat.zero_le _, fun x hx => absurd hx (by simp)⟩ (ghL0 (l := [_]) (hS _)) ?_
  rintro i ⟨hi, hv⟩ K2 hK2 hE2 hR2
  by_cases hiN : i < N
  ·have hlt : ((i : Int) < (N : Int)) := by omega
   have hw1 := wrapS (i := i) (by omega)
   have h1 := lst_get M0 hiN
   cases hM : M0 i
   ·rw [hM] at h1
    simp only [go_sem, simprocAttr, hlt, hiN, h1, ab, hR2]
    have : (List.range N).all M0 = false := by
     rw [List.all_eq_false]; exact ⟨i, List.mem_range.2 hiN, by simp [hM]⟩
    exact rt (.bool false) ⟨rfl, M0, ⟨hM0, hcl rfl⟩, by rw [this]⟩
   ·rw [hM] at h1
    simp only [go_sem, simprocAttr, hlt, hiN, h1, ab]
    refine hK2 _ _ (i + 1) ⟨by omega, fun x hx => ?_⟩ (by omega) ?_
    ·rcases Nat.lt_or_ge x i with q | q
     ·exact hv x q
     ·have : x = i := by omega
      subst this; exact hM
    rw [hw1]
    exact ghL0 (l := [_]) (hS _)
  ·have hlt : ¬ ((i : Int) < (N : Int)) := by omega
   simp only [go_sem, simprocAttr, hlt, hE2]
   have : (List.range N).all M0 = true := by
    rw [List.all_eq_true]; exact fun x hx => hv x (by have := List.mem_range.1 hx; omega)
   exact rt (.bool true) ⟨rfl, M0, ⟨hM0, hcl rfl⟩, by rw [this]⟩
 ·simp only [go_sem, simprocAttr]
  refine wpc_while (fun (x : Nat × (Nat → Bool) × Bool) => [(0, .slice tok (nx.map encNe)), (2, .bool all), (7, .ref σ.length 1 0 N), (8, .bool x.2.2), (21, .slice tok (nx.map encNe)), (22, .int .i64 nx.length), (23, .int .i64 (x.1 : Nat))])
   (fun x => σ ++ [AObj.row ((lst N x.2.1).map ab)]) (fun x => x.1 ≤ N ∧ PassR N gf (ruleS nx all) M0 x.1 x.2.1 x.2.2) (fun x => N - x.1) (0, M0, false) ⟨Nat.zero_le _, .zero hM0⟩ (ghL0 (l := [_]) (hS _)) ?_
  rintro ⟨i, M, more⟩ ⟨hi, hP⟩ K2 hK2 hE2 hR2
  simp only at hi hP
  by_cases hiN : i < N
  ·have hlt : ((i : Int) < (nx.length : Int)) := by omega
   have hltN : ((i : Int) < (N : Int)) := by omega
   have hw1 := wrapS (i := i) (by omega)
   obtain ⟨l, hx⟩ := get_ex (show i < nx.length by omega)
   obtain ⟨l1, l2⟩ := hl l (List.mem_of_getElem? hx)
   have hgd : nx.getD i [] = l := by rw [List.getD_eq_getElem?_getD, hx]; rfl
   have hru : ruleS nx all M i = if all then decide (0 < l.length) && l.all M else l.any M := by unfold ruleS; rw [hgd]
   have h2 := lst_get M hiN
   have hF1 : i + 1 ≤ (lst N M).length := by rw [lst_len]; omega
   have hpos : ((l.length : Int) > 0) = (0 < l.length) := propext ⟨fun _ => by omega, fun _ => by omega⟩
   simp only [go_sem, simprocAttr, hlt, hx, encNe, hpos]
   refine wpc_while (fun (j : Nat) => [(0, .slice tok (nx.map encNe)), (2, .bool all), (7, .ref σ.length 1 0 N), (8, .bool more), (9, .int .i64 (i : Nat)), (11, .bool (decide (0 < l.length) && (l.take j).all M)), (12, .bool ((l.take j).any M)), (21, .slice tok (nx.map encNe)), (22, .int .i64 nx.length), (23, .int .i64 (i : Nat)), (31, .slice .unk (l.map encNt)), (32, .int .i64 l.length), (33, .int .i64 (j : Nat))])
    (fun _ => σ ++ [AObj.row ((lst N M).map ab)]) (fun j => j ≤ l.length) (fun j => l.length - j) 0 (Nat.zero_le _) ?_ ?_
   ·simp only [List.take_zero, List.all_nil, List.any_nil, Bool.and_true]
    exact ghL0 (l := [_]) (hS _)
   intro j hj K3 hK3 hE3 hR3
   by_cases hjl : j < l.length
   ·obtain ⟨x, hx⟩ := get_ex hjl
    have hltj : ((j : Int) < (l.length : Int)) := by omega
    have hwj := wrapS (i := j) (by omega)
    have hxN : x < N := by have := l2 x (List.mem_of_getElem? hx); omega
    have hxi : ((x : Int) < (N : Int)) := by omega
    have h1 := lst_get M hxN
    have e1 : (decide (0 < l.length) && (l.take (j + 1)).all M) = ((decide (0 < l.length) && (l.take j).all M) && M x) := by rw [take_succ' hx, List.all_append, Bool.and_assoc]; simp
    have e2 : (l.take (j + 1)).any M = ((l.take j).any M || M x) := by rw [take_succ' hx, List.any_append]; simp
    generalize (decide (0 < l.length) && (l.take j).all M) = A at e1
    generalize (l.take j).any M = B at e2
    cases A <;> cases B <;>
    ·simp only [go_sem, simprocAttr, hltj, hx, encNt, hxi, hxN, h1, ab]
     refine hK3 _ _ (j + 1) (by omega) (by omega) ?_
     rw [hwj, e1, e2]
     exact ghL0 (l := [_]) (hS _)
   ·have hltj : ¬ ((j : Int) < (l.length : Int)) := by omega
    rw [List.take_of_length_le (by omega)]
    have hadd : M i = false → ruleS nx all M i = true → PassR N gf (ruleS nx all) M0 (i + 1) (updF M i true) true := fun q1 q2 => hP.add hmono hiN q1 q2
    have hskip : (M i = true ∨ ruleS nx all M i = false) → PassR N gf (ruleS nx all) M0 (i + 1) M more := fun q => hP.skip q
    generalize (decide (0 < l.length) && l.all M) = A at hru
    generalize l.any M = B at hru
    generalize M i = m at h2 hadd hskip
    cases m
    case true =>
     simp only [go_sem, simprocAttr, hltj, hE3, hltN, hiN, h2, ab]
     refine hK2 _ _ (i + 1, M, more) ⟨by simp only []; omega, hskip (.inl rfl)⟩ (by simp only []; omega) ?_
     simp only [hw1]
     exact ghL0 (l := [_]) (hS _)
    cases all <;> cases A <;> cases B
    all_goals
     first
     | (simp only [go_sem, simprocAttr, hltj, hE3, hltN, hiN, h2, ab, hF1, set_ab16]; refine hK2 _ _ (i + 1, updF M i true, true) ⟨by simp only []; omega, hadd rfl hru⟩ (by simp only []; omega) ?_; simp only [hw1, upd_set]; exact ghL0 (l := [_]) (hS _))
     | (simp only [go_sem, simprocAttr, hltj, hE3, hltN, hiN, h2, ab]; refine hK2 _ _ (i + 1, M, more) ⟨by simp only []; omega, hskip (.inr hru)⟩ (by simp only []; omega) ?_; simp only [hw1]; exact ghL0 (l := [_]) (hS _))
  ·have hlt : ¬ ((i : Int) < (nx.length : Int)) := by omega
   have hie : i = N := by omega
   subst hie
   simp only [go_sem, simprocAttr, hlt, hE2]
   refine hK _ _ (M, more) ⟨hP.so, hP.close⟩ hP.less ?_
   exact ghL0 (l := [_]) (hS _)
def nxL (t : FTask) (g : List (List Int)) (p : List FEnt) (ss : List (List Int)) (k : Nat) : List (List Nat) := (ss.take k).map fun s => (nxP t g p s).map ss.idxOf
def nxA (t : FTask) (g : List (List Int)) (p : List FEnt) : List (List Nat) := (ssP t g p).map fun s => (nxP t g p s).map (ssP t g p).idxOf
def rowP (t : FTask) (g : List (List Int)) (p : List FEnt) (ss : List (List Int)) (s : List Int) : List (Option (List Nat)) := match polG p s with
 | some n => List.replicate n.toNat none ++ [some ((nxP t g p s).map ss.idxOf)]
 | none => []
def rwP (t : FTask) (g : List (List Int)) (p : List FEnt) : RW := ⟨ssP t g p, (ssP t g p).map (rowP t g p (ssP t g p)), (ssP t g p).map fun s => condHolds s t.goal⟩
theorem chFrom_rep (l : List Nat) : ∀ (n k : Nat), chFrom k (List.replicate n none ++ [some l]) = [(k + n, l)]
 | 0, k => rfl
 | n + 1, k => by
  rw [List.replicate_succ, List.cons_append, chFrom, chFrom_rep l n (k + 1), show k + 1 + n = k + (n + 1) by omega]
theorem rwP_w (t : FTask) (g : List (List Int)) (p : List FEnt) : (rwP t g p).w = wldP t g p := by
 unfold RW.w rwP wldP
 simp only [List.map_map]
 congr 1
 refine List.map_congr_left fun s _ => ?_
 show chFrom 0 (rowP t g p (ssP t g p) s) = chP t g p (ssP t g p) s
 unfold rowP chP nxP
 cases polG p s with
 | none => rfl
 | some n => simp only []; rw [chFrom_rep, Nat.zero_add]
theorem rwP_ok {t : FTask} {g : List (List Int)} {p : List FEnt} (he : EOk t) (hc : choicesB t g = true) (hp : polB t g p = true) (hs : risingB t.facts.length (-1) t.init = true) (h8 : t.facts.length ≤ 8) (hg : g.length ≤ 1000) : ROk (rwP t g p) where
 w := by rw [rwP_w]; exact wldP_ok he hc hp hs h8
 wid l hl := by
  obtain ⟨s, _, rfl⟩ := List.mem_map.1 hl
  unfold rowP
  cases hq : polG p s with
  | none => simp
  | some n => have := (polG_ok hp hq).2.1; simp; omega
theorem nxA_get {t : FTask} {g : List (List Int)} {p : List FEnt} {i : Nat} {s : List Int} (h : (ssP t g p)[i]? = some s) : (nxA t g p).getD i [] = (nxP t g p s).map (ssP t g p).idxOf := by
 unfold nxA; rw [List.getD_eq_getElem?_getD, List.getElem?_map, h]; rfl
theorem any_rowP {t : FTask} {g : List (List Int)} {p : List FEnt} (q : List Nat → Bool) (s : List Int) (hq : q [] = false) : (rowP t g p (ssP t g p) s).any (pO q) = q ((nxP t g p s).map (ssP t g p).idxOf) := by
 unfold rowP nxP
 cases polG p s with
 | none => simp [hq]
 | some n =>
  simp only [List.any_append, List.any_cons, List.any_nil, Bool.or_false]
  have : (List.replicate n.toNat (none : Option (List Nat))).any (pO q) = false := by
   rw [List.any_eq_false]; intro x hx; rw [List.eq_of_mem_replicate hx]; simp [pO]
  rw [this]; rfl
theorem rwP_row {t : FTask} {g : List (List Int)} {p : List FEnt} {i : Nat} {s : List Int} (h : (ssP t g p)[i]? = some s) : (rwP t g p).nx.getD i [] = rowP t g p (ssP t g p) s := by
 show ((ssP t g p).map (rowP t g p (ssP t g p))).getD i [] = _
 rw [List.getD_eq_getElem?_getD, List.getElem?_map, h]; rfl
theorem dIter_end {w : Wld} (hw : WOk w) : nowL w (dIter w w.ss.length) = [] := by
 have h : ∃ k, k ≤ w.ss.length ∧ nowL w (dIter w k) = [] := by
  refine Classical.byContradiction fun q => ?_
  have key : ∀ k, k ≤ w.ss.length + 1 → k ≤ nonneg (dIter w k) := by
   intro k
   induction k with
   | zero => intro _; omega
   | succ k ih =>
    intro hk
    have h1 := ih (by omega)
    have h2 := nonneg_round (d := k + 1) (dIter_len w hw k) (fun e => q ⟨k, by omega, e⟩)
    have : dIter w (k + 1) = dRound w (dIter w k) (k + 1) := rfl
    rw [this]; omega
  have h1 := key (w.ss.length + 1) (by omega)
  have h2 := nonneg_len (dIter w (w.ss.length + 1))
  rw [dIter_len w hw] at h2; omega
 obtain ⟨k, hk, he⟩ := h
 have := dIter_stop he (w.ss.length - k)
 rw [show k + (w.ss.length - k) = w.ss.length by omega] at this
 rw [this]; exact he
section
variable {t : FTask} {g : List (List Int)} {p : List FEnt}
theorem nowB_rule (hr : ROk (rwP t g p)) {k i : Nat} (hi : i < (wldP t g p).ss.length) : nowB (wldP t g p) (dIter (wldP t g p) k) i = (decide (dF (wldP t g p) k i < 0) && ruleS (nxA t g p) true (fun j => decide (0 ≤ dF (wldP t g p) k j)) i) := by
 obtain ⟨s, hs⟩ := get_ex (show i < (ssP t g p).length from hi)
 have hch : (wldP t g p).ch.getD i [] = chFrom 0 (rowP t g p (ssP t g p) s) := by
  rw [← rwP_w, rw_ch, rwP_row hs]
 unfold nowB
 rw [hch]
 have e1 : (chFrom 0 (rowP t g p (ssP t g p) s)).any (okCo (dIter (wldP t g p) k)) = (chFrom 0 (rowP t g p (ssP t g p) s)).any (fun c => (fun l => decide (0 < l.length) && l.all fun j => decide (0 ≤ dF (wldP t g p) k j)) c.2) := by
  refine any_congr16 fun c hc => ?_
  have hne : c.2 ≠ [] := by
   have hm : (wldP t g p).ch.getD i [] ∈ (wldP t g p).ch := by
    rw [List.getD_eq_getElem?_getD, List.getElem?_eq_getElem (by have := hr.w.ch; rw [rwP_w] at this; rw [this]; exact hi)]; exact List.getElem_mem _
   have hw := hr.w
   rw [rwP_w] at hw
   exact (hw.some _ hm c (by rw [hch]; exact hc)).2.1
  have hp : decide (0 < c.2.length) = true := decide_eq_true (List.length_pos_iff.2 hne)
  simp only [hp, Bool.true_and]
  unfold okCo negB
  rw [Bool.eq_iff_iff, List.all_eq_true, Bool.not_eq_true', List.any_eq_false]
  refine forall_congr' fun j => forall_congr' fun hj => ?_
  have hg : (dIter (wldP t g p) k).getD j 0 = dF (wldP t g p) k j := rfl
  rw [hg, decide_eq_true_eq, decide_eq_true_eq]; omega
 rw [e1, any_ch (fun l => decide (0 < l.length) && l.all fun j => decide (0 ≤ dF (wldP t g p) k j)) 0, any_rowP _ s rfl]
 congr 1
 unfold ruleS
 rw [if_pos rfl, nxA_get hs]
theorem sure_all (hr : ROk (rwP t g p)) {M : Nat → Bool} (hM : LfpR (ssP t g p).length (goalB (wldP t g p)) (ruleS (nxA t g p) true) M) :
  (List.range (ssP t g p).length).all M = !((dIter (wldP t g p) (wldP t g p).ss.length).contains (-1)) := by
 have hw : WOk (wldP t g p) := by rw [← rwP_w]; exact hr.w
 obtain ⟨N, hN⟩ : ∃ N, N = (wldP t g p).ss.length := ⟨_, rfl⟩
 have hN2 : (ssP t g p).length = N := hN.symm
 rw [hN2] at hM ⊢
 rw [← hN]
 have hrs : ∀ k i, i < N → nowB (wldP t g p) (dIter (wldP t g p) k) i = _ := fun k i hi => nowB_rule hr (by omega)
 have hD : LfpR N (goalB (wldP t g p)) (ruleS (nxA t g p) true) (fun i => decide (0 ≤ dF (wldP t g p) N i)) := by
  refine ⟨⟨fun i hi hg => ?_, fun S h0 hS i hi h => ?_⟩, fun i hi h => ?_⟩
  ·have := (dF_goal hw (by omega : i < (wldP t g p).ss.length) N).2 hg
   simp only [decide_eq_true_eq]; omega
  ·have key : ∀ k i, i < N → 0 ≤ dF (wldP t g p) k i → S i = true := by
    intro k
    induction k with
    | zero =>
     intro i hi h
     refine h0 i hi ?_
     rw [dF_zero hw (by omega)] at h
     cases hg : goalB (wldP t g p) i
     ·rw [hg] at h; simp at h
     ·rfl
    | succ k ih =>
     intro i hi h
     rw [dF_succ hw k (by omega)] at h
     cases hn : nowB (wldP t g p) (dIter (wldP t g p) k) i
     ·rw [hn] at h; exact ih i hi (by simpa using h)
     ·rw [hrs k i hi, Bool.and_eq_true] at hn
      refine hS i hi ?_
      have h2 := hn.2
      unfold ruleS at h2 ⊢
      simp only [if_true, Bool.and_eq_true, List.all_eq_true, decide_eq_true_eq] at h2 ⊢
      refine ⟨h2.1, fun x hx => ih x ?_ (h2.2 x hx)⟩
      obtain ⟨s, hs⟩ := get_ex (show i < (ssP t g p).length by omega)
      rw [nxA_get hs] at hx
      have hm : some ((nxP t g p s).map (ssP t g p).idxOf) ∈ (rwP t g p).nx.getD i [] := by
       rw [rwP_row hs]
       unfold rowP nxP
       unfold nxP at hx
       cases hq : polG p s with
       | none => rw [hq] at hx; simp at hx
       | some n => simp
      have := row_lt hr hm x hx
      have : (rwP t g p).ss.length = N := hN2
      omega
   exact key N i hi (by simpa using h)
  ·have he := dIter_end hw
   rw [← hN] at he
   simp only [decide_eq_true_eq]
   refine Classical.byContradiction fun q => ?_
   have hn : nowB (wldP t g p) (dIter (wldP t g p) N) i = true := by
    rw [hrs N i hi, h, decide_eq_true (by omega)]; rfl
   have := nowL_mem.2 ⟨(by omega : i < (wldP t g p).ss.length), hn⟩
   rw [he] at this; simp at this
 have hu := LfpR.unique hM hD
 rw [dIter_lst hw, ← hN]
 cases hall : (List.range N).all M
 ·rw [List.all_eq_false] at hall
  obtain ⟨i, hi, hf⟩ := hall
  have hi := List.mem_range.1 hi
  rw [hu i hi] at hf
  have h1 := dF_range hw (by omega : i < (wldP t g p).ss.length) N
  have h2 : dF (wldP t g p) N i = -1 := by
   simp only [decide_eq_true_eq] at hf; omega
  have : (lst N (dF (wldP t g p) N)).contains (-1) = true := by
   rw [List.contains_iff_mem]
   exact List.mem_map.2 ⟨i, List.mem_range.2 hi, h2⟩
  rw [this]; rfl
 ·rw [List.all_eq_true] at hall
  have : (lst N (dF (wldP t g p) N)).contains (-1) = false := by
   cases hc : (lst N (dF (wldP t g p) N)).contains (-1)
   ·rfl
   ·rw [List.contains_iff_mem] at hc
    obtain ⟨i, hi, h2⟩ := List.mem_map.1 hc
    have h3 := hall i hi
    rw [hu i (List.mem_range.1 hi)] at h3
    simp only [decide_eq_true_eq] at h3; omega
  rw [this]; rfl
theorem sure_lfp (hr : ROk (rwP t g p)) : LfpR (ssP t g p).length (goalB (wldP t g p)) (ruleS (nxA t g p) false) (cStep (wldP t g p) fun _ => true) := by
 have hl := cStep_lfp hr fun _ => true
 rw [rwP_w] at hl
 have hN : (rwP t g p).ss.length = (ssP t g p).length := rfl
 rw [hN] at hl
 have hru : ∀ S i, i < (ssP t g p).length → ruleC (rwP t g p) (fun _ => true) S i = (goalB (wldP t g p) i || ruleS (nxA t g p) false S i) := fun S i hi => by
  obtain ⟨s, hs⟩ := get_ex hi
  unfold ruleC leadsB ruleS
  rw [rwP_w, rwP_row hs, any_rowP _ s rfl, nxA_get hs]
  unfold leadP
  simp only [Bool.true_and, Bool.false_eq_true, if_false]
  rw [show ∀ l : List Nat, (l.all fun _ => true) = true from fun l => List.all_eq_true.2 fun _ _ => rfl, Bool.true_and]
 refine ⟨⟨fun i hi hg => hl.closed i hi (by rw [hru _ i hi, hg]; rfl), fun S h0 hS i hi h => ?_⟩, fun i hi h => hl.closed i hi (by rw [hru _ i hi, h]; simp)⟩
 refine hl.least S (fun _ _ q => absurd q (by simp)) (fun x hx q => ?_) i hi h
 rw [hru S x hx, Bool.or_eq_true] at q
 exact q.elim (h0 x hx) (hS x hx)
theorem sure_some (hr : ROk (rwP t g p)) {M : Nat → Bool} (hM : LfpR (ssP t g p).length (goalB (wldP t g p)) (ruleS (nxA t g p) false) M) :
  (List.range (ssP t g p).length).all M = !(badB (wldP t g p)) := by
 have hD := sure_lfp hr
 have hu := LfpR.unique hM hD
 unfold badB
 have hN2 : (wldP t g p).ss.length = (ssP t g p).length := rfl
 rw [hN2]
 have e : ∀ i, cStep (wldP t g p) (fun _ => true) i = !(!goalB (wldP t g p) i && decide (nearF (wldP t g p) (fun _ => true) i < 0)) := fun i => by
  unfold cStep
  have : decide (0 ≤ nearF (wldP t g p) (fun _ => true) i) = !decide (nearF (wldP t g p) (fun _ => true) i < 0) := by
   rw [← decide_not]; congr 1; exact propext (by omega)
  rw [this]
  cases goalB (wldP t g p) i <;> simp
 rw [List.any_eq_not_all_not]
 simp only [Bool.not_not]
 rw [Bool.eq_iff_iff, List.all_eq_true, List.all_eq_true]
 refine forall_congr' fun i => forall_congr' fun hi => ?_
 rw [hu i (List.mem_range.1 hi), e]
end
def ofR (x : FEnt) : AV × AV := (.str (keyR x.1), .int .i64 (x.2 + 1))
theorem ids_ofR (n : Nat) (l : List FEnt) : IdsO n (.map (l.map ofR)) := by
 intro j a b h
 rw [List.getElem?_map] at h
 obtain ⟨x, _, hx⟩ := Option.map_eq_some_iff.1 h
 simp only [ofR, Prod.mk.injEq] at hx
 obtain ⟨rfl, rfl⟩ := hx
 exact ⟨.str _, .int _ _⟩
theorem find_ofR (x : List Int) : ∀ (l : List FEnt) (k : Nat), (∀ y ∈ l, keyR y.1 = keyR x → y.1 = x) → ∃ i : Nat, aFind (.str (keyR x)) (l.map ofR) k = some ((polG l x).map fun n => (i, .int .i64 (n + 1)))
 | [], k, _ => ⟨0, by simp [aFind, polG]⟩
 | y :: l, k, h => by
  rw [List.map_cons, ofR, aFind]
  by_cases e : y.1 = x
  ·refine ⟨k, ?_⟩
   have : keyEq (.str (keyR x)) (.str (keyR y.1)) = some true := by rw [e]; simp [keyEq]
   rw [this]
   simp [polG, e]
  ·obtain ⟨i, hi⟩ := find_ofR x l (k + 1) fun z hz => h z (List.mem_cons_of_mem _ hz)
   refine ⟨i, ?_⟩
   have hk : ¬ keyR y.1 = keyR x := fun q => e (h y List.mem_cons_self q)
   have : keyEq (.str (keyR x)) (.str (keyR y.1)) = some false := by
    simp only [keyEq, Option.some.injEq, beq_eq_false_iff_ne, ne_eq]
    exact fun q => hk q.symm
   rw [this]
   simp only
   rw [hi]
   unfold polG
   rw [List.find?_cons_of_neg (by simpa using e)]
theorem wkL_app {a b c d : List AV} (h : WkL a b) (k : WkL c d) : WkL (a ++ c) (b ++ d) := by
 induction h with
 | nil => exact k
 | cons h _ ih => exact .cons h ih
def nC1 (l : List Nat) : AV := .slice .unk (l.map encNt)
theorem nxL_step {t : FTask} {g : List (List Int)} {p : List FEnt} {k : Nat} {s : List Int} (h : (gK (nxP t g p) t.init k)[k]? = some s) :
  nxL t g p (gK (nxP t g p) t.init (k + 1)) (k + 1) = nxL t g p (gK (nxP t g p) t.init k) k ++ [(nxP t g p s).map (gK (nxP t g p) t.init (k + 1)).idxOf] := by
 have hp := gK_pre1 (nx := nxP t g p) (s0 := t.init) k
 have hk := lt_of_get h
 unfold nxL
 rw [take_succ' (hp.get h), take_pre hp (by omega), List.map_append]
 congr 1
 refine List.map_congr_left fun x hx => ?_
 obtain ⟨j, hj, rfl⟩ := List.getElem_of_mem hx
 have hj2 : j < k := by rw [List.length_take] at hj; omega
 refine List.map_congr_left fun y hy => hp.idx ?_
 exact gK_closed k j _ hj2 (by rw [List.getElem_take]; exact List.getElem?_eq_getElem _) y hy
def e_kindR_0 : List COp := [oS 34 (.move (.tmp 10)), oS 35 (.move (.tmp 12)), oA 36 (.call (.lit (.func 52 [])) [.tmp 35]) [1], oS 37 (.move (.tmp 3)), oS 38 (.move (.tmp 11)), oA 39 (.iaddr 1 (.tmp 37) (.tmp 38)) [3, 4], oA 40 (.load none (.tmp 39)) [5], oA 41 (.bin .add .none (.tmp 40) (.lit (.int .i64 1))) [6], ⟨none, .mapup true (.tmp 34) (.tmp 36) (.tmp 41), none, [0, 2, 7, 2, 0, 1, 2, 3, 4, 5, 6, 7]⟩]
def d_kindR_0 : List COp := e_kindR_0
theorem dr_kindR_0 (P : Program) (nt n0 : Nat) (Q : Post) (s : Slots) (σ : Store) : wpc P nt n0 (.draw d_kindR_0) Q s σ = aOpsD P nt e_kindR_0 (Q .normal) s σ := wpc_draw _ (by decide)
def e_kindR_1 : List COp := [oS 57 (.move (.tmp 13)), oS 58 (.move (.tmp 19)), oA 59 (.iaddr 1 (.tmp 57) (.tmp 58)) [0, 1], oA 60 (.load none (.tmp 59)) [2], oS 61 (.faddr 2 (.tmp 4)), oA 62 (.load none (.tmp 61)) [4], oA 63 (.call (.lit (.func 51 [])) [.tmp 60, .tmp 62]) [3, 5], oA 20 (.move (.tmp 63)) [6, 6, 0, 1, 2, 3, 4, 5, 6]]
def d_kindR_1 : List COp := e_kindR_1
theorem dr_kindR_1 (P : Program) (nt n0 : Nat) (Q : Post) (s : Slots) (σ : Store) : wpc P nt n0 (.draw d_kindR_1) Q s σ = aOpsD P nt e_kindR_1 (Q .normal) s σ := wpc_draw _ (by decide)
def e_kindR_2 : List COp := [oS 92 (.load (some 4) (.tmp 4)), oS 93 (.move (.tmp 1)), oS 94 (.move (.tmp 21)), oA 95 (.bin .sub .none (.tmp 94) (.lit (.int .i64 1))) [2], oA 96 (.iaddr 1 (.tmp 93) (.tmp 95)) [1, 3], oA 97 (.load none (.tmp 96)) [4], oS 98 (.move (.tmp 13)), oS 99 (.move (.tmp 19)), oA 100 (.iaddr 1 (.tmp 98) (.tmp 99)) [6, 7], oA 101 (.load none (.tmp 100)) [8], oA 102 (.call (.lit (.func 29 [])) [.tmp 92, .tmp 97, .tmp 101]) [0, 5, 9], oA 103 (.blen 1 (.tmp 102)) [10], oS 104 (.move (.lit (.int .i64 0)))]
def d_kindR_2 : List COp := e_kindR_2
theorem dr_kindR_2 (P : Program) (nt n0 : Nat) (Q : Post) (s : Slots) (σ : Store) : wpc P nt n0 (.draw d_kindR_2) Q s σ = aOpsD P nt e_kindR_2 (Q .normal) s σ := wpc_draw _ (by decide)
attribute [local go_sem] dr_kindR_0 e_kindR_0 dr_kindR_1 e_kindR_1 dr_kindR_2 e_kindR_2
def c_kindR : CCode := .seq (.ops [oS 4 (.box (.tmp 0)), oS 8 (.move (.lit (.int .i64 0))), oS 9 (.move (.lit (.slice .nil [])))]) (.seq (.ops [oS 26 .mkmap, oS 10 (.move (.tmp 26))]) (.seq (.seq (.ops [oS 27 (.move (.tmp 2)), oS 28 (.blen 1 (.tmp 27)), oS 29 (.move (.lit (.int .i64 0)))]) (.block 0 (.loop (.seq (.ops [oS 30 (.bin .lss .none (.tmp 29) (.tmp 28))]) (.seq (.cond (.tmp 30) .skip (.exit 0)) (.seq (.block 1 (.seq (.ops [oS 31 (.move (.tmp 29)), oS 32 (.iaddr 1 (.tmp 27) (.tmp 29)), oS 33 (.load none (.tmp 32)), oS 11 (.move (.tmp 31)), oS 12 (.move (.tmp 33))]) (.draw d_kindR_0))) (.ops [oS 42 (.bin .add .none (.tmp 29) (.lit (.int .i64 1))), oS 29 (.move (.tmp 42))]))))))) (.seq (.ops [oS 43 (.faddr 1 (.tmp 4)), oS 44 (.load none (.tmp 43)), oS 45 (.bslice 1 [.tmp 44] false), oS 13 (.move (.tmp 45))]) (.seq (.ops [oS 46 .mkmap, oS 47 (.faddr 1 (.tmp 4)), oS 48 (.load none (.tmp 47)), oS 49 (.call (.lit (.func 52 [])) [.tmp 48]), oN (.mapup true (.tmp 46) (.tmp 49) (.lit (.int .i64 0))), oS 50 (.move (.tmp 46)), oS 14 (.move (.tmp 50))]) (.seq (.ops [oS 15 (.move (.lit (.slice .nil [])))]) (.seq (.ops [oS 16 (.move (.lit (.slice .nil [])))]) (.seq (.ops [oS 17 (.move (.lit (.bool false))), oS 18 (.move (.lit (.bool true)))]) (.seq (.seq (.ops [oS 19 (.move (.lit (.int .i64 0)))]) (.block 2 (.loop (.seq (.seq (.ops [oS 51 (.move (.tmp 19)), oS 52 (.move (.tmp 13)), oS 53 (.blen 1 (.tmp 52)), oS 54 (.bin .lss .none (.tmp 51) (.tmp 53))]) (.cond (.tmp 54) .skip (.exit 2))) (.seq (.block 3 (.seq (.draw d_kindR_1) (.seq (.ops [oS 64 (.move (.tmp 16)), oS 65 (.move (.tmp 20)), oS 66 (.bsliceC 1 [.tmp 65]), oS 67 (.bappend 1 1 (.tmp 64) (.tmp 66) false), oS 68 (.move (.tmp 15)), oS 69 (.bsliceC 1 [.lit (.slice .nil [])]), oS 70 (.bappend 1 24 (.tmp 68) (.tmp 69) true), oS 16 (.move (.tmp 67)), oS 15 (.move (.tmp 70))]) (.seq (.ghost (.ops [oS 71 (.move (.tmp 10)), oS 72 (.move (.tmp 13)), oS 73 (.move (.tmp 19)), oS 74 (.iaddr 1 (.tmp 72) (.tmp 73)), oS 75 (.load none (.tmp 74)), oS 76 (.call (.lit (.func 52 [])) [.tmp 75]), oS 77 (.lookup true (.int .i64 0) (.tmp 71) (.tmp 76) false), oS 21 (.move (.tmp 77))])) (.seq (.ops [oS 78 (.move (.tmp 17)), oS 79 (.move (.tmp 78)), oG 80 79 false (.move (.tmp 20)), oS 81 (.pick (.tmp 79) (.lit (.bool true)) (.tmp 80)), oS 82 (.move (.tmp 18)), oS 83 (.move (.tmp 82)), oG 84 83 true (.move (.tmp 20)), oG 85 83 true (.move (.tmp 84)), oG 86 85 false (.move (.tmp 21)), oG 87 85 false (.bin .gtr .none (.tmp 86) (.lit (.int .i64 0))), oG 88 83 true (.pick (.tmp 85) (.lit (.bool true)) (.tmp 87)), oS 89 (.pick (.tmp 83) (.tmp 88) (.lit (.bool false))), oS 17 (.move (.tmp 81)), oS 18 (.move (.tmp 89))]) (.seq (.seq (.ops [oS 90 (.move (.tmp 21)), oS 91 (.bin .eql .none (.tmp 90) (.lit (.int .i64 0)))]) (.cond (.tmp 91) (.exit 3) .skip)) (.seq (.draw d_kindR_2) (.block 4 (.loop (.seq (.ops [oS 105 (.bin .lss .none (.tmp 104) (.tmp 103))]) (.seq (.cond (.tmp 105) .skip (.exit 4)) (.seq (.block 5 (.seq (.ops [oS 106 (.iaddr 1 (.tmp 102) (.tmp 104)), oS 107 (.load none (.tmp 106)), oS 23 (.move (.tmp 107))]) (.seq (.ops [oS 109 (.move (.tmp 14)), oS 110 (.move (.tmp 23)), oS 111 (.call (.lit (.func 52 [])) [.tmp 110]), oS 112 (.lookup true (.int .i64 0) (.tmp 109) (.tmp 111) true), oS 108 (.move (.tmp 112)), oS 113 (.extract (.tmp 108) 0), oS 114 (.extract (.tmp 108) 1), oS 24 (.move (.tmp 113)), oS 25 (.move (.tmp 114))]) (.seq (.seq (.ops [oS 115 (.move (.tmp 25)), oS 116 (.un .not (.tmp 115))]) (.cond (.tmp 116) (.seq (.ops [oS 117 (.move (.tmp 13)), oS 118 (.blen 1 (.tmp 117)), oS 24 (.move (.tmp 118))]) (.seq (.ops [oS 119 (.move (.tmp 14)), oS 120 (.move (.tmp 23)), oS 121 (.call (.lit (.func 52 [])) [.tmp 120]), oS 122 (.move (.tmp 24)), oN (.mapup true (.tmp 119) (.tmp 121) (.tmp 122))]) (.ops [oS 123 (.move (.tmp 13)), oS 124 (.move (.tmp 23)), oS 125 (.bsliceC 1 [.tmp 124]), oS 126 (.bappend 1 24 (.tmp 123) (.tmp 125) false), oS 13 (.move (.tmp 126))]))) .skip)) (.ops [oS 127 (.move (.tmp 15)), oS 128 (.move (.tmp 19)), oS 129 (.move (.tmp 15)), oS 130 (.move (.tmp 19)), oS 131 (.iaddr 1 (.tmp 129) (.tmp 130)), oS 132 (.load none (.tmp 131)), oS 133 (.move (.tmp 24)), oS 134 (.bsliceC 1 [.tmp 133]), oS 135 (.bappend 1 8 (.tmp 132) (.tmp 134) false), oS 136 (.iaddr 1 (.tmp 127) (.tmp 128)), oN (.store 1 (.tmp 136) (.tmp 135))]))))) (.ops [oS 137 (.bin .add .none (.tmp 104) (.lit (.int .i64 1))), oS 104 (.move (.tmp 137))]))))))))))))) (.ops [oS 55 (.move (.tmp 19)), oS 56 (.bin .add .none (.tmp 55) (.lit (.int .i64 1))), oS 19 (.move (.tmp 56))])))))) (.seq (.block 6 (.seq (.ghost (.ops [oS 139 (.move (.tmp 18)), oS 140 (.move (.tmp 139)), oG 141 140 true (.move (.tmp 15)), oG 142 140 true (.move (.tmp 16)), oG 143 140 true (.call (.lit (.func 53 [])) [.tmp 141, .tmp 142, .lit (.bool true)]), oS 144 (.pick (.tmp 140) (.tmp 143) (.lit (.bool false))), oS 138 (.move (.tmp 144))])) (.cond (.tmp 138) (.seq (.ops [oS 145 (.move (.tmp 13)), oS 8 (.move (.lit (.int .i64 3))), oS 9 (.move (.tmp 145))]) .ret) (.seq (.ops [oS 147 (.move (.tmp 18)), oS 148 (.move (.tmp 147)), oG 149 148 true (.move (.tmp 15)), oG 150 148 true (.move (.tmp 16)), oG 151 148 true (.call (.lit (.func 53 [])) [.tmp 149, .tmp 150, .lit (.bool false)]), oS 152 (.pick (.tmp 148) (.tmp 151) (.lit (.bool false))), oS 146 (.move (.tmp 152))]) (.cond (.tmp 146) (.seq (.ops [oS 153 (.move (.tmp 13)), oS 8 (.move (.lit (.int .i64 2))), oS 9 (.move (.tmp 153))]) .ret) (.seq (.ops [oS 155 (.move (.tmp 17)), oS 154 (.move (.tmp 155))]) (.cond (.tmp 154) (.seq (.ops [oS 156 (.move (.tmp 13)), oS 8 (.move (.lit (.int .i64 1))), oS 9 (.move (.tmp 156))]) .ret) .skip))))))) (.seq (.ops [oS 157 (.move (.tmp 13)), oS 8 (.move (.lit (.int .i64 0))), oS 9 (.move (.tmp 157))]) .ret))))))))))
set_option maxHeartbeats 8000000 in
theorem kindR_spec (t : FTask) (g : List (List Int)) (p : List FEnt) (tok tok' tok'' : Tok) (σ : Store) (hsz : taskSize t ≤ 300) (hb : PB t) (hg : LB g) (hg3 : ∀ l ∈ g, l.length ≤ 300) (hv : validB t = true) (h7 : t.facts.length ≤ 7) (hch : choicesB t g = true) (hpol : polB t g p = true) (hp : p.length ≤ 1000000) (hps : ∀ x ∈ p, x.1.length ≤ 1000000) :
  ACalls Tryz.prog 16 [.agg (encTask t), .slice tok (g.map encL), .slice tok' ((p.map (·.1)).map encL), .slice tok'' ((p.map (·.2)).map Ahl.encI)] σ (isR (.tuple [.int .i64 (kindN t g p), .slice .unk ((ssP t g p).map encL)]) σ) := by
 refine ACalls.intro (rs := [(.tmp 8), (.tmp 9)]) (by kernel_rfl) { own := [(16, 6)], ghosts := [17, 30], cold := [(16, 2), (16, 5), (27, 2), (28, 7)] } Tryz.func16 (c := Tryz.f16.body.getD .skip) (by kernel_rfl) (by decide) (by rw [show Tryz.f16.ntmps = 158 by kernel_rfl]; exact Nat.le_of_ble_eq_true rfl) (by kernel_rfl) ?_
 intro hσ hids
 rw [show comp Tryz.prog { own := [(16, 6)], ghosts := [17, 30], cold := [(16, 2), (16, 5), (27, 2), (28, 7)] } (Tryz.f16.body.getD .skip) = c_kindR by kernel_rfl, show Tryz.f16.ntmps = 158 by kernel_rfl]
 unfold c_kindR
 have hil : Ids σ.length (.slice tok (g.map encL)) := hids _ (by simp)
 have hil1 : Ids σ.length (.slice tok' ((p.map (·.1)).map encL)) := hids _ (by simp)
 have hil2 : Ids σ.length (.slice tok'' ((p.map (·.2)).map Ahl.encI)) := hids _ (by simp)
 obtain ⟨hSB, hEO, hfl⟩ := valid_SB hb hv
 have hri := valid_init16 hv
 have hgl2 : g.length ≤ 200 := by unfold choicesB at hch; rw [Bool.and_eq_true, decide_eq_true_eq] at hch; exact hch.1
 have h2n : 2 ^ t.facts.length ≤ 128 := Nat.pow_le_pow_right (n := 2) (by omega) h7
 have hn8 : ∀ y, risingB t.facts.length (-1) y = true → y.length ≤ 8 := fun y hy => by
  rcases rising_len hy (by omega) with q | q
  ·omega
  ·rw [q]; simp
 have hdg : ∀ y, risingB t.facts.length (-1) y = true → ∀ x ∈ y, 0 ≤ x ∧ x < 10 := fun y hy => digits_of (n := t.facts.length) (by omega) hy
 have hnx := nxP_rising hEO hch hpol
 have hSl : (p.map (·.1)).length = p.length := by simp
 have hGl : (p.map (·.2)).length = p.length := by simp
 have hSg : ∀ (i : Nat) (x : FEnt), p[i]? = some x → (p.map (·.1))[i]? = some x.1 := fun i x h => by rw [List.getElem?_map, h]; rfl
 have hGg : ∀ (i : Nat) (x : FEnt), p[i]? = some x → (p.map (·.2))[i]? = some x.2 := fun i x h => by rw [List.getElem?_map, h]; rfl
 generalize p.map (·.1) = S at hil1 hSl hSg ⊢
 generalize p.map (·.2) = G at hil2 hGl hGg ⊢
 have hS0 : ∀ es : List FEnt, IdsS (σ ++ [AObj.row (encTask t), .map (es.map ofR)]).length (σ ++ [AObj.row (encTask t), .map (es.map ofR)]) := fun es => idsS_app _ hσ (all_cons' (idsO_row (ids_encTask t)) (all_cons' (ids_ofR _ _) all_nil'))
 simp only [go_sem, simprocAttr, encTask]
 refine wpc_while (fun (i : Nat) => [(1, .slice tok (g.map encL)), (3, .slice tok'' (G.map Ahl.encI)), (4, .ptr σ.length 0), (10, .map (σ.length + 1)), (27, .slice tok' (S.map encL)), (28, .int .i64 S.length), (29, .int .i64 (i : Nat))])
  (fun i => σ ++ [.row (encTask t), .map ((p.take i).map ofR)]) (fun i => i ≤ p.length) (fun i => p.length - i) 0 (Nat.zero_le _) ?_ ?_
 ·exact ghL0 (hS0 [])
 intro i hi K hK hE hR
 by_cases h : i < p.length
 ·obtain ⟨x, hx⟩ := get_ex h
  have hxS := hSg i x hx
  have hxG := hGg i x hx
  have hlt : ((i : Int) < (S.length : Int)) := by omega
  have hltG : ((i : Int) < (G.length : Int)) := by omega
  have hw1 := wrapS (i := i) (by omega)
  obtain ⟨hr, hx0, hx1, _⟩ := entB_parts (entB_get hpol hx)
  have hxl := hn8 x.1 hr
  have hw2 : IntKind.i64.wrap (x.2 + 1) = x.2 + 1 := wrap_ok (by omega)
  have hrise := pol_rise (t := t) (g := g) (p := p) (i + 1) fun j _ z hz => entB_get hpol hz
  rw [take_succ' hx, List.pairwise_append] at hrise
  have hnew : ∀ z ∈ p.take i, z.1 ≠ x.1 := fun z hz e => by
   have := hrise.2.2 z hz x (by simp)
   rw [e, cmpInts_refl] at this; omega
  have hrz : ∀ z ∈ (p.take i).map (·.1), risingB t.facts.length (-1) z = true := fun z hz => by
   obtain ⟨u, hu, rfl⟩ := List.mem_map.1 hz
   obtain ⟨j, hj⟩ := List.getElem?_of_mem (List.mem_of_mem_take hu)
   exact (entB_parts (entB_get hpol hj)).1
  obtain ⟨fi, hfi⟩ := find_ofR x.1 (p.take i) 0 fun z hz => keyR_apart (n := t.facts.length) (by omega) hrz hr z.1 (List.mem_map.2 ⟨z, hz, rfl⟩)
  rw [polG_none hnew] at hfi
  simp only [Option.map_none] at hfi
  have e2 : (p.take i).map ofR ++ [(AV.str (keyR x.1), AV.int .i64 (x.2 + 1))] = (p.take (i + 1)).map ofR := by rw [take_succ' hx, List.map_append]; rfl
  simp only [go_sem, simprocAttr, hlt, hxS, encL]
  refine ⟨_, key02_spec x.1 .unk _ (by omega) (hdg _ hr), ?_⟩
  simp only [go_sem, simprocAttr, hltG, hxG, Ahl.encI, hw2, hfi, e2]
  refine hK _ _ (i + 1) (by omega) (by omega) ?_
  rw [hw1]
  exact ghL0 (hS0 _)
 have hlt : ¬ ((i : Int) < (S.length : Int)) := by omega
 rw [List.take_of_length_le (by omega)]
 simp only [go_sem, simprocAttr, hlt, hE, encTask]
 clear hK hE hR hlt h hi
 refine (key02_spec t.init .unk _ (by have := hn8 _ hri; omega) (hdg _ hri)).is ?_
 have hfn : aFind (AV.str (keyR t.init)) [] 0 = some none := rfl
 simp only [go_sem, simprocAttr, hfn]
 have hWd : ∀ (m : Nat) ss (gl : List Bool) (cs : List AV), σ.length + 6 ≤ m → (∀ x ∈ cs, ∀ n, Ids n x) → ∀ o ∈ ([AObj.row (encTask t), AObj.map (List.map ofR p), AObj.grow 1 (List.length ss), AObj.map (encWR ss), AObj.grow 1 (List.length gl), AObj.row cs]), IdsO m o := by
  intro m ss gl cs hm hcs o ho
  simp only [List.mem_cons, List.not_mem_nil, or_false] at ho
  rcases ho with rfl | rfl | rfl | rfl | rfl | rfl
  ·exact idsO_row (ids_encTask t)
  ·exact ids_ofR _ _
  ·trivial
  ·exact idsO_encWR _ _
  ·trivial
  ·exact idsO_row fun x hx => hcs x hx _
 have hWS : ∀ ss (gl : List Bool) (cs : List AV) (l : Store), (∀ x ∈ cs, ∀ n, Ids n x) → (∀ o ∈ l, IdsO (σ.length + 6 + l.length) o) → IdsS (σ ++ (([AObj.row (encTask t), AObj.map (List.map ofR p), AObj.grow 1 (List.length ss), AObj.map (encWR ss), AObj.grow 1 (List.length gl), AObj.row cs]) ++ l)).length (σ ++ (([AObj.row (encTask t), AObj.map (List.map ofR p), AObj.grow 1 (List.length ss), AObj.map (encWR ss), AObj.grow 1 (List.length gl), AObj.row cs]) ++ l)) := fun ss gl cs l hcs hl => idsS_app _ hσ fun o ho => by
  rcases List.mem_append.1 ho with ho | ho
  ·exact hWd _ ss gl cs (by simp) hcs o ho
  ·have := hl o ho
   refine cast (congrArg (fun z => IdsO z o) ?_) this
   simp; omega
 have hcsI : ∀ (l : List (List Nat)), ∀ x ∈ l.map nC1, ∀ n, Ids n x := fun l x hx n => by
  obtain ⟨y, _, rfl⟩ := List.mem_map.1 hx
  exact ids_map ids_encNt _
 have hW0 : ∀ ss (gl : List Bool) (l : List (List Nat)), IdsS (σ ++ ([AObj.row (encTask t), AObj.map (List.map ofR p), AObj.grow 1 (List.length ss), AObj.map (encWR ss), AObj.grow 1 (List.length gl), AObj.row (l.map nC1)])).length (σ ++ ([AObj.row (encTask t), AObj.map (List.map ofR p), AObj.grow 1 (List.length ss), AObj.map (encWR ss), AObj.grow 1 (List.length gl), AObj.row (l.map nC1)])) := fun ss gl l => by
  have := hWS ss gl (l.map nC1) [] (hcsI l) (by simp)
  rwa [List.append_nil] at this
 have hg1 : ∀ k (ss : List (List Int)), (gK (nxP t g p) t.init k) = ss → ∀ (s : Slots) (σ' : Store), True := fun _ _ _ _ _ => trivial
 refine wpc_while (fun (k : Nat) => [(1, .slice tok (g.map encL)), (4, .ptr σ.length 0), (10, .map (σ.length + 1)), (13, .slice (.grow (σ.length + 2)) ((gK (nxP t g p) t.init k).map encL)), (14, .map (σ.length + 3)), (15, .ref (σ.length + 5) 1 0 k), (16, .slice (.grow (σ.length + 4)) ((GLp t (gK (nxP t g p) t.init k) k).map encB)), (17, .bool (weakB t ((gK (nxP t g p) t.init k).take k))), (18, .bool (shutB t p ((gK (nxP t g p) t.init k).take k))), (19, .int .i64 (k : Nat))])
  (fun k => σ ++ [AObj.row (encTask t), AObj.map (List.map ofR p), AObj.grow 1 (List.length (gK (nxP t g p) t.init k)), AObj.map (encWR (gK (nxP t g p) t.init k)), AObj.grow 1 (List.length (GLp t (gK (nxP t g p) t.init k) k)), AObj.row ((nxL t g p (gK (nxP t g p) t.init k) k).map nC1)])
  (fun k => k ≤ (gK (nxP t g p) t.init k).length) (fun k => 256 - k) 0 (Nat.zero_le _) ?_ ?_
 ·refine Ghost.trans (Ghost.tok 16 1 (.inl rfl)) ?_
  refine Ghost.trans (Ghost.row0 15 1 0 (.inl rfl)) ?_
  have := hW0 [t.init] [] []
  simp only [List.length_append, List.length_cons, List.length_nil, Nat.zero_add, Nat.reduceAdd, List.append_assoc, List.cons_append, List.nil_append]
  exact ghL0 this
 intro k hk K hK hE hR
 have hrs := gK_rising hri hnx k
 have hll := gK_len hri hnx k
 by_cases h : k < (gK (nxP t g p) t.init k).length
 ·obtain ⟨s, hx⟩ := get_ex h
  have hsr := hrs s (List.mem_of_getElem? hx)
  have hs8 := hn8 s hsr
  have hlt : ((k : Int) < ((gK (nxP t g p) t.init k).length : Int)) := by omega
  have hw0 := wrapS (i := k) (by omega)
  have hbig : bigLen (k + 1) 1 := big_ok (by omega) (by omega)
  have hbig24 : bigLen (k + 1) 24 := big_ok (by omega) (by omega)
  have hstp := gK_step hx
  have hNs := nxL_step hx
  have hGs := GLp_step (t := t) hx
  have htk : (gK (nxP t g p) t.init (k + 1)).take (k + 1) = (gK (nxP t g p) t.init k).take k ++ [s] := by
   rw [take_succ' ((gK_pre1 k).get hx), take_pre (gK_pre1 k) (by omega)]
  have hsh : shutB t p ((gK (nxP t g p) t.init (k + 1)).take (k + 1)) = (shutB t p ((gK (nxP t g p) t.init k).take k) && ((polG p s).isSome || condHolds s t.goal)) := by
   rw [htk]; unfold shutB; rw [List.all_append]; simp
  have hwe : weakB t ((gK (nxP t g p) t.init (k + 1)).take (k + 1)) = (weakB t ((gK (nxP t g p) t.init k).take k) || condHolds s t.goal) := by
   rw [htk]; unfold weakB; rw [List.any_append]; simp
  have hGl : (GLp t (gK (nxP t g p) t.init k) k).length = k := by unfold GLp; rw [List.length_map, List.length_take]; omega
  have hNl0 : (nxL t g p (gK (nxP t g p) t.init k) k).length = k := by unfold nxL; rw [List.length_map, List.length_take]; omega
  generalize shutB t p ((gK (nxP t g p) t.init k).take k) = sh0 at hsh
  generalize weakB t ((gK (nxP t g p) t.init k).take k) = we0 at hwe
  generalize GLp t (gK (nxP t g p) t.init k) k = GL0 at hGl hGs
  generalize nxL t g p (gK (nxP t g p) t.init k) k = NL0 at hNl0 hNs
  generalize hss : gK (nxP t g p) t.init k = ss at hk hrs hll h hx hlt hstp
  generalize hN : gK (nxP t g p) t.init (k + 1) = N at hstp hNs hGs hsh hwe
  have hNr := gK_rising hri hnx (k + 1)
  have hNl := gK_len hri hnx (k + 1)
  rw [hN] at hNr hNl
  have hcsl : (NL0.map nC1).length = k := by rw [List.length_map, hNl0]
  have hcs0 := hcsI NL0
  simp only [go_sem, simprocAttr, hlt, hx, encL, encTask]
  refine ⟨_, holds02_spec s t.goal .unk .unk _ (by omega) (by have := hb.tb.goal; omega), ?_⟩
  generalize hcb : condHolds s t.goal = b at hsh hwe hGs
  have hGf : List.map encB GL0 ++ [[AV.bool b]] = List.map encB (GL0 ++ [b]) := by rw [List.map_append]; rfl
  have hG1l : (GL0 ++ [b]).length = k + 1 := by simp [hGl]
  simp only [go_sem, simprocAttr, hGl, hbig, hGf, hcsl, hbig24]
  have hcsI2 : ∀ x ∈ NL0.map nC1 ++ [AV.slice .nil []], ∀ n, Ids n x := fun x hx n => by
   rcases List.mem_append.1 hx with hx | hx
   ·exact hcs0 x hx n
   ·rw [List.mem_singleton] at hx; subst hx; exact ids_nil _ (by simp)
  have hS5 : IdsS (σ ++ [AObj.row (encTask t), .map (p.map ofR), .grow 1 ss.length, .map (encWR ss), .grow 1 (k + 1)]).length (σ ++ [AObj.row (encTask t), .map (p.map ofR), .grow 1 ss.length, .map (encWR ss), .grow 1 (k + 1)]) := idsS_app _ hσ (all_cons' (idsO_row (ids_encTask t)) (all_cons' (ids_ofR _ _) (all_cons' trivial (all_cons' (idsO_encWR _ _) (all_cons' trivial all_nil')))))
  refine Gh.of (ghMoveL (l := [AObj.row (encTask t), .map (p.map ofR), .grow 1 ss.length, .map (encWR ss), .grow 1 (k + 1)]) (g := [.dead, .row (NL0.map nC1 ++ [AV.slice .nil []])])
   (s' := [(1, .slice tok (g.map encL)), (4, .ptr σ.length 0), (10, .map (σ.length + 1)), (13, .slice (.grow (σ.length + 2)) (ss.map encL)), (14, .map (σ.length + 3)), (15, .ref (σ.length + 5) 1 0 (k + 1)), (16, .slice (.grow (σ.length + 4)) ((GL0 ++ [b]).map encB)), (17, .bool we0), (18, .bool sh0), (19, .int .i64 (k : Nat)), (20, .bool b)]) 5 1 rfl rfl hS5 (idsO_row fun x hx => hcsI2 x hx _) (by (simp only [TellM, lk, Nat.reduceBEq, cond_true, cond_false, and_true]; and_intros <;> first | exact .ref _ _ _ | exact .keep (.refl _) (by first | exact ids_mapE _ | assumption | exact .int _ _ | exact .bool _ | exact .ptr _ _ (by omega) | exact .map _ (by omega) | exact ids_growE (by omega) _ | (refine ids_up ?_ (by assumption); omega))))) ?_
  have hpr : ∀ z ∈ p.map (·.1), risingB t.facts.length (-1) z = true := fun z hz => by
   obtain ⟨u, hu, rfl⟩ := List.mem_map.1 hz
   obtain ⟨j, hj⟩ := List.getElem?_of_mem hu
   exact (entB_parts (entB_get hpol hj)).1
  obtain ⟨fi, hfi⟩ := find_ofR s p 0 fun z hz => keyR_apart (n := t.facts.length) (by omega) hpr hsr z.1 (List.mem_map.2 ⟨z, hz, rfl⟩)
  simp only [List.cons_append, List.nil_append]
  rw [show AObj.grow 1 (k + 1) = AObj.grow 1 (GL0 ++ [b]).length by rw [hG1l]]
  generalize hG1 : GL0 ++ [b] = G1 at hG1l hGs
  simp only [go_sem, simprocAttr, hlt, hx, encL]
  refine (key02_spec s .unk _ (by omega) (hdg _ hsr)).is ?_
  cases hpg : polG p s with
  | none =>
   rw [hpg] at hfi hsh
   simp only [Option.map_none, Option.isSome_none, Bool.false_or] at hfi hsh
   have hNs2 : N = ss := by rw [hstp]; unfold nxP; rw [hpg]; rfl
   have hcN : (nxP t g p s).map N.idxOf = [] := by unfold nxP; rw [hpg]; rfl
   rw [hcN] at hNs
   have hcf : (nxL t g p N (k + 1)).map nC1 = NL0.map nC1 ++ [AV.slice .unk []] := by rw [hNs, List.map_append]; rfl
   cases we0 <;> cases sh0 <;> cases b
   all_goals
    simp only [go_sem, simprocAttr, hfi]
    refine hK _ _ (k + 1) (by rw [hN, hNs2]; omega) (by omega) ?_
    rw [hN, hw0, hsh, hwe, hGs, hcf, hNs2]
    refine Ghost.trans (Ghost.rewk (σ.length + 5) (xs := NL0.map nC1 ++ [AV.slice .nil []]) (ys := NL0.map nC1 ++ [AV.slice .unk []]) (by simp) ?_) ?_
    ·exact wkL_app (WkL.refl _) (WkL.one (Wk.unk _ _))
    have := hW0 ss G1 (nxL t g p N (k + 1))
    rw [hcf] at this
    simp only [g_set, List.set_cons_succ, List.set_cons_zero]
    exact ghL0 this
  | some n =>
   rw [hpg] at hfi hsh
   simp only [Option.map_some, Option.isSome_some, Bool.true_or, Bool.and_true] at hfi hsh
   obtain ⟨hn0, hn1, _, hna, _⟩ := polG_ok hpol hpg
   obtain ⟨l, hgx⟩ := get_ex hn1
   have hgrp : grp g n.toNat = l := by unfold grp; rw [List.getD_eq_getElem?_getD, hgx]; rfl
   obtain ⟨c0, c1, c2, c3⟩ := grp_ok hch hn1
   rw [hgrp] at c0 c1 c2 c3 hna
   have hll2 := hg.2 l c0
   have hNO : N = addAll ss (outsL t l s) := by rw [hstp]; unfold nxP; rw [hpg]; show addAll ss (outsL t (grp g n.toNat) s) = _; rw [hgrp]
   have hcN : (nxP t g p s).map N.idxOf = (outsL t l s).map N.idxOf := by unfold nxP; rw [hpg]; show (outsL t (grp g n.toNat) s).map N.idxOf = _; rw [hgrp]
   rw [hcN] at hNs
   have hol : (outsL t l s).length ≤ 256 := by
    have h1 : (outsL t l s).Nodup := (outs_strict t l s).imp fun {a b} q e => by subst e; exact absurd q (by unfold ltL; rw [cmpInts_refl]; omega)
    have := nodup_sub_len h1 (m := N) fun y hy => by rw [hNO]; exact mem_addAll.2 (.inr hy)
    omega
   have hor : ∀ y ∈ outsL t l s, risingB t.facts.length (-1) y = true := outs_rising hEO hsr c2
   have hpos : ((n + 1 : Int) > 0) := by omega
   have hne1 : ((n + 1 : Int) == 0) = false := by simp; omega
   have hwn : IntKind.i64.wrap (n + 1 - 1) = n := by rw [wrap_ok (by omega)]; omega
   have hos := fun σ => outs16_spec t l s .unk .unk σ hb.tb hSB hEO (by omega) (by have := hg3 l c0; omega) c2 (whens16 hsz) hsr
   simp only [encTask] at hos
   generalize outsL t l s = O at hNO hol hor hNs hos hcN
   have hcf : (nxL t g p N (k + 1)).map nC1 = NL0.map nC1 ++ [nC1 (O.map N.idxOf)] := by rw [hNs, List.map_append]; rfl
   have hklen : k < (NL0.map nC1 ++ [AV.slice .nil []]).length := by rw [List.length_append, hcsl]; simp
   have hRl : (NL0.map nC1 ++ [AV.slice .nil []]).length = k + 1 := by rw [List.length_append, hcsl]; rfl
   have hsetk : ∀ v, (NL0.map nC1 ++ [AV.slice .nil []]).set k v = NL0.map nC1 ++ [v] := fun v => by rw [List.set_append_right _ _ (by omega), hcsl, Nat.sub_self]; rfl
   have hgetk : (NL0.map nC1 ++ [AV.slice .nil []])[k]? = some (AV.slice .nil []) := by rw [List.getElem?_append_right (by omega), hcsl, Nat.sub_self]; rfl
   have hJS : ∀ ss' (ys : List Nat) j, IdsS (σ ++ ((([AObj.row (encTask t), AObj.map (List.map ofR p), AObj.grow 1 (List.length ss'), AObj.map (encWR ss'), AObj.grow 1 (List.length G1), AObj.row (NL0.map nC1 ++ [AV.slice (.grow (σ.length + 6)) (ys.map encNt)])])) ++ [AObj.grow 1 j])).length (σ ++ ((([AObj.row (encTask t), AObj.map (List.map ofR p), AObj.grow 1 (List.length ss'), AObj.map (encWR ss'), AObj.grow 1 (List.length G1), AObj.row (NL0.map nC1 ++ [AV.slice (.grow (σ.length + 6)) (ys.map encNt)])])) ++ [AObj.grow 1 j])) := by
    intro ss' ys j
    refine idsS_app _ hσ fun o ho => ?_
    simp only [List.cons_append, List.nil_append, List.mem_cons, List.not_mem_nil, or_false] at ho
    rcases ho with rfl | rfl | rfl | rfl | rfl | rfl | rfl
    ·exact idsO_row (ids_encTask t)
    ·exact ids_ofR _ _
    ·trivial
    ·exact idsO_encWR _ _
    ·trivial
    ·refine idsO_row fun x hx => ?_
     rcases List.mem_append.1 hx with hx | hx
     ·exact hcs0 x hx _
     ·rw [List.mem_singleton] at hx; subst hx; exact ids_grow_map ids_encNt (by simp)
    ·trivial
   obtain ⟨w1, hw1⟩ : ∃ w, w = (we0 || b) := ⟨_, rfl⟩
   obtain ⟨s1, hs1⟩ : ∃ w, w = sh0 := ⟨_, rfl⟩
   rw [← hw1] at hwe
   rw [← hs1] at hsh
   have hgetR : ∀ v, (NL0.map nC1 ++ [v])[k]? = some v := fun v => by rw [List.getElem?_append_right (by omega), hcsl, Nat.sub_self]; rfl
   have hsetR : ∀ v v', (NL0.map nC1 ++ [v]).set k v' = NL0.map nC1 ++ [v'] := fun v v' => by rw [List.set_append_right _ _ (by omega), hcsl, Nat.sub_self]; rfl
   have hlenR : ∀ v, (NL0.map nC1 ++ [v]).length = k + 1 := fun v => by rw [List.length_append, hcsl]; rfl
   have hkk : ((k : Int) < ((k + 1 : Nat) : Int)) := by omega
   have hk1N : k + 1 ≤ N.length := by
    have := (pre_addAll O ss).len
    rw [← hNO] at this; omega
   have hlts := hlt
   have hxs := hx
   cases we0 <;> cases sh0 <;> cases b
   all_goals
    simp only [go_sem, simprocAttr, hfi, hpos, hne1, hwn, hn0, hgx, encL, hlt, hx, encTask]
    refine ⟨_, hos _, ?_⟩
    simp only [go_sem, simprocAttr]
    refine wpc_while (fun (j : Nat) => [(1, .slice tok (g.map encL)), (4, .ptr σ.length 0), (10, .map (σ.length + 1)), (13, .slice (.grow (σ.length + 2)) ((addAll ss (O.take j)).map encL)), (14, .map (σ.length + 3)), (15, .ref (σ.length + 5) 1 0 (k + 1)), (16, .slice (.grow (σ.length + 4)) (G1.map encB)), (17, .bool w1), (18, .bool s1), (19, .int .i64 (k : Nat)), (102, .slice .unk (O.map encL)), (103, .int .i64 O.length), (104, .int .i64 (j : Nat))])
     (fun j => σ ++ ((([AObj.row (encTask t), AObj.map (List.map ofR p), AObj.grow 1 (List.length (addAll ss (O.take j))), AObj.map (encWR (addAll ss (O.take j))), AObj.grow 1 (List.length G1), AObj.row (NL0.map nC1 ++ [.slice (.grow (σ.length + 6)) (((O.take j).map N.idxOf).map encNt)])])) ++ [.grow 1 j])) (fun j => j ≤ O.length) (fun j => O.length - j) 0 (Nat.zero_le _) ?_ ?_
    ·refine Ghost.trans (Ghost.tokRow (σ.length + 5) k 1 (cells := NL0.map nC1 ++ [.slice .nil []]) (by simp) (hgetR _)) ?_
     simp only [List.length_append, List.length_cons, List.length_nil, Nat.zero_add, Nat.reduceAdd, List.append_assoc, List.cons_append, List.nil_append, g_set, List.set_cons_succ, List.set_cons_zero, hsetR]
     rw [hw1, hs1]
     exact ghL0 (hJS ss [] 0)
    intro j hj K3 hK3 hE3 hR3
    by_cases h3 : j < O.length
    ·obtain ⟨x, hx⟩ := get_ex h3
     have hlt : ((j : Int) < (O.length : Int)) := by omega
     have hw2 := wrapS (i := j) (by omega)
     have hbig2 : bigLen (j + 1) 8 := big_ok (by omega) (by omega)
     have hxr := hor x (List.mem_of_getElem? hx)
     have hxl := hn8 x hxr
     have hpj : Pre (addAll ss (O.take j)) N := by rw [hNO]; exact pre_take ss O j
     have hpj1 : Pre (addAll ss (O.take (j + 1))) N := by rw [hNO]; exact pre_take ss O (j + 1)
     have hat := addAll_take hx ss
     generalize addAll ss (O.take j) = cur at hpj hat
     rw [hat] at hpj1
     have hjl := hpj.len
     have hidx : (addS cur x).idxOf x = N.idxOf x := (hpj1.idx (mem_addS.2 (.inr rfl))).symm
     have hlj : (((O.take j).map N.idxOf).map encNt).length = j := by simp; omega
     have hfj : ((O.take j).map N.idxOf).map encNt ++ [[AV.int .i64 ((N.idxOf x : Nat) : Int)]] = ((O.take (j + 1)).map N.idxOf).map encNt := by
      rw [take_succ' hx, List.map_append, List.map_append]; rfl
     have hfind := find_keyR x cur 0 0 (keyR_apart (n := t.facts.length) (by omega) (fun y hy => hNr y (hpj.mem hy)) hxr)
     simp only [Nat.zero_add] at hfind
     have hfind : aFind (.str (keyR x)) (encWR cur) 0 = _ := hfind
     simp only [go_sem, simprocAttr, hlt, hx, encL]
     refine (key02_spec x .unk _ (by omega) (hdg x hxr)).is ?_
     by_cases hm : x ∈ cur
     ·rw [if_pos hm] at hfind
      rw [addS_in hm] at hidx hat hpj1
      rw [hidx] at hfind
      simp only [go_sem, simprocAttr, hfind, hgetR, hsetR, hlenR, hkk, hlj, hbig2, hfj, hw2]
      refine ⟨by omega, by omega, ?_⟩
      refine hK3 _ _ (j + 1) (by omega) (by omega) ?_
      rw [hat]
      exact ghL0 (hJS _ _ _)
     ·rw [if_neg hm] at hfind
      rw [addS_out hm] at hidx hat hpj1
      rw [pos_new hm] at hidx
      have hcl : cur.length + 1 ≤ N.length := by simpa using hpj1.len
      have hbc : bigLen (cur.length + 1) 24 := big_ok (by omega) (by omega)
      have hmf : encWR cur ++ [(AV.str (keyR x), AV.int .i64 (cur.length : Nat))] = encWR (cur ++ [x]) := (encWR_snoc cur x).symm
      have hcf2 : cur.map encL ++ [[AV.slice .unk (x.map Ahl.encI)]] = (cur ++ [x]).map encL := by rw [List.map_append]; rfl
      have hcl2 : (cur ++ [x]).length = cur.length + 1 := by simp
      rw [← hidx] at hfj
      simp only [go_sem, simprocAttr, hfind]
      refine (key02_spec x .unk _ (by omega) (hdg x hxr)).is ?_
      simp only [go_sem, simprocAttr, hfind, hmf, hcf2, hbc, hgetR, hsetR, hlenR, hkk, hlj, hbig2, hfj, hw2]
      refine ⟨by omega, by omega, ?_⟩
      refine hK3 _ _ (j + 1) (by omega) (by omega) ?_
      rw [hat]
      have := hJS (cur ++ [x]) ((O.take (j + 1)).map N.idxOf) (j + 1)
      rw [hcl2] at this ⊢
      exact ghL0 this
    ·have hlt : ¬ ((j : Int) < (O.length : Int)) := by omega
     rw [List.take_of_length_le (by omega), ← hNO]
     simp only [go_sem, simprocAttr, hlt, hE3]
     refine hK _ _ (k + 1) (by rw [hN]; exact hk1N) (by omega) ?_
     rw [hN, hw0, hsh, hwe, hGs, hcf]
     refine Ghost.trans (Ghost.rewk (σ.length + 5) (xs := NL0.map nC1 ++ [AV.slice (.grow (σ.length + 6)) ((O.map N.idxOf).map encNt)]) (ys := NL0.map nC1 ++ [nC1 (O.map N.idxOf)]) (by simp) (wkL_app (WkL.refl _) (WkL.one (Wk.unk _ _)))) ?_
     have := hW0 N G1 (nxL t g p N (k + 1))
     rw [hcf] at this
     simp only [g_set, List.cons_append, List.nil_append, List.set_cons_succ, List.set_cons_zero]
     refine Ghost.keepL (g := [AObj.grow 1 j]) (k := 6) (([AObj.row (encTask t), AObj.map (List.map ofR p), AObj.grow 1 (List.length N), AObj.map (encWR N), AObj.grow 1 (List.length G1), AObj.row (NL0.map nC1 ++ [nC1 (O.map N.idxOf)])])) rfl (Nat.le_refl _) ?_ this
     exact tellT
 have hlt : ¬ ((k : Int) < ((gK (nxP t g p) t.init k).length : Int)) := by omega
 have hke : k = (gK (nxP t g p) t.init k).length := by omega
 have hsF : ssP t g p = gK (nxP t g p) t.init k := by
  have := gK_stop (nx := nxP t g p) (s0 := t.init) (k := k) (by omega) (2 ^ t.facts.length - k)
  rwa [show k + (2 ^ t.facts.length - k) = 2 ^ t.facts.length by omega] at this
 have hnA : nxL t g p (gK (nxP t g p) t.init k) k = nxA t g p := by
  unfold nxL nxA; rw [List.take_of_length_le (by omega), ← hsF]
 have hgA : GLp t (gK (nxP t g p) t.init k) k = (wldP t g p).gl := by
  unfold GLp wldP; rw [List.take_of_length_le (by omega), ← hsF]
 rw [hnA, hgA, List.take_of_length_le (by omega), ← hsF]
 rw [← hsF] at hke hlt
 simp only [go_sem, simprocAttr, hlt, hE]
 clear hK hE hR hk hrs hll h hlt
 have hr := rwP_ok hEO hch hpol hri (by omega) (by omega)
 have hAl : (nxA t g p).length = k := by unfold nxA; rw [List.length_map]; exact hke.symm
 have hgl : (wldP t g p).gl.length = k := by unfold wldP; rw [List.length_map]; exact hke.symm
 have hk128 : k ≤ 128 := by
  have := gK_len hri hnx (2 ^ t.facts.length)
  rw [hke]; unfold ssP; omega
 have hAo : ∀ l ∈ nxA t g p, l.length ≤ 1000000 ∧ ∀ x ∈ l, x < (wldP t g p).gl.length := fun l hl => by
  obtain ⟨s, hs, rfl⟩ := List.mem_map.1 hl
  obtain ⟨i, hi⟩ := List.getElem?_of_mem hs
  by_cases hq : (nxP t g p s).map (ssP t g p).idxOf = []
  ·rw [hq]; simp
  ·have hm : some ((nxP t g p s).map (ssP t g p).idxOf) ∈ (rwP t g p).nx.getD i [] := by
    rw [rwP_row hi]
    unfold rowP nxP
    unfold nxP at hq
    cases hq2 : polG p s with
    | none => rw [hq2] at hq; exact absurd rfl hq
    | some n => simp
   have hrow : (rwP t g p).nx.getD i [] ∈ (rwP t g p).nx := by
    have hil := lt_of_get hi
    rw [List.getD_eq_getElem?_getD, List.getElem?_eq_getElem (by rw [hr.nx]; exact hil)]; exact List.getElem_mem _
   obtain ⟨e1, _, e3⟩ := hr.ent hrow hm
   refine ⟨e1, fun x hx => ?_⟩
   have : x < (ssP t g p).length := e3 x hx
   omega
 have hkn : kindN t g p = kindOf (wldP t g p) (shutB t p (ssP t g p)) (weakB t (ssP t g p)) := rfl
 refine Gh.of (Ghost.freeze 15 ((nxA t g p).map encNe) (id := σ.length + 5) (sz := 1) (off := 0) (len := k) (cells := (nxA t g p).map nC1) rfl (by simp) (by simp [hAl]) ?_) ?_
 ·intro i e he
  rw [List.getElem?_map] at he
  obtain ⟨o, ho, rfl⟩ := Option.map_eq_some_iff.1 he
  refine ⟨rfl, fun j hj => ?_⟩
  have : j = 0 := by omega
  subst this
  rw [List.getElem?_map, show 0 + (i * 1 + 0) = i by omega, ho]; rfl
 have hs1 := fun M (hM : LfpR (wldP t g p).gl.length (fun i => (wldP t g p).gl.getD i false) (ruleS (nxA t g p) true) M) => sure_all (t := t) (g := g) (p := p) hr (M := M) (by rw [← hke, ← hgl]; exact hM)
 have hs2 := fun M (hM : LfpR (wldP t g p).gl.length (fun i => (wldP t g p).gl.getD i false) (ruleS (nxA t g p) false) M) => sure_some (t := t) (g := g) (p := p) hr (M := M) (by rw [← hke, ← hgl]; exact hM)
 have hsu := fun all tk σ => sure_spec (nxA t g p) (wldP t g p).gl all .unk tk σ (by omega) (by omega) hAo
 unfold kindOf at hkn
 generalize shutB t p (ssP t g p) = sh at hkn ⊢
 generalize weakB t (ssP t g p) = we at hkn ⊢
 have hlen2 : (ssP t g p).length = (wldP t g p).gl.length := by omega
 rw [hlen2] at hs1 hs2
 generalize (dIter (wldP t g p) (wldP t g p).ss.length).contains (-1) = cD at hkn hs1
 generalize badB (wldP t g p) = cB at hkn hs2
 cases sh
 ·have hkn : kindN t g p = if we then 1 else 0 := hkn
  cases we
  ·simp only [go_sem, simprocAttr]
   exact rT (.int .i64 0) (.slice .unk ((ssP t g p).map encL)) ⟨by rw [hkn]; rfl, rfl⟩
  ·simp only [go_sem, simprocAttr]
   exact rT (.int .i64 1) (.slice .unk ((ssP t g p).map encL)) ⟨by rw [hkn]; rfl, rfl⟩
 ·simp only [go_sem, simprocAttr]
  refine (hsu true _ _).mono ?_
  rintro _ _ ⟨rfl, M1, hM1, rfl⟩
  rw [hs1 M1 hM1]
  cases cD
  ·have hkn : kindN t g p = 3 := hkn
   simp only [go_sem, simprocAttr]
   exact rT (.int .i64 3) (.slice .unk ((ssP t g p).map encL)) ⟨by rw [hkn], rfl⟩
  ·simp only [go_sem, simprocAttr]
   refine (hsu false _ _).mono ?_
   rintro _ _ ⟨rfl, M2, hM2, rfl⟩
   rw [hs2 M2 hM2]
   cases cB
   ·have hkn : kindN t g p = 2 := hkn
    simp only [go_sem, simprocAttr]
    exact rT (.int .i64 2) (.slice .unk ((ssP t g p).map encL)) ⟨by rw [hkn], rfl⟩
   ·have hkn : kindN t g p = if we then 1 else 0 := hkn
    cases we
    ·simp only [go_sem, simprocAttr]
     exact rT (.int .i64 0) (.slice .unk ((ssP t g p).map encL)) ⟨by rw [hkn]; rfl, rfl⟩
    ·simp only [go_sem, simprocAttr]
     exact rT (.int .i64 1) (.slice .unk ((ssP t g p).map encL)) ⟨by rw [hkn]; rfl, rfl⟩
theorem nIter_keep {w : Wld} {left : Nat → Bool} {k i : Nat} (h : (nIter w left k).2 i = true) : ∀ j, (nIter w left (k + j)).2 i = true ∧ (nIter w left (k + j)).1 i = (nIter w left k).1 i
 | 0 => ⟨h, rfl⟩
 | j + 1 => by
  obtain ⟨h1, h2⟩ := nIter_keep h j
  refine ⟨?_, ?_⟩
  ·show ((nIter w left (k + j)).2 i || _) = true
   rw [h1]; rfl
  ·show (if left i && !(nIter w left (k + j)).2 i then nC w left (nIter w left (k + j)).2 i else (nIter w left (k + j)).1 i) = _
   rw [h1]; simpa using h2
theorem strict_of31 {l : List (List Int)} (h : l.Pairwise fun x y => ¬ cmpInts y x < 0) (hn : l.Nodup) : l.Pairwise ltL := by
 refine List.Pairwise.imp (R := fun x y => (¬ cmpInts y x < 0) ∧ x ≠ y) ?_ (List.Pairwise.and h hn)
 rintro a b ⟨h1, h2⟩
 rcases cmpInts_total h1 with q | q
 ·exact q
 ·exact absurd q.symm h2
theorem bfs_closed31 {w : Wld} {chosen : List Int} : ∀ (k p i : Nat), p < k → (bfs w chosen k)[p]? = some i → stopB w chosen i = false → ∀ j ∈ (takenC w chosen i).2, j ∈ bfs w chosen k
 | k + 1, p, i, hp, hi, hs, j, hj => by
  obtain ⟨r, hr⟩ := bfs_pre w chosen k
  rcases Nat.lt_or_ge p (bfs w chosen k).length with hl | hl
  ·have hi' : (bfs w chosen k)[p]? = some i := by rw [hr, List.getElem?_append_left hl] at hi; exact hi
   rcases Nat.lt_or_ge p k with q | q
   ·rw [hr]; exact List.mem_append.2 (.inl (bfs_closed31 k p i q hi' hs j hj))
   ·have : p = k := by omega
    subst this
    rw [bfs_step hi', if_neg (by simp [hs])]
    exact addNs_mem.2 (.inr hj)
  ·have hlt := lt_of_get hi
   rw [bfs] at hlt
   split at hlt
   ·rename_i h; have := lt_of_get h; omega
   ·omega
theorem bfs_least31 {w : Wld} {chosen : List Int} {S : Nat → Prop} (h0 : S 0) (hs : ∀ i, S i → stopB w chosen i = false → ∀ j ∈ (takenC w chosen i).2, S j) : ∀ k, ∀ i ∈ bfs w chosen k, S i
 | 0, i, hi => by rw [bfs, List.mem_singleton] at hi; subst hi; exact h0
 | k + 1, i, hi => by
  have ih := bfs_least31 h0 hs k
  rw [bfs] at hi
  split at hi
  ·rename_i x hx
   split at hi
   ·exact ih i hi
   ·rename_i hst
    rcases addNs_mem.1 hi with q | q
    ·exact ih i q
    ·exact hs x (ih x (List.mem_of_getElem? hx)) (by simpa using hst) i q
  ·exact ih i hi
theorem bfs_zero31 (w : Wld) (chosen : List Int) : ∀ k, 0 ∈ bfs w chosen k
 | 0 => by simp [bfs]
 | k + 1 => by
  obtain ⟨r, hr⟩ := bfs_pre w chosen k
  rw [hr]; exact List.mem_append.2 (.inl (bfs_zero31 w chosen k))
theorem cyc_law {t : FTask} {g : List (List Int)} (hb : PB t) (hv : validB t = true) (hc : choicesB t g = true) (h7 : t.facts.length ≤ 7) {L : Nat → Bool} (hL0 : L 0 = true) {w : Wld} (hw0 : w = wldF t g t.init)
  (hst : ∀ i, i < w.ss.length → lostB w L i = false) {chosen : List Int} (hch0 : chosen = lst w.ss.length (nearF w L)) {E : List FEnt} (hp : E.Perm (outE w chosen (bfs w chosen w.ss.length))) (hE : E.Pairwise (fun x y => ¬ cmpInts y.1 x.1 < 0)) :
  polB t g E = true ∧ (∀ e ∈ E, e.1 ∈ ssP t g E) ∧ 2 ≤ kindN t g E ∧ E.length ≤ 128 ∧ ∀ e ∈ E, e.1.length ≤ 1000 := by
 obtain ⟨hSB, hEO, hfl⟩ := valid_SB hb hv
 have hri := valid_init16 hv
 have hwk : WOk w := by rw [hw0]; exact wldF_ok hEO hc hri (by omega)
 have hco : ChOk w chosen := by rw [hch0]; exact nearF_ok _ _
 have h0 : 0 < w.ss.length := by rw [hw0]; exact wld_pos t g t.init
 have hnd : w.ss.Nodup := by rw [hw0]; exact nodup_ssF _ _ _
 have hssr : ∀ y ∈ w.ss, risingB t.facts.length (-1) y = true := by rw [hw0]; exact rising_ssF hEO hc hri
 have hs0 : w.ss.getD 0 [] = t.init := by rw [hw0]; exact getD_get (ssF_zero t g t.init)
 have hgl : ∀ i, i < w.ss.length → w.gl.getD i false = condHolds (w.ss.getD i []) t.goal := fun i hi => by
  have : w.gl = w.ss.map fun s => condHolds s t.goal := by rw [hw0]; rfl
  obtain ⟨s, hs⟩ := get_ex hi
  rw [this, List.getD_eq_getElem?_getD, List.getElem?_map, hs, getD_get hs]; rfl
 have hchi : ∀ i, i < w.ss.length → w.ch.getD i [] = chOf t g w.ss (w.ss.getD i []) := fun i hi => by
  have : w.ch = w.ss.map (chOf t g w.ss) := by rw [hw0]; rfl
  obtain ⟨s, hs⟩ := get_ex hi
  rw [this, List.getD_eq_getElem?_getD, List.getElem?_map, hs, getD_get hs]; rfl
 have hclo : ∀ i, i < w.ss.length → ∀ j, j < g.length → ∀ y ∈ outsAt t g (w.ss.getD i []) j, y ∈ w.ss := fun i hi j hj y hy => by
  obtain ⟨s, hs⟩ := get_ex hi
  rw [getD_get hs] at hy
  have hm := List.mem_of_getElem? hs
  rw [hw0] at hm ⊢
  exact closed_ssF hEO hc hri hm hj hy
 have hlen : w.ss.length ≤ 128 := by
  have h1 : w.ss.length ≤ 2 ^ t.facts.length := by rw [hw0]; exact ssK_len hEO hc hri _
  have h2n : 2 ^ t.facts.length ≤ 128 := Nat.pow_le_pow_right (n := 2) (by omega) h7
  omega
 obtain ⟨b1, b2⟩ := bfs_ok hwk hco h0 w.ss.length
 obtain ⟨B, hB⟩ : ∃ B, B = bfs w chosen w.ss.length := ⟨_, rfl⟩
 have hbcl : ∀ i ∈ B, stopB w chosen i = false → ∀ j ∈ (takenC w chosen i).2, j ∈ B := fun i hi hs j hj => by
  rw [hB] at hi ⊢
  obtain ⟨q, hq⟩ := List.getElem?_of_mem hi
  have h1 := lt_of_get hq
  have h2 := bfs_len hwk hco h0 w.ss.length
  exact bfs_closed31 _ q i (by omega) hq hs j hj
 have hg : ∀ i, i < w.ss.length → w.ss[i]? = some (w.ss.getD i []) := fun i hi => by
  obtain ⟨s, hs⟩ := get_ex hi
  rw [getD_get hs]; exact hs
 have hinj : ∀ i j, i < w.ss.length → j < w.ss.length → w.ss.getD i [] = w.ss.getD j [] → i = j := fun i j hi hj e => (List.getElem?_inj hi hnd).1 (by rw [hg i hi, hg j hj, e])
 have htk : ∀ i, i < w.ss.length → stopB w chosen i = false → ∃ j, j < g.length ∧ appB t (grp g j) (w.ss.getD i []) = true ∧ takenC w chosen i = (j, (outsL t (grp g j) (w.ss.getD i [])).map w.ss.idxOf) := fun i hi hs => by
  obtain ⟨l, h1, _, h3⟩ := taken_get hco hi hs
  have hm := List.mem_of_getElem? h3
  rw [← h1, hchi i hi] at hm
  exact chOf_mem.1 hm
 have hmem : ∀ e, e ∈ E ↔ ∃ i ∈ B, stopB w chosen i = false ∧ e = entOf w chosen i := fun e => by
  rw [hp.mem_iff, hB]
  unfold outE
  rw [List.mem_map]
  constructor
  ·rintro ⟨i, hi, rfl⟩
   obtain ⟨h1, h2⟩ := List.mem_filter.1 hi
   exact ⟨i, h1, by simpa using h2, rfl⟩
  ·rintro ⟨i, h1, h2, rfl⟩
   exact ⟨i, List.mem_filter.2 ⟨h1, by rw [h2]; rfl⟩, rfl⟩
 have hBl : ∀ i ∈ B, i < w.ss.length := fun i hi => b2 i (by rw [← hB]; exact hi)
 have hnd2 : (E.map (·.1)).Nodup := by
  refine ((hp.map (·.1)).nodup_iff).2 ?_
  unfold outE List.Nodup
  rw [List.map_map, List.pairwise_map]
  refine List.Pairwise.imp_of_mem ?_ (b1.filter _)
  intro i j hi hj hne he
  exact hne (hinj i j (b2 i (List.mem_filter.1 hi).1) (b2 j (List.mem_filter.1 hj).1) he)
 have hstr : (E.map (·.1)).Pairwise ltL := strict_of31 (by rw [List.pairwise_map]; exact hE) hnd2
 have hpolG : ∀ i ∈ B, stopB w chosen i = false → polG E (w.ss.getD i []) = some ((takenC w chosen i).1 : Int) := fun i hi hs => by
  have he : entOf w chosen i ∈ E := (hmem _).2 ⟨i, hi, hs, rfl⟩
  cases hq : polG E (w.ss.getD i []) with
  | none =>
   exfalso
   unfold polG at hq
   rw [Option.map_eq_none_iff, List.find?_eq_none] at hq
   exact hq _ he (by simp [entOf])
  | some n =>
   obtain ⟨i', h1, h2, h3⟩ := (hmem _).1 (polG_mem hq)
   have e1 : w.ss.getD i [] = w.ss.getD i' [] := congrArg Prod.fst h3
   have := hinj i i' (hBl i hi) (hBl i' h1) e1
   subst this
   have e2 : n = _ := congrArg Prod.snd h3
   rw [e2]; rfl
 have hEl : E.length ≤ 128 := by
  have h1 := nodup_sub_len hnd2 (m := w.ss) (fun x hx => by
   obtain ⟨e, he, rfl⟩ := List.mem_map.1 hx
   obtain ⟨i, h1, h2, rfl⟩ := (hmem e).1 he
   exact List.mem_of_getElem? (hg i (hBl i h1)))
  simp only [List.length_map] at h1; omega
 have hEs : ∀ e ∈ E, e.1.length ≤ 1000 := fun e he => by
  obtain ⟨i, h1, h2, rfl⟩ := (hmem e).1 he
  show (w.ss.getD i []).length ≤ 1000
  rcases rising_len (hssr _ (List.mem_of_getElem? (hg i (hBl i h1)))) (by omega) with q | q
  ·omega
  ·rw [q]; simp
 have hpol : polB t g E = true := by
  unfold polB
  refine List.all_eq_true.2 fun q hq => ?_
  have hqE := List.mem_range.1 hq
  obtain ⟨e, he⟩ := get_ex hqE
  rw [List.getD_eq_getElem?_getD, he]
  obtain ⟨i, h1, h2, rfl⟩ := (hmem e).1 (List.mem_of_getElem? he)
  have hi := hBl i h1
  obtain ⟨j, j1, j2, j3⟩ := htk i hi h2
  have hent2 : (entOf w chosen i).2 = (j : Int) := by unfold entOf; rw [j3]
  have hent1 : (entOf w chosen i).1 = w.ss.getD i [] := rfl
  show entB t g E q (entOf w chosen i) = true
  unfold entB
  rw [hent1, hent2, hssr _ (List.mem_of_getElem? (hg i hi)), decide_eq_true (by omega : (0 : Int) ≤ (j : Int)), decide_eq_true (by omega : ((j : Int) < (g.length : Int))), Int.toNat_natCast, j2]
  have hgo : condHolds (w.ss.getD i []) t.goal = false := by
   rw [← hgl i hi]
   unfold stopB at h2
   rw [Bool.or_eq_false_iff] at h2
   exact h2.1
  rw [hgo]
  simp only [Bool.true_and, Bool.not_false, Bool.and_true, Bool.or_eq_true, decide_eq_true_eq]
  rcases Nat.eq_zero_or_pos q with hq0 | hq0
  ·exact .inl hq0
  ·refine .inr ?_
   obtain ⟨u, hu⟩ := get_ex (show q - 1 < E.length by omega)
   rw [List.getD_eq_getElem?_getD, hu]
   have h5 := List.pairwise_iff_getElem.1 hstr (q - 1) q (by rw [List.length_map]; omega) (by rw [List.length_map]; omega) (by omega)
   rw [List.getElem_map, List.getElem_map] at h5
   rw [List.getElem?_eq_getElem (by omega)] at hu
   rw [List.getElem?_eq_getElem hqE] at he
   injection hu with hu
   injection he with he
   rw [hu, he] at h5
   exact h5
 have hr := rwP_ok hEO hc hpol hri (by omega) (by unfold choicesB at hc; rw [Bool.and_eq_true, decide_eq_true_eq] at hc; omega)
 have hnx := nxP_rising hEO hc hpol
 have hsPl : (ssP t g E).length ≤ 2 ^ t.facts.length := gK_len hri hnx _
 have hcloP : ∀ x ∈ ssP t g E, ∀ y ∈ nxP t g E x, y ∈ ssP t g E := fun x hx y hy => by
  obtain ⟨q, hq⟩ := List.getElem?_of_mem hx
  exact gK_closed _ q x (by have := lt_of_get hq; omega) hq y hy
 have hnxB : ∀ i ∈ B, stopB w chosen i = false → ∀ j ∈ (takenC w chosen i).2, w.ss.getD j [] ∈ nxP t g E (w.ss.getD i []) := fun i hi hs j hj => by
  obtain ⟨m, m1, m2, m3⟩ := htk i (hBl i hi) hs
  have hq := hpolG i hi hs
  rw [m3] at hq hj
  unfold nxP
  rw [hq]
  simp only [Int.toNat_natCast]
  obtain ⟨y, hy, rfl⟩ := List.mem_map.1 hj
  have hyw : y ∈ w.ss := hclo i (hBl i hi) m m1 y (by unfold outsAt; rw [if_pos m2]; exact hy)
  have hix := List.idxOf_lt_length_of_mem hyw
  have : w.ss.getD (w.ss.idxOf y) [] = y := getD_get (by rw [List.getElem?_eq_getElem hix, List.getElem_idxOf])
  rw [this]; exact hy
 have hBP : ∀ i ∈ B, w.ss.getD i [] ∈ ssP t g E := by
  have := bfs_least31 (w := w) (chosen := chosen) (S := fun i => i ∈ B ∧ w.ss.getD i [] ∈ ssP t g E) ⟨by rw [hB]; exact bfs_zero31 _ _ _, by rw [hs0]; exact List.mem_of_getElem? (gK_zero _)⟩ (fun i hi hs j hj => ⟨hbcl i hi.1 hs j hj, hcloP _ hi.2 _ (hnxB i hi.1 hs j hj)⟩) w.ss.length
  exact fun i hi => (this i (by rw [← hB]; exact hi)).2
 have hPB : ∀ x ∈ ssP t g E, ∃ i ∈ B, x = w.ss.getD i [] := by
  have key : ∀ k, ∀ x ∈ gK (nxP t g E) t.init k, ∃ i ∈ B, x = w.ss.getD i [] := by
   intro k
   induction k with
   | zero =>
    intro x hx
    rw [gK, List.mem_singleton] at hx
    exact ⟨0, by rw [hB]; exact bfs_zero31 _ _ _, by rw [hx, hs0]⟩
   | succ k ih =>
    intro x hx
    rw [gK] at hx
    split at hx
    ·rename_i s hs
     rcases mem_addAll.1 hx with q | q
     ·exact ih x q
     ·obtain ⟨i, hi, rfl⟩ := ih s (List.mem_of_getElem? hs)
      cases hst2 : stopB w chosen i
      ·obtain ⟨m, m1, m2, m3⟩ := htk i (hBl i hi) hst2
       have hq := hpolG i hi hst2
       rw [m3] at hq
       unfold nxP at q
       rw [hq] at q
       simp only [Int.toNat_natCast] at q
       have hyw : x ∈ w.ss := hclo i (hBl i hi) m m1 x (by unfold outsAt; rw [if_pos m2]; exact q)
       have hix := List.idxOf_lt_length_of_mem hyw
       refine ⟨w.ss.idxOf x, hbcl i hi hst2 _ (by rw [m3]; exact List.mem_map.2 ⟨x, q, rfl⟩), ?_⟩
       exact (getD_get (by rw [List.getElem?_eq_getElem hix, List.getElem_idxOf])).symm
      ·exfalso
       unfold nxP at q
       cases hq : polG E (w.ss.getD i []) with
       | none => rw [hq] at q; simp at q
       | some n =>
        obtain ⟨i', h1, h2, h3⟩ := (hmem _).1 (polG_mem hq)
        have := hinj i i' (hBl i hi) (hBl i' h1) (congrArg Prod.fst h3)
        subst this
        rw [hst2] at h2; simp at h2
    ·exact ih x hx
  exact key _
 have hnearL : ∀ i, i < w.ss.length → stopB w chosen i = false → ∃ k, (nIter w L k).2 i = true ∧ ∀ k', (nIter w L k').2 i = false → (nIter w L (k' + 1)).2 i = true → (takenC w chosen i).2.any (nIter w L k').2 = true ∧ ∀ j ∈ (takenC w chosen i).2, L j = true := fun i hi hs => by
  have hcg : chosen.getD i 0 = nearF w L i := by rw [hch0]; exact lst_getD _ hi 0
  have hs2 := hs
  unfold stopB at hs2
  rw [Bool.or_eq_false_iff, hcg] at hs2
  have hn0 : 0 ≤ nearF w L i := by have := of_decide_eq_false hs2.2; omega
  have hin : (nIter w L (w.ss.length + 1)).2 i = true := by
   cases hq : (nIter w L (w.ss.length + 1)).2 i
   ·have := nIter_out _ _ hq
    unfold nearF at hn0; omega
   ·rfl
  refine ⟨_, hin, fun k' h1 h2 => ?_⟩
  have hL : L i = true := nIter_sub _ _ h2
  have hval : (nIter w L (k' + 1)).1 i = nC w L (nIter w L k').2 i := by
   show (if L i && !(nIter w L k').2 i then nC w L (nIter w L k').2 i else (nIter w L k').1 i) = _
   rw [hL, h1]; rfl
  have hnv : nearF w L i = nC w L (nIter w L k').2 i := by
   have hk : k' + 1 ≤ w.ss.length + 1 := by
    refine Classical.byContradiction fun q => ?_
    have := (nIter_keep hin (k' - (w.ss.length + 1))).1
    rw [show w.ss.length + 1 + (k' - (w.ss.length + 1)) = k' by omega, h1] at this
    simp at this
   have := (nIter_keep h2 (w.ss.length + 1 - (k' + 1))).2
   rw [show k' + 1 + (w.ss.length + 1 - (k' + 1)) = w.ss.length + 1 by omega, hval] at this
   exact this
  have htc : takenC w chosen i = (w.ch.getD i []).getD (nearF w L i).toNat (0, []) := by unfold takenC; rw [hcg]
  rcases idx_cases (nB L (nIter w L k').2) (w.ch.getD i []) 0 with ⟨q, _⟩ | ⟨j, x, q1, q2, _, q4⟩
  ·rw [hnv] at hn0; unfold nC at hn0; omega
  ·have : (nearF w L i).toNat = j := by rw [hnv]; unfold nC; rw [q4]; omega
   rw [this, List.getD_eq_getElem?_getD, q1] at htc
   have htc : takenC w chosen i = x := htc
   rw [htc]
   unfold nB at q2
   rw [Bool.and_eq_true, Bool.not_eq_true', List.any_eq_false] at q2
   exact ⟨q2.2, fun y hy => by have := q2.1 y hy; simpa using this⟩
 have hallL : ∀ i, i < w.ss.length → stopB w chosen i = false → ∀ j ∈ (takenC w chosen i).2, L j = true := fun i hi hs => by
  obtain ⟨k, h1, h2⟩ := hnearL i hi hs
  have hex : ∃ k', (nIter w L k').2 i = false ∧ (nIter w L (k' + 1)).2 i = true := by
   have h00 : (nIter w L 0).2 i = false := by
    show (L i && goalB w i) = false
    have hs2 := hs
    unfold stopB at hs2
    rw [Bool.or_eq_false_iff] at hs2
    have : goalB w i = false := hs2.1
    rw [this]; simp
   clear h2
   induction k with
   | zero => rw [h00] at h1; simp at h1
   | succ k ih =>
    cases hq : (nIter w L k).2 i
    ·exact ⟨k, hq, h1⟩
    ·exact ih hq
  obtain ⟨k', h3, h4⟩ := hex
  exact (h2 k' h3 h4).2
 have hBL : ∀ i ∈ B, L i = true := by
  have := bfs_least31 (w := w) (chosen := chosen) (S := fun i => i < w.ss.length ∧ L i = true) ⟨h0, hL0⟩ (fun i hi hs j hj => ⟨(taken_ok hwk hco hi.1 hs).2.2 j hj, hallL i hi.1 hs j hj⟩) w.ss.length
  exact fun i hi => (this i (by rw [← hB]; exact hi)).2
 have hBn : ∀ i ∈ B, (nIter w L (w.ss.length + 1)).2 i = true := fun i hi => by
  have h1 := hst i (hBl i hi)
  unfold lostB at h1
  rw [hBL i hi, cStep_eq] at h1
  simpa using h1
 have hshut : shutB t E (ssP t g E) = true := by
  unfold shutB
  refine List.all_eq_true.2 fun x hx => ?_
  obtain ⟨i, hi, rfl⟩ := hPB x hx
  cases hs : stopB w chosen i
  ·rw [hpolG i hi hs]; rfl
  ·unfold stopB at hs
   rw [Bool.or_eq_true] at hs
   rcases hs with hs | hs
   ·rw [hgl i (hBl i hi)] at hs; rw [hs]; simp
   ·have hcg : chosen.getD i 0 = nearF w L i := by rw [hch0]; exact lst_getD _ (hBl i hi) 0
    have hs := of_decide_eq_true hs
    rw [hcg] at hs
    cases hgo : goalB w i
    ·have h5 := nIter_in (w := w) (left := L) (i := i) (by rw [hgo]; simp) _ (hBn i hi)
     unfold nearF at hs; omega
    ·have : w.gl.getD i false = true := hgo
     rw [hgl i (hBl i hi)] at this
     rw [this]; simp
 have hbad : badB (wldP t g E) = false := by
  have hlfp : LfpR (ssP t g E).length (goalB (wldP t g E)) (ruleS (nxA t g E) false) (cStep (wldP t g E) fun _ => true) := sure_lfp hr
  have hso := sure_some hr hlfp
  have hidx : ∀ i ∈ B, (ssP t g E)[(ssP t g E).idxOf (w.ss.getD i [])]? = some (w.ss.getD i []) := fun i hi => by
   have := List.idxOf_lt_length_of_mem (hBP i hi)
   rw [List.getElem?_eq_getElem this, List.getElem_idxOf]
  have key : ∀ k, ∀ i ∈ B, (nIter w L k).2 i = true → cStep (wldP t g E) (fun _ => true) ((ssP t g E).idxOf (w.ss.getD i [])) = true := by
   intro k
   induction k with
   | zero =>
    intro i hi h
    have h : (L i && goalB w i) = true := h
    rw [Bool.and_eq_true] at h
    have hlt := lt_of_get (hidx i hi)
    refine hlfp.base _ hlt ?_
    have h6 : goalB w i = true := h.2
    have h6 : w.gl.getD i false = true := h6
    rw [hgl i (hBl i hi)] at h6
    show ((ssP t g E).map fun s => condHolds s t.goal).getD _ false = true
    rw [List.getD_eq_getElem?_getD, List.getElem?_map, hidx i hi]
    exact h6
   | succ k ih =>
    intro i hi h
    cases hq : (nIter w L k).2 i
    ·have hlt := lt_of_get (hidx i hi)
     cases hgo : goalB w i
     ·have hs : stopB w chosen i = false := by
       unfold stopB
       have h7 : w.gl.getD i false = false := hgo
       have hcg : chosen.getD i 0 = nearF w L i := by rw [hch0]; exact lst_getD _ (hBl i hi) 0
       have h5 := nIter_in (w := w) (left := L) (i := i) (by rw [hgo]; simp) _ (hBn i hi)
       rw [h7, hcg, Bool.false_or]
       exact decide_eq_false (by unfold nearF; omega)
      obtain ⟨_, _, h2⟩ := hnearL i (hBl i hi) hs
      obtain ⟨h3, _⟩ := h2 k hq h
      rw [List.any_eq_true] at h3
      obtain ⟨j, hj, h4⟩ := h3
      have hjB := hbcl i hi hs j hj
      refine hlfp.closed _ hlt ?_
      unfold ruleS
      simp only [Bool.false_eq_true, if_false]
      rw [nxA_get (hidx i hi), List.any_eq_true]
      exact ⟨_, List.mem_map.2 ⟨_, hnxB i hi hs j hj, rfl⟩, ih j hjB h4⟩
     ·refine hlfp.base _ hlt ?_
      have h6 : w.gl.getD i false = true := hgo
      rw [hgl i (hBl i hi)] at h6
      show ((ssP t g E).map fun s => condHolds s t.goal).getD _ false = true
      rw [List.getD_eq_getElem?_getD, List.getElem?_map, hidx i hi]
      exact h6
    ·exact ih i hi hq
  have hall : (List.range (ssP t g E).length).all (cStep (wldP t g E) fun _ => true) = true := by
   refine List.all_eq_true.2 fun q hq => ?_
   obtain ⟨x, hx⟩ := get_ex (List.mem_range.1 hq)
   obtain ⟨i, hi, rfl⟩ := hPB x (List.mem_of_getElem? hx)
   have h8 := key _ i hi (hBn i hi)
   have hndP : (ssP t g E).Nodup := gK_nodup _
   have : (ssP t g E).idxOf (w.ss.getD i []) = q := (List.getElem?_inj (lt_of_get (hidx i hi)) hndP).1 (by rw [hidx i hi, hx])
   rw [this] at h8; exact h8
  rw [hall] at hso
  cases hq : badB (wldP t g E)
  ·rfl
  ·rw [hq] at hso; simp at hso
 refine ⟨hpol, fun e he => ?_, ?_, hEl, hEs⟩
 ·obtain ⟨i, h1, h2, rfl⟩ := (hmem e).1 he
  exact hBP i h1
 ·have : kindN t g E = kindOf (wldP t g E) (shutB t E (ssP t g E)) (weakB t (ssP t g E)) := rfl
  rw [this, hshut]
  unfold kindOf
  rw [if_pos rfl, hbad]
  split
  ·simp
  ·omega
end Go.Proofs.YtjmmldkailblmaaGreat
namespace Go.Proofs.YtjmmldkailblmaaGreat
open Go.Ahl Go.ChangeShapes Go.WideShapes Go.ChangeAt Go.RowKit
theorem rwF_ok {t : FTask} {g : List (List Int)} (he : EOk t) (hc : choicesB t g = true) {s0 : List Int} (hs : risingB t.facts.length (-1) s0 = true) (h8 : t.facts.length ≤ 8) (hg : g.length ≤ 1000000) : ROk (rwF t g s0) where
 w := by rw [rwF_w]; exact wldF_ok he hc hs h8
 wid l hl := by
  obtain ⟨s, _, rfl⟩ := List.mem_map.1 hl
  rw [nxO_len]; exact hg
theorem wk_ents (tok : Tok) (E : List FEnt) : Wk (.slice tok (E.map vE)) (.slice tok (E.map encEn)) := by
 refine Wk.slice tok ?_
 induction E with
 | nil => exact .nil
 | cons e E ih => exact .cons (.cons (Wk.unk _ _) (.cons (.refl _) .nil)) ih
theorem cIter_sub {w : Wld} {i : Nat} : ∀ (b a : Nat), cIter w (a + b) i = true → cIter w a i = true
 | 0, a, h => h
 | b + 1, a, h => cIter_sub b a (cStep_sub (show cStep w (cIter w (a + b)) i = true from h))
theorem all_congr16 {p q : Nat → Bool} {l : List Nat} (h : ∀ x ∈ l, p x = q x) : l.all p = l.all q := by
 rw [Bool.eq_iff_iff, List.all_eq_true, List.all_eq_true]
 exact forall_congr' fun x => forall_congr' fun hx => by rw [h x hx]
theorem ruleC_congr {r : RW} (hr : ROk r) {f f' : Nat → Bool} (h : ∀ i, i < r.ss.length → f i = f' i) (S : Nat → Bool) {i : Nat} (hi : i < r.ss.length) : ruleC r f S i = ruleC r f' S i := by
 unfold ruleC leadsB
 rw [h i hi]
 congr 2
 refine any_congr16 fun o ho => ?_
 cases o with
 | none => rfl
 | some l =>
  show leadP f S l = leadP f' S l
  unfold leadP
  rw [all_congr16 fun x hx => h x (row_lt hr ho x hx)]
theorem cStep_congr {r : RW} (hr : ROk r) {f f' : Nat → Bool} (h : ∀ i, i < r.ss.length → f i = f' i) : ∀ i, i < r.ss.length → cStep r.w f i = cStep r.w f' i := by
 have h1 := cStep_lfp hr f
 have h2 := cStep_lfp hr f'
 refine LfpR.unique h1 ⟨⟨h2.base, fun S h0 hS => h2.least S h0 fun i hi q => hS i hi (by rw [ruleC_congr hr h S hi]; exact q)⟩, fun i hi q => h2.closed i hi (by rw [← ruleC_congr hr h _ hi]; exact q)⟩
theorem cIter_still {r : RW} (hr : ROk r) {m : Nat} (h : ∀ i, i < r.ss.length → cIter r.w (m + 1) i = cIter r.w m i) : ∀ j i, i < r.ss.length → cIter r.w (m + j) i = cIter r.w m i
 | 0, _, _ => rfl
 | j + 1, i, hi => by
  have ih := cIter_still hr h j
  show cStep r.w (cIter r.w (m + j)) i = _
  rw [cStep_congr hr ih i hi]
  exact h i hi
theorem cyc_list {t : FTask} {g : List (List Int)} {v : AV} (h : CycP t g v) : ∃ tok E f, v = .tuple [.slice tok (E.map vE), .int .i64 f] ∧
  ((askE t g ≠ 0 ∧ f = askE t g ∧ tok = .nil ∧ E = []) ∨ (askE t g = 0 ∧ (∃ k, cIter (wldF t g t.init) (k + 1) 0 = false) ∧ f = 4 ∧ tok = .nil ∧ E = []) ∨
   (askE t g = 0 ∧ f = 0 ∧ tok = .fresh ∧ ∃ k, cIter (wldF t g t.init) k 0 = true ∧ (∀ i, i < (wldF t g t.init).ss.length → lostB (wldF t g t.init) (cIter (wldF t g t.init) k) i = false) ∧
    E.Perm (outE (wldF t g t.init) (lst (wldF t g t.init).ss.length (nearF (wldF t g t.init) (cIter (wldF t g t.init) k))) (bfs (wldF t g t.init) (lst (wldF t g t.init).ss.length (nearF (wldF t g t.init) (cIter (wldF t g t.init) k))) (wldF t g t.init).ss.length)) ∧ E.Pairwise (fun x y => ¬ cmpInts y.1 x.1 < 0))) := by
 unfold CycP at h
 by_cases h1 : askE t g = 0
 ·rw [if_pos h1] at h
  rcases h with ⟨k, _, h2, h3⟩ | ⟨k, _, h2, h3, r0, ⟨E, hp, hs, rfl⟩, rfl⟩
  ·exact ⟨.nil, [], 4, h3, .inr (.inl ⟨h1, ⟨k, h2⟩, rfl, rfl, rfl⟩)⟩
  ·exact ⟨.fresh, E, 0, rfl, .inr (.inr ⟨h1, rfl, rfl, k, h2, h3, hp, hs⟩)⟩
 ·rw [if_neg h1] at h
  exact ⟨.nil, [], askE t g, h, .inl ⟨h1, rfl, rfl, rfl⟩⟩
theorem lost_still {w : Wld} {k : Nat} (h : ∀ i, i < w.ss.length → lostB w (cIter w k) i = false) : ∀ i, i < w.ss.length → cIter w (k + 1) i = cIter w k i := fun i hi => by
 have h1 := h i hi
 unfold lostB at h1
 show cStep w (cIter w k) i = _
 cases hc : cIter w k i
 ·cases hs : cStep w (cIter w k) i
  ·rfl
  ·rw [cStep_sub hs] at hc; simp at hc
 ·rw [hc] at h1; simpa using h1
def c_law : CCode := .seq (.ops [oS 2 (.box (.tmp 0)), oS 4 (.move (.lit (.bool false)))]) (.seq (.seq (.ops [oS 19 (.load (some 4) (.tmp 2)), oS 20 (.move (.tmp 1)), oS 21 (.call (.lit (.func 8 [])) [.tmp 19, .tmp 20]), oS 22 (.un .not (.tmp 21))]) (.cond (.tmp 22) (.seq (.ops [oS 23 (.call (.lit (.func 10 [])) []), oS 4 (.move (.tmp 23))]) .ret) .skip)) (.seq (.ops [oS 25 (.load (some 4) (.tmp 2)), oS 26 (.move (.tmp 1)), oS 27 (.call (.lit (.func 24 [])) [.tmp 25, .tmp 26]), oS 24 (.move (.tmp 27)), oS 28 (.extract (.tmp 24) 0), oS 29 (.extract (.tmp 24) 1), oS 5 (.move (.tmp 28)), oS 6 (.move (.tmp 29))]) (.seq (.ops [oS 7 (.move (.lit (.int .i64 10)))]) (.seq (.seq (.ops [oS 30 (.load (some 4) (.tmp 2)), oS 31 (.call (.lit (.func 12 [])) [.tmp 30])]) (.cond (.tmp 31) (.ops [oS 32 (.load (some 4) (.tmp 2)), oS 33 (.move (.tmp 1)), oS 34 (.faddr 1 (.tmp 2)), oS 35 (.load none (.tmp 34)), oS 36 (.call (.lit (.func 13 [])) [.tmp 32, .tmp 33, .tmp 35]), oS 7 (.move (.tmp 36))]) .skip)) (.seq (.seq (.ops [oS 37 (.move (.tmp 7)), oS 38 (.bin .neq .none (.tmp 37) (.lit (.int .i64 0)))]) (.cond (.tmp 38) (.seq (.ops [oS 39 (.move (.tmp 6)), oS 40 (.move (.tmp 7)), oS 41 (.bin .eql .none (.tmp 39) (.tmp 40)), oS 42 (.move (.tmp 41)), oG 43 42 true (.move (.tmp 5)), oG 44 42 true (.blen 1 (.tmp 43)), oG 45 42 true (.bin .eql .none (.tmp 44) (.lit (.int .i64 0))), oS 46 (.pick (.tmp 42) (.tmp 45) (.lit (.bool false))), oS 47 (.move (.tmp 46)), oG 48 47 true (.call (.lit (.func 10 [])) []), oS 49 (.pick (.tmp 47) (.tmp 48) (.lit (.bool false))), oS 4 (.move (.tmp 49))]) .ret) .skip)) (.seq (.ops [oS 51 (.load (some 4) (.tmp 2)), oS 52 (.move (.tmp 1)), oS 53 (.faddr 1 (.tmp 2)), oS 54 (.load none (.tmp 53)), oS 55 (.call (.lit (.func 19 [])) [.tmp 51, .tmp 52, .tmp 54, .lit (.int .i64 128)]), oS 50 (.move (.tmp 55)), oS 56 (.extract (.tmp 50) 0), oS 57 (.extract (.tmp 50) 1), oS 8 (.alloc (.agg [.slice .nil [], .slice .nil [], .slice .nil []])), oN (.store 3 (.tmp 8) (.tmp 56)), oS 9 (.move (.tmp 57))]) (.seq (.seq (.ops [oS 58 (.load (some 3) (.tmp 8)), oS 59 (.call (.lit (.func 25 [])) [.tmp 58]), oS 60 (.un .not (.tmp 59))]) (.cond (.tmp 60) (.seq (.ops [oS 61 (.move (.tmp 6)), oS 62 (.bin .eql .none (.tmp 61) (.lit (.int .i64 4))), oS 63 (.move (.tmp 62)), oG 64 63 true (.move (.tmp 5)), oG 65 63 true (.blen 1 (.tmp 64)), oG 66 63 true (.bin .eql .none (.tmp 65) (.lit (.int .i64 0))), oS 67 (.pick (.tmp 63) (.tmp 66) (.lit (.bool false))), oS 68 (.move (.tmp 67)), oG 69 68 true (.call (.lit (.func 10 [])) []), oS 70 (.pick (.tmp 68) (.tmp 69) (.lit (.bool false))), oS 4 (.move (.tmp 70))]) .ret) .skip)) (.seq (.ops [oS 72 (.move (.tmp 5)), oS 73 (.call (.lit (.func 14 [])) [.tmp 72]), oS 71 (.move (.tmp 73)), oS 74 (.extract (.tmp 71) 0), oS 75 (.extract (.tmp 71) 1), oS 10 (.move (.tmp 74)), oS 11 (.move (.tmp 75))]) (.seq (.seq (.ops [oS 76 (.move (.tmp 6)), oS 77 (.bin .neq .none (.tmp 76) (.lit (.int .i64 0))), oS 78 (.move (.tmp 77)), oG 79 78 false (.load (some 4) (.tmp 2)), oG 80 78 false (.move (.tmp 1)), oG 81 78 false (.move (.tmp 10)), oG 82 78 false (.move (.tmp 11)), oG 83 78 false (.call (.lit (.func 15 [])) [.tmp 79, .tmp 80, .tmp 81, .tmp 82]), oG 84 78 false (.un .not (.tmp 83)), oS 85 (.pick (.tmp 78) (.lit (.bool true)) (.tmp 84))]) (.cond (.tmp 85) (.seq (.ops [oS 4 (.move (.lit (.bool false)))]) .ret) .skip)) (.seq (.ops [oS 87 (.load (some 4) (.tmp 2)), oS 88 (.move (.tmp 1)), oS 89 (.move (.tmp 10)), oS 90 (.move (.tmp 11)), oS 91 (.call (.lit (.func 16 [])) [.tmp 87, .tmp 88, .tmp 89, .tmp 90]), oS 86 (.move (.tmp 91)), oS 92 (.extract (.tmp 86) 0), oS 93 (.extract (.tmp 86) 1), oS 12 (.move (.tmp 92)), oS 13 (.move (.tmp 93))]) (.seq (.seq (.ops [oS 94 (.move (.tmp 10)), oS 95 (.blen 1 (.tmp 94)), oS 96 (.move (.lit (.int .i64 0)))]) (.block 0 (.loop (.seq (.ops [oS 97 (.bin .lss .none (.tmp 96) (.tmp 95))]) (.seq (.cond (.tmp 97) .skip (.exit 0)) (.seq (.block 1 (.seq (.ops [oS 98 (.iaddr 1 (.tmp 94) (.tmp 96)), oS 99 (.load none (.tmp 98)), oS 15 (.move (.tmp 99))]) (.seq (.ops [oS 16 (.move (.lit (.bool false)))]) (.seq (.seq (.ops [oS 100 (.move (.tmp 13)), oS 101 (.blen 1 (.tmp 100)), oS 102 (.move (.lit (.int .i64 0)))]) (.block 2 (.loop (.seq (.ops [oS 103 (.bin .lss .none (.tmp 102) (.tmp 101))]) (.seq (.cond (.tmp 103) .skip (.exit 2)) (.seq (.block 3 (.seq (.ops [oS 104 (.iaddr 1 (.tmp 100) (.tmp 102)), oS 105 (.load none (.tmp 104)), oS 18 (.move (.tmp 105))]) (.ops [oS 106 (.move (.tmp 16)), oS 107 (.move (.tmp 106)), oG 108 107 false (.move (.tmp 15)), oG 109 107 false (.move (.tmp 18)), oG 110 107 false (.call (.lit (.func 23 [])) [.tmp 108, .tmp 109]), oS 111 (.pick (.tmp 107) (.lit (.bool true)) (.tmp 110)), oS 16 (.move (.tmp 111))]))) (.ops [oS 112 (.bin .add .none (.tmp 102) (.lit (.int .i64 1))), oS 102 (.move (.tmp 112))]))))))) (.seq (.ops [oS 113 (.move (.tmp 16)), oS 114 (.un .not (.tmp 113))]) (.cond (.tmp 114) (.seq (.ops [oS 4 (.move (.lit (.bool false)))]) .ret) .skip)))))) (.ops [oS 115 (.bin .add .none (.tmp 96) (.lit (.int .i64 1))), oS 96 (.move (.tmp 115))]))))))) (.seq (.ops [oS 116 (.move (.tmp 12)), oS 117 (.bin .geq .none (.tmp 116) (.lit (.int .i64 2))), oS 118 (.move (.tmp 117)), oG 119 118 true (.call (.lit (.func 10 [])) []), oS 120 (.pick (.tmp 118) (.tmp 119) (.lit (.bool false))), oS 4 (.move (.tmp 120))]) .ret))))))))))))
set_option maxHeartbeats 4000000 in
theorem law_spec (t : FTask) (g : List (List Int)) (ht : TB t) (hg : okL (okL okI) g) (σ : Store) :
  ACalls Tryz.prog 5 [.agg (encTask t), .slice .unk (g.map encL)] σ (isR (.bool true) σ) := by
 refine ACalls.intro (rs := [(.tmp 4)]) (by kernel_rfl) { own := [], ghosts := [] } Tryz.func5 (c := Tryz.f5.body.getD .skip) (by kernel_rfl) (by decide) (by rw [show Tryz.f5.ntmps = 121 by kernel_rfl]; exact Nat.le_of_ble_eq_true rfl) (by kernel_rfl) ?_
 intro hσ hids
 rw [show comp Tryz.prog { own := [], ghosts := [] } (Tryz.f5.body.getD .skip) = c_law by kernel_rfl, show Tryz.f5.ntmps = 121 by kernel_rfl]
 unfold c_law
 simp only [go_sem, simprocAttr, encTask]
 refine ACalls.is (few16_spec t g _ _ ht ⟨hg.1, fun l hl => (hg.2 l hl).1⟩) ?_
 cases hfew : few16B t g
 ·simp only [go_sem, simprocAttr]
  refine (awake16_spec _).is ?_
  simp only [go_sem, simprocAttr]
  exact rt (.bool true) ⟨rfl, rfl⟩
 obtain ⟨hsz, hgz, h7⟩ := few16_facts hfew
 have hLB := few16_LB hgz
 have hPB := few16_PB ht hsz
 have h8 : validB t = true → t.facts.length ≤ 8 := fun hv => by have := h7 hv; omega
 have hcy := fun σ => pCyc_spec t g .unk σ hPB hLB h8
 have hfa := fun σ => fault16_spec t g t.init .unk .unk σ ht hLB (by have := ht.init; omega)
 simp only [encTask] at hcy hfa
 simp only [go_sem, simprocAttr, encTask]
 refine (hcy _).mono ?_
 rintro _ _ ⟨rfl, hq⟩
 obtain ⟨tok, E, f, rfl, hst⟩ := cyc_list hq
 clear hq
 simp only [go_sem, simprocAttr, encTask]
 refine (is01_spec t _ ht).is ?_
 have z00 : ((0 : Int) == 0) = true := rfl
 cases hv : validB t
 ·have hak : askE t g = 10 := by unfold askE; rw [hv]; rfl
  have e10 : ((10 : Int) == 10) = true := rfl
  have n10 : ((10 : Int) != 0) = true := rfl
  rcases hst with ⟨_, rfl, rfl, rfl⟩ | ⟨h1, _⟩ | ⟨h1, _⟩
  ·rw [hak]
   simp only [go_sem, simprocAttr, e10, n10]
   refine (awake16_spec _).is ?_
   simp only [go_sem, simprocAttr]
   exact rt (.bool true) ⟨rfl, rfl⟩
  ·omega
  ·omega
 have hgi := give_init g hv
 simp only [go_sem, simprocAttr, encTask]
 refine (hfa _).is ?_
 rw [hgi]
 rcases hst with ⟨h1, rfl, rfl, rfl⟩ | ⟨h1, ⟨k, h2⟩, rfl, rfl, rfl⟩ | ⟨h1, rfl, rfl, k, h2, h3, h4, h5⟩
 ·have e1 : (askE t g != 0) = true := by simpa using h1
  simp only [go_sem, simprocAttr, e1, beq_self_eq_true]
  refine (awake16_spec _).is ?_
  simp only [go_sem, simprocAttr]
  exact rt (.bool true) ⟨rfl, rfl⟩
 all_goals
  obtain ⟨-, hch⟩ := askE_zero h1
  have hri := valid_init16 hv
  obtain ⟨hSB, hEO, hfl⟩ := valid_SB hPB hv
  have hr := rwF_ok hEO hch hri (h8 hv) hLB.1
  have hrw := rwF_w t g t.init
  have h0 : 0 < (rwF t g t.init).ss.length := lt_of_get (ssF_zero t g t.init)
  have hre := fun σ => reachR_spec t g t.init .unk σ hsz hPB hLB hgz.2 hv (h7 hv) hch hri
  have hcw := fun σ => cycW_spec (rwF t g t.init) σ hr h0
  simp only [encRW, encTask] at hre hcw
  have n00 : ((0 : Int) != 0) = false := rfl
  rw [h1]
  simp only [go_sem, simprocAttr, n00, encTask]
  refine (hre _).is ?_
  simp only [go_sem, simprocAttr]
  refine (hcw _).mono ?_
  rintro _ _ ⟨rfl, m, hm, rfl⟩
 ·have hfalse : cIter (rwF t g t.init).w m 0 = false := by
   rw [← hrw] at h2
   cases hc : cIter (rwF t g t.init).w m 0
   ·rfl
   ·exfalso
    rcases Nat.lt_or_ge m (k + 1) with q | q
    ·have := cIter_still hr hm (k + 1 - m) 0 h0
     rw [show m + (k + 1 - m) = k + 1 by omega, h2, hc] at this
     simp at this
    ·have := cIter_sub (w := (rwF t g t.init).w) (i := 0) (m - (k + 1)) (k + 1) (by rw [show k + 1 + (m - (k + 1)) = m by omega]; exact hc)
     rw [h2] at this; simp at this
  rw [hfalse]
  have e44 : ((4 : Int) == 4) = true := rfl
  simp only [go_sem, simprocAttr, e44, z00]
  refine (awake16_spec _).is ?_
  simp only [go_sem, simprocAttr]
  exact rt (.bool true) ⟨rfl, rfl⟩
 ·have htrue : cIter (rwF t g t.init).w m 0 = true := by
   have h3' := lost_still h3
   rw [← hrw] at h2 h3'
   rcases Nat.lt_or_ge k m with q | q
   ·have := cIter_still hr (m := k) (fun i hi => h3' i hi) (m - k) 0 h0
    rw [show k + (m - k) = m by omega, h2] at this
    exact this
   ·exact cIter_sub (w := (rwF t g t.init).w) (i := 0) (k - m) m (by rw [show m + (k - m) = k by omega]; exact h2)
  rw [htrue]
  obtain ⟨hpol, hown, hkind, hEl, hEs⟩ := cyc_law hPB hv hch (h7 hv) h2 rfl h3 rfl h4 h5
  clear h4 h5 h3 h2 hm htrue hre hcw
  have hE6 : ∀ x ∈ E, x.1.length ≤ 1000000 := fun x hx => by have := hEs x hx; omega
  have hEB : EB E := ⟨by omega, fun x hx => by have := hEs x hx; omega⟩
  have hpo := fun σ => polR_spec t g E .unk .unk .unk σ ht hLB hch (by omega) hE6
  have hkR := fun σ => kindR_spec t g E .unk .unk .unk σ hsz hPB hLB hgz.2 hv (h7 hv) hch hpol (by omega) hE6
  simp only [encTask] at hpo hkR
  rw [hpol] at hpo
  simp only [go_sem, simprocAttr]
  refine (ACalls.wk (parts16_spec E .fresh _ hEB (by omega)) (.cons (wk_ents .fresh E) .nil)).is ?_
  simp only [go_sem, simprocAttr, n00, encTask]
  refine (hpo _).is ?_
  simp only [go_sem, simprocAttr, encTask]
  refine (hkR _).is ?_
  have hSl : (E.map (·.1)).length ≤ 128 := by simpa using hEl
  have hSs : ∀ x ∈ E.map (·.1), x ∈ ssP t g E ∧ x.length ≤ 1000 := fun x hx => by obtain ⟨e, he, rfl⟩ := List.mem_map.1 hx; exact ⟨hown e he, hEs e he⟩
  have hOr := gK_rising hri (nxP_rising hEO hch hpol) (2 ^ t.facts.length)
  have hOl := gK_len hri (nxP_rising hEO hch hpol) (2 ^ t.facts.length)
  have h2n : 2 ^ t.facts.length ≤ 128 := Nat.pow_le_pow_right (n := 2) (by omega) (h7 hv)
  have hOs : (ssP t g E).length ≤ 128 ∧ ∀ x ∈ ssP t g E, x.length ≤ 1000 := ⟨by unfold ssP; omega, fun x hx => by
   rcases rising_len (hOr x hx) (by omega) with q | q
   ·have := h7 hv; omega
   ·rw [q]; simp⟩
  have hk2 : (kindN t g E ≥ 2) := by omega
  have hSE : (E.map (·.1)).length = E.length := by simp
  simp only [go_sem, simprocAttr]
  generalize E.map (·.1) = S at hSl hSs hSE ⊢
  generalize ssP t g E = O at hSs hOs ⊢
  generalize kindN t g E = kn at hk2 ⊢
  refine wpc_while (fun (i : Nat) => [(12, .int .i64 kn), (13, .slice .unk (O.map encL)), (94, .slice .unk (S.map encL)), (95, .int .i64 E.length), (96, .int .i64 (i : Nat))]) (fun _ => σ) (fun i => i ≤ S.length) (fun i => S.length - i) 0 (Nat.zero_le _) (by (try dsimp only); exact ghA) ?_
  intro i hi K hK hE2 hR
  by_cases h : i < S.length
  ·obtain ⟨s, hx⟩ := get_ex h
   have hlt : ((i : Int) < (E.length : Int)) := by omega
   have hw1 := wrapS (i := i) (by omega)
   obtain ⟨hsO, hsl⟩ := hSs s (List.mem_of_getElem? hx)
   simp only [go_sem, simprocAttr, hlt, hx, encL]
   refine wpc_while (fun (j : Nat) => [(12, .int .i64 kn), (13, .slice .unk (O.map encL)), (15, .slice .unk (s.map Ahl.encI)), (16, .bool ((O.take j).any fun x => decide (s = x))), (94, .slice .unk (S.map encL)), (95, .int .i64 E.length), (96, .int .i64 (i : Nat)), (100, .slice .unk (O.map encL)), (101, .int .i64 O.length), (102, .int .i64 (j : Nat))]) (fun _ => σ) (fun j => j ≤ O.length) (fun j => O.length - j) 0 (Nat.zero_le _) (by (try dsimp only); exact ghA) ?_
   intro j hj K2 hK2 hE3 hR2
   by_cases hjO : j < O.length
   ·obtain ⟨x, hxj⟩ := get_ex hjO
    have hltj : ((j : Int) < (O.length : Int)) := by omega
    have hwj := wrapS (i := j) (by omega)
    have hxl := hOs.2 x (List.mem_of_getElem? hxj)
    have e1 : (O.take (j + 1)).any (fun x => decide (s = x)) = ((O.take j).any (fun x => decide (s = x)) || decide (s = x)) := by rw [take_succ' hxj, List.any_append]; simp
    generalize (O.take j).any (fun x => decide (s = x)) = A at e1
    cases A
    ·simp only [go_sem, simprocAttr, hltj, hxj, encL]
     refine (sameInts_spec s x .unk .unk _ (by omega) (by omega)).is ?_
     simp only [go_sem, simprocAttr]
     refine hK2 _ _ (j + 1) (by omega) (by omega) ?_
     rw [hwj, e1, Bool.false_or]
     exact ghk0
    ·simp only [go_sem, simprocAttr, hltj, hxj, encL]
     refine hK2 _ _ (j + 1) (by omega) (by omega) ?_
     rw [hwj, e1, Bool.true_or]
     exact ghk0
   ·have hltj : ¬ ((j : Int) < (O.length : Int)) := by omega
    rw [List.take_of_length_le (by omega), List.any_eq_true.2 ⟨s, hsO, decide_eq_true rfl⟩]
    simp only [go_sem, simprocAttr, hltj, hE3]
    refine hK _ _ (i + 1) (by omega) (by omega) ?_
    rw [hw1]
    exact ghk0
  ·have hlt : ¬ ((i : Int) < (E.length : Int)) := by omega
   simp only [go_sem, simprocAttr, hlt, hE2, hk2]
   refine (awake16_spec _).is ?_
   simp only [go_sem, simprocAttr]
   exact rt (.bool true) ⟨rfl, rfl⟩
theorem law_reads : ReadsAll Tryz.prog Tryz.f5.params.toList (fun avs => ACalls Tryz.prog 5 avs [] (isR (.bool true) [])) := by
 rw [show Tryz.f5.params.toList = [27, 28] by kernel_rfl]
 exact .cons ra_task fun t ht => .cons ra_intss fun g hg => .nil (law_spec t g ht hg [])
set_option maxRecDepth 100000 in
theorem lifted (os : Os) (started : os.Started) (H : Type) (enc : TypeId × Value → H) :
  ReturnsInHanded {} Tryz.checked os 5 .any (Rows.policyCyclicSpec.pre6 enc Tryz.prog Tryz.f5 Rows.policyCyclicRow.domain false) (Rows.policyCyclicSpec.post enc Tryz.prog Tryz.f5 false true false false) := by
 refine returnsInHanded_of_change_sized (C := Tryz.checked) own started (by kernel_rfl) Tryz.func5
  (ChangeSpec.witness6 (enc := enc) (C := Tryz.checked) false ⟨#[], #[.agg #[.slice none 0 0, .slice none 0 0, .slice none 0 0, .slice none 0 0], .slice none 0 0], []⟩ 8 (by kernel_rfl) (by kernel_rfl) (by kernel_rfl) (by kernel_rfl)) ?_
 intro W base args ds gs before hval hW _ hsz _
 refine law_post (P := Tryz.prog) Tryz.func5 (by kernel_rfl) (by decide) rfl ?_ laidOut (rdble (by kernel_rfl)) (by kernel_rfl) Tryz.underlying4 law_reads hval hW hsz
 intro ds h
 rw [show Tryz.f5.params.size = 2 by kernel_rfl] at h
 match ds, h with
 | [a, b], _ => rfl
theorem holds : Rows.PolicyCyclicSaid :=
 OpenClaim.holds_of_wide 5 Tryz.f5 rfl rfl rfl rfl rfl rfl rfl ⟨rfl, rfl, rfl, rfl, rfl⟩ rfl rfl rfl rfl rfl (by kernel_rfl) Tryz.func5 (by kernel_rfl)
  (of_decide_eq_true (by kernel_rfl)) (by unfold Func.isWrapper; first | (rw [if_pos (by decide +kernel)]; kernel_rfl) | (rw [if_neg (by decide +kernel)]; exact ⟨rfl, rfl⟩))
  (fun os started H enc _ => lifted os started H enc)
end Go.Proofs.YtjmmldkailblmaaGreat
