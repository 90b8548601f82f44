/- Contracts of the given program's functions, and an abstract layer over the model; no condition. -/
import Derived.Maps.RangeRun
import Derived.Laws.BytesArg
import Derived.OrdersIn
import Derived.Scope
import Derived.Test.YtpabiedjneognaaGreatDoorBase1
set_option maxRecDepth 20000
set_option linter.unusedVariables false
set_option linter.unusedSimpArgs false
namespace Go.Ahl
section
variable {P : Program} {m : Mem} {loc : List Loc} {σ : Store} {w : World} {K : Cont}
theorem SRel.stay (h : SRel m loc σ w) {id b : Nat} {es : List (AV × AV)} {en : Array MapEntry} {c : Nat} (n0 : Nat) (hl : loc[id]? = some (.blk b)) (ho : σ[id]? = some (.map es)) (hb : w.heap[b]? = some (.map en c)) :
  SRel { m with mp := fun k => if k = b then some (en, c) else m.mp k } loc (σ.set id .dead) w ∧ Ext n0 m loc w { m with mp := fun k => if k = b then some (en, c) else m.mp k } loc w := by
 have hle : m.le { m with mp := fun k => if k = b then some (en, c) else m.mp k } := ⟨fun _ _ _ e => e, fun _ _ e => e, fun k e q => by
  simp only []
  split
  ·rename_i hk; subst hk
   rw [h.mpo id _ _ k hl ho rfl] at q; simp at q
  ·exact q, fun _ _ _ e => e, rfl⟩
 have hd := h.die id
 refine ⟨⟨hd.len, hd.im, hd.bs, ?_, hd.inj, hd.lt, ?_, ?_, hd.ok.same rfl rfl rfl (fun _ e => e) rfl⟩, ⟨rfl, rfl, rfl, Nat.le_refl _, Nat.le_refl _, hle, .refl _ _, fun _ e => .inl e, fun _ _ _ _ => rfl, fun _ _ _ e => .inl e⟩⟩
 ·intro i l o h1 h2
  exact (hd.obj i l o h1 h2).mono hle (.refl _ _) (fun _ _ => rfl) (fun _ _ _ => rfl)
 ·intro k e q
  simp only [] at q
  split at q
  ·rename_i hk; subst hk; injection q with q; subst q; exact hb
  ·exact h.mp k e q
 ·intro i l o k h1 h2 w1
  have h3 := hd.mpo i l o k h1 h2 w1
  simp only []
  split
  ·rename_i hk; subst hk
   rcases get_set h2 with ⟨rfl, rfl⟩ | ⟨hne, h2⟩
   ·cases l <;> simp [own] at w1
   ·exact absurd (h.inj id i _ l _ o k hl h1 ho h2 rfl w1) hne
  ·exact h3
theorem good_rng {t k e : TypeId} {x : AV} {a : Value} (hs : SRel m loc σ w) (ht : P.underlying t = some (.map k e)) (hx : Rel m loc x a) (h : aRng x σ K) : GoodV P m loc w K (Instr.range t a) := by
 cases hx with
 | map id b hl =>
  obtain ⟨es, ho, hk⟩ := h
  obtain ⟨en, c, h1, h2⟩ := hs.obj _ _ _ hl ho
  obtain ⟨hs1, he1⟩ := hs.stay loc.length hl ho h1
  have hle := he1.mem
  have key := hs1.alloc loc.length (.mapIter (some b) c #[] c) (fun _ => none) none (.blk w.heap.size) (.iter es []) (by simp) (by simp) (by
   rintro b' (e | ⟨sz, g, k, e, _⟩)
   ·injection e with e; exact e.symm
   ·simp at e) ?_
  ·refine ⟨.pointer (some ⟨w.heap.size, 0, none⟩), w.alloc (.mapIter (some b) c #[] c), .ptr σ.length 0, _, _, _, ?_, hk, .ptr _ 0 w.heap.size (by rw [← hs.len]; simp), key.1, he1.trans key.2⟩
   unfold Instr.range
   have hg : (getObj b).run P w = .ok (.map en c) w := by unfold getObj; simp [Sem.run, h1]
   simp only [Sem.run_bind, run_underlying ht, Result.andThen, hg]
   rfl
  ·have hlt : b < w.heap.size := hs.lt b ⟨id, .inl hl⟩
   refine .inr ⟨b, en, c, #[], c, by show (w.heap.push _)[w.heap.size]? = _; simp, by simp [Mem.add], ?_, rfl, rfl, by simp⟩
   exact h2.mono (hle.trans (hs1.le_add _ _)) (.app _ _ _)
 | mapnil =>
  have key := hs.alloc loc.length (.mapIter none 0 #[] 0) (fun _ => none) none (.blk w.heap.size) (.iter [] []) (by simp) (by simp) (by
   rintro b' (e | ⟨sz, g, k, e, _⟩)
   ·injection e with e; exact e.symm
   ·simp at e) ?_
  ·refine ⟨.pointer (some ⟨w.heap.size, 0, none⟩), w.alloc (.mapIter none 0 #[] 0), .ptr σ.length 0, _, _, _, ?_, h, .ptr _ 0 w.heap.size (by rw [← hs.len]; simp), key.1, key.2⟩
   unfold Instr.range
   simp only [Sem.run_bind, run_underlying ht, Result.andThen]
   rfl
  ·exact .inl ⟨rfl, by show (w.heap.push _)[w.heap.size]? = _; simp⟩
 | _ => exact h.elim
theorem get_ex' {α : Type} {l : List α} {i : Nat} (h : i < l.length) : ∃ x, l[i]? = some x := ⟨_, List.getElem?_eq_getElem h⟩
theorem find_idx {en : Array MapEntry} {e : MapEntry} (h : e ∈ en.toList) : ∃ i : Nat, en[i]? = some e := by
 obtain ⟨i, hi, rfl⟩ := List.mem_iff_getElem.1 h
 exact ⟨i, by simp⟩
theorem good_nxt {ty : TypeId} {x : AV} {a : Value} (hs : SRel m loc σ w) (hx : Rel m loc x a) (h : aNxt x σ K) : GoodV P m loc w K (Instr.next a false ty) := by
 cases hx with
 | ptr id off b hl =>
  cases off with
  | succ k => exact h.elim
  | zero =>
   obtain ⟨es, seen, ho, hk, hd⟩ := h
   rcases hs.obj _ _ _ hl ho with ⟨rfl, h2⟩ | ⟨q, en, c, sa, st, h1, h2, h3, rfl, h5, h6⟩
   ·refine .same hs ?_ (hd (by simp)) (.tuple [.bool false] #[.bool false] rfl ?_)
    ·unfold Instr.next
     simp only [getObj, Sem.run_bind, Sem.run, h2, Result.andThen]
     rfl
    ·intro j y v e1 e2
     match j, e1, e2 with
     | 0, e1, e2 => simp at e1 e2; subst e1; subst e2; exact .bool _
   ·have hb := hs.mp _ _ h2
    have hborn : ∀ x ∈ en.toList, x.born < st := fun x hx => by
     obtain ⟨i, hi⟩ := find_idx hx
     exact h3.born i x hi
    have hmem : ∀ (i : Nat) e, en[i]? = some e → (e.born ∈ sa.toList ↔ i ∈ seen) := by
     intro i e he
     rw [h5, List.mem_map]
     constructor
     ·rintro ⟨j, hj, q⟩
      have hje := h6 j hj
      obtain ⟨e', he'⟩ : ∃ e', en[j]? = some e' := ⟨_, Array.getElem?_eq_getElem (by rw [h3.len]; exact hje)⟩
      rw [he'] at q
      have := h3.apart j i e' e he' he q
      subst this; exact hj
     ·intro hi; exact ⟨i, hi, by rw [he]; rfl⟩
    rcases run_next_at (P := P) w ty b q st st sa en st h1 hb hborn (Nat.le_refl _) with ⟨h0, hr⟩ | ⟨e, he, w1, hw, hr⟩
    ·refine .same hs hr (hd ?_) (.tuple [.bool false] #[.bool false] rfl ?_)
     ·intro i hi
      obtain ⟨e, he⟩ : ∃ e, en[i]? = some e := ⟨_, Array.getElem?_eq_getElem (by rw [h3.len]; exact hi)⟩
      refine (hmem i e he).1 ?_
      refine Classical.byContradiction fun hn => ?_
      have : e ∈ (leftOf en sa).toList := by
       unfold leftOf
       simp only [Array.toList_filter, List.mem_filter, Bool.not_eq_true']
       refine ⟨Array.mem_toList_iff.2 (Array.mem_of_getElem? he), ?_⟩
       simpa using hn
      have hl0 : (leftOf en sa).toList = [] := by
       have : leftOf en sa = #[] := Array.eq_empty_of_size_eq_zero h0
       rw [this]
      rw [hl0] at this; simp at this
     ·intro j y v e1 e2
      match j, e1, e2 with
      | 0, e1, e2 => simp at e1 e2; subst e1; subst e2; exact .bool _
    ·unfold leftOf at he
     simp only [Array.toList_filter, List.mem_filter, Bool.not_eq_true'] at he
     obtain ⟨i, hi⟩ := find_idx he.1
     have hie : i < es.length := by
      have : i < en.size := by
       rcases Nat.lt_or_ge i en.size with h | h
       ·exact h
       ·rw [Array.getElem?_eq_none h] at hi; simp at hi
      rw [← h3.len]; exact this
     obtain ⟨⟨k, v⟩, hkv⟩ : ∃ y, es[i]? = some y := get_ex' hie
     have hni : i ∉ seen := fun hn => by
      have := (hmem i e hi).2 hn
      have h7 := he.2
      simp at h7
      exact h7 (by simpa using this)
     have hkey := h3.key i k v e hkv hi
     have hw1 : SRel m loc σ w1 := by rcases hw with rfl | rfl; exact hs; exact hs.heap_same rfl
     have he1 : Ext loc.length m loc w m loc w1 := by
      rcases hw with rfl | rfl
      ·exact .refl _ _ _ _
      ·exact .heap_same rfl rfl rfl rfl (by show w.drawn ≤ w.drawn + 1; omega)
     have hlt : b < w1.heap.size := hw1.lt b ⟨id, .inl hl⟩
     have key := hw1.turn loc.length (m' := m) (w' := Go.ChangeMaps.setBlock w1 b (.mapIter (some q) st (sa.push e.born) st)) (l' := .blk b) (.iter es (seen ++ [i])) hl ho (.refl m) (.refl _)
      (fun z _ hz => Array.getElem?_setIfInBounds_ne (fun e => hz (by subst e; rfl))) (by simp [Go.ChangeMaps.setBlock]) (fun _ _ _ _ => rfl) ?_ ?_ ?_ (fun b' q => .inl q) ?_ rfl rfl rfl (Nat.le_refl _)
     ·rw [set_same hl] at key
      refine ⟨_, _, _, _, m, loc, hr, hk i k v hkv hni, ?_, key.1, he1.trans key.2⟩
      refine .tuple _ _ rfl ?_
      intro j y u e1 e2
      match j, e1, e2 with
      | 0, e1, e2 => simp at e1 e2; subst e1; subst e2; exact .bool _
      | 1, e1, e2 => simp at e1 e2; subst e1; subst e2; exact hkey.1
      | 2, e1, e2 => simp at e1 e2; subst e1; subst e2; exact hkey.2
     ·intro z off u hz e
      rcases hz with hz | hz
      ·simp [own] at hz; subst hz
       have := hs.im _ _ _ e
       simp [World.cell?, h1] at this
      ·have := hw1.im_lt e; omega
     ·intro z n e
      refine .inl ⟨e, fun hz => ?_⟩
      simp [own] at hz; subst hz
      obtain ⟨arr, t', fz, e1, _⟩ := hs.bs _ _ e
      rw [h1] at e1; simp at e1
     ·rintro b' ⟨sz, f, z, e, _⟩; simp at e
     ·rw [set_same hl]
      refine .inr ⟨q, en, st, sa.push e.born, st, ?_, h2, h3, rfl, ?_, ?_⟩
      ·show (w1.heap.setIfInBounds b _)[b]? = _
       rw [Array.getElem?_setIfInBounds_self_of_lt hlt]
      ·rw [Array.toList_push, h5, List.map_append]
       simp [hi]
      ·intro j hj
       rcases List.mem_append.1 hj with hj | hj
       ·exact h6 j hj
       ·rw [List.mem_singleton] at hj; subst hj; exact hie
 | _ => exact h.elim
theorem good_ent {x : AV} {a : Value} (hs : SRel m loc σ w) (hx : Rel m loc x a) (h : aEnt x σ fun y => K y σ) : GoodV P m loc w K (Instr.entry a) := by
 cases hx with
 | ptr id off b hl =>
  cases off with
  | succ k => exact h.elim
  | zero =>
   obtain ⟨es, seen, i, k, v, ho, hkv, hk⟩ := h
   rcases hs.obj _ _ _ hl ho with ⟨rfl, h2⟩ | ⟨q, en, c, sa, st, h1, h2, h3, rfl, h5, h6⟩
   ·simp at hkv
   ·have hie := h6 i (by simp)
    obtain ⟨e, he⟩ : ∃ e, en[i]? = some e := ⟨_, Array.getElem?_eq_getElem (by rw [h3.len]; exact hie)⟩
    have hsa : sa = (sa.toList.dropLast).toArray.push e.born := by
     apply Array.ext'
     rw [Array.toList_push]
     rw [h5, List.map_append]
     simp [he]
    rw [hsa] at h1
    have hkey := h3.key i k v e hkv he
    have hn : (en.toList.map (·.born)).Nodup := by
     rw [List.Nodup, List.pairwise_map]
     rw [List.pairwise_iff_getElem]
     intro i j hi hj hij q
     have := h3.apart i j _ _ (by rw [Array.getElem?_eq_getElem (by simpa using hi)]; simp) (by rw [Array.getElem?_eq_getElem (by simpa using hj)]; simp) q
     omega
    have hr := run_entry_at (P := P) w b q st _ en st e h1 (hs.mp _ _ h2) (Array.mem_toList_iff.2 (Array.mem_of_getElem? he)) hn
    refine .same hs hr hk (.tuple _ _ rfl ?_)
    intro j y u e1 e2
    match j, e1, e2 with
    | 0, e1, e2 => simp at e1 e2; subst e1; subst e2; exact hkey.1
    | 1, e1, e2 => simp at e1 e2; subst e1; subst e2; exact hkey.2
 | _ => exact h.elim
theorem good_bstr {t u e : TypeId} {x : AV} {a : Value} (hs : SRel m loc σ w) (ht : P.underlying t = some (.slice e)) (hu : P.underlying u = some .string) (he : P.underlying e = some (.int .u8)) (hx : Rel m loc x a)
  (h : aBstr x fun v => K v σ) : GoodV P m loc w K (convert t u a) := by
 cases hx with
 | slice tok elems ad cap sz b o f hcap htok hsz ha hc hr =>
  obtain ⟨l, rfl, hk⟩ := h
  have hl : (l.map encU8).length = l.length := by simp
  refine .same hs (v := .string ⟨⟨l⟩⟩) ?_ hk (.str _)
  rw [run_convert_bytes_string w t u e _ _ _ ht he hu, hl]
  have hf : ∀ (l : List UInt8), ((l.map fun c => (c.toNat : Int)).foldl (fun r n => r.push (UInt8.ofNat n.toNat)) ByteArray.empty) = (⟨⟨l⟩⟩ : ByteArray) := by
   intro l
   rw [foldl_push_bytes]
   congr 1
   apply Array.ext'
   have : ((fun n : Int => UInt8.ofNat n.toNat) ∘ fun c : UInt8 => (c.toNat : Int)) = id := by funext c; simp
   simp [this]
  cases l with
  | nil =>
   cases ad with
   | none => rfl
   | some ad =>
    have := run_bytesToString (P := P) w ad 0 cap [] rfl
    exact this
  | cons c l =>
   have ha' := ha (by simp)
   subst ha'
   have hsz1 : sz = 1 := by
    have := hsz (encU8 c) (by simp)
    simpa [encU8] using this.symm
   subst hsz1
   have hld : (loadCells ⟨b, o, none⟩ (c :: l).length).run P w = .ok (((c :: l).map fun c => (c.toNat : Int)).map (Value.int .u8)).toArray w := by
    refine run_loadMany (by simp) ?_
    intro j v hv
    rw [List.map_map, List.getElem?_map] at hv
    cases hj : (c :: l)[j]? with
    | none => rw [hj] at hv; simp at hv
    | some y =>
     rw [hj] at hv
     simp only [Option.map_some, Option.some.injEq] at hv
     have hlt := lt_of_get hj
     have h1 := hc j (by simpa using hlt) 0 (by omega)
     have h2 := hr j (encU8 y) (by rw [List.getElem?_map, hj]; rfl) 0 (.int .u8 y.toNat) rfl
     rw [Nat.mul_one, Nat.add_zero] at h1
     have h3 := hs.im _ _ _ h1
     rw [h3]
     generalize f j 0 = q at h2 ⊢
     cases h2
     rw [← hv]; rfl
   rw [run_bytesToString w _ _ cap _ hld, hf]
 | _ => exact h.elim
end
end Go.Ahl
namespace Go.Ahl
section
variable {P : Program} {m : Mem} {loc : List Loc} {σ : Store} {w : World} {K : Cont}
theorem rep_length (n : Nat) (z : List AV) : (List.replicate n z).flatten.length = n * z.length := by simp
theorem rep_all (n : Nat) (z : List AV) (h : z.all AV.one = true) : (List.replicate n z).flatten.all AV.one = true := by
 rw [List.all_eq_true] at h ⊢
 intro x hx
 obtain ⟨l, hl, hx⟩ := List.mem_flatten.1 hx
 rw [(List.mem_replicate.1 hl).2] at hx
 exact h x hx
theorem good_clear {t e ty : TypeId} {i : TypeInfo} {z : Value} {x : AV} {a : Value} (hs : SRel m loc σ w) (hu : P.underlying t = some (.slice e)) (hi : P.info? e = some i) (hz : i.zero = some z)
  (hx : Rel m loc x a)
  (h : aClear (z.cells.toList.map avLit) x σ fun σ' => K unit σ') : GoodV P m loc w K (Builtin.clear_ #[t] ty #[a]) := by
 have hzc : Cells m loc (z.cells.toList.map avLit) z.cells.toList := cells_lits _
 have relu : ∀ {m' loc'}, Rel m' loc' unit (.tuple #[]) := .tuple [] #[] rfl (by simp)
 cases hx with
 | ref id sz off len cap b n hl hcap hb hn =>
  obtain ⟨hsz, hpos, hone, cells, hc, hfit, hK⟩ := h
  have hszz : z.cells.size = sz := by simpa using hsz
  rcases Nat.eq_zero_or_pos len with q | q
  ·subst q
   refine .same hs (v := .tuple #[]) ?_ (by simp only [List.replicate_zero, List.flatten_nil, setAll] at hK; rw [set_same hc] at hK; exact hK) relu
   unfold Builtin.clear_
   simp only [List.getElem?_toArray, List.getElem?_cons_zero]
   rw [Sem.run_bind, run_underlying hu]
   rfl
  ·have hcell := cells_rep (m := m) (loc := loc) z.cells.toList (z.cells.toList.map avLit) hzc len
   obtain ⟨w', r, hs', he⟩ := store_cells (P := P) loc.length id b off hl (List.replicate len (z.cells.toList.map avLit)).flatten (List.replicate len z.cells.toList).flatten 0 cells σ w hs hc hcell.1
    hcell.2 (by rw [rep_length, hsz]; omega) (rep_all _ _ hone)
   refine ⟨_, w', _, _, m, loc, ?_, hK, relu, hs', he⟩
   unfold Builtin.clear_
   simp only [List.getElem?_toArray, List.getElem?_cons_zero]
   rw [Sem.run_bind, run_underlying hu]
   simp only [Result.andThen_ok]
   have hcl : (Builtin.zeroCells z.cells len).toList = (List.replicate len z.cells.toList).flatten := by
    have := range_mod z.cells (by omega) len
    unfold Builtin.zeroCells; exact this
   obtain ⟨k, rfl⟩ : ∃ k, len = k + 1 := ⟨len - 1, by omega⟩
   simp only [Sem.run_bind, run_zero hi hz, Result.andThen_ok, hcl, r, Sem.run_pure]
 | ref0 id sz off a hl =>
  obtain ⟨hsz, hpos, hone, cells, hc, hfit, hK⟩ := h
  refine .same hs (v := .tuple #[]) ?_ (by simp only [List.replicate_zero, List.flatten_nil, setAll] at hK; rw [set_same hc] at hK; exact hK) relu
  unfold Builtin.clear_
  simp only [List.getElem?_toArray, List.getElem?_cons_zero]
  rw [Sem.run_bind, run_underlying hu]
  cases a <;> rfl
 | _ => exact h.elim
theorem good_copy {t u e ty : TypeId} {i : TypeInfo} {x y : AV} {a b : Value} (hs : SRel m loc σ w) (hu : P.underlying t = some (.slice e)) (hi : P.info? e = some i)
  (hx : Rel m loc x a) (hy : Rel m loc y b) (h : aCopy i.size x y σ K) : GoodV P m loc w K (Builtin.copy_ #[t, u] ty #[a, b]) := by
 have load0 : ∀ (ad : Option Addr) (n c : Nat), (Builtin.firstCells i.size 0 (.slice ad n c)).run P w = .ok #[] w := by
  intro ad n c
  cases ad with
  | none => rfl
  | some a => unfold Builtin.firstCells; rw [Nat.zero_mul]; rfl
 have none0 : ∀ (ad ad' : Option Addr) (c c' n' : Nat), (Builtin.copy_ #[t, u] ty #[.slice ad 0 c, .slice ad' n' c']).run P w = .ok (.int .i64 0) w := by
  intro ad ad' c c' n'
  unfold Builtin.copy_
  simp only [List.getElem?_toArray, List.getElem?_cons_zero, List.getElem?_cons_succ]
  rw [Sem.run_bind, run_underlying hu]
  simp only [Result.andThen_ok, Sem.run_bind, Builtin.lenOf, Sem.run_pure, run_size hi, show Nat.min n' 0 = 0 from Nat.min_zero n', load0]
  cases ad <;> rfl
 have int0 : ∀ {m' loc'} (n : Nat), Rel m' loc' (.int .i64 (n : Int)) (Value.int .i64 (n : Int)) := fun n => .int _ _
 cases hx with
 | ref id sz off len cap bb n hl hcap hb hn =>
  cases hy with
  | ref id' sz' off' len' cap' b' n' hl' hcap' hb' hn' =>
   obtain ⟨e1, e2, hpos, hle, cells, hc, hfit, cells', hc', hfit', hone, hK⟩ := h
   obtain ⟨vs, h1, h2, h3⟩ := pick_cells (m := m) (loc := loc) (g := fun j u => w.cell? ⟨b', j, none⟩ = some u) hfit' (fun j x hj => by
    obtain ⟨u, e1, e2, _⟩ := hs.row hl' hc' hj; exact ⟨u, e1, e2⟩)
   have hcl : ((cells'.drop off').take (len * i.size)).length = len * i.size := by rw [List.length_take, List.length_drop]; omega
   obtain ⟨w', r, hs', he⟩ := store_cells (P := P) loc.length id bb off hl ((cells'.drop off').take (len * i.size)) vs 0 cells σ w hs hc (by rw [h1, hcl]) h3 (by rw [hcl]; omega) hone
   refine ⟨_, w', _, _, m, loc, ?_, hK, int0 len, hs', he⟩
   unfold Builtin.copy_
   simp only [List.getElem?_toArray, List.getElem?_cons_zero, List.getElem?_cons_succ]
   rw [Sem.run_bind, run_underlying hu]
   have hfc : (Builtin.firstCells i.size len (.slice (some ⟨b', off', none⟩) len' cap')).run P w = .ok vs.toArray w := by
    unfold Builtin.firstCells; exact run_loadMany h1 h2
   simp only [Result.andThen_ok, Sem.run_bind, Builtin.lenOf, Sem.run_pure, run_size hi, show Nat.min len' len = len from Nat.min_eq_right hle, hfc, List.toList_toArray, r]
   rfl
  | ref0 id' sz' off' a' hl' =>
   obtain ⟨e1, e2, hpos, hle, cells, hc, hfit, cells', hc', hfit', hone, hK⟩ := h
   obtain rfl : len = 0 := by omega
   refine .same hs (none0 _ _ _ _ _) (by simp only [Nat.zero_mul, List.take_zero, setAll] at hK; rw [set_same hc] at hK; exact hK) (int0 0)
  | _ => exact h.elim
 | ref0 id sz off ad hl =>
  cases hy with
  | ref id' sz' off' len' cap' b' n' hl' hcap' hb' hn' =>
   obtain ⟨e1, e2, hpos, hle, cells, hc, hfit, cells', hc', hfit', hone, hK⟩ := h
   refine .same hs (none0 _ _ _ _ _) (by simp only [Nat.zero_mul, List.take_zero, setAll] at hK; rw [set_same hc] at hK; exact hK) (int0 0)
  | ref0 id' sz' off' a' hl' =>
   obtain ⟨e1, e2, hpos, hle, cells, hc, hfit, cells', hc', hfit', hone, hK⟩ := h
   refine .same hs (none0 _ _ _ _ _) (by simp only [Nat.zero_mul, List.take_zero, setAll] at hK; rw [set_same hc] at hK; exact hK) (int0 0)
  | _ => exact h.elim
 | _ => exact h.elim
def Good (P : Program) (m : Mem) (loc : List Loc) (w : World) (K : Cont) (r : Result Next) : Prop :=
 ∃ v w' x σ' m' loc', (r = .ok (.value v) w' ∨ (r = .ok .skip w' ∧ v = undef)) ∧ K x σ' ∧ Rel m' loc' x v ∧ SRel m' loc' σ' w' ∧ Ext loc.length m loc w m' loc' w'
theorem GoodV.good {s : Sem Value} (h : GoodV P m loc w K s) : Good P m loc w K ((do pure (.value (← s)) : Sem Next).run P w) := by
 obtain ⟨v, w', x, σ', m', loc', h1, h2, h3, h4, h5⟩ := h
 refine ⟨v, w', x, σ', m', loc', .inl ?_, h2, h3, h4, h5⟩
 rw [Sem.run_bind, h1]; rfl
theorem GoodU.good {s : Sem Unit} (h : GoodU P m loc w K s) : Good P m loc w K ((do s; pure .skip : Sem Next).run P w) := by
 obtain ⟨w', σ', m', loc', h1, h2, h4, h5⟩ := h
 refine ⟨undef, w', unit, σ', m', loc', .inr ⟨?_, rfl⟩, h2, .tuple [] #[] rfl (by simp), h4, h5⟩
 rw [Sem.run_bind, h1]; rfl
theorem optRel_map {nt : Nat} {s : Slots} {ρ : Operand → Value} (hρ : ∀ x, Rel m loc (aev s (cOpd x)) (ρ x)) (o : Option Operand) : OptRel m loc ((o.map cOpd).map (aev s)) (o.map ρ) := by
 cases o with
 | none => trivial
 | some x => exact hρ x
def Op.isCall : Op → Bool
 | .call c => match c.callee with | .value _ => true | .invoke _ _ => true | _ => false
 | _ => false
theorem op_good {o : Oper} {own : Bool} {s : Slots} {ρ : Operand → Value} (hs : SRel m loc σ w) (hρ : ∀ x, Rel m loc (aev s (cOpd x)) (ρ x)) (hc : Op.isCall o.op = false)
  (h : aI P (cOp P own o.op) s σ K) : Good P m loc w K ((execOp ρ o).run P w) := by
 unfold execOp
 cases ho : o.op <;> rw [ho] at h hc <;> simp only [cOp] at h <;> simp only
 case move x => exact ⟨_, w, _, σ, m, loc, .inl rfl, h, hρ x, hs, .refl _ _ _ _⟩
 case assign x => exact ⟨_, w, _, σ, m, loc, .inl rfl, h, hρ x, hs, .refl _ _ _ _⟩
 case pick c a b =>
  simp only [aI] at h
  have hb : ∀ p, aev s (cOpd c) = .bool p → ρ c = .bool p := fun p e => by have := hρ c; rw [e] at this; generalize ρ c = v at this; cases this; rfl
  split at h
  ·rename_i e
   refine ⟨_, w, _, σ, m, loc, .inl ?_, h, hρ a, hs, .refl _ _ _ _⟩
   rw [hb _ e]; rfl
  ·rename_i e
   refine ⟨_, w, _, σ, m, loc, .inl ?_, h, hρ b, hs, .refl _ _ _ _⟩
   rw [hb _ e]; rfl
  ·exact h.elim
 case alloc e =>
  split at h <;> try exact h.elim
  rename_i i hi
  split at h <;> try exact h.elim
  rename_i z hz
  simp only [aI] at h
  split at h <;> try exact h.elim
  rename_i cs hcs
  have := good_new (P := P) (elem := e) hs (rel_avOf z) hcs h
  refine GoodV.good ?_
  obtain ⟨v, w', x, σ', m', loc', h1, h2⟩ := this
  refine ⟨v, w', x, σ', m', loc', ?_, h2⟩
  unfold Instr.alloc
  rw [Sem.run_bind, run_zero hi hz]
  exact h1
 case box e x =>
  simp only [aI] at h
  split at h <;> try exact h.elim
  rename_i cs hcs
  exact (good_new (P := P) (elem := e) hs (hρ x) hcs h).good
 case build t parts =>
  split at h <;> try exact h.elim
  ·rename_i i fields hi hu
   split at h <;> try exact h.elim
   rename_i z places hz hp
   split at h <;> try exact h.elim
   rename_i ps hps
   exact (good_build hs hρ hi hu hz hp hps h).good
  ·rename_i i n e hi hu
   split at h <;> try exact h.elim
   rename_i z ie hz he
   exact (good_buildA hs hρ hi hu hz he h).good
 case buildSlice t len parts =>
  split at h <;> try exact h.elim
  rename_i e hu
  split at h <;> try exact h.elim
  rename_i i hi
  split at h <;> try exact h.elim
  rename_i hcond
  obtain ⟨h1, h2, h3, h4⟩ := hcond
  have h' : aI P (.bslice i.size (parts.toList.map (cOpd ·.2)) own) s σ K := h
  simp only [aI] at h'
  exact (good_bslice hs hρ hu hi h1 h2 h3 h4 h').good
 case load t a =>
  split at h <;> try exact h.elim
  rename_i n hn
  exact (good_load hs hn (hρ a) h).good
 case store t a x =>
  split at h <;> try exact h.elim
  rename_i i hi
  exact (good_store hs hi (hρ a) (hρ x) h).good
 case nilCheck x =>
  simp only [aI, aNilck] at h
  have hx := hρ x
  generalize aev s (cOpd x) = y at h hx
  generalize ρ x = v at hx
  cases hx with
  | ptr id off b hl => exact ⟨_, w, _, σ, m, loc, .inl rfl, h, .ptr id off b hl, hs, .refl _ _ _ _⟩
  | rptr c b o f h1 h2 => exact ⟨_, w, _, σ, m, loc, .inl rfl, h, .rptr c b o f h1 h2, hs, .refl _ _ _ _⟩
  | wptr c b o f h0 h1 h2 h3 => exact ⟨_, w, _, σ, m, loc, .inl rfl, h, .wptr c b o f h0 h1 h2 h3, hs, .refl _ _ _ _⟩
  | _ => exact h.elim
 case binOp op t x y yt => exact (good_bin hs (hρ x) (hρ y) h).good
 case unOp op t x => exact (good_un hs (hρ x) h).good
 case convert a b x =>
  split at h <;> try exact h.elim
  ·rename_i d k hd hk
   exact (good_conv hs hd hk (hρ x) h).good
  ·rename_i e hd hk
   split at h <;> try exact h.elim
   rename_i he
   exact (good_bstr hs hd hk he (hρ x) h).good
 case makeFunc fn first captured =>
  cases fn <;> try exact h.elim
  rename_i f
  simp only at h
  split at h <;> try exact h.elim
  rename_i hf
  have hf' : first = #[] := Array.size_eq_zero_iff.1 hf
  subst hf'
  refine ⟨.func (.func f) #[] (captured.map ρ), w, _, σ, m, loc, .inl (by simp [Instr.makeFunc]), h, ?_, hs, .refl _ _ _ _⟩
  refine .func f _ _ (by simp [evs]) ?_
  intro j x v h1 h2
  simp only [evs, List.getElem?_map, Array.getElem?_toList] at h1
  rw [Array.getElem?_map] at h2
  cases hq : captured[j]? with
  | none => rw [hq] at h2; simp at h2
  | some q => rw [hq] at h1 h2; simp at h1 h2; subst h1; subst h2; exact hρ q
 case makeMap t r =>
  cases r with
  | none => exact (good_mkmap (t := t) hs h).good
  | some r => exact h.elim
 case makeSlice t l c =>
  split at h <;> try exact h.elim
  rename_i e hu
  split at h <;> try exact h.elim
  rename_i i hi
  split at h <;> try exact h.elim
  rename_i z hz
  split at h <;> try exact h.elim
  rename_i hcond
  exact (good_mkslice hs hu hi hz hcond.1 hcond.2 (hρ l) (hρ c) h).good
 case slice t x lo hi mx =>
  split at h
  ·rename_i e hu
   split at h <;> try exact h.elim
   rename_i i hi'
   exact (good_slc hs hu hi' (hρ x) (optRel_map (nt := 0) hρ lo) (optRel_map (nt := 0) hρ hi) (optRel_map (nt := 0) hρ mx) h).good
  ·rename_i hu
   split at h <;> try exact h.elim
   rename_i hm
   have : mx = none := by simpa using hm
   subst this
   exact (good_sstr hs hu (hρ x) (optRel_map (nt := 0) hρ lo) (optRel_map (nt := 0) hρ hi) h).good
  ·exact h.elim
 case fieldAddr t x f =>
  split at h <;> try exact h.elim
  rename_i fs hu
  split at h <;> try exact h.elim
  rename_i fd hf
  split at h <;> try exact h.elim
  rename_i i hi
  split at h <;> try exact h.elim
  rename_i hz
  exact (good_faddr hs hu hf hi hz (hρ x) h).good
 case field t x f =>
  split at h <;> try exact h.elim
  rename_i fs hu
  split at h <;> try exact h.elim
  rename_i fd hf
  split at h <;> try exact h.elim
  rename_i n hn
  exact (good_fieldv hs hu hf hn (hρ x) h).good
 case indexAddr t x i =>
  split at h <;> try exact h.elim
  ·rename_i e hu
   split at h <;> try exact h.elim
   rename_i inf hi
   exact (good_iaddr hs hu hi (hρ x) (hρ i) h).good
  ·rename_i n e hu
   split at h <;> try exact h.elim
   rename_i inf k q hi
   split at h <;> try exact h.elim
   rename_i hq
   have e1 : ρ (.const (.int k q)) = .int k q := by
    have h1 : Rel m loc (.int k q) (ρ (.const (.int k q))) := hρ (.const (.int k q))
    generalize ρ (.const (.int k q)) = v at h1
    cases h1; rfl
   rw [e1]
   exact (good_iaddrA hs hu hi hq.1 hq.2 (hρ x) h).good
 case index t x i =>
  split at h <;> try exact h.elim
  rename_i hu
  exact (good_istr hs hu (hρ x) (hρ i) h).good
 case lookup t mp k ok =>
  split at h <;> try exact h.elim
  rename_i kt et hu
  split at h <;> try exact h.elim
  ·rename_i kk i hkt hi
   split at h <;> try exact h.elim
   rename_i z hz
   exact (good_lookup hs hu hkt rfl hi hz (hρ mp) (hρ k) h).good
  ·rename_i i hkt hi
   split at h <;> try exact h.elim
   rename_i z hz
   exact (good_lookup hs hu hkt rfl hi hz (hρ mp) (hρ k) h).good
 case mapUpdate t mp k v =>
  split at h <;> try exact h.elim
  rename_i kt et hu
  split at h <;> try exact h.elim
  ·rename_i kk hkt
   exact (good_mapup hs hu hkt rfl (hρ mp) (hρ k) (hρ v) h).good
  ·rename_i hkt
   exact (good_mapup hs hu hkt rfl (hρ mp) (hρ k) (hρ v) h).good
 case insert t mp k v =>
  split at h <;> try exact h.elim
  rename_i kt et hu
  split at h <;> try exact h.elim
  ·rename_i kk hkt
   exact (good_mapup hs hu hkt rfl (hρ mp) (hρ k) (hρ v) h).good
  ·rename_i hkt
   exact (good_mapup hs hu hkt rfl (hρ mp) (hρ k) (hρ v) h).good
 case extract t i =>
  exact (good_extract hs (hρ t) h).good
 case makeInterface t x =>
  split at h <;> try exact h.elim
  rename_i d hn hu
  exact (good_mkif hs hu hn (hρ x) h).good
 case typeAssert x xt t ok =>
  split at h <;> try exact h.elim
  rename_i d i hn hu hi
  split at h <;> try exact h.elim
  rename_i z hz
  exact (good_asrt hs hu hn hi hz (hρ x) h).good
 case range t x =>
  split at h <;> try exact h.elim
  rename_i kt et hu
  exact (good_rng hs hu (hρ x) h).good
 case next x b =>
  cases b with
  | true => exact h.elim
  | false => exact (good_nxt hs (hρ x) h).good
 case entry x =>
  exact (good_ent hs (hρ x) h).good
 case call c =>
  obtain ⟨callee, cargs, ctypes⟩ := c
  cases callee with
  | value f => simp [Op.isCall] at hc
  | invoke r n => simp [Op.isCall] at hc
  | builtin b =>
   simp only [cCall] at h
   have args1 : ∀ {x : Operand}, cargs.toList = [x] → cargs = #[x] := fun e => by apply Array.ext'; simpa using e
   have args2 : ∀ {x y : Operand}, cargs.toList = [x, y] → cargs = #[x, y] := fun e => by apply Array.ext'; simpa using e
   have types1 : ∀ {x : TypeId}, ctypes.toList = [x] → ctypes = #[x] := fun e => by apply Array.ext'; simpa using e
   have types2 : ∀ {x y : TypeId}, ctypes.toList = [x, y] → ctypes = #[x, y] := fun e => by apply Array.ext'; simpa using e
   have goalOf : ∀ (s : Sem Value) (vs : Array Value), cargs.map ρ = vs → (∀ consts, builtin b ctypes o.type consts vs = (do pure (.value (← s)) : Sem Next)) →
     GoodV P m loc w K s → Good P m loc w K ((do let d ← resolve ρ { callee := .builtin b, args := cargs, argTypes := ctypes } o.type; invoke d.target d.args : Sem Next).run P w) := by
    intro s' vs hv he hg
    have := hg.good
    simp only [resolve, Sem.run_bind, Sem.run_pure, Result.andThen_ok, invoke]
    rw [hv, he]; exact this
   split at h
   ·-- len
    rename_i t x et ex
    have e1 := types1 et; have e2 := args1 ex; subst e1; subst e2
    split at h <;> try exact h.elim
    ·rename_i hu; exact goalOf _ #[ρ x] (by simp) (fun _ => rfl) (good_len hs hu rfl (hρ x) h)
    ·rename_i hu; exact goalOf _ #[ρ x] (by simp) (fun _ => rfl) (good_len hs hu rfl (hρ x) h)
    ·rename_i hu; exact goalOf _ #[ρ x] (by simp) (fun _ => rfl) (good_len hs hu rfl (hρ x) h)
   ·-- append
    rename_i t u sx x et ex
    have e1 := types2 et; have e2 := args2 ex; subst e1; subst e2
    split at h <;> try exact h.elim
    rename_i e d hu hd
    split at h <;> try exact h.elim
    rename_i i hi
    split at h <;> try exact h.elim
    rename_i z hz
    split at h
    ·rw [if_neg (by simp)] at h; exact h.elim
    ·rename_i hni
     split at h <;> try exact h.elim
     rename_i hcond
     simp only [Bool.true_and, decide_eq_true_eq] at hcond
     exact goalOf _ #[ρ sx, ρ x] (by simp) (fun _ => rfl) (good_append hs hu hd hni hi hz hcond (hρ sx) (hρ x) h)
   ·-- clear
    rename_i t x et ex
    have e1 := types1 et; have e2 := args1 ex; subst e1; subst e2
    split at h <;> try exact h.elim
    rename_i e hu
    split at h <;> try exact h.elim
    rename_i i hi
    split at h <;> try exact h.elim
    rename_i z hz
    exact goalOf _ #[ρ x] (by simp) (fun _ => rfl) (good_clear hs hu hi hz (hρ x) h)
   ·-- copy
    rename_i t u dx x et ex
    have e1 := types2 et; have e2 := args2 ex; subst e1; subst e2
    split at h <;> try exact h.elim
    rename_i e hu
    split at h <;> try exact h.elim
    rename_i i hi
    exact goalOf _ #[ρ dx, ρ x] (by simp) (fun _ => rfl) (good_copy hs hu hi (hρ dx) (hρ x) h)
   ·-- max
    rename_i x y ex
    have e2 := args2 ex; subst e2
    simp only [aI, aMax] at h
    have hx := hρ x; have hy := hρ y
    refine goalOf (Builtin.max_ ctypes o.type #[ρ x, ρ y]) #[ρ x, ρ y] (by simp) (fun _ => rfl) ?_
    generalize aev s (cOpd x) = ax at h hx
    generalize aev s (cOpd y) = ay at h hy
    generalize ρ x = vx at hx
    generalize ρ y = vy at hy
    cases hx <;> cases hy <;> first | exact h.elim | skip
    obtain ⟨rfl, h⟩ := h
    exact .same hs rfl h (.int _ _)
   ·-- min
    rename_i x y ex
    have e2 := args2 ex; subst e2
    simp only [aI, aMin] at h
    have hx := hρ x; have hy := hρ y
    refine goalOf (Builtin.min_ ctypes o.type #[ρ x, ρ y]) #[ρ x, ρ y] (by simp) (fun _ => rfl) ?_
    generalize aev s (cOpd x) = ax at h hx
    generalize aev s (cOpd y) = ay at h hy
    generalize ρ x = vx at hx
    generalize ρ y = vy at hy
    cases hx <;> cases hy <;> first | exact h.elim | skip
    obtain ⟨rfl, h⟩ := h
    exact .same hs rfl h (.int _ _)
   ·exact h.elim
 all_goals exact h.elim
end
end Go.Ahl
namespace Go.Ahl
def dstK (nt : Nat) (s : Slots) (d : Option Nat) (v : AV) (next : Slots → Store → Prop) (σ : Store) : Prop :=
 match d with
 | none => next s σ
 | some d => d < nt ∧ next (put s d v) σ
inductive GV where
 | run
 | skip
 | bad
def guardV (s : Slots) (g : Option (Option Nat × Bool)) : GV :=
 match g with
 | none => .run
 | some (none, _) => .skip
 | some (some t, want) => match lk s t with
  | .bool true => (match want with | true => .run | false => .skip)
  | .bool false => (match want with | true => .skip | false => .run)
  | .tuple [] => .skip
  | _ => .bad
def kont (next : Slots → Store → Prop) (nt : Nat) (d : Option Nat) (s : Slots) : Cont := fun v σ => dstK nt s d v next σ
def stepK (P : Program) (nt : Nat) (o : COp) (next : Slots → Store → Prop) (s : Slots) (σ : Store) : GV → Prop
 | .run => aI P o.op s σ (kont next nt o.dst s)
 | .skip => dstK nt s o.dst unit next σ
 | .bad => False
def aOps (P : Program) (nt : Nat) : List COp → (Slots → Store → Prop) → Slots → Store → Prop
 | [], K, s, σ => K s σ
 | o :: r, K, s, σ => stepK P nt o (aOps P nt r K) s σ (guardV s o.guard)
def Wd (F : Fence) : Prop := F = Fence.wide ∨ ∃ l, F = Fence.wide.inRound l
theorem Wd.fn {F : Fence} (h : Wd F) (f : FuncId) : F.fn f := by
 rcases h with rfl | ⟨l, rfl⟩ <;> trivial
theorem Wd.depth {F : Fence} (h : Wd F) : ¬ F.depth.isSome = true := by
 rcases h with rfl | ⟨l, rfl⟩ <;> simp [Fence.wide, Fence.inRound]
theorem Wd.calls {F : Fence} (h : Wd F) {P : Program} {f : FuncId} {args : Array Value} {w : World} {R : Ending → World → Prop} (hc : Calls P f args w R) : CallsIn F 0 P f args w R := by
 rcases h with rfl | ⟨l, rfl⟩
 ·exact callsIn_wide.2 hc
 ·exact CallsIn.inRound l (callsIn_wide.2 hc)
theorem Wd.rows {F : Fence} (h : Wd F) {P : Program} {row : String} {args : Array Value} {w : World} {R : Value → World → Prop} (hc : Rows P row args w R) : RowsIn F 0 P row args w R := by
 have : RowsIn Fence.wide 0 P row args w R := fun c cs _ => let ⟨v, w', r, s⟩ := hc c cs; ⟨v, w', r, stepsIn_wide.2 s⟩
 rcases h with rfl | ⟨l, rfl⟩
 ·exact this
 ·exact this
theorem Wd.round {F : Fence} (h : Wd F) {P : Program} {l : Nat} {f : FuncId} {tmps : Array Value} {asg body : Code} {w : World} {R : Ending → World → Prop} (hc : RoundIn Fence.wide 0 P l f tmps asg body w R) :
  RoundIn F 0 P l f tmps asg body w R := by
 rcases h with rfl | ⟨l, rfl⟩
 ·exact hc
 ·exact hc
theorem Wd.op {F : Fence} (hF : Wd F) {P : Program} {o : Oper} {a : Act} {w : World} {next : Act → World → Prop} {Q : Exit → Act → World → Prop} (hd : ∀ c, o.op ≠ .defer c) (h : o.wp P a w next Q) : o.wpIn F 0 P a w next Q := by
 refine ⟨fun f _ => hF.fn f, ?_⟩
 rw [Oper.semAt_eq _ _ _ hd]
 unfold Oper.wp at h
 generalize (execOp a.eval o).run P w = r at h ⊢
 cases r with
 | halt x w' => cases x <;> first | exact h | exact h.elim
 | ok n w' =>
  cases n with
  | value v => exact h
  | skip => exact h
  | defer d => exact h
  | enter f args => exact ⟨fun q => absurd q hF.depth, (hF.calls h).mono fun e w'' q => by cases e <;> exact q⟩
  | row r args => exact ⟨fun q => absurd q hF.depth, hF.rows h⟩
  | _ => exact h.elim
section
variable {P : Program} {m : Mem} {loc : List Loc} {σ : Store} {w : World} {nt : Nat} {s : Slots} {a : Act}
theorem wanted_rel (hr : SlotRel m loc nt s a.tmps) {ops : Array Oper} {o : Oper} (h : guardV s (o.guard.map fun (j, b) => ((ops[j]?).bind (·.dst), b)) ≠ .bad) :
  (Region.wanted o (yielded ops a.tmps) = true ∧ guardV s (o.guard.map fun (j, b) => ((ops[j]?).bind (·.dst), b)) = .run) ∨
  (Region.wanted o (yielded ops a.tmps) = false ∧ guardV s (o.guard.map fun (j, b) => ((ops[j]?).bind (·.dst), b)) = .skip) := by
 unfold Region.wanted
 cases hg : o.guard with
 | none => exact .inl ⟨rfl, rfl⟩
 | some g =>
  obtain ⟨j, b⟩ := g
  rw [hg] at h
  simp only [Option.map_some, guardV] at h ⊢
  unfold yielded
  cases hd : (ops[j]?).bind (·.dst) with
  | none => exact .inr ⟨by simp, rfl⟩
  | some t =>
   rw [hd] at h
   simp only at h ⊢
   have hrel := hr.rel t
   have key : ∀ v, a.tmps.getD t undef = v → v ≠ undef → a.tmps[t]? = some v := by
    intro v e hv
    rw [Array.getD_eq_getD_getElem?] at e
    cases hq : a.tmps[t]? with
    | none => rw [hq] at e; exact absurd e.symm hv
    | some u => rw [hq] at e; simp at e; rw [e]
   simp only [Option.bind_some]
   split at h
   ·rename_i e
    rw [e] at hrel
    have hv : a.tmps.getD t undef = .bool true := by generalize a.tmps.getD t undef = v at hrel; cases hrel; rfl
    rw [key _ hv (by simp [undef])]
    cases b
    ·exact .inr ⟨rfl, rfl⟩
    ·exact .inl ⟨rfl, rfl⟩
   ·rename_i e
    rw [e] at hrel
    have hv : a.tmps.getD t undef = .bool false := by generalize a.tmps.getD t undef = v at hrel; cases hrel; rfl
    rw [key _ hv (by simp [undef])]
    cases b
    ·exact .inl ⟨rfl, rfl⟩
    ·exact .inr ⟨rfl, rfl⟩
   ·rename_i e
    rw [e] at hrel
    have hv : a.tmps.getD t undef = .tuple #[] := by
     generalize a.tmps.getD t undef = v at hrel
     cases hrel with
     | tuple cs vs hl hr => have : vs = #[] := Array.size_eq_zero_iff.1 hl; rw [this]
    refine .inr ⟨?_, rfl⟩
    cases hq : a.tmps[t]? with
    | none => cases b <;> rfl
    | some u =>
     rw [Array.getD_eq_getD_getElem?, hq] at hv
     simp at hv; subst hv
     cases b <;> rfl
   ·exact absurd rfl h
theorem put_rel (hr : SlotRel m loc nt s a.tmps) {d : Option Nat} {v : AV} {u : Value} {K : Slots → Store → Prop} (h : dstK nt s d v K σ) (hv : Rel m loc v u) :
  ∃ s', K s' σ ∧ SlotRel m loc nt s' (a.put d u).tmps ∧ (a.put d u).defers = a.defers := by
 cases d with
 | none => exact ⟨s, h, hr, rfl⟩
 | some d => exact ⟨_, h.2, hr.put h.1 hv, rfl⟩
theorem call_upon {o : Oper} {f : Operand} {args : Array Operand} {ts : Array TypeId} {K : Cont} {next : Act → World → Prop} {Q : Exit → Act → World → Prop} (hs : SRel m loc σ w) (hr : SlotRel m loc nt s a.tmps)
  (ho : o.op = .call { callee := .value f, args := args, argTypes := ts }) (h : aI P (.call (cOpd f) (args.toList.map cOpd)) s σ K)
  (hn : ∀ x σ' m' loc' v w', K x σ' → Rel m' loc' x v → SRel m' loc' σ' w' → Ext loc.length m loc w m' loc' w' → next (a.put o.dst v) w') : o.wp P a w next Q := by
 have hρ := fun x => rel_cOpd hr x
 simp only [aI] at h
 have hf := hρ f
 generalize aev s (cOpd f) = af at h hf
 cases hfe : a.eval f <;> rw [hfe] at hf <;> cases hf <;> try exact h.elim
 rename_i vs g c hlen hrel
 have hargs : ArgsRel m loc (evs s (args.toList.map cOpd) ++ c) (args.map a.eval ++ vs) := by
  refine ⟨by simp [evs, hlen], ?_⟩
  intro j x v h1 h2
  have hl1 : (evs s (args.toList.map cOpd)).length = args.size := by simp [evs]
  by_cases hj : j < args.size
  ·rw [List.getElem?_append_left (by rw [hl1]; exact hj)] at h1
   rw [Array.getElem?_append_left (by simpa using hj)] at h2
   simp only [evs, List.getElem?_map, Array.getElem?_toList] at h1
   rw [Array.getElem?_map] at h2
   cases hq : args[j]? with
   | none => rw [hq] at h2; simp at h2
   | some q => rw [hq] at h1 h2; simp at h1 h2; subst h1; subst h2; exact hρ q
  ·rw [List.getElem?_append_right (by rw [hl1]; omega), hl1] at h1
   rw [Array.getElem?_append_right (by simp; omega)] at h2
   simp only [Array.size_map] at h2
   exact hrel _ x v h1 h2
 have hrun : (execOp a.eval o).run P w = (callFunc g (args.map a.eval ++ vs)).run P w := by
  unfold execOp
  rw [ho]
  simp only [resolve, hfe, Deferred.ofValue, Sem.run_bind, Sem.run_pure, Result.andThen_ok, invoke]
  simp
 unfold Oper.wp
 rw [hrun]
 rcases h m loc w _ hs hargs with ⟨fn, h1, h2, h3, h4⟩ | ⟨v, w', h1, r, σ', m', loc', h2, h3, h4, h5⟩
 ·have he : (callFunc g (args.map a.eval ++ vs)).run P w = .ok (.enter g (args.map a.eval ++ vs)) w := by
   unfold callFunc
   have hp : (program : Sem Program).run P w = .ok P w := rfl
   rw [Sem.run_bind, hp]
   simp only [Result.andThen_ok, h1]
   have hb : fn.body.isNone = false := by cases hb : fn.body <;> rw [hb] at h2 <;> simp at h2 ⊢
   rw [if_neg (by simpa using h3), hb]
   rfl
  rw [he, Oper.upon_enter]
  refine h4.mono fun e w' ⟨v, hv, r, σ', m', loc', q1, q2, q3, q4⟩ => ?_
  subst hv
  exact hn r σ' m' loc' v w' q1 q2 q3 q4
 ·rw [h1, Oper.upon_value]
  exact hn r σ' m' loc' v w' h2 h3 h4 h5
theorem find_table {P : Program} {name : String} {t : TypeId} {q : TypeId × FuncId × Option (Option Nat)} (h : (invTable P name).find? (fun q => q.1 == t) = some q) : invOne P name t = some q := by
 have h1 := List.mem_of_find?_eq_some h
 have h2 := List.find?_some h
 obtain ⟨t', _, h3⟩ := List.mem_filterMap.1 h1
 have h4 : q.1 = t' := by
  unfold invOne at h3
  repeat' (split at h3)
  all_goals first | (simp at h3; done) | (injection h3 with h3; rw [← h3])
 have h5 : q.1 = t := by simpa using h2
 rw [← h4, h5] at h3
 exact h3
theorem method_run {P : Program} {w : World} {name : String} {t : TypeId} {f : FuncId} {how : Option (Option Nat)} {v : Value} {args : Array Value} (h : invOne P name t = some (t, f, how)) :
  (how = none ∧ (callMethod (.iface t v) name args).run P w = (callFunc f (#[v] ++ args)).run P w) ∨
  ∃ n e, how = some n ∧ aggSize P e = some n ∧ ∀ a u, v = .pointer (some a) → (Instr.loadAt e v).run P w = .ok u w → (callMethod (.iface t v) name args).run P w = (callFunc f (#[u] ++ args)).run P w := by
 unfold invOne at h
 split at h
 ·rename_i i hi
  split at h
  ·rename_i mth hm
   split at h
   ·rename_i hpe
    have hpath : mth.path.toList = [] := by simpa using hpe
    have hpath2 : mth.path.isEmpty = true := by
     rw [← Array.isEmpty_toList, hpath]; rfl
    have hfuel : P.types.size + Made.depth = (P.types.size + 99) + 1 := rfl
    have hstart : ∀ pr, mth.func = some (f, pr) → ∀ u, (receiverAt t (.val v) pr (some ((name.splitOn ".").getLastD name))).run P w = .ok u w → (callMethod (.iface t v) name args).run P w = (callFunc f (#[u] ++ args)).run P w := by
     intro pr hf u hu
     have hp : (program : Sem Program).run P w = .ok P w := rfl
     have hmeth : (method (P.types.size + 99 + 1) t v name).run P w = .ok (f, u) w := by
      rw [method]
      simp only [Sem.run_bind, run_info hi, Result.andThen_ok, hm, hpath, follow, Sem.run_pure, hf, hpath2, if_true, hu]
     unfold callMethod
     simp only [Sem.run_bind, hp, Result.andThen_ok]
     rw [show P.types.size + Made.depth = P.types.size + 99 + 1 from rfl, hmeth]
     rfl
    split at h
    ·rename_i f' e hf hu
     injection h with h; injection h with h1 h2; injection h2 with h2 h3
     subst h2
     refine .inl ⟨h3.symm, hstart true hf v ?_⟩
     unfold receiverAt
     simp only [Sem.run_bind, run_underlying hu, Result.andThen_ok, Place.get, Sem.run_pure]
    ·rename_i f' e hf hu
     split at h
     ·rename_i n hn
      injection h with h; injection h with h1 h2; injection h2 with h2 h3
      subst h2
      refine .inr ⟨n, e, h3.symm, hn, fun a u hv hl => hstart false hf u ?_⟩
      subst hv
      unfold receiverAt
      simp only [Sem.run_bind, run_underlying hu, Result.andThen_ok, Place.get, Sem.run_pure]
      exact hl
     ·simp at h
    ·rename_i f' d hnp hf hu
     injection h with h; injection h with h1 h2; injection h2 with h2 h3
     subst h2
     refine .inl ⟨h3.symm, hstart false hf v ?_⟩
     unfold receiverAt
     cases d <;> first | exact absurd rfl (hnp _) | simp only [Sem.run_bind, run_underlying hu, Result.andThen_ok, Place.get, Sem.run_pure]
    ·simp at h
   ·simp at h
  ·simp at h
 ·simp at h
theorem run_upon {o : Oper} {f : FuncId} {avs : List AV} {vs : Array Value} {K : Cont} {next : Act → World → Prop} {Q : Exit → Act → World → Prop} (hs : SRel m loc σ w)
  (hrun : (execOp a.eval o).run P w = (callFunc f vs).run P w) (hargs : ArgsRel m loc avs vs) (h : ACalls P f avs σ K)
  (hn : ∀ x σ' m' loc' v w', K x σ' → Rel m' loc' x v → SRel m' loc' σ' w' → Ext loc.length m loc w m' loc' w' → next (a.put o.dst v) w') : o.wp P a w next Q := by
 unfold Oper.wp
 rw [hrun]
 rcases h m loc w _ hs hargs with ⟨fn, h1, h2, h3, h4⟩ | ⟨v, w', h1, r, σ', m', loc', h2, h3, h4, h5⟩
 ·have he : (callFunc f vs).run P w = .ok (.enter f vs) w := by
   unfold callFunc
   have hp : (program : Sem Program).run P w = .ok P w := rfl
   rw [Sem.run_bind, hp]
   simp only [Result.andThen_ok, h1]
   have hb : fn.body.isNone = false := by cases hb : fn.body <;> rw [hb] at h2 <;> simp at h2 ⊢
   rw [if_neg (by simpa using h3), hb]
   rfl
  rw [he, Oper.upon_enter]
  refine h4.mono fun e w' ⟨v, hv, r, σ', m', loc', q1, q2, q3, q4⟩ => ?_
  subst hv
  exact hn r σ' m' loc' v w' q1 q2 q3 q4
 ·rw [h1, Oper.upon_value]
  exact hn r σ' m' loc' v w' h2 h3 h4 h5
theorem args_cons (hr : SlotRel m loc nt s a.tmps) (args : Array Operand) {x : AV} {v : Value} (hv : Rel m loc x v) : ArgsRel m loc (x :: evs s (args.toList.map cOpd)) (#[v] ++ args.map a.eval) := by
 refine ⟨by simp [evs]; omega, ?_⟩
 intro j y u h1 h2
 cases j with
 | zero =>
  rw [Array.getElem?_append_left (by simp)] at h2
  simp at h1 h2
  rw [← h1, ← h2]; exact hv
 | succ j =>
  rw [Array.getElem?_append_right (by simp)] at h2
  simp only [List.getElem?_cons_succ, evs, List.getElem?_map, Array.getElem?_toList] at h1
  simp only [List.size_toArray, List.length_cons, List.length_nil, Nat.zero_add, Nat.add_sub_cancel, Array.getElem?_map] at h2
  cases hq : args[j]? with
  | none => rw [hq] at h2; simp at h2
  | some q => rw [hq] at h1 h2; simp at h1 h2; subst h1; subst h2; exact rel_cOpd hr q
theorem inv_upon {o : Oper} {r : Operand} {name : String} {args : Array Operand} {ts : Array TypeId} {K : Cont} {next : Act → World → Prop} {Q : Exit → Act → World → Prop} (hs : SRel m loc σ w) (hr : SlotRel m loc nt s a.tmps)
  (ho : o.op = .call { callee := .invoke r name, args := args, argTypes := ts }) (h : aI P (.inv (invTable P name) (cOpd r) (args.toList.map cOpd)) s σ K)
  (hn : ∀ x σ' m' loc' v w', K x σ' → Rel m' loc' x v → SRel m' loc' σ' w' → Ext loc.length m loc w m' loc' w' → next (a.put o.dst v) w') : o.wp P a w next Q := by
 simp only [aI] at h
 have hf := rel_cOpd (m := m) (loc := loc) hr r
 generalize aev s (cOpd r) = af at h hf
 cases af <;> try exact h.elim
 rename_i t x
 generalize hfe : a.eval r = rv at hf
 cases hf
 rename_i v hv
 have hex : (execOp a.eval o).run P w = (callMethod (.iface t v) name (args.map a.eval)).run P w := by
  unfold execOp
  rw [ho]
  simp only [resolve, hfe, Sem.run_bind, Sem.run_pure, Result.andThen_ok, invoke]
  have e0 : (#[Value.iface t v] ++ args.map a.eval)[0]? = some (.iface t v) := by rw [Array.getElem?_append_left (by simp)]; rfl
  have e1 : (#[Value.iface t v] ++ args.map a.eval).extract 1 (#[Value.iface t v] ++ args.map a.eval).size = args.map a.eval := by
   apply Array.ext'
   simp
   rw [List.take_of_length_le (by simp)]
  rw [e0]
  simp only [e1]
 simp only [aInv] at h
 split at h
 ·rename_i t0 f hq
  have ht0 : t0 = t := by have := List.find?_some hq; simpa using this
  subst ht0
  rcases method_run (P := P) (w := w) (v := v) (args := args.map a.eval) (find_table hq) with ⟨_, hrun⟩ | ⟨n, e, q, _⟩
  ·exact run_upon hs (hex.trans hrun) (args_cons hr args hv) h hn
  ·simp at q
 ·rename_i t0 f n hq
  have ht0 : t0 = t := by have := List.find?_some hq; simpa using this
  subst ht0
  rcases method_run (P := P) (w := w) (v := v) (args := args.map a.eval) (find_table hq) with ⟨q, _⟩ | ⟨n', e, q, hagg, hrun⟩
  ·simp at q
  ·injection q with q
   subst q
   have hptr : ∃ ad, v = .pointer (some ad) := by
    cases hv <;> first | exact h.elim | exact ⟨_, rfl⟩
   obtain ⟨ad, hptr⟩ := hptr
   obtain ⟨u, y, q1, q2, q3⟩ := same_load (K := fun y σ => ACalls P f (y :: evs s (args.toList.map cOpd)) σ K) hs hagg hv h
   exact run_upon hs (hex.trans (hrun ad u hptr q1)) (args_cons hr args q3) q2 hn
 ·exact h.elim
theorem op_upon {o : Oper} {own : Bool} {K : Cont} {next : Act → World → Prop} {Q : Exit → Act → World → Prop} (hs : SRel m loc σ w) (hr : SlotRel m loc nt s a.tmps) (h : aI P (cOp P own o.op) s σ K)
  (hn : ∀ x σ' m' loc' v w', K x σ' → Rel m' loc' x v → SRel m' loc' σ' w' → Ext loc.length m loc w m' loc' w' → next (a.put o.dst v) w') : o.wp P a w next Q := by
 cases hc : Op.isCall o.op with
 | false =>
  obtain ⟨v, w', x, σ', m', loc', h1, h2, h3, h4, h5⟩ := op_good hs (fun x => rel_cOpd hr x) hc h
  unfold Oper.wp
  rcases h1 with h1 | ⟨h1, rfl⟩
  ·rw [h1, Oper.upon_value]; exact hn x σ' m' loc' v w' h2 h3 h4 h5
  ·rw [h1, Oper.upon_skip]; exact hn x σ' m' loc' undef w' h2 h3 h4 h5
 | true =>
  cases ho : o.op <;> rw [ho] at hc <;> simp [Op.isCall] at hc
  rename_i c
  obtain ⟨callee, cargs, ctypes⟩ := c
  cases callee <;> simp at hc
  ·rename_i f
   rw [ho] at h
   exact call_upon hs hr ho h hn
  ·rename_i r name
   rw [ho] at h
   exact inv_upon hs hr ho h hn
theorem op_uponI {F : Fence} (hF : Wd F) {o : Oper} {own : Bool} {K : Cont} {next : Act → World → Prop} {Q : Exit → Act → World → Prop} (hs : SRel m loc σ w) (hr : SlotRel m loc nt s a.tmps) (h : aI P (cOp P own o.op) s σ K)
  (hn : ∀ x σ' m' loc' v w', K x σ' → Rel m' loc' x v → SRel m' loc' σ' w' → Ext loc.length m loc w m' loc' w' → next (a.put o.dst v) w') : o.wpIn F 0 P a w next Q :=
 hF.op (by intro c e; rw [e] at h; exact h) (op_upon hs hr h hn)
theorem args_rel (hr : SlotRel m loc nt s a.tmps) (args : Array Operand) : ArgsRel m loc (evs s (args.toList.map cOpd)) (args.map a.eval) := by
 refine ⟨by simp [evs], ?_⟩
 intro j x v h1 h2
 simp only [evs, List.getElem?_map, Array.getElem?_toList] at h1
 rw [Array.getElem?_map] at h2
 cases hq : args[j]? with
 | none => rw [hq] at h2; simp at h2
 | some q => rw [hq] at h1 h2; simp at h1 h2; subst h1; subst h2; exact rel_cOpd hr q
theorem yield_upon {F : Fence} (hF : Wd F) {o : Oper} {f : Operand} {args : Array Operand} {ts : Array TypeId} {K : Cont} {next : Act → World → Prop} {Q : Exit → Act → World → Prop} (hs : SRel m loc σ w) (hr : SlotRel m loc nt s a.tmps)
  (ho : o.op = .call { callee := .value f, args := args, argTypes := ts }) (h : aI P (.callY (cOpd f) (args.toList.map cOpd)) s σ K)
  (hn : ∀ x σ' m' loc' v w', K x σ' → Rel m' loc' x v → SRel m' loc' σ' w' → Ext loc.length m loc w m' loc' w' → next (a.put o.dst v) w') : o.wpIn F 0 P a w next Q := by
 have hρ := fun x => rel_cOpd hr x
 simp only [aI] at h
 have hf := hρ f
 generalize aev s (cOpd f) = af at h hf
 cases hfe : a.eval f <;> rw [hfe] at hf <;> cases hf <;> try exact h.elim
 rename_i id b hl
 have hargs := args_rel hr args
 obtain ⟨l, r, h1, h2, h3, h4⟩ := h m loc w _ hs hargs
 rw [hl] at h1; injection h1 with h1; injection h1 with h1; subst h1
 have hrun : (execOp a.eval o).run P w = .ok (.round b r.fn ((r.params.zip (args.map a.eval)).foldl (fun tmps (t, a) => tmps.setIfInBounds t a) r.tmps) r.assign r.body) w := by
  unfold execOp
  rw [ho]
  simp only [resolve, hfe, Deferred.ofValue, Sem.run_bind, Sem.run_pure, Result.andThen_ok, invoke]
  have q := run_yield (P := P) h2 h3
  simp only [Array.empty_append]
  exact q
 refine ⟨fun f _ => hF.fn f, ?_⟩
 rw [Oper.semAt_eq _ _ _ (by intro c e; rw [ho] at e; simp at e), hrun]
 refine ⟨fun q => absurd q hF.depth, hF.round (h4.mono ?_)⟩
 rintro e w' ⟨v, rfl, x, σ', m', loc', q1, q2, q3, q4⟩
 exact hn x σ' m' loc' v w' q1 q2 q3 q4
theorem cCall_app {c : Call} {o o' : Bool} {e b : Nat} {u x : Opd} (hj : cCall P c o = .bappend e b u x o') : o' = o ∧ ∃ y, x = cOpd y := by
 unfold cCall at hj
 (repeat' split at hj) <;> first | (injection hj with h1 h2 h3 h4 h5; exact ⟨h5.symm, _, h4.symm⟩) | (simp at hj; done)
theorem op_upon' {F : Fence} (hF : Wd F) {H : Hints} {r i : Nat} {o : Oper} {K : Cont} {next : Act → World → Prop} {Q : Exit → Act → World → Prop} (hs : SRel m loc σ w) (hr : SlotRel m loc nt s a.tmps) (h : aI P (opAt P H r i o.op) s σ K)
  (hn : ∀ x σ' m' loc' v w', K x σ' → Rel m' loc' x v → SRel m' loc' σ' w' → Ext loc.length m loc w m' loc' w' → next (a.put o.dst v) w') : o.wpIn F 0 P a w next Q := by
 unfold opAt at h
 split at h
 ·have hy : ∀ (j : AI), aI P (yieldOf j) s σ K → (∃ f xs, j = .call f xs ∧ aI P (.callY f xs) s σ K) ∨ aI P j s σ K := by
   intro j hj
   cases j <;> first | exact .inl ⟨_, _, rfl, hj⟩ | exact .inr hj
  rcases hy _ h with ⟨f, xs, hj, h1⟩ | h1
  ·have : ∃ g args ts, o.op = .call { callee := .value g, args := args, argTypes := ts } ∧ f = cOpd g ∧ xs = args.toList.map cOpd := by
    revert hj
    generalize o.op = op
    intro hj
    cases op <;> (try simp only [cOp] at hj) <;> (repeat' split at hj) <;> first
     | (simp at hj; done)
     | (unfold cCall at hj; (repeat' split at hj) <;> first | (simp at hj; done) | (rename_i heq; exact absurd heq (by simp)) | (rename_i heq _ _ _; exact absurd heq (by simp)) | (rename_i g hc; injection hj with e1 e2; exact ⟨g, _, _, by rw [← hc], e1.symm, e2.symm⟩))
   obtain ⟨g, args, ts, ho, rfl, rfl⟩ := this
   exact yield_upon hF hs hr ho h1 hn
  ·exact op_uponI hF hs hr h1 hn
 split at h
 ·have hcold : ∀ (j : AI), aI P (coldOf j) s σ K → (∃ esz xs own, j = .bslice esz xs own ∧ aI P (.bsliceC esz xs) s σ K) ∨ (∃ esz b u x own, j = .bappend esz b u x own ∧ aI P (.bappendC esz b u x) s σ K) ∨ aI P j s σ K := by
   intro j hj
   cases j <;> first | exact .inl ⟨_, _, _, rfl, hj⟩ | exact .inr (.inl ⟨_, _, _, _, _, rfl, hj⟩) | exact .inr (.inr hj)
  rcases hcold _ h with ⟨esz, xs, own, hj, h1⟩ | ⟨esz, by_, u, x, own, hj, h1⟩ | h1
  ·have hown : own = false ∧ ∀ q ∈ xs, ∃ y, q = cOpd y := by
    revert hj
    generalize o.op = op
    intro hj
    have hbs : ∀ (parts : Array (Nat × Operand)), ∀ q ∈ parts.toList.map (cOpd ·.2), ∃ y, q = cOpd y := fun parts q hq => by
     obtain ⟨p, _, rfl⟩ := List.mem_map.1 hq; exact ⟨_, rfl⟩
    cases op <;> (try simp only [cOp] at hj) <;> (repeat' split at hj) <;> first | (injection hj with h1 h2 h3; exact ⟨h3.symm, h2 ▸ hbs _⟩) | (exfalso; unfold cCall at hj; (repeat' split at hj) <;> simp at hj; done) | (simp at hj; done)
   obtain ⟨hown, hxs⟩ := hown
   subst hown
   simp only [aI] at h1
   cases hc : cellsAll (evs s xs) with
   | none => rw [hc] at h1; exact h1.elim
   | some es =>
    rw [hc] at h1
    refine op_uponI hF (own := false) (K := fun v σ' => v = .slice (.grow σ.length) es ∧ σ' = σ ++ [.grow esz es.length]) hs hr ?_ ?_
    ·rw [hj]; simp only [aI, hc, Bool.false_eq_true, if_false]; exact ⟨h1.1, by simp⟩
    ·rintro x σ' m' loc' v w' ⟨rfl, rfl⟩ q2 q3 q4
     have hids : ∀ (i : Nat) e, es[i]? = some e → ∀ (j : Nat) x, e[j]? = some x → Ids σ.length x := by
      intro i e he k y hy
      have hl : σ.length = loc.length := hs.len.symm
      rw [hl]
      have hA : ∀ (vs : List AV) (es : List (List AV)), cellsAll vs = some es → (∀ v ∈ vs, Ids loc.length v) → ∀ e ∈ es, ∀ y ∈ e, Ids loc.length y := by
       intro vs
       induction vs with
       | nil => intro es h _ e he; simp [cellsAll] at h; subst h; simp at he
       | cons v r ih =>
        intro es h hv e he
        simp only [cellsAll] at h
        cases h1 : cellsOf v with
        | none => rw [h1] at h; simp at h
        | some c =>
         cases h2 : cellsAll r with
         | none => rw [h1, h2] at h; simp at h
         | some cs =>
          rw [h1, h2] at h
          simp only [Option.some.injEq] at h
          subst h
          rcases List.mem_cons.1 he with rfl | he
          ·intro y hy
           have hvv := hv v List.mem_cons_self
           cases v with
           | agg cs' =>
            simp only [cellsOf, Option.some.injEq] at h1; subst h1
            cases hvv with | agg _ hh =>
            obtain ⟨n, hn, rfl⟩ := List.mem_iff_getElem.1 hy
            exact hh n _ (List.getElem?_eq_getElem hn)
           | any => simp [cellsOf] at h1
           | tuple _ => simp [cellsOf] at h1
           | conc u =>
            simp only [cellsOf] at h1
            split at h1
            ·simp only [Option.some.injEq] at h1; subst h1; simp at hy; subst hy; exact .conc _
            ·simp at h1
           | _ => simp only [cellsOf, Option.some.injEq] at h1; subst h1; simp at hy; subst hy; exact hvv
          ·exact ih cs h2 (fun u hu => hv u (List.mem_cons_of_mem _ hu)) e he
      refine hA _ es hc ?_ e (List.mem_of_getElem? he) y (List.mem_of_getElem? hy)
      intro v hv
      unfold evs at hv
      obtain ⟨q, hq, rfl⟩ := List.mem_map.1 hv
      obtain ⟨y, rfl⟩ := hxs q hq
      exact (rel_cOpd hr y).ids
     refine hn (.slice .unk es) σ m' (loc'.take σ.length) v w' h1.2 ?_ ?_ ?_
     ·have q2' : Rel m' loc' (.slice .unk es) v := by
       cases q2 with
       | slice tok elems a cap sz b o f hcap htok hsz ha hc hr => exact .slice .unk es a cap sz b o f hcap trivial hsz ha hc hr
      exact q2'.take (.slice _ _ (by simp) hids)
     ·have := q3.take σ.length (by rw [List.take_left']; exact hs.ids; rfl)
      rwa [List.take_left' rfl] at this
     ·exact (q4.trans (Ext.take m' loc' w' σ.length (by rw [hs.len]; exact Nat.le_refl _)))
  ·have hown : own = false ∧ (∃ y, x = cOpd y) := by
    revert hj
    generalize o.op = op
    intro hj
    cases op <;> (try simp only [cOp] at hj) <;> (repeat' split at hj) <;> first | exact cCall_app hj | (simp at hj; done) | (rename_i hq; simp at hq; done)
   obtain ⟨hown, y, hy⟩ := hown
   subst hown; subst hy
   simp only [aI] at h1
   have hxr := rel_cOpd hr y
   unfold aAppendC at h1
   split at h1
   ·rename_i e1 e2
    rename_i ys
    obtain ⟨g1, g2, g3, g4⟩ := h1
    refine op_uponI hF (own := false) (K := fun v σ' => v = .slice (.grow σ.length) ys ∧ σ' = σ ++ [.grow esz ys.length]) hs hr ?_ ?_
    ·rw [hj]
     simp only [aI, aAppend, e1, e2, elemsOf, appC]
     exact ⟨g1, g2, g3, by simp⟩
    ·rintro x σ' m' loc' v w' ⟨rfl, rfl⟩ q2 q3 q4
     have hids : ∀ (i : Nat) e, ys[i]? = some e → ∀ (j : Nat) x, e[j]? = some x → Ids σ.length x := by
      intro i e he k z hz
      rw [e2] at hxr
      have := hxr.ids
      rw [hs.len] at this
      cases this with | slice _ _ _ hh => exact hh i e he k z hz
     refine hn (.slice .fresh ys) σ m' (loc'.take σ.length) v w' g4 ?_ ?_ ?_
     ·have q2' : Rel m' loc' (.slice .fresh ys) v := by
       cases q2 with
       | slice tok elems a cap sz b o f hcap htok hsz ha hc hr =>
        refine .slice .fresh ys a cap sz b o f hcap ?_ hsz ha hc hr
        obtain ⟨sz', f', t1, t2, t3⟩ := htok
        intro h0 b' o' e
        rcases t3 with ⟨_, rfl⟩ | ⟨bb, n, p1, p2, p3, p4, p5⟩
        ·omega
        ·rw [p2] at e; injection e with e; injection e with e; subst e; exact p5
      exact q2'.take (.slice _ _ (by simp) hids)
     ·have := q3.take σ.length (by rw [List.take_left']; exact hs.ids; rfl)
      rwa [List.take_left' rfl] at this
     ·exact (q4.trans (Ext.take m' loc' w' σ.length (by rw [hs.len]; exact Nat.le_refl _)))
   ·exact h1.elim
  ·exact op_uponI hF hs hr h1 hn
 ·split at h
  ·have hl : ∀ (j : AI), aI P (loudOf j) s σ K → aI P j s σ K := by
    intro j hj; cases j <;> exact hj
   exact op_uponI hF hs hr (hl _ h) hn
  ·exact op_uponI hF hs hr h hn
theorem Ext.len {n0 : Nat} {m' : Mem} {loc' : List Loc} {w' : World} (h : Ext n0 m loc w m' loc' w') (hn : n0 ≤ loc.length) : n0 ≤ loc'.length := by
 cases n0 with
 | zero => omega
 | succ n =>
  obtain ⟨l', e, _⟩ := h.keep n _ (by omega) (List.getElem?_eq_getElem (by omega))
  have := lt_of_get e; omega
theorem ops_sound {F : Fence} (hF : Wd F) (H : Hints) (r : Nat) (ops : Array Oper) (d : Bool) {D : List Deferred} {Q : Exit → Act → World → Prop} : ∀ (l : List Nat) (m : Mem) (loc : List Loc) (σ : Store) (w : World) (s : Slots) (a : Act) (K : Slots → Store → Prop),
  (∀ i ∈ l, i < ops.size) → aOps P nt (l.map (cAt P H r ops d)) K s σ → SRel m loc σ w → SlotRel m loc nt s a.tmps → a.defers = D →
  (∀ s' σ' m' loc' a' w', K s' σ' → SRel m' loc' σ' w' → SlotRel m' loc' nt s' a'.tmps → a'.defers = D → Ext loc.length m loc w m' loc' w' → Q .normal a' w') →
  wpOpsIn F 0 P ops Q l a w
 | [], m, loc, σ, w, s, a, K, _, h, hs, hr, hd, hq => hq s σ m loc a w h hs hr hd (.refl _ _ _ _)
 | i :: l, m, loc, σ, w, s, a, K, hi, h, hs, hr, hd, hq => by
  obtain ⟨o, ho⟩ : ∃ o, ops[i]? = some o := ⟨_, Array.getElem?_eq_getElem (hi i List.mem_cons_self)⟩
  simp only [List.map_cons, aOps, cAt, ho] at h
  simp only [wpOpsIn, ho]
  have hnext : ∀ v u σ' m' loc' w', dstK nt s o.dst v (aOps P nt (l.map (cAt P H r ops d)) K) σ' → Rel m' loc' v u → SRel m' loc' σ' w' → Ext loc.length m loc w m' loc' w' →
    wpOpsIn F 0 P ops Q l (a.put o.dst u) w' := by
   intro v u σ' m' loc' w' hk hv hs' he
   obtain ⟨s', k1, k2, k3⟩ := put_rel (hr.ext he) hk hv
   refine ops_sound hF H r ops d l m' loc' σ' w' s' _ K (fun j hj => hi j (List.mem_cons_of_mem _ hj)) k1 hs' k2 (k3.trans hd) ?_
   intro s2 σ2 m2 loc2 a2 w2 q1 q2 q3 q4 q5
   exact hq s2 σ2 m2 loc2 a2 w2 q1 q2 q3 q4 (he.trans (q5.less (he.len (Nat.le_refl _))))
  have hg : guardV s (o.guard.map fun (j, b) => ((ops[j]?).bind (·.dst), b)) ≠ .bad := by
   intro e; rw [e] at h; exact h
  rcases wanted_rel hr hg with ⟨hw, hrun⟩ | ⟨hw, hskip⟩
  ·rw [hrun] at h
   rw [if_pos hw]
   refine op_upon' hF hs hr h ?_
   intro x σ' m' loc' v w' q1 q2 q3 q4
   exact hnext x v σ' m' loc' w' q1 q2 q3 q4
  ·rw [hskip] at h
   rw [if_neg (by rw [hw]; simp)]
   refine ⟨fun f _ => hF.fn f, ?_⟩
   exact hnext unit undef σ m loc w h (.tuple [] #[] rfl (by simp)) hs (.refl _ _ _ _)
end
end Go.Ahl
namespace Go.Ahl
def isR (v : AV) (σ : Store) : Cont := fun v1 σ1 => v1 = v ∧ σ1 = σ
def callD (P : Program) (args : List AV) (σ : Store) (K : Cont) : AV → Prop
 | .func g c => ∃ v, ACalls P g (args ++ c) σ (isR v σ) ∧ K v σ
 | _ => False
def callED (P : Program) (args : List AV) (σ : Store) (K : Cont) : AV → Prop
 | .func g c => ∃ v σ', ACalls P g (args ++ c) σ (isR v σ') ∧ K v σ'
 | _ => False
def dK (P : Program) (i : AI) (s : Slots) (σ : Store) (K : Cont) : Prop := match i with | .call f args => callD P (evs s args) σ K (aev s f) | .callE f args => callED P (evs s args) σ K (aev s f) | i => aI P i s σ K
def stepD (P : Program) (nt : Nat) (o : COp) (next : Slots → Store → Prop) (s : Slots) (σ : Store) : GV → Prop
 | .run => dK P o.op s σ (kont next nt o.dst s)
 | .skip => dstK nt s o.dst unit next σ
 | .bad => False
def aOpsD (P : Program) (nt : Nat) : List COp → (Slots → Store → Prop) → Slots → Store → Prop
 | [], K, s, σ => K s σ
 | o :: r, K, s, σ => stepD P nt o (aOpsD P nt r K) s σ (guardV s o.guard)
def opdTmps : List Opd → List Nat
 | [] => []
 | .tmp t :: r => t :: opdTmps r
 | _ :: r => opdTmps r
def AI.opds : AI → List Opd
 | .move x | .box x | .load _ x | .nilck x | .un _ x | .conv _ x | .faddr _ x | .fieldv _ _ x | .extract x _ | .blen _ x | .bclear _ x | .bstr x | .rng x | .nxt x | .ent x | .mkif _ x | .asrt _ _ x _ => [x]
 | .pick c a b => [c, a, b]
 | .alloc _ | .mkmap | .bad => []
 | .build _ ps => ps.map (·.2.2)
 | .bslice _ xs _ => xs
 | .bsliceC _ xs => xs
 | .bappendC _ _ a x => [a, x]
 | .store _ a x | .bin _ _ a x | .iaddr _ a x | .istr a x | .mkslice _ _ _ a x _ | .bappend _ _ a x _ | .bcopy _ a x | .bmax a x | .bmin a x => [a, x]
 | .mkfunc _ c => c
 | .slc _ x lo hi mx => x :: (lo.toList ++ hi.toList ++ mx.toList)
 | .sstr x lo hi => x :: (lo.toList ++ hi.toList)
 | .lookup _ _ m k _ => [m, k]
 | .mapup _ m k v => [m, k, v]
 | .call f args | .callE f args | .callY f args => f :: args
 | .inv _ x args => x :: args
def AI.rank : AI → Nat
 | .bsliceC .. | .bappendC .. | .move _ | .pick .. | .build .. | .nilck _ | .un .. | .conv .. | .mkfunc .. | .slc .. | .sstr .. | .faddr .. | .fieldv .. | .iaddr .. | .istr .. | .extract .. | .bmax .. | .bmin .. | .mkif .. | .asrt .. => 0
 | .bin _ .slice _ _ => 3
 | .bin .. => 0
 | .load .. | .lookup .. | .call .. | .blen .. => 1
 | .callE .. | .alloc _ | .box _ | .bslice .. | .store .. | .mkmap | .mkslice .. | .mapup .. | .bappend .. | .bclear .. | .bcopy .. => 2
 | .bad | .inv .. | .bstr _ | .rng _ | .nxt _ | .ent _ | .callY .. => 3
def COp.reads (o : COp) : List Nat :=
 opdTmps o.op.opds ++ (match o.guard with | some (some t, _) => [t] | _ => [])
def ancs (l : List COp) : List Nat :=
 l.foldl (fun acc o => acc ++ [o.after.foldl (fun s e => s ||| 2 ^ e ||| acc.getD e 0) 0]) []
def drawOk (l : List COp) : Bool :=
 let A := ancs l
 let n := l.length
 let idx := List.range n
 let anc (j i : Nat) : Bool := (A.getD j 0).testBit i     -- i comes ahead of j
 (idx.all fun j => (l.getD j ⟨none, .bad, none, []⟩).after.all (· < j)) &&
 (idx.all fun j => idx.all fun i => !anc j i || (l.getD j ⟨none, .bad, none, []⟩).after.any fun e => e == i || anc e i) &&
 (idx.all fun j => (l.getD j ⟨none, .bad, none, []⟩).op.rank != 3) &&
 (idx.all fun j => idx.all fun i => i == j ||
  ((l.getD i ⟨none, .bad, none, []⟩).dst == none || (l.getD i ⟨none, .bad, none, []⟩).dst != (l.getD j ⟨none, .bad, none, []⟩).dst)) &&
 (idx.all fun j => (l.getD j ⟨none, .bad, none, []⟩).reads.all fun t => idx.all fun i =>
  (l.getD i ⟨none, .bad, none, []⟩).dst != some t || (i < j && anc j i) || (j < i && anc i j)) &&
 (idx.all fun j => idx.all fun i => (l.getD i ⟨none, .bad, none, []⟩).op.rank != 2 || (l.getD j ⟨none, .bad, none, []⟩).op.rank == 0 || i == j || (i < j && anc j i) || (j < i && anc i j))
def memN (n : Nat) : List Nat → Bool
 | [] => false
 | x :: r => bif x == n then true else memN n r
def oblR (P : Program) (u : List Nat) (σ : Store) : List (Nat × AI × Slots × AV) → Prop
 | [] => True
 | (j, op, s, v) :: t => (bif memN j u then aI P op s σ (isR v σ) else True) ∧ oblR P u σ t
def oblB (P : Program) (u : List Nat) (op : AI) (s : Slots) (v : AV) : List (Nat × Store) → Prop
 | [] => True
 | (k, σ) :: t => (bif memN k u then aI P op s σ (isR v σ) else True) ∧ oblB P u op s v t
def runU (P : Program) (nt : Nat) (o : COp) (u : List Nat) (i : Nat) (B : List (Nat × Store)) (R : List (Nat × AI × Slots × AV)) (next : List (Nat × Store) → List (Nat × AI × Slots × AV) → Slots → Store → Prop)
  (s : Slots) (σ : Store) : Nat → Prop
 | 2 => dK P o.op s σ fun v σ' => oblR P u σ' R ∧ kont (next ((i, σ) :: B) R) nt o.dst s v σ'
 | 1 => dK P o.op s σ fun v σ' => oblB P u o.op s v B ∧ kont (next B ((i, o.op, s, v) :: R)) nt o.dst s v σ'
 | _ => dK P o.op s σ (kont (next B R) nt o.dst s)
def stepU (P : Program) (nt : Nat) (o : COp) (u : List Nat) (i : Nat) (B : List (Nat × Store)) (R : List (Nat × AI × Slots × AV)) (next : List (Nat × Store) → List (Nat × AI × Slots × AV) → Slots → Store → Prop)
  (s : Slots) (σ : Store) : GV → Prop
 | .run => runU P nt o u i B R next s σ o.op.rank
 | .skip => oblR P u σ R ∧ dstK nt s o.dst unit (next ((i, σ) :: B) R) σ
 | .bad => False
def aOpsU (P : Program) (nt : Nat) : List COp → List (List Nat) → Nat → List (Nat × Store) → List (Nat × AI × Slots × AV) → (Slots → Store → Prop) → Slots → Store → Prop
 | [], _, _, _, _, K, s, σ => K s σ
 | o :: r, U, i, B, R, K, s, σ => stepU P nt o (U.headD []) i B R (fun B R => aOpsU P nt r U.tail (i + 1) B R K) s σ (guardV s o.guard)
def drawOkU (l : List COp) (U : List (List Nat)) : Bool :=
 let A := ancs l
 let n := l.length
 let idx := List.range n
 let anc (j i : Nat) : Bool := (A.getD j 0).testBit i     -- i comes ahead of j
 (idx.all fun j => (l.getD j ⟨none, .bad, none, []⟩).after.all (· < j)) &&
 (idx.all fun j => idx.all fun i => !anc j i || (l.getD j ⟨none, .bad, none, []⟩).after.any fun e => e == i || anc e i) &&
 (idx.all fun j => (l.getD j ⟨none, .bad, none, []⟩).op.rank != 3) &&
 (idx.all fun j => idx.all fun i => i == j ||
  ((l.getD i ⟨none, .bad, none, []⟩).dst == none || (l.getD i ⟨none, .bad, none, []⟩).dst != (l.getD j ⟨none, .bad, none, []⟩).dst)) &&
 (idx.all fun j => (l.getD j ⟨none, .bad, none, []⟩).reads.all fun t => idx.all fun i =>
  (l.getD i ⟨none, .bad, none, []⟩).dst != some t || (i < j && anc j i) || (j < i && anc i j)) &&
 (idx.all fun j => idx.all fun i => (l.getD i ⟨none, .bad, none, []⟩).op.rank != 2 || (l.getD j ⟨none, .bad, none, []⟩).op.rank == 0 || i == j || (i < j && anc j i) || (j < i && anc i j) ||
  ((l.getD j ⟨none, .bad, none, []⟩).op.rank == 1 && memN j (U.getD i []) && memN i (U.getD j []) && (l.getD j ⟨none, .bad, none, []⟩).guard.isNone))
end Go.Ahl
namespace Go.Ahl
theorem mem_opdTmps {x : Opd} {t : Nat} : ∀ {l : List Opd}, Opd.tmp t ∈ l → t ∈ opdTmps l
 | [], h => by simp at h
 | .tmp u :: r, h => by
  rcases List.mem_cons.1 h with h | h
  ·injection h with h; subst h; exact List.mem_cons_self
  ·exact List.mem_cons_of_mem _ (mem_opdTmps (x := x) h)
 | .lit a :: r, h => by
  rcases List.mem_cons.1 h with h | h
  ·cases h
  ·show t ∈ opdTmps r; exact mem_opdTmps (x := x) h
theorem aev_agree {s s' : Slots} {l : List Opd} (h : ∀ t ∈ opdTmps l, lk s t = lk s' t) {x : Opd} (hx : x ∈ l) : aev s x = aev s' x := by
 cases x with
 | tmp t => exact h t (mem_opdTmps (x := .tmp t) hx)
 | lit a => rfl
theorem evs_agree {s s' : Slots} {l : List Opd} (h : ∀ t ∈ opdTmps l, lk s t = lk s' t) {xs : List Opd} (hx : ∀ x ∈ xs, x ∈ l) : evs s xs = evs s' xs := by
 unfold evs
 exact List.map_congr_left fun x hm => aev_agree h (hx x hm)
theorem aI_cong (P : Program) {i : AI} {s s' : Slots} {σ : Store} {K : Cont} (h : ∀ t ∈ opdTmps i.opds, lk s t = lk s' t) (hk : aI P i s σ K) : aI P i s' σ K := by
 cases i <;> simp only [aI, AI.opds] at hk h ⊢
 case move x => rw [← aev_agree h (x := x) (by simp)]; exact hk
 case pick c a b => rw [← aev_agree h (x := c) (by simp), ← aev_agree h (x := a) (by simp), ← aev_agree h (x := b) (by simp)]; exact hk
 case alloc z => exact hk
 case box x => rw [← aev_agree h (x := x) (by simp)]; exact hk
 case build z ps =>
  have e : (ps.map fun (o, n, x) => (o, n, aev s' x)) = (ps.map fun (o, n, x) => (o, n, aev s x)) := by
   apply List.map_congr_left
   rintro ⟨o, n, x⟩ hm
   simp only
   rw [aev_agree h (x := x) (List.mem_map.2 ⟨_, hm, rfl⟩)]
  rw [e]; exact hk
 case bslice e xs o => rw [← evs_agree h (xs := xs) (fun x hx => hx)]; exact hk
 case bsliceC e xs => rw [← evs_agree h (xs := xs) (fun x hx => hx)]; exact hk
 case bappendC e b a x => rw [← aev_agree h (x := a) (by simp), ← aev_agree h (x := x) (by simp)]; exact hk
 case load n x => rw [← aev_agree h (x := x) (by simp)]; exact hk
 case store n a x => rw [← aev_agree h (x := a) (by simp), ← aev_agree h (x := x) (by simp)]; exact hk
 case nilck x => rw [← aev_agree h (x := x) (by simp)]; exact hk
 case bin o e x y => rw [← aev_agree h (x := x) (by simp), ← aev_agree h (x := y) (by simp)]; exact hk
 case un o x => rw [← aev_agree h (x := x) (by simp)]; exact hk
 case conv k x => rw [← aev_agree h (x := x) (by simp)]; exact hk
 case mkfunc f c => rw [← evs_agree h (xs := c) (fun x hx => hx)]; exact hk
 case mkmap => exact hk
 case mkslice e b z l c o => rw [← aev_agree h (x := l) (by simp), ← aev_agree h (x := c) (by simp)]; exact hk
 case slc e x lo hi mx =>
  have ho : ∀ o : Option Opd, (∀ y, o = some y → y ∈ x :: (lo.toList ++ hi.toList ++ mx.toList)) → o.map (aev s) = o.map (aev s') := by
   intro o ho; cases o with
   | none => rfl
   | some y => simp only [Option.map_some]; rw [aev_agree h (ho y rfl)]
  rw [← aev_agree h (x := x) (by simp), ← ho lo (by rintro y rfl; simp), ← ho hi (by rintro y rfl; simp), ← ho mx (by rintro y rfl; simp)]; exact hk
 case sstr x lo hi =>
  have ho : ∀ o : Option Opd, (∀ y, o = some y → y ∈ x :: (lo.toList ++ hi.toList)) → o.map (aev s) = o.map (aev s') := by
   intro o ho; cases o with
   | none => rfl
   | some y => simp only [Option.map_some]; rw [aev_agree h (ho y rfl)]
  rw [← aev_agree h (x := x) (by simp), ← ho lo (by rintro y rfl; simp), ← ho hi (by rintro y rfl; simp)]; exact hk
 case faddr o x => rw [← aev_agree h (x := x) (by simp)]; exact hk
 case fieldv o n x => rw [← aev_agree h (x := x) (by simp)]; exact hk
 case iaddr e x i => rw [← aev_agree h (x := x) (by simp), ← aev_agree h (x := i) (by simp)]; exact hk
 case istr x i => rw [← aev_agree h (x := x) (by simp), ← aev_agree h (x := i) (by simp)]; exact hk
 case lookup ks z m k ok => rw [← aev_agree h (x := m) (by simp), ← aev_agree h (x := k) (by simp)]; exact hk
 case mapup ks m k v => rw [← aev_agree h (x := m) (by simp), ← aev_agree h (x := k) (by simp), ← aev_agree h (x := v) (by simp)]; exact hk
 case extract x i => rw [← aev_agree h (x := x) (by simp)]; exact hk
 case call f args => rw [← aev_agree h (x := f) (by simp), ← evs_agree h (xs := args) (fun x hx => by simp [hx])]; exact hk
 case callE f args => rw [← aev_agree h (x := f) (by simp), ← evs_agree h (xs := args) (fun x hx => by simp [hx])]; exact hk
 case callY f args => rw [← aev_agree h (x := f) (by simp), ← evs_agree h (xs := args) (fun x hx => by simp [hx])]; exact hk
 case blen k x => rw [← aev_agree h (x := x) (by simp)]; exact hk
 case bappend e b a x o => rw [← aev_agree h (x := a) (by simp), ← aev_agree h (x := x) (by simp)]; exact hk
 case bclear z x => rw [← aev_agree h (x := x) (by simp)]; exact hk
 case bcopy e d x => rw [← aev_agree h (x := d) (by simp), ← aev_agree h (x := x) (by simp)]; exact hk
 case bmax x y => rw [← aev_agree h (x := x) (by simp), ← aev_agree h (x := y) (by simp)]; exact hk
 case bmin x y => rw [← aev_agree h (x := x) (by simp), ← aev_agree h (x := y) (by simp)]; exact hk
 case bstr x => rw [← aev_agree h (x := x) (by simp)]; exact hk
 case inv ms x args => rw [← aev_agree h (x := x) (by simp), ← evs_agree h (xs := args) (fun x hx => by simp [hx])]; exact hk
 case mkif t x => rw [← aev_agree h (x := x) (by simp)]; exact hk
 case asrt t z x ok => rw [← aev_agree h (x := x) (by simp)]; exact hk
 case rng x => rw [← aev_agree h (x := x) (by simp)]; exact hk
 case nxt x => rw [← aev_agree h (x := x) (by simp)]; exact hk
 case ent x => rw [← aev_agree h (x := x) (by simp)]; exact hk
def Det (P : Program) (i : AI) (s : Slots) (σ : Store) (v : AV) (σ' : Store) : Prop :=
 (∀ K2 : Cont, K2 v σ' → aI P i s σ K2) ∧ (i.rank ≤ 1 → σ' = σ) ∧ (i.rank = 0 → ∀ (σ2 : Store) (K2 : Cont), K2 v σ2 → aI P i s σ2 K2)
theorem bnd_det {d : Nat} {x : Option AV} {Q : Nat → Prop} (h : bnd d x Q) : ∃ n, Q n ∧ ∀ Q2 : Nat → Prop, Q2 n → bnd d x Q2 := by
 cases x with
 | none => exact ⟨d, h, fun _ q => q⟩
 | some x => cases x <;> first | exact h.elim | exact ⟨_, h.2, fun _ q => ⟨h.1, q⟩⟩
theorem bin_det {op : BinOp} {e : EqK} {x y : AV} {K : AV → Prop} (he : e ≠ .slice) (h : aBin op e x y K) : ∃ v, K v ∧ ∀ K2 : AV → Prop, K2 v → aBin op e x y K2 := by
 cases x <;> cases y <;> simp only [aBin] at h ⊢ <;> try exact h.elim
 case int.int k a k' b =>
  cases op <;> simp only at h ⊢ <;> first
   | (obtain ⟨h1, h2, h3⟩ := h; exact ⟨_, h3, fun _ q => ⟨h1, h2, q⟩⟩)
   | (obtain ⟨h1, h2⟩ := h; exact ⟨_, h2, fun _ q => ⟨h1, q⟩⟩)
 case str.str a b =>
  cases op <;> simp only at h ⊢ <;> first
   | exact h.elim
   | (obtain ⟨h1, h2⟩ := h; exact ⟨_, h2, fun _ q => ⟨h1, q⟩⟩)
   | exact ⟨_, h, fun _ q => q⟩
 case bool.bool a b =>
  cases e <;> cases op <;> simp only at h ⊢ <;> first
   | exact h.elim
   | exact ⟨_, h, fun _ q => q⟩
 case slice.slice t xs t' ys =>
  cases e <;> first | exact absurd rfl he | (cases t' <;> cases op <;> exact h.elim)
 case ref.slice id sz off len t' ys =>
  cases e <;> first | exact absurd rfl he | (cases t' <;> cases op <;> exact h.elim)
 case agg.agg xs ys =>
  cases e <;> cases op <;> simp only at h ⊢ <;> first
   | exact h.elim
   | (obtain ⟨b, h1, h2⟩ := h; exact ⟨_, h2, fun _ q => ⟨b, h1, q⟩⟩)
 case conc.conc v u =>
  cases v <;> first | exact h.elim | skip
  cases u <;> first | exact h.elim | skip
  cases e <;> cases op <;> simp only at h ⊢ <;> first
   | exact h.elim
   | exact ⟨_, h, fun _ q => q⟩
 case func.conc f cs u =>
  cases u <;> first | exact h.elim | skip
  cases e <;> cases op <;> simp only at h ⊢ <;> first
   | exact h.elim
   | exact ⟨_, h, fun _ q => q⟩
theorem ai_det (P : Program) {i : AI} {s : Slots} {σ : Store} {K : Cont} (hr : i.rank ≠ 3) (hc : ∀ f args, i ≠ .call f args) (hc' : ∀ f args, i ≠ .callE f args) (h : aI P i s σ K) : ∃ v σ', K v σ' ∧ Det P i s σ v σ' := by
 have pure : ∀ (T : (AV → Prop) → Prop), (∀ (σ : Store) (K : Cont), aI P i s σ K = T (atS K σ)) → (∃ v, atS K σ v ∧ ∀ K2 : AV → Prop, K2 v → T K2) → ∃ v σ', K v σ' ∧ Det P i s σ v σ' := by
  rintro T hT ⟨v, h1, h2⟩
  exact ⟨v, σ, h1, fun K2 q => by rw [hT]; exact h2 _ q, fun _ => rfl, fun _ σ2 K2 q => by rw [hT]; exact h2 _ q⟩
 have read : ∀ (T : (AV → Prop) → Prop), i.rank ≠ 0 → (∀ (K : Cont), aI P i s σ K = T (atS K σ)) → (∃ v, atS K σ v ∧ ∀ K2 : AV → Prop, K2 v → T K2) → ∃ v σ', K v σ' ∧ Det P i s σ v σ' := by
  rintro T h0 hT ⟨v, h1, h2⟩
  exact ⟨v, σ, h1, fun K2 q => by rw [hT]; exact h2 _ q, fun _ => rfl, fun q => absurd q h0⟩
 have turn : ∀ {v : AV} {σ' : Store}, i.rank = 2 → K v σ' → (∀ K2 : Cont, K2 v σ' → aI P i s σ K2) → ∃ v σ', K v σ' ∧ Det P i s σ v σ' :=
  fun h2 hk hd => ⟨_, _, hk, hd, fun q => by omega, fun q => by omega⟩
 cases i
 case move x => exact pure (fun K => K (aev s x)) (fun _ _ => rfl) ⟨_, h, fun _ q => q⟩
 case pick c a b =>
  refine pure (fun K => match aev s c with | .bool true => K (aev s a) | .bool false => K (aev s b) | _ => False) (fun σ K => by simp only [aI]; generalize aev s c = v; cases v <;> first | rfl | (rename_i q; cases q <;> rfl)) ?_
  simp only [aI] at h ⊢
  generalize aev s c = v at h ⊢
  cases v <;> first | exact h.elim | skip
  rename_i q; cases q
  ·exact ⟨_, h, fun _ q => q⟩
  ·exact ⟨_, h, fun _ q => q⟩
 case alloc z =>
  simp only [aI] at h ⊢
  cases hz : cellsOf z with
  | none => rw [hz] at h; exact h.elim
  | some cs => rw [hz] at h; exact turn rfl h (fun K2 q => by simp only [aI, hz]; exact q)
 case box x =>
  simp only [aI] at h ⊢
  cases hz : cellsOf (aev s x) with
  | none => rw [hz] at h; exact h.elim
  | some cs => rw [hz] at h; exact turn rfl h (fun K2 q => by simp only [aI, hz]; exact q)
 case build z ps =>
  simp only [aI] at h
  cases hz : buildAll z (ps.map fun (o, n, x) => (o, n, aev s x)) with
  | none => rw [hz] at h; exact h.elim
  | some cs => rw [hz] at h; exact ⟨_, σ, h, fun K2 q => by simp only [aI, hz]; exact q, fun _ => rfl, fun _ σ2 K2 q => by simp only [aI, hz]; exact q⟩
 case bslice e xs o =>
  simp only [aI] at h
  cases hz : cellsAll (evs s xs) with
  | none => rw [hz] at h; exact h.elim
  | some es =>
   rw [hz] at h
   obtain ⟨h1, h2⟩ := h
   cases o with
   | true =>
    cases es with
    | nil => exact turn rfl (h2) (fun K2 q => by simp only [aI, hz]; exact ⟨h1, q⟩)
    | cons e0 es => exact turn rfl (h2) (fun K2 q => by simp only [aI, hz]; exact ⟨h1, q⟩)
   | false => exact turn rfl (h2) (fun K2 q => by simp only [aI, hz]; exact ⟨h1, q⟩)
 case bsliceC e xs =>
  simp only [aI] at h
  cases hz : cellsAll (evs s xs) with
  | none => rw [hz] at h; exact h.elim
  | some es =>
   rw [hz] at h
   obtain ⟨h1, h2⟩ := h
   exact ⟨_, σ, h2, fun K2 q => by simp only [aI, hz]; exact ⟨h1, q⟩, fun _ => rfl, fun _ σ2 K2 q => by simp only [aI, hz]; exact ⟨h1, q⟩⟩
 case bappendC e b a x =>
  refine pure (fun K => aAppendC e b (aev s a) (aev s x) K) (fun _ _ => rfl) ?_
  have h : aAppendC e b (aev s a) (aev s x) (atS K σ) := h
  generalize aev s a = y at h ⊢
  generalize aev s x = z at h ⊢
  unfold aAppendC at h ⊢
  split at h
  ·obtain ⟨h1, h2, h3, h4⟩ := h; exact ⟨_, h4, fun _ q => ⟨h1, h2, h3, q⟩⟩
  ·exact h.elim
 case load n x =>
  refine read (fun K => aLoad n (aev s x) σ K) (by simp [AI.rank]) (fun _ => rfl) ?_
  have h : aLoad n (aev s x) σ (atS K σ) := h
  generalize aev s x = y at h ⊢
  unfold aLoad at h ⊢
  cases y <;> first | exact h.elim | skip
  ·obtain ⟨c, hcc, h⟩ := h
   cases n with
   | none => obtain ⟨y, hy, h⟩ := h; exact ⟨_, h, fun _ q => ⟨c, hcc, y, hy, q⟩⟩
   | some n => exact ⟨_, h.2, fun _ q => ⟨c, hcc, h.1, q⟩⟩
  all_goals cases n with
   | none => obtain ⟨y, hy, h⟩ := h; exact ⟨_, h, fun _ q => ⟨y, hy, q⟩⟩
   | some n => exact ⟨_, h.2, fun _ q => ⟨h.1, q⟩⟩
 case store n a x =>
  have h : aStore n (aev s a) (aev s x) σ (atU K) := h
  have e : ∀ K2 : Cont, aI P (.store n a x) s σ K2 = aStore n (aev s a) (aev s x) σ (atU K2) := fun _ => rfl
  generalize aev s a = y at h e
  unfold aStore at h e
  cases y <;> first | exact h.elim | skip
  ·obtain ⟨c, hc, cs, h1, h2, h3, h4, h5⟩ := h
   exact turn rfl h5 (fun K2 q => by rw [e]; exact ⟨c, hc, cs, h1, h2, h3, h4, q⟩)
  ·obtain ⟨h1, k, h2, h3, h4⟩ := h
   exact turn rfl h4 (fun K2 q => by rw [e]; exact ⟨h1, k, h2, h3, q⟩)
 case nilck x =>
  refine pure (fun K => aNilck (aev s x) K) (fun _ _ => rfl) ?_
  have h : aNilck (aev s x) (atS K σ) := h
  generalize aev s x = y at h ⊢
  cases y <;> first | exact h.elim | exact ⟨_, h, fun _ q => q⟩
 case bin o e x y =>
  refine pure (fun K => aBin o e (aev s x) (aev s y) K) (fun _ _ => rfl) ?_
  exact bin_det (by rintro rfl; exact hr rfl) h
 case un o x =>
  refine pure (fun K => aUn o (aev s x) K) (fun _ _ => rfl) ?_
  have h : aUn o (aev s x) (atS K σ) := h
  generalize aev s x = y at h ⊢
  cases o <;> cases y <;> first | exact h.elim | exact ⟨_, h, fun _ q => q⟩
 case conv k x =>
  refine pure (fun K => aConv k (aev s x) K) (fun _ _ => rfl) ?_
  have h : aConv k (aev s x) (atS K σ) := h
  generalize aev s x = y at h ⊢
  cases y <;> first | exact h.elim | exact ⟨_, h, fun _ q => q⟩
 case mkfunc f c => exact pure (fun K => K (.func f (evs s c))) (fun _ _ => rfl) ⟨_, h, fun _ q => q⟩
 case mkmap => exact turn rfl h (fun K2 q => q)
 case mkslice e b z l c o =>
  have h : aMkslice e b z (aev s l) (aev s c) o σ K := h
  have e' : ∀ K2 : Cont, aI P (.mkslice e b z l c o) s σ K2 = aMkslice e b z (aev s l) (aev s c) o σ K2 := fun _ => rfl
  generalize aev s l = y at h e'
  generalize aev s c = y2 at h e'
  unfold aMkslice at h e'
  cases y <;> first | exact h.elim | skip
  cases y2 <;> first | exact h.elim | skip
  obtain ⟨h1, h2, h3, h4, h5⟩ := h
  cases o with
  | true => exact turn rfl h5 (fun K2 q => by rw [e']; exact ⟨h1, h2, h3, h4, q⟩)
  | false => exact turn rfl h5.2 (fun K2 q => by rw [e']; exact ⟨h1, h2, h3, h4, h5.1, q⟩)
 case slc e x lo hi mx =>
  refine pure (fun K => aSlc e (aev s x) (lo.map (aev s)) (hi.map (aev s)) (mx.map (aev s)) K) (fun _ _ => rfl) ?_
  have h : aSlc e (aev s x) (lo.map (aev s)) (hi.map (aev s)) (mx.map (aev s)) (atS K σ) := h
  generalize aev s x = y at h ⊢
  generalize lo.map (aev s) = lo at h ⊢
  generalize hi.map (aev s) = hi at h ⊢
  generalize mx.map (aev s) = mx at h ⊢
  unfold aSlc at h ⊢
  cases y <;> first | exact h.elim | skip
  ·simp only at h ⊢
   split at h
   ·obtain ⟨hh, h, d1⟩ := bnd_det h
    obtain ⟨l, h, d2⟩ := bnd_det h
    exact ⟨_, h.2.2.2, fun _ q => d1 _ (d2 _ ⟨h.1, h.2.1, h.2.2.1, q⟩)⟩
   ·split at h
    ·exact ⟨_, h, fun _ q => q⟩
    ·exact h.elim
   ·exact h.elim
  ·simp only at h ⊢
   split at h
   ·obtain ⟨hh, h, d1⟩ := bnd_det h
    obtain ⟨l, h, d2⟩ := bnd_det h
    exact ⟨_, h.2.2.2, fun _ q => d1 _ (d2 _ ⟨h.1, h.2.1, h.2.2.1, q⟩)⟩
   ·exact h.elim
 case sstr x lo hi =>
  refine pure (fun K => aSstr (aev s x) (lo.map (aev s)) (hi.map (aev s)) K) (fun _ _ => rfl) ?_
  have h : aSstr (aev s x) (lo.map (aev s)) (hi.map (aev s)) (atS K σ) := h
  generalize aev s x = y at h ⊢
  unfold aSstr at h ⊢
  cases y <;> first | exact h.elim | skip
  obtain ⟨hh, h, d1⟩ := bnd_det h
  obtain ⟨l, h, d2⟩ := bnd_det h
  exact ⟨_, h.2.2, fun _ q => d1 _ (d2 _ ⟨h.1, h.2.1, q⟩)⟩
 case faddr o x =>
  refine pure (fun K => aFaddr o (aev s x) K) (fun _ _ => rfl) ?_
  have h : aFaddr o (aev s x) (atS K σ) := h
  generalize aev s x = y at h ⊢
  cases y <;> first | exact h.elim | exact ⟨_, h, fun _ q => q⟩
 case fieldv o n x =>
  refine pure (fun K => aFieldv o n (aev s x) K) (fun _ _ => rfl) ?_
  have h : aFieldv o n (aev s x) (atS K σ) := h
  generalize aev s x = y at h ⊢
  cases y <;> first | exact h.elim | skip
  cases n with
  | none => obtain ⟨y, hy, h⟩ := h; exact ⟨_, h, fun _ q => ⟨y, hy, q⟩⟩
  | some n => exact ⟨_, h, fun _ q => q⟩
 case iaddr e x i =>
  refine pure (fun K => aIaddr e (aev s x) (aev s i) K) (fun _ _ => rfl) ?_
  have h : aIaddr e (aev s x) (aev s i) (atS K σ) := h
  generalize aev s x = y at h ⊢
  generalize aev s i = y2 at h ⊢
  cases y <;> cases y2 <;> first | exact h.elim | skip
  ·obtain ⟨h1, el, h2, h3, h4⟩ := h; exact ⟨_, h4, fun _ q => ⟨h1, el, h2, h3, q⟩⟩
  ·obtain ⟨h1, h2, h3, h4⟩ := h; exact ⟨_, h4, fun _ q => ⟨h1, h2, h3, q⟩⟩
  ·obtain ⟨h1, el, h2, h3, h4⟩ := h; exact ⟨_, h4, fun _ q => ⟨h1, el, h2, h3, q⟩⟩
 case istr x i =>
  refine pure (fun K => aIstr (aev s x) (aev s i) K) (fun _ _ => rfl) ?_
  have h : aIstr (aev s x) (aev s i) (atS K σ) := h
  generalize aev s x = y at h ⊢
  generalize aev s i = y2 at h ⊢
  cases y <;> cases y2 <;> first | exact h.elim | skip
  obtain ⟨h1, c, h2, h3⟩ := h; exact ⟨_, h3, fun _ q => ⟨h1, c, h2, q⟩⟩
 case lookup ks z m k ok =>
  refine read (fun K => aLookup ks z (aev s m) (aev s k) ok σ K) (by simp [AI.rank]) (fun _ => rfl) ?_
  have h : aLookup ks z (aev s m) (aev s k) ok σ (atS K σ) := h
  generalize aev s m = y at h ⊢
  unfold aLookup at h ⊢
  obtain ⟨h0, h⟩ := h
  cases y <;> first | exact h.elim | skip
  ·obtain ⟨es, h1, r, h2, h3⟩ := h; exact ⟨_, h3, fun _ q => ⟨h0, es, h1, r, h2, q⟩⟩
  ·exact ⟨_, h, fun _ q => ⟨h0, q⟩⟩
 case mapup ks m k v =>
  have h : aMapup ks (aev s m) (aev s k) (aev s v) σ (atU K) := h
  have e : ∀ K2 : Cont, aI P (.mapup ks m k v) s σ K2 = aMapup ks (aev s m) (aev s k) (aev s v) σ (atU K2) := fun _ => rfl
  generalize aev s m = y at h e
  unfold aMapup at h e
  obtain ⟨h0, h⟩ := h
  cases y <;> first | exact h.elim | skip
  obtain ⟨es, h1, r, h2, h3⟩ := h
  exact turn rfl h3 (fun K2 q => by rw [e]; exact ⟨h0, es, h1, r, h2, q⟩)
 case extract x i =>
  refine pure (fun K => aExtract (aev s x) i K) (fun _ _ => rfl) ?_
  have h : aExtract (aev s x) i (atS K σ) := h
  generalize aev s x = y at h ⊢
  cases y <;> first | exact h.elim | skip
  obtain ⟨y, hy, h⟩ := h; exact ⟨_, h, fun _ q => ⟨y, hy, q⟩⟩
 case call f args => exact absurd rfl (hc f args)
 case callE f args => exact absurd rfl (hc' f args)
 case callY f args => exact absurd rfl hr
 case blen k x =>
  refine read (fun K => aLen k (aev s x) σ K) (by simp [AI.rank]) (fun _ => rfl) ?_
  have h : aLen k (aev s x) σ (atS K σ) := h
  generalize aev s x = y at h ⊢
  unfold aLen at h ⊢
  split at h <;> first
   | exact h.elim
   | exact ⟨_, h, fun _ q => q⟩
   | (obtain ⟨es, h1, h2⟩ := h; exact ⟨_, h2, fun _ q => ⟨es, h1, q⟩⟩)
 case bappend e b a x o =>
  have h : aAppend e b (aev s a) (aev s x) o σ K := h
  have e' : ∀ K2 : Cont, aI P (.bappend e b a x o) s σ K2 = aAppend e b (aev s a) (aev s x) o σ K2 := fun _ => rfl
  generalize aev s a = y at h e'
  generalize aev s x = y2 at h e'
  unfold aAppend at h e'
  have el : ∃ ys, appC e b y o σ K ys ∧ ∀ Q : List (List AV) → Prop, Q ys → elemsOf e y2 σ Q := by
   cases y2 <;> first | exact h.elim | skip
   ·exact ⟨_, h, fun _ q => q⟩
   ·exact ⟨_, h, fun _ q => q⟩
   ·obtain ⟨h1, c, h2, h3, h4⟩ := h; exact ⟨_, h4, fun _ q => ⟨h1, c, h2, h3, q⟩⟩
  obtain ⟨ys, ⟨g1, g2, g3⟩, d⟩ := el
  split at g3
  ·obtain ⟨g3, g4⟩ := g3
   cases o with
   | true => exact turn rfl g4 (fun K2 q => by rw [e']; exact d _ ⟨g1, g2, g3, q⟩)
   | false => exact turn rfl g4 (fun K2 q => by rw [e']; exact d _ ⟨g1, g2, g3, q⟩)
  ·obtain ⟨g3, g4⟩ := g3
   cases o with
   | true => exact turn rfl g4 (fun K2 q => by rw [e']; exact d _ ⟨g1, g2, g3, q⟩)
   | false => exact turn rfl g4 (fun K2 q => by rw [e']; exact d _ ⟨g1, g2, g3, q⟩)
  ·obtain ⟨g3, g4, g5, g6⟩ := g3
   exact turn rfl g6 (fun K2 q => by rw [e']; exact d _ ⟨g1, g2, g3, g4, g5, q⟩)
  ·obtain ⟨g3, c, g4, g5, g6, g7⟩ := g3
   exact turn rfl g7 (fun K2 q => by rw [e']; exact d _ ⟨g1, g2, g3, c, g4, g5, g6, q⟩)
  ·obtain ⟨g3, c, g4, g5, g6⟩ := g3
   exact turn rfl g6 (fun K2 q => by rw [e']; exact d _ ⟨g1, g2, g3, c, g4, g5, q⟩)
  ·exact g3.elim
 case bclear z x =>
  have h : aClear z (aev s x) σ (atU K) := h
  have e : ∀ K2 : Cont, aI P (.bclear z x) s σ K2 = aClear z (aev s x) σ (atU K2) := fun _ => rfl
  generalize aev s x = y at h e
  unfold aClear at h e
  cases y <;> first | exact h.elim | skip
  obtain ⟨h1, h2, h3, c, h4, h5, h6⟩ := h
  exact turn rfl h6 (fun K2 q => by rw [e]; exact ⟨h1, h2, h3, c, h4, h5, q⟩)
 case bcopy esz d x =>
  have h : aCopy esz (aev s d) (aev s x) σ K := h
  have e : ∀ K2 : Cont, aI P (.bcopy esz d x) s σ K2 = aCopy esz (aev s d) (aev s x) σ K2 := fun _ => rfl
  generalize aev s d = y1 at h e
  generalize aev s x = y2 at h e
  unfold aCopy at h e
  cases y1 <;> first | exact h.elim | skip
  cases y2 <;> first | exact h.elim | skip
  obtain ⟨h1, h2, h3, h4, c, h5, h6, c', h7, h8, h9, h10⟩ := h
  exact turn rfl h10 (fun K2 q => by rw [e]; exact ⟨h1, h2, h3, h4, c, h5, h6, c', h7, h8, h9, q⟩)
 case bmax x y =>
  refine pure (fun K => aMax (aev s x) (aev s y) K) (fun _ _ => rfl) ?_
  have h : aMax (aev s x) (aev s y) (atS K σ) := h
  generalize aev s x = y1 at h ⊢
  generalize aev s y = y2 at h ⊢
  cases y1 <;> cases y2 <;> first | exact h.elim | skip
  exact ⟨_, h.2, fun _ q => ⟨h.1, q⟩⟩
 case bmin x y =>
  refine pure (fun K => aMin (aev s x) (aev s y) K) (fun _ _ => rfl) ?_
  have h : aMin (aev s x) (aev s y) (atS K σ) := h
  generalize aev s x = y1 at h ⊢
  generalize aev s y = y2 at h ⊢
  cases y1 <;> cases y2 <;> first | exact h.elim | skip
  exact ⟨_, h.2, fun _ q => ⟨h.1, q⟩⟩
 case bstr x => exact absurd rfl hr
 case inv ms x args => exact absurd rfl hr
 case mkif t x => exact pure (fun K => K (.iface t (aev s x))) (fun _ _ => rfl) ⟨_, h, fun _ q => q⟩
 case asrt t z x ok =>
  refine pure (fun K => aAsrt t z (aev s x) ok K) (fun _ _ => rfl) ?_
  have h : aAsrt t z (aev s x) ok (atS K σ) := h
  generalize aev s x = y at h ⊢
  cases y <;> first | exact h.elim | skip
  rename_i t' a
  by_cases ht : t' = t
  ·have h : atS K σ (if ok then .tuple [a, .bool true] else a) := by simpa only [aAsrt, if_pos ht] using h
   exact ⟨_, h, fun _ q => by simpa only [aAsrt, if_pos ht] using q⟩
  ·have h : ok = true ∧ atS K σ (.tuple [z, .bool false]) := by simpa only [aAsrt, if_neg ht] using h
   exact ⟨_, h.2, fun _ q => by simpa only [aAsrt, if_neg ht] using ⟨h.1, q⟩⟩
 case rng x => exact absurd rfl hr
 case nxt x => exact absurd rfl hr
 case ent x => exact absurd rfl hr
 case bad => exact h.elim
def slotsAt (s : Slots) (d : Nat → Option Nat) (v : Nat → AV) : Nat → Slots
 | 0 => s
 | i + 1 => match d i with
  | none => slotsAt s d v i
  | some t => put (slotsAt s d v i) t (v i)
theorem slotsAt_shift (s : Slots) (d : Nat → Option Nat) (v : Nat → AV) : ∀ i, slotsAt s d v (i + 1) = slotsAt (match d 0 with | none => s | some t => put s t (v 0)) (fun j => d (j + 1)) (fun j => v (j + 1)) i
 | 0 => by simp only [slotsAt]
 | i + 1 => by
  have := slotsAt_shift s d v i
  rw [slotsAt, this]
  rfl
theorem lk_put (s : Slots) (t u : Nat) (v : AV) : lk (put s t v) u = if t = u then v else lk s u := by
 show (bif t == u then v else lk s u) = _
 by_cases h : t = u
 ·subst h; simp
 ·have : (t == u) = false := by simpa using h
  rw [this, if_neg h]; rfl
theorem slotsAt_lk (s : Slots) (d : Nat → Option Nat) (v : Nat → AV) (hu : ∀ i j t, d i = some t → d j = some t → i = j) (t : Nat) : ∀ i,
  (∀ j, j < i → d j = some t → lk (slotsAt s d v i) t = v j) ∧ ((∀ j, j < i → d j ≠ some t) → lk (slotsAt s d v i) t = lk s t)
 | 0 => ⟨fun j h => by omega, fun _ => rfl⟩
 | i + 1 => by
  obtain ⟨h1, h2⟩ := slotsAt_lk s d v hu t i
  simp only [slotsAt]
  cases hd : d i with
  | none =>
   simp only
   refine ⟨fun j hj hdj => h1 j ?_ hdj, fun hn => h2 fun j hj => hn j (by omega)⟩
   rcases Nat.lt_or_ge j i with q | q
   ·exact q
   ·have : j = i := by omega
    subst this; rw [hd] at hdj; simp at hdj
  | some u =>
   simp only
   rw [lk_put]
   by_cases hut : u = t
   ·subst hut
    rw [if_pos rfl]
    exact ⟨fun j hj hdj => by rw [hu i j u hd hdj], fun hn => absurd hd (hn i (by omega))⟩
   ·rw [if_neg hut]
    refine ⟨fun j hj hdj => h1 j ?_ hdj, fun hn => h2 fun j hj => hn j (by omega)⟩
    rcases Nat.lt_or_ge j i with q | q
    ·exact q
    ·have : j = i := by omega
     subst this; rw [hd] at hdj; injection hdj with hdj; exact absurd hdj hut
def nthOp (l : List COp) (i : Nat) : COp := l.getD i ⟨none, .bad, none, []⟩
structure Told (P : Program) (nt : Nat) (o : COp) (s : Slots) (σ : Store) (v : AV) (σ' : Store) : Prop where
 dst : ∀ d, o.dst = some d → d < nt
 step : (guardV s o.guard = .run ∧ Det P o.op s σ v σ') ∨ (guardV s o.guard = .skip ∧ v = unit ∧ σ' = σ)
theorem dK_det (P : Program) {i : AI} {s : Slots} {σ : Store} {K : Cont} (hr : i.rank ≠ 3) (h : dK P i s σ K) : ∃ v σ', K v σ' ∧ Det P i s σ v σ' := by
 by_cases hc : ∃ f args, i = .call f args
 ·obtain ⟨f, args, rfl⟩ := hc
  simp only [dK] at h
  have hv : ∀ af, callD P (evs s args) σ K af → ∃ g c, af = .func g c := by
   intro af h; cases af <;> first | exact ⟨_, _, rfl⟩ | exact h.elim
  obtain ⟨g, c, haf⟩ := hv _ h
  rw [haf] at h
  obtain ⟨v, h1, h2⟩ := h
  refine ⟨v, σ, h2, ?_, fun _ => rfl, fun q => ?_⟩
  ·intro K2 hk
   simp only [aI, haf]
   exact h1.mono fun r σ' hr => by obtain ⟨rfl, rfl⟩ := hr; exact hk
  ·simp [AI.rank] at q
 ·by_cases hc' : ∃ f args, i = .callE f args
  ·obtain ⟨f, args, rfl⟩ := hc'
   simp only [dK] at h
   have hv : ∀ af, callED P (evs s args) σ K af → ∃ g c, af = .func g c := by
    intro af h; cases af <;> first | exact ⟨_, _, rfl⟩ | exact h.elim
   obtain ⟨g, c, haf⟩ := hv _ h
   rw [haf] at h
   obtain ⟨v, σ', h1, h2⟩ := h
   refine ⟨v, σ', h2, ?_, fun q => ?_, fun q => ?_⟩
   ·intro K2 hk
    simp only [aI, haf]
    exact h1.mono fun r σ' hr => by obtain ⟨rfl, rfl⟩ := hr; exact hk
   ·simp [AI.rank] at q
   ·simp [AI.rank] at q
  ·have h' : aI P i s σ K := by
    cases i <;> first | exact h | exact absurd ⟨_, _, rfl⟩ hc | exact absurd ⟨_, _, rfl⟩ hc'
   exact ai_det P hr (fun f args e => hc ⟨f, args, e⟩) (fun f args e => hc' ⟨f, args, e⟩) h'
theorem told (P : Program) (nt : Nat) : ∀ (l : List COp) (K : Slots → Store → Prop) (s : Slots) (σ : Store), (∀ o ∈ l, o.op.rank ≠ 3) → aOpsD P nt l K s σ →
  ∃ (v : Nat → AV) (st : Nat → Store), st 0 = σ ∧ (∀ i, i < l.length → Told P nt (nthOp l i) (slotsAt s (fun j => (nthOp l j).dst) v i) (st i) (v i) (st (i + 1))) ∧
   K (slotsAt s (fun j => (nthOp l j).dst) v l.length) (st l.length)
 | [], K, s, σ, _, h => ⟨fun _ => unit, fun _ => σ, rfl, by simp, h⟩
 | o :: r, K, s, σ, hr, h => by
  have first : ∃ v σ', dstK nt s o.dst v (aOpsD P nt r K) σ' ∧ ((guardV s o.guard = .run ∧ Det P o.op s σ v σ') ∨ (guardV s o.guard = .skip ∧ v = unit ∧ σ' = σ)) := by
   simp only [aOpsD] at h
   cases hg : guardV s o.guard with
   | bad => rw [hg] at h; exact h.elim
   | skip => rw [hg] at h; exact ⟨unit, σ, h, .inr ⟨rfl, rfl, rfl⟩⟩
   | run =>
    rw [hg] at h
    obtain ⟨v, σ', h1, h2⟩ := dK_det P (hr o List.mem_cons_self) h
    exact ⟨v, σ', h1, .inl ⟨rfl, h2⟩⟩
  obtain ⟨v0, σ1, hk, hstep⟩ := first
  have hnext : (∀ d, o.dst = some d → d < nt) ∧ aOpsD P nt r K (match o.dst with | none => s | some t => put s t v0) σ1 := by
   cases hd : o.dst with
   | none => rw [hd] at hk; exact ⟨by simp, hk⟩
   | some d => rw [hd] at hk; exact ⟨fun d' e => by injection e with e; subst e; exact hk.1, hk.2⟩
  obtain ⟨v, st, h1, h2, h3⟩ := told P nt r K _ σ1 (fun o ho => hr o (List.mem_cons_of_mem _ ho)) hnext.2
  have hsh : ∀ i, slotsAt s (fun j => (nthOp (o :: r) j).dst) (fun | 0 => v0 | j + 1 => v j) (i + 1) = slotsAt (match o.dst with | none => s | some t => put s t v0) (fun j => (nthOp r j).dst) v i := by
   intro i; rw [slotsAt_shift]; rfl
  refine ⟨fun | 0 => v0 | j + 1 => v j, fun | 0 => σ | j + 1 => st j, rfl, ?_, ?_⟩
  ·intro i hi
   cases i with
   | zero => exact ⟨hnext.1, by rw [← h1] at hstep; exact hstep⟩
   | succ i => rw [hsh]; exact h2 i (by simpa using hi)
  ·show K (slotsAt s _ _ (r.length + 1)) _
   rw [hsh]; exact h3
theorem oblR_mem {P : Program} {u : List Nat} {σ : Store} : ∀ {R : List (Nat × AI × Slots × AV)}, oblR P u σ R → ∀ r ∈ R, memN r.1 u = true → aI P r.2.1 r.2.2.1 σ (isR r.2.2.2 σ)
 | [], _, r, hr, _ => by simp at hr
 | (j, op, s, v) :: t, h, r, hr, hm => by
  rcases List.mem_cons.1 hr with rfl | hr
  ·have := h.1; simp only at hm; rw [hm] at this; exact this
  ·exact oblR_mem h.2 r hr hm
theorem oblB_mem {P : Program} {u : List Nat} {op : AI} {s : Slots} {v : AV} : ∀ {B : List (Nat × Store)}, oblB P u op s v B → ∀ b ∈ B, memN b.1 u = true → aI P op s b.2 (isR v b.2)
 | [], _, r, hr, _ => by simp at hr
 | (j, σ) :: t, h, r, hr, hm => by
  rcases List.mem_cons.1 hr with rfl | hr
  ·have := h.1; simp only at hm; rw [hm] at this; exact this
  ·exact oblB_mem h.2 r hr hm
structure ToldU (P : Program) (nt : Nat) (l : List COp) (U : List (List Nat)) (i0 : Nat) (B : List (Nat × Store)) (R : List (Nat × AI × Slots × AV)) (K : Slots → Store → Prop) (s : Slots) (σ : Store) (v : Nat → AV) (st : Nat → Store) : Prop where
 zero : st 0 = σ
 told : ∀ i, i < l.length → Told P nt (nthOp l i) (slotsAt s (fun j => (nthOp l j).dst) v i) (st i) (v i) (st (i + 1))
 fin : K (slotsAt s (fun j => (nthOp l j).dst) v l.length) (st l.length)
 oldR : ∀ i, i < l.length → (nthOp l i).op.rank = 2 → ∀ r ∈ R, memN r.1 (U.getD i []) = true → aI P r.2.1 r.2.2.1 (st (i + 1)) (isR r.2.2.2 (st (i + 1)))
 oldB : ∀ i, i < l.length → (nthOp l i).op.rank = 1 → (nthOp l i).guard = none → ∀ b ∈ B, memN b.1 (U.getD i []) = true → aI P (nthOp l i).op (slotsAt s (fun j => (nthOp l j).dst) v i) b.2 (isR (v i) b.2)
 up : ∀ i j, i < j → j < l.length → (nthOp l i).op.rank = 1 → (nthOp l j).op.rank = 2 → (nthOp l i).guard = none → memN (i0 + i) (U.getD j []) = true →
  aI P (nthOp l i).op (slotsAt s (fun j => (nthOp l j).dst) v i) (st (j + 1)) (isR (v i) (st (j + 1)))
 down : ∀ i j, i < j → j < l.length → (nthOp l i).op.rank = 2 → (nthOp l j).op.rank = 1 → (nthOp l j).guard = none → memN (i0 + i) (U.getD j []) = true →
  aI P (nthOp l j).op (slotsAt s (fun j => (nthOp l j).dst) v j) (st i) (isR (v j) (st i))
theorem getD_tail (U : List (List Nat)) (i : Nat) : U.tail.getD i [] = U.getD (i + 1) [] := by cases U <;> simp
theorem toldU (P : Program) (nt : Nat) : ∀ (l : List COp) (U : List (List Nat)) (i0 : Nat) (B : List (Nat × Store)) (R : List (Nat × AI × Slots × AV)) (K : Slots → Store → Prop) (s : Slots) (σ : Store),
  (∀ o ∈ l, o.op.rank ≠ 3) → aOpsU P nt l U i0 B R K s σ → ∃ (v : Nat → AV) (st : Nat → Store), ToldU P nt l U i0 B R K s σ v st
 | [], U, i0, B, R, K, s, σ, _, h => ⟨fun _ => unit, fun _ => σ, rfl, by simp, h, by simp, by simp, by simp, by simp⟩
 | o :: r, U, i0, B, R, K, s, σ, hr, h => by
  have first : ∃ v σ' B' R', dstK nt s o.dst v (aOpsU P nt r U.tail (i0 + 1) B' R' K) σ' ∧ ((guardV s o.guard = .run ∧ Det P o.op s σ v σ') ∨ (guardV s o.guard = .skip ∧ v = unit ∧ σ' = σ)) ∧
    (∀ x ∈ R, x ∈ R') ∧ (∀ b ∈ B, b ∈ B') ∧ (o.op.rank = 2 → (i0, σ) ∈ B' ∧ oblR P (U.headD []) σ' R) ∧ (o.op.rank = 1 → o.guard = none → (i0, o.op, s, v) ∈ R' ∧ oblB P (U.headD []) o.op s v B) := by
   simp only [aOpsU] at h
   cases hg : guardV s o.guard with
   | bad => rw [hg] at h; exact h.elim
   | skip =>
    rw [hg] at h
    exact ⟨unit, σ, _, _, h.2, .inr ⟨rfl, rfl, rfl⟩, fun _ hx => hx, fun _ hb => List.mem_cons_of_mem _ hb, fun _ => ⟨List.mem_cons_self, h.1⟩, fun _ hn => by rw [hn] at hg; simp [guardV] at hg⟩
   | run =>
    rw [hg] at h
    simp only [stepU] at h
    have hrk := hr o List.mem_cons_self
    have hr4 : o.op.rank ≤ 3 := by generalize o.op = o; cases o <;> first | (simp [AI.rank]; done) | (rename_i e _ _; cases e <;> simp [AI.rank])
    match hq : o.op.rank with
    | 0 =>
     rw [hq] at h
     obtain ⟨v, σ', h1, h2⟩ := dK_det P hrk h
     exact ⟨v, σ', _, _, h1, .inl ⟨rfl, h2⟩, fun _ hx => hx, fun _ hb => hb, fun q => by omega, fun q => by omega⟩
    | 1 =>
     rw [hq] at h
     obtain ⟨v, σ', ⟨h0, h1⟩, h2⟩ := dK_det P hrk h
     exact ⟨v, σ', _, _, h1, .inl ⟨rfl, h2⟩, fun _ hx => List.mem_cons_of_mem _ hx, fun _ hb => hb, fun q => by omega, fun _ _ => ⟨List.mem_cons_self, h0⟩⟩
    | 2 =>
     rw [hq] at h
     obtain ⟨v, σ', ⟨h0, h1⟩, h2⟩ := dK_det P hrk h
     exact ⟨v, σ', _, _, h1, .inl ⟨rfl, h2⟩, fun _ hx => hx, fun _ hb => List.mem_cons_of_mem _ hb, fun _ => ⟨List.mem_cons_self, h0⟩, fun q => by omega⟩
    | k + 3 => exact absurd (by omega : o.op.rank = 3) hrk
  obtain ⟨v0, σ1, B', R', hk, hstep, hR, hB, hE, hL⟩ := first
  have hnext : (∀ d, o.dst = some d → d < nt) ∧ aOpsU P nt r U.tail (i0 + 1) B' R' K (match o.dst with | none => s | some t => put s t v0) σ1 := by
   cases hd : o.dst with
   | none => rw [hd] at hk; exact ⟨by simp, hk⟩
   | some d => rw [hd] at hk; exact ⟨fun d' e => by injection e with e; subst e; exact hk.1, hk.2⟩
  obtain ⟨v, st, ih⟩ := toldU P nt r U.tail (i0 + 1) B' R' K _ σ1 (fun o ho => hr o (List.mem_cons_of_mem _ ho)) hnext.2
  have hsh : ∀ i, slotsAt s (fun j => (nthOp (o :: r) j).dst) (fun | 0 => v0 | j + 1 => v j) (i + 1) = slotsAt (match o.dst with | none => s | some t => put s t v0) (fun j => (nthOp r j).dst) v i := by
   intro i; rw [slotsAt_shift]; rfl
  have hU0 : U.getD 0 [] = U.headD [] := by cases U <;> rfl
  refine ⟨fun | 0 => v0 | j + 1 => v j, fun | 0 => σ | j + 1 => st j, rfl, ?_, ?_, ?_, ?_, ?_, ?_⟩
  ·intro i hi
   cases i with
   | zero => exact ⟨hnext.1, by rw [← ih.zero] at hstep; exact hstep⟩
   | succ i => rw [hsh]; exact ih.told i (by simpa using hi)
  ·show K (slotsAt s _ _ (r.length + 1)) _
   rw [hsh]; exact ih.fin
  ·intro i hi hrk x hx hm
   cases i with
   | zero => rw [hU0] at hm; have := oblR_mem (hE hrk).2 x hx hm; rw [← ih.zero] at this; exact this
   | succ i => exact ih.oldR i (by simpa using hi) hrk x (hR x hx) (by rw [getD_tail]; exact hm)
  ·intro i hi hrk hg b hb hm
   cases i with
   | zero => rw [hU0] at hm; exact oblB_mem (hL hrk hg).2 b hb hm
   | succ i => rw [hsh]; exact ih.oldB i (by simpa using hi) hrk hg b (hB b hb) (by rw [getD_tail]; exact hm)
  ·intro i j hij hj hri hrj hg hm
   cases j with
   | zero => omega
   | succ j =>
    cases i with
    | zero => exact ih.oldR j (by simpa using hj) hrj (i0, o.op, s, v0) (hL hri hg).1 (by rw [getD_tail]; exact hm)
    | succ i => rw [hsh]; exact ih.up i j (by omega) (by simpa using hj) hri hrj hg (by rw [getD_tail, show i0 + 1 + i = i0 + (i + 1) by omega]; exact hm)
  ·intro i j hij hj hri hrj hg hm
   cases j with
   | zero => omega
   | succ j =>
    rw [hsh]
    cases i with
    | zero => exact ih.oldB j (by simpa using hj) hrj hg (i0, σ) (hE hri).1 (by rw [getD_tail]; exact hm)
    | succ i => exact ih.down i j (by omega) (by simpa using hj) hri hrj hg (by rw [getD_tail, show i0 + 1 + i = i0 + (i + 1) by omega]; exact hm)
structure Chk (l : List COp) (anc : Nat → Nat → Prop) : Prop where
 after : ∀ j, j < l.length → ∀ e ∈ (nthOp l j).after, e < j
 clo : ∀ j i, j < l.length → i < l.length → anc j i → ∃ e ∈ (nthOp l j).after, e = i ∨ anc e i
 rank : ∀ j, j < l.length → (nthOp l j).op.rank ≠ 3
 uniq : ∀ j i, j < l.length → i < l.length → ∀ t, (nthOp l i).dst = some t → (nthOp l j).dst = some t → i = j
 reads : ∀ j i t, j < l.length → i < l.length → t ∈ (nthOp l j).reads → (nthOp l i).dst = some t → (i < j ∧ anc j i) ∨ (j < i ∧ anc i j)
 order : ∀ j i, j < l.length → i < l.length → (nthOp l i).op.rank = 2 → (nthOp l j).op.rank = 2 → i ≠ j → (i < j ∧ anc j i) ∨ (j < i ∧ anc i j)
theorem drawOk_chk {l : List COp} (h : drawOk l = true) : ∃ anc, Chk l anc ∧ ∀ j i, j < l.length → i < l.length → (nthOp l i).op.rank = 2 → (nthOp l j).op.rank ≠ 0 → i ≠ j → (i < j ∧ anc j i) ∨ (j < i ∧ anc i j) := by
 simp only [drawOk, Bool.and_eq_true, List.all_eq_true, List.mem_range, Bool.or_eq_true, beq_iff_eq, bne_iff_ne, ne_eq, decide_eq_true_eq, List.any_eq_true, Bool.not_eq_true'] at h
 obtain ⟨⟨⟨⟨⟨h1, h2⟩, h3⟩, h4⟩, h5⟩, h6⟩ := h
 have hord : ∀ j i, j < l.length → i < l.length → (nthOp l i).op.rank = 2 → (nthOp l j).op.rank ≠ 0 → i ≠ j → (i < j ∧ ((ancs l).getD j 0).testBit i = true) ∨ (j < i ∧ ((ancs l).getD i 0).testBit j = true) := by
  intro j i hj hi hri hrj hne
  rcases h6 j hj i hi with ((((q | q) | q) | q) | q)
  ·exact absurd hri q
  ·exact absurd q hrj
  ·exact absurd q hne
  ·exact .inl q
  ·exact .inr q
 refine ⟨fun j i => ((ancs l).getD j 0).testBit i = true, ⟨fun j hj e he => h1 j hj e he, ?_, fun j hj => h3 j hj, ?_, ?_, fun j i hj hi h h' hne => hord j i hj hi h (by omega) hne⟩, hord⟩
 ·intro j i hj hi ha
  rcases h2 j hj i hi with q | ⟨e, he, q⟩
  ·rw [q] at ha; simp at ha
  ·exact ⟨e, he, q⟩
 ·intro j i hj hi t hdi hdj
  rcases h4 j hj i hi with q | q
  ·exact q
  ·rcases q with q | q
   ·exact absurd (q.symm.trans hdi) (by simp)
   ·exact absurd (hdi.trans hdj.symm) q
 ·intro j i t hj hi ht hd
  rcases h5 j hj t ht i hi with (q | q) | q
  ·exact absurd hd q
  ·exact .inl q
  ·exact .inr q
theorem drawOkU_chk {l : List COp} {U : List (List Nat)} (h : drawOkU l U = true) : ∃ anc, Chk l anc ∧ ∀ j i, j < l.length → i < l.length → (nthOp l i).op.rank = 2 → (nthOp l j).op.rank = 1 → ((i < j ∧ anc j i) ∨ (j < i ∧ anc i j)) ∨ (memN j (U.getD i []) = true ∧ memN i (U.getD j []) = true ∧ (nthOp l j).guard = none) := by
 simp only [drawOkU, Bool.and_eq_true, List.all_eq_true, List.mem_range, Bool.or_eq_true, beq_iff_eq, bne_iff_ne, ne_eq, decide_eq_true_eq, List.any_eq_true, Bool.not_eq_true', Option.isNone_iff_eq_none] at h
 obtain ⟨⟨⟨⟨⟨h1, h2⟩, h3⟩, h4⟩, h5⟩, h6⟩ := h
 refine ⟨fun j i => ((ancs l).getD j 0).testBit i = true, ⟨fun j hj e he => h1 j hj e he, ?_, fun j hj => h3 j hj, ?_, ?_, ?_⟩, ?_⟩
 ·intro j i hj hi ha
  rcases h2 j hj i hi with q | ⟨e, he, q⟩
  ·rw [q] at ha; simp at ha
  ·exact ⟨e, he, q⟩
 ·intro j i hj hi t hdi hdj
  rcases h4 j hj i hi with q | q
  ·exact q
  ·rcases q with q | q
   ·exact absurd (q.symm.trans hdi) (by simp)
   ·exact absurd (hdi.trans hdj.symm) q
 ·intro j i t hj hi ht hd
  rcases h5 j hj t ht i hi with (q | q) | q
  ·exact absurd hd q
  ·exact .inl q
  ·exact .inr q
 ·intro j i hj hi hri hrj hne
  rcases h6 j hj i hi with (((((q | q) | q) | q) | q) | q)
  ·exact absurd hri q
  ·exact absurd (q.symm.trans hrj) (by omega)
  ·exact absurd q hne
  ·exact .inl q
  ·exact .inr q
  ·have : (nthOp l j).op.rank = 1 := q.1.1.1
   omega
 ·intro j i hj hi hri hrj
  rcases h6 j hj i hi with (((((q | q) | q) | q) | q) | q)
  ·exact absurd hri q
  ·exact absurd (q.symm.trans hrj) (by omega)
  ·subst q; omega
  ·exact .inl (.inl q)
  ·exact .inl (.inr q)
  ·exact .inr ⟨q.1.1.2, q.1.2, q.2⟩
theorem nthOp_cOps (P : Program) (H : Hints) (id : Nat) (ops : Array Oper) {i : Nat} (hi : i < ops.size) : nthOp (cOps P H id ops true) i = cAt P H id ops true i := by
 unfold nthOp cOps
 rw [List.getD_eq_getElem?_getD, List.getElem?_map, List.getElem?_range hi]; rfl
theorem length_cOps (P : Program) (H : Hints) (id : Nat) (ops : Array Oper) : (cOps P H id ops true).length = ops.size := by simp [cOps]
section
variable {P : Program} {nt : Nat} {s0 : Slots} {σ0 : Store}
structure At (l : List COp) (v : Nat → AV) (st : Nat → Store) (s0 : Slots) (nt : Nat) (L : Nat → Prop) (m : Mem) (loc : List Loc) (s : Slots) (a : Act) (w : World) (D : List Deferred) (E : Nat) : Prop where
 clo : ∀ i, i < l.length → L i → ∀ e ∈ (nthOp l i).after, L e
 sr : SRel m loc (st E) w
 r : SlotRel m loc nt s a.tmps
 d : a.defers = D
 on : ∀ t j, j < l.length → L j → (nthOp l j).dst = some t → lk s t = v j
 off : ∀ t, (∀ j, j < l.length → L j → (nthOp l j).dst ≠ some t) → lk s t = lk s0 t
 eff : E ≤ l.length ∧ (∀ i, i < E → (nthOp l i).op.rank = 2 → L i) ∧ (∀ i, i < l.length → L i → (nthOp l i).op.rank = 2 → i < E) ∧ (E = 0 ∨ (nthOp l (E - 1)).op.rank = 2 ∧ L (E - 1))
theorem At.anc {l : List COp} {anc : Nat → Nat → Prop} (hc : Chk l anc) {L : Nat → Prop} (hclo : ∀ i, i < l.length → L i → ∀ e ∈ (nthOp l i).after, L e) : ∀ i, i < l.length → L i → ∀ j, j < l.length → anc i j → L j := by
 intro i
 induction i using Nat.strongRecOn with
 | _ i ih =>
  intro hi hL j hj ha
  obtain ⟨e, he, q⟩ := hc.clo i j hi hj ha
  have hle := hclo i hi hL e he
  rcases q with rfl | q
  ·exact hle
  ·have := hc.after i hi e he
   exact ih e this (by omega) hle j hj q
theorem st_same {l : List COp} {v : Nat → AV} {st : Nat → Store} (ht : ∀ i, i < l.length → Told P nt (nthOp l i) (slotsAt s0 (fun j => (nthOp l j).dst) v i) (st i) (v i) (st (i + 1))) :
  ∀ (k E : Nat), E + k ≤ l.length → (∀ i, E ≤ i → i < E + k → (nthOp l i).op.rank ≤ 1) → st (E + k) = st E
 | 0, E, _, _ => rfl
 | k + 1, E, h, hr => by
  have ih := st_same ht k E (by omega) (fun i h1 h2 => hr i h1 (by omega))
  have := (ht (E + k) (by omega)).step
  rw [show E + (k + 1) = E + k + 1 by omega]
  rcases this with ⟨_, hd⟩ | ⟨_, _, hd⟩
  ·rw [hd.2.1 (hr _ (by omega) (by omega)), ih]
  ·rw [hd, ih]
def Stab (P : Program) (l : List COp) (anc : Nat → Nat → Prop) (s0 : Slots) (v : Nat → AV) (st : Nat → Store) : Prop :=
 ∀ j i, j < l.length → i < l.length → (nthOp l j).op.rank = 1 → (nthOp l i).op.rank = 2 → ¬ (i < j ∧ anc j i) → ¬ (j < i ∧ anc i j) →
  (i < j → aI P (nthOp l j).op (slotsAt s0 (fun j => (nthOp l j).dst) v j) (st i) (isR (v j) (st i))) ∧
  (j < i → aI P (nthOp l j).op (slotsAt s0 (fun j => (nthOp l j).dst) v j) (st (i + 1)) (isR (v j) (st (i + 1))))
theorem least (J : Nat → Prop) (h : ∃ n, J n) : ∃ n, J n ∧ ∀ k, k < n → ¬ J k := by
 obtain ⟨n, hn⟩ := h
 induction n using Nat.strongRecOn with
 | _ n ih =>
  by_cases hk : ∃ k, k < n ∧ J k
  ·obtain ⟨k, h1, h2⟩ := hk; exact ih k h1 h2
  ·exact ⟨n, hn, fun k h1 h2 => hk ⟨k, h1, h2⟩⟩
theorem draw_core {n0 : Nat} {F : Fence} (hF : Wd F) {D : List Deferred} (hm : P.follows .mixedOrders = true) (H : Hints) (id : Nat) (ops : Array Oper) (K : Slots → Store → Prop) {m0 : Mem} {loc0 : List Loc} {w0 : World} {a0 : Act} {Q : Exit → Act → World → Prop}
  {l : List COp} (hl : cOps P H id ops true = l) {anc : Nat → Nat → Prop} (hc : Chk l anc) {v : Nat → AV} {st : Nat → Store} (hst0 : st 0 = σ0)
  (ht : ∀ i, i < l.length → Told P nt (nthOp l i) (slotsAt s0 (fun j => (nthOp l j).dst) v i) (st i) (v i) (st (i + 1))) (hK : K (slotsAt s0 (fun j => (nthOp l j).dst) v l.length) (st l.length))
  (hS : Stab P l anc s0 v st) (hs0 : SRel m0 loc0 σ0 w0) (hr0 : SlotRel m0 loc0 nt s0 a0.tmps) (hd0 : a0.defers = D)
  (hQ : ∀ s' σ' m' loc' a' w', K s' σ' → SRel m' loc' σ' w' → SlotRel m' loc' nt s' a'.tmps → a'.defers = D → Ext loc0.length m0 loc0 w0 m' loc' w' → Q .normal a' w') :
  (Code.region id ops true).wpIn F 0 P Q a0 w0 := by
 have hlen : l.length = ops.size := by rw [← hl, length_cOps]
 have hnth : ∀ i, i < ops.size → nthOp l i = cAt P H id ops true i := fun i hi => by rw [← hl]; exact nthOp_cOps P H id ops hi
 have huniq : ∀ i j t, (nthOp l i).dst = some t → (nthOp l j).dst = some t → i = j := by
  intro i j t hi hj
  have lt : ∀ k, (nthOp l k).dst = some t → k < l.length := by
   intro k hk
   rcases Nat.lt_or_ge k l.length with q | q
   ·exact q
   ·unfold nthOp at hk; rw [List.getD_eq_getElem?_getD, List.getElem?_eq_none q] at hk; simp at hk
  exact hc.uniq j i (lt j hj) (lt i hi) t hi hj
 have main : ∀ (fuel : Nat) (listed : Array Bool) (m : Mem) (loc : List Loc) (s : Slots) (a : Act) (w : World) (E : Nat), listed.size = ops.size →
   ((List.range ops.size).filter fun i => !listed.getD i false).length = fuel →
   At l v st s0 nt (fun i => listed.getD i false = true) m loc s a w D E → Ext loc0.length m0 loc0 w0 m loc w → wpAnyIn F 0 P .any ops Q fuel listed a w := by
  have done : ∀ (listed : Array Bool) (m : Mem) (loc : List Loc) (s : Slots) (a : Act) (w : World) (E : Nat), (∀ i, i < ops.size → listed.getD i false = true) →
    At l v st s0 nt (fun i => listed.getD i false = true) m loc s a w D E → Ext loc0.length m0 loc0 w0 m loc w → Q .normal a w := by
   intro listed m loc s a w E hall hA he
   have hE : st l.length = st E := by
    have := st_same ht (l.length - E) E (by have := hA.eff.1; omega) (fun i h1 h2 => by
     have hil : i < l.length := by have := hA.eff.1; omega
     have h3 := hc.rank i hil
     rcases Nat.lt_or_ge (nthOp l i).op.rank 2 with q | q
     ·omega
     ·have hr4 : (nthOp l i).op.rank ≤ 3 := by generalize (nthOp l i).op = o; cases o <;> first | (simp [AI.rank]; done) | (rename_i e _ _; cases e <;> simp [AI.rank])
      have := hA.eff.2.2.1 i hil (hall i (by omega)) (by omega); omega)
    rw [show E + (l.length - E) = l.length by have := hA.eff.1; omega] at this; exact this
   refine hQ _ _ m loc a w hK (by rw [hE]; exact hA.sr) ⟨hA.r.size, fun t => ?_⟩ hA.d he
   have hSn := slotsAt_lk s0 (fun j => (nthOp l j).dst) v huniq t l.length
   have : lk (slotsAt s0 (fun j => (nthOp l j).dst) v l.length) t = lk s t := by
    by_cases hx : ∃ j, j < l.length ∧ (nthOp l j).dst = some t
    ·obtain ⟨j, hj, hd⟩ := hx
     rw [hSn.1 j hj hd, hA.on t j hj (hall j (by omega)) hd]
    ·rw [hSn.2 (fun j hj hd => hx ⟨j, hj, hd⟩), hA.off t (fun j hj _ hd => hx ⟨j, hj, hd⟩)]
   rw [this]; exact hA.r.rel t
  have allOf : ∀ (listed : Array Bool), ((List.range ops.size).filter fun i => !listed.getD i false).length = 0 → ∀ i, i < ops.size → listed.getD i false = true := by
   intro listed h i hi
   have hnil := List.eq_nil_of_length_eq_zero h
   cases hq : listed.getD i false with
   | true => rfl
   | false =>
    have : i ∈ (List.range ops.size).filter fun i => !listed.getD i false := List.mem_filter.2 ⟨List.mem_range.2 hi, by rw [hq]; rfl⟩
    rw [hnil] at this; simp at this
  have readyAll : ∀ (listed : Array Bool), listed.size = ops.size → Region.ready .any ops listed = [] → ∀ i, i < ops.size → listed.getD i false = true := by
   intro listed hsz hr i
   induction i using Nat.strongRecOn with
   | _ i ih =>
    intro hi
    cases hq : listed.getD i false with
    | true => rfl
    | false =>
     exfalso
     have hmem : i ∈ Region.ready .any ops listed := by
      unfold Region.ready
      refine List.mem_filter.2 ⟨List.mem_range.2 hi, ?_⟩
      have ho : ops[i]? = some ops[i] := Array.getElem?_eq_getElem hi
      have hq' : listed.getD i true = false := by
       rw [Array.getD_eq_getD_getElem?] at hq ⊢
       rw [Array.getElem?_eq_getElem (by omega)] at hq ⊢
       simpa using hq
      rw [ho, hq']
      simp only [Bool.not_false, Bool.true_and, Option.map_some, Option.getD_some]
      rw [Array.all_eq_true_iff_forall_mem]
      intro e he
      cases hb : Region.binds .any e with
      | false => rfl
      | true =>
       have hin : e.on ∈ (nthOp l i).after := by
        rw [hnth i hi]; unfold cAt; rw [ho]
        simp only [if_true]
        exact List.mem_map.2 ⟨e, List.mem_filter.2 ⟨by simpa using he, hb⟩, rfl⟩
       have hlt := hc.after i (by omega) _ hin
       simp [ih e.on hlt (by omega)]
     rw [hr] at hmem; simp at hmem
  intro fuel
  induction fuel with
  | zero =>
   intro listed m loc s a w E hsz hf hA he
   have hall := allOf listed hf
   refine ⟨?_, done listed m loc s a w E hall hA he⟩
   unfold Region.ready
   rw [List.filter_eq_nil_iff]
   intro i hi
   have hi' := List.mem_range.1 hi
   have := hall i hi'
   have hq' : listed.getD i true = true := by
    rw [Array.getD_eq_getD_getElem?] at this ⊢
    rw [Array.getElem?_eq_getElem (by omega)] at this ⊢
    simpa using this
   rw [hq']; simp
  | succ fuel ih =>
   intro listed m loc s a w E hsz hf hA he
   refine ⟨fun hr => done listed m loc s a w E (readyAll listed hsz hr) hA he, ?_⟩
   intro i hir
   unfold Region.ready at hir
   obtain ⟨hi, hir⟩ := List.mem_filter.1 hir
   have hi := List.mem_range.1 hi
   have ho : ops[i]? = some ops[i] := Array.getElem?_eq_getElem hi
   generalize ops[i] = o at ho
   rw [ho] at hir
   simp only [Option.map_some, Option.getD_some, Bool.and_eq_true, Bool.not_eq_true'] at hir
   obtain ⟨hnl, haft⟩ := hir
   have hnl' : listed.getD i false = false := by
    rw [Array.getD_eq_getD_getElem?] at hnl ⊢
    rw [Array.getElem?_eq_getElem (by omega)] at hnl ⊢
    simpa using hnl
   have hil : i < l.length := by omega
   have hcat : nthOp l i = { dst := o.dst, op := opAt P H id i o.op, guard := o.guard.map fun (j, b) => ((ops[j]?).bind (·.dst), b), after := (o.after.toList.filter (Region.binds .any ·)).map (·.on) } := by
    rw [hnth i hi]; unfold cAt; rw [ho]; rfl
   have haft' : ∀ e ∈ (nthOp l i).after, listed.getD e false = true := by
    rw [hcat]
    intro e he
    obtain ⟨ed, hed, rfl⟩ := List.mem_map.1 he
    obtain ⟨hed, hb⟩ := List.mem_filter.1 hed
    have := Array.all_eq_true_iff_forall_mem.1 haft ed (by simpa using hed)
    simpa [hb] using this
   have hancL : ∀ j, j < l.length → anc i j → listed.getD j false = true := by
    intro j hj ha
    obtain ⟨e, he, q⟩ := hc.clo i j hil hj ha
    have hle := haft' e he
    rcases q with rfl | q
    ·exact hle
    ·have := hc.after i hil e he
     exact At.anc hc hA.clo e (by omega) hle j hj q
   have hslots : ∀ t ∈ (nthOp l i).reads, lk (slotsAt s0 (fun j => (nthOp l j).dst) v i) t = lk s t := by
    intro t hrd
    have hS := slotsAt_lk s0 (fun j => (nthOp l j).dst) v huniq t i
    by_cases hx : ∃ j, j < l.length ∧ (nthOp l j).dst = some t
    ·obtain ⟨j, hj, hd⟩ := hx
     rcases hc.reads i j t hil hj hrd hd with ⟨q1, q2⟩ | ⟨q1, q2⟩
     ·rw [hS.1 j q1 hd, hA.on t j hj (hancL j hj q2) hd]
     ·have hjn : ¬ listed.getD j false = true := by
       intro hjl
       have := At.anc hc hA.clo j hj hjl i hil q2
       rw [hnl'] at this; simp at this
      rw [hS.2 (fun k hk hdk => by have := huniq k j t hdk hd; omega), hA.off t (fun k hk hkl hdk => by have := huniq k j t hdk hd; subst this; exact hjn hkl)]
    ·rw [hS.2 (fun j hj hd => hx ⟨j, by omega, hd⟩), hA.off t (fun j hj _ hd => hx ⟨j, hj, hd⟩)]
   have hstore : (nthOp l i).op.rank = 2 → st E = st i ∧ E ≤ i := by
    intro hr
    have hEi : E ≤ i := by
     rcases hA.eff.2.2.2 with q | ⟨q1, q2⟩
     ·omega
     ·rcases Nat.eq_zero_or_pos E with z | z
      ·omega
      ·have hne : E - 1 ≠ i := by intro e; rw [e] at q2; rw [hnl'] at q2; simp at q2
       rcases hc.order i (E - 1) hil (by have := hA.eff.1; omega) q1 hr hne with ⟨q3, _⟩ | ⟨q3, q4⟩
       ·omega
       ·have := At.anc hc hA.clo (E - 1) (by have := hA.eff.1; omega) q2 i hil q4
        rw [hnl'] at this; simp at this
    refine ⟨?_, hEi⟩
    have := st_same ht (i - E) E (by omega) (fun j h1 h2 => by
     have hjl : j < l.length := by omega
     have h3 := hc.rank j hjl
     rcases Nat.lt_or_ge (nthOp l j).op.rank 2 with q | q
     ·omega
     ·have hr4 : (nthOp l j).op.rank ≤ 3 := by generalize (nthOp l j).op = o; cases o <;> first | (simp [AI.rank]; done) | (rename_i e _ _; cases e <;> simp [AI.rank])
      have hj2 : (nthOp l j).op.rank = 2 := by omega
      rcases hc.order i j hil hjl hj2 hr (by omega) with ⟨q3, q4⟩ | ⟨q3, _⟩
      ·have := hA.eff.2.2.1 j hjl (hancL j hjl q4) hj2; omega
      ·omega)
    rw [show E + (i - E) = i by omega] at this; exact this.symm
   have hT := ht i hil
   have hread : (nthOp l i).op.rank = 1 → Det P (nthOp l i).op (slotsAt s0 (fun j => (nthOp l j).dst) v i) (st i) (v i) (st (i + 1)) →
     aI P (nthOp l i).op (slotsAt s0 (fun j => (nthOp l j).dst) v i) (st E) (isR (v i) (st E)) := by
    intro hr1 hdet
    by_cases hE : E ≤ i
    ·by_cases hex : ∃ k, E ≤ k ∧ k < i ∧ (nthOp l k).op.rank = 2
     ·obtain ⟨k, ⟨k1, k2, k3⟩, k4⟩ := least _ hex
      have hkl : k < l.length := by omega
      have hna : ¬ (k < i ∧ anc i k) := fun q => by
       have := hA.eff.2.2.1 k hkl (hancL k hkl q.2) k3; omega
      have h1 := (hS i k hil hkl hr1 k3 hna (by omega)).1 k2
      have h2 := st_same ht (k - E) E (by omega) (fun j h1 h2 => by
       have hjl : j < l.length := by omega
       have h3 := hc.rank j hjl
       rcases Nat.lt_or_ge (nthOp l j).op.rank 2 with q | q
       ·omega
       ·have hr4 : (nthOp l j).op.rank ≤ 3 := by generalize (nthOp l j).op = o; cases o <;> first | (simp [AI.rank]; done) | (rename_i e _ _; cases e <;> simp [AI.rank])
        exact absurd ⟨h1, by omega, by omega⟩ (k4 j (by omega)))
      rw [show E + (k - E) = k by omega] at h2
      rw [h2] at h1; exact h1
     ·have h2 := st_same ht (i - E) E (by omega) (fun j h1 h2 => by
       have hjl : j < l.length := by omega
       have h3 := hc.rank j hjl
       rcases Nat.lt_or_ge (nthOp l j).op.rank 2 with q | q
       ·omega
       ·have hr4 : (nthOp l j).op.rank ≤ 3 := by generalize (nthOp l j).op = o; cases o <;> first | (simp [AI.rank]; done) | (rename_i e _ _; cases e <;> simp [AI.rank])
        exact absurd ⟨j, h1, by omega, by omega⟩ hex)
      rw [show E + (i - E) = i by omega] at h2
      rw [← h2]
      exact hdet.1 _ ⟨rfl, hdet.2.1 (by omega)⟩
    ·rcases hA.eff.2.2.2 with q | ⟨q1, q2⟩
     ·omega
     ·have hne : E - 1 ≠ i := by intro e; rw [e] at q1; omega
      have hEl : E - 1 < l.length := by have := hA.eff.1; omega
      have := (hS i (E - 1) hil hEl hr1 q1 (by omega) (fun q => by
       have := At.anc hc hA.clo (E - 1) hEl q2 i hil q.2
       rw [hnl'] at this; simp at this)).2 (by omega)
      rw [show E - 1 + 1 = E by omega] at this; exact this
   let E' : Nat := if (nthOp l i).op.rank = 2 then i + 1 else E
   have hstE : (nthOp l i).op.rank = 2 ∨ st (i + 1) = st i → st E' = st (i + 1) ∨ ((nthOp l i).op.rank ≠ 2 ∧ E' = E) := by
    intro _
    by_cases hr2 : (nthOp l i).op.rank = 2
    ·left; simp only [E']; rw [if_pos hr2]
    ·right; exact ⟨hr2, by simp only [E']; rw [if_neg hr2]⟩
   have next : ∀ (u : Value) (m' : Mem) (loc' : List Loc) (w' : World), Rel m' loc' (v i) u → SRel m' loc' (st E') w' → Ext loc.length m loc w m' loc' w' →
     wpAnyIn F 0 P .any ops Q fuel (listed.setIfInBounds i true) (a.put o.dst u) w' := by
    intro u m' loc' w' hv hs' he'
    have hset : ∀ j, (listed.setIfInBounds i true).getD j false = true ↔ (j = i ∨ listed.getD j false = true) := by
     intro j
     rw [Array.getD_eq_getD_getElem?, Array.getD_eq_getD_getElem?]
     by_cases hji : i = j
     ·subst hji; rw [Array.getElem?_setIfInBounds_self_of_lt (by omega)]; simp
     ·rw [Array.getElem?_setIfInBounds_ne hji]
      exact ⟨fun q => .inr q, fun q => q.resolve_left (fun e => hji e.symm)⟩
    have hput : ∃ s', SlotRel m' loc' nt s' (a.put o.dst u).tmps ∧ (a.put o.dst u).defers = D ∧ (∀ t, lk s' t = if o.dst = some t then v i else lk s t) := by
     have hr' := hA.r.ext he'
     cases hd : o.dst with
     | none => exact ⟨s, hr', hA.d, fun t => by simp⟩
     | some d =>
      have hdn : d < nt := hT.dst d (by rw [hcat]; exact hd)
      exact ⟨put s d (v i), hr'.put hdn hv, hA.d, fun t => by rw [lk_put]; simp⟩
    obtain ⟨s', r1, r2, r3⟩ := hput
    have hdsti : (nthOp l i).dst = o.dst := by rw [hcat]
    refine ih (listed.setIfInBounds i true) m' loc' s' _ w' E' (by simpa using hsz) ?_ ⟨?_, hs', r1, r2, ?_, ?_, ?_⟩ (he.trans (he'.less (he.len (Nat.le_refl _))))
    ·-- one less
     have : ((List.range ops.size).filter fun j => !(listed.setIfInBounds i true).getD j false) = ((List.range ops.size).filter fun j => !listed.getD j false).erase i := by
      have hnd : ((List.range ops.size).filter fun j => !listed.getD j false).Nodup := List.Pairwise.filter _ List.nodup_range
      rw [hnd.erase_eq_filter, List.filter_filter]
      apply List.filter_congr
      intro j hj
      have := hset j
      by_cases hji : j = i
      ·subst hji; simp [this.2 (.inl rfl)]
      ·have hb : (listed.setIfInBounds i true).getD j false = listed.getD j false := by
        rw [Bool.eq_iff_iff, this]; exact ⟨fun q => q.resolve_left hji, .inr⟩
       rw [hb]; simp [hji]
     rw [this, List.length_erase_of_mem (List.mem_filter.2 ⟨List.mem_range.2 hi, by rw [hnl']; rfl⟩), hf]; rfl
    ·intro j hj hjl e hej
     rcases (hset j).1 hjl with rfl | hjl
     ·exact (hset e).2 (.inr (haft' e hej))
     ·exact (hset e).2 (.inr (hA.clo j hj hjl e hej))
    ·intro t j hj hjl hd
     rw [r3]
     rcases (hset j).1 hjl with rfl | hjl
     ·rw [hdsti] at hd; rw [if_pos hd]
     ·by_cases hdo : o.dst = some t
      ·have := huniq i j t (by rw [hdsti]; exact hdo) hd
       subst this; rw [if_pos hdo]
      ·rw [if_neg hdo]; exact hA.on t j hj hjl hd
    ·intro t hno
     rw [r3, if_neg (fun hdo => hno i hil ((hset i).2 (.inl rfl)) (by rw [hdsti]; exact hdo))]
     exact hA.off t (fun j hj hjl => hno j hj ((hset j).2 (.inr hjl)))
    ·by_cases hr2 : (nthOp l i).op.rank = 2
     ·have hE' : E' = i + 1 := by simp only [E']; rw [if_pos hr2]
      obtain ⟨_, hEi⟩ := hstore (by omega)
      rw [hE']
      refine ⟨by omega, ?_, ?_, .inr ⟨by simpa using hr2, (hset _).2 (.inl (by omega))⟩⟩
      ·intro j hj hrj
       by_cases hji : j = i
       ·exact (hset j).2 (.inl hji)
       ·rcases hc.order i j hil (by omega) hrj (by omega) hji with ⟨_, q⟩ | ⟨q, _⟩
        ·exact (hset j).2 (.inr (hancL j (by omega) q))
        ·omega
      ·intro j hj hjl hrj
       rcases (hset j).1 hjl with rfl | hjl
       ·omega
       ·have := hA.eff.2.2.1 j hj hjl hrj; omega
     ·have hE' : E' = E := by simp only [E']; rw [if_neg hr2]
      rw [hE']
      refine ⟨hA.eff.1, fun j hj hrj => (hset j).2 (.inr (hA.eff.2.1 j hj hrj)), ?_, ?_⟩
      ·intro j hj hjl hrj
       rcases (hset j).1 hjl with rfl | hjl
       ·exact absurd hrj hr2
       ·exact hA.eff.2.2.1 j hj hjl hrj
      ·rcases hA.eff.2.2.2 with q | ⟨q1, q2⟩
       ·exact .inl q
       ·exact .inr ⟨q1, (hset _).2 (.inr q2)⟩
   have hguard : guardV s (nthOp l i).guard = guardV (slotsAt s0 (fun j => (nthOp l j).dst) v i) (nthOp l i).guard := by
    cases hg : (nthOp l i).guard with
    | none => rfl
    | some g =>
     obtain ⟨t, b⟩ := g
     cases t with
     | none => rfl
     | some t =>
      have := hslots t (by unfold COp.reads; rw [hg]; simp)
      simp only [guardV, this]
   have hne : guardV s (o.guard.map fun (j, b) => ((ops[j]?).bind (·.dst), b)) ≠ .bad := by
    have e : (nthOp l i).guard = o.guard.map fun (j, b) => ((ops[j]?).bind (·.dst), b) := by rw [hcat]
    rw [← e, hguard]
    rcases hT.step with ⟨q, _⟩ | ⟨q, _⟩ <;> rw [q] <;> simp
   have hgv : guardV (slotsAt s0 (fun j => (nthOp l j).dst) v i) (nthOp l i).guard = guardV s (o.guard.map fun (j, b) => ((ops[j]?).bind (·.dst), b)) := by
    rw [← hguard]; congr 1; rw [hcat]
   show wpOpIn F 0 P ops Q i _ a w
   unfold wpOpIn
   rw [ho]
   simp only
   rcases wanted_rel hA.r hne with ⟨hw, hrun⟩ | ⟨hw, hskip⟩
   ·rw [if_pos hw]
    rcases hT.step with ⟨_, hdet⟩ | ⟨q, _⟩
    ·have hop : (nthOp l i).op = opAt P H id i o.op := by rw [hcat]
     have key : aI P (opAt P H id i o.op) s (st E) (fun x σ' => x = v i ∧ σ' = st E') := by
      rw [← hop]
      refine aI_cong P (s := slotsAt s0 (fun j => (nthOp l j).dst) v i) (fun t htm => hslots t (by unfold COp.reads; exact List.mem_append.2 (.inl htm))) ?_
      by_cases hr0 : (nthOp l i).op.rank = 0
      ·have hE' : E' = E := by simp only [E']; rw [if_neg (by omega)]
       exact hdet.2.2 hr0 _ _ ⟨rfl, by rw [hE']⟩
      ·by_cases hr2 : (nthOp l i).op.rank = 2
       ·obtain ⟨q1, q2⟩ := hstore hr2
        rw [q1]
        refine hdet.1 _ ⟨rfl, ?_⟩
        simp only [E']; rw [if_pos hr2]
       ·have hE' : E' = E := by simp only [E']; rw [if_neg hr2]
        have hr4 : (nthOp l i).op.rank ≤ 3 := by generalize (nthOp l i).op = o; cases o <;> first | (simp [AI.rank]; done) | (rename_i e _ _; cases e <;> simp [AI.rank])
        have h3 := hc.rank i hil
        rw [hE']; exact hread (by omega) hdet
     refine op_upon' hF hA.sr hA.r key ?_
     rintro x σ' m' loc' u w' ⟨rfl, rfl⟩ g1 g2 g3
     exact next u m' loc' w' g1 g2 g3
    ·rw [hgv, hrun] at q; simp at q
   ·rw [if_neg (by rw [hw]; simp)]
    rcases hT.step with ⟨q, _⟩ | ⟨_, hv, hstq⟩
    ·rw [hgv, hskip] at q; simp at q
    ·refine ⟨fun f _ => hF.fn f, ?_⟩
     refine next undef m loc w (by rw [hv]; exact .tuple [] #[] rfl (by simp)) ?_ (.refl _ _ _ _)
     have hE : st E' = st E := by
      by_cases hr2 : (nthOp l i).op.rank = 2
      ·have hE' : E' = i + 1 := by simp only [E']; rw [if_pos hr2]
       rw [hE', hstq]; exact (hstore (by omega)).1.symm
      ·simp only [E']; rw [if_neg hr2]
     rw [hE]; exact hA.sr
 have hrep : ∀ i, ¬ (Array.replicate ops.size false).getD i false = true := by
  intro i
  rw [Array.getD_eq_getD_getElem?, Array.getElem?_replicate]
  split <;> simp
 refine wpIn_region_any hm ?_
 refine main ops.size (Array.replicate ops.size false) m0 loc0 s0 a0 { w0 with drawn := w0.drawn + 1 } 0 (by simp) ?_ ⟨?_, ?_, hr0, hd0, ?_, fun _ _ => rfl, by omega, fun i h => by omega, ?_, .inl rfl⟩ (.heap_same rfl rfl rfl rfl (Nat.le_succ _))
 ·rw [List.filter_eq_self.2]
  ·simp
  ·intro i hi; simp [Array.getD_eq_getD_getElem?, List.mem_range.1 hi]
 ·exact fun i hi hL => absurd hL (hrep i)
 ·rw [hst0]; exact hs0.heap_same rfl
 ·exact fun t j hj hL => absurd hL (hrep j)
 ·exact fun i hi hL => absurd hL (hrep i)
theorem draw_sound {n0 : Nat} {F : Fence} (hF : Wd F) {D : List Deferred} (hm : P.follows .mixedOrders = true) (H : Hints) (id : Nat) (ops : Array Oper) (K : Slots → Store → Prop) {m0 : Mem} {loc0 : List Loc} {w0 : World} {a0 : Act} {Q : Exit → Act → World → Prop}
  (h1 : drawOk (cOps P H id ops true) = true) (h2 : aOpsD P nt (cOps P H id ops true) K s0 σ0) (hs0 : SRel m0 loc0 σ0 w0) (hr0 : SlotRel m0 loc0 nt s0 a0.tmps) (hd0 : a0.defers = D)
  (hQ : ∀ s' σ' m' loc' a' w', K s' σ' → SRel m' loc' σ' w' → SlotRel m' loc' nt s' a'.tmps → a'.defers = D → Ext loc0.length m0 loc0 w0 m' loc' w' → Q .normal a' w') :
  (Code.region id ops true).wpIn F 0 P Q a0 w0 := by
 obtain ⟨anc, hc, hord⟩ := drawOk_chk h1
 generalize hl : cOps P H id ops true = l at hc hord h2
 obtain ⟨v, st, hst0, ht, hK⟩ := told P nt l K s0 σ0 (fun o ho => by
  obtain ⟨i, hi, rfl⟩ := List.mem_iff_getElem.1 ho
  have := hc.rank i hi
  unfold nthOp at this; rw [List.getD_eq_getElem?_getD, List.getElem?_eq_getElem hi] at this; exact this) h2
 refine draw_core (n0 := n0) hF hm H id ops K hl hc hst0 ht hK ?_ hs0 hr0 hd0 hQ
 intro j i hj hi hrj hri h1 h2
 rcases hord j i hj hi hri (by omega) (by intro e; subst e; omega) with q | q
 ·exact absurd q h1
 ·exact absurd q h2
theorem drawU_sound {n0 : Nat} {F : Fence} (hF : Wd F) {D : List Deferred} (hm : P.follows .mixedOrders = true) (H : Hints) (id : Nat) (ops : Array Oper) (U : List (List Nat)) (K : Slots → Store → Prop) {m0 : Mem} {loc0 : List Loc} {w0 : World} {a0 : Act} {Q : Exit → Act → World → Prop}
  (h1 : drawOkU (cOps P H id ops true) U = true) (h2 : aOpsU P nt (cOps P H id ops true) U 0 [] [] K s0 σ0) (hs0 : SRel m0 loc0 σ0 w0) (hr0 : SlotRel m0 loc0 nt s0 a0.tmps) (hd0 : a0.defers = D)
  (hQ : ∀ s' σ' m' loc' a' w', K s' σ' → SRel m' loc' σ' w' → SlotRel m' loc' nt s' a'.tmps → a'.defers = D → Ext loc0.length m0 loc0 w0 m' loc' w' → Q .normal a' w') :
  (Code.region id ops true).wpIn F 0 P Q a0 w0 := by
 obtain ⟨anc, hc, hord⟩ := drawOkU_chk h1
 generalize hl : cOps P H id ops true = l at hc hord h2
 obtain ⟨v, st, hT⟩ := toldU P nt l U 0 [] [] K s0 σ0 (fun o ho => by
  obtain ⟨i, hi, rfl⟩ := List.mem_iff_getElem.1 ho
  have := hc.rank i hi
  unfold nthOp at this; rw [List.getD_eq_getElem?_getD, List.getElem?_eq_getElem hi] at this; exact this) h2
 refine draw_core (n0 := n0) hF hm H id ops K hl hc hT.zero hT.told hT.fin ?_ hs0 hr0 hd0 hQ
 intro j i hj hi hrj hri h1 h2
 rcases hord j i hj hi hri hrj with (q | q) | ⟨q1, q2, q3⟩
 ·exact absurd q h1
 ·exact absurd q h2
 ·exact ⟨fun hij => hT.down i j hij hj hri hrj q3 (by rw [Nat.zero_add]; exact q2), fun hij => hT.up j i hij hi hrj hri q3 (by rw [Nat.zero_add]; exact q1)⟩
end
end Go.Ahl
namespace Go.Ahl
def Ghost (n0 nt : Nat) (s : Slots) (σ : Store) (s' : Slots) (σ' : Store) : Prop :=
 ∀ m loc w tmps, n0 ≤ loc.length → SRel m loc σ w → SlotRel m loc nt s tmps → ∃ m' loc', SRel m' loc' σ' w ∧ SlotRel m' loc' nt s' tmps ∧ Ext n0 m loc w m' loc' w
def Gh (n0 nt : Nat) (s : Slots) (σ : Store) (K : Slots → Store → Prop) : Prop := ∃ s' σ', Ghost n0 nt s σ s' σ' ∧ K s' σ'
theorem Ghost.refl (n0 nt : Nat) (s : Slots) (σ : Store) : Ghost n0 nt s σ s σ := fun m loc w t _ h1 h2 => ⟨m, loc, h1, h2, .refl _ _ _ _⟩
theorem Gh.skip {n0 nt : Nat} {s : Slots} {σ : Store} {K : Slots → Store → Prop} (h : K s σ) : Gh n0 nt s σ K := ⟨s, σ, .refl _ _ _ _, h⟩
abbrev Post := Exit → Slots → Store → Prop
def seqK (next : Slots → Store → Prop) (Q : Post) : Post
 | .normal, s, σ => next s σ
 | e, s, σ => Q e s σ
def blockK (id : Nat) (Q : Post) : Post
 | .exit id', s, σ => match id' == id with
  | true => Q .normal s σ
  | false => Q (.exit id') s σ
 | e, s, σ => Q e s σ
def loopK (n0 nt n : Nat) (I : Nat → Slots → Store → Prop) (Q : Post) : Post
 | .normal, s, σ => Gh n0 nt s σ fun s σ => ∃ k, k < n ∧ I k s σ
 | e, s, σ => Q e s σ
def scopeK (Q : Post) : Post
 | .goto _, _, _ => False
 | e, s, σ => Q e s σ
def condK (t f : Slots → Store → Prop) (s : Slots) (σ : Store) : AV → Prop
 | .bool true => t s σ
 | .bool false => f s σ
 | _ => False
def pendK (Q : Post) (s : Slots) (σ : Store) : Option Code → Prop
 | none => Q .normal s σ
 | some .ret => Q .ret s σ
 | some (.exit id) => Q (.exit id) s σ
 | _ => False
def rangeK (k : Nat) (Q : Post) (s : Slots) : Cont := fun _ σ' => ∃ L, σ'[k]? = some (.loop L) ∧ L.st ≠ .busy ∧ pendK Q s (σ'.set k .dead) L.pend
def rangeC (P : Program) (nt : Nat) (ps : List Nat) (asg body : Code) (Q : Post) (s : Slots) (σ : Store) : AV → Prop
 | .func it cap => (∃ fn, P.funcs[it]? = some fn ∧ fn.body.isSome = true ∧ fn.name ≠ "runtime.NumGoroutine") ∧
   ACalls P it (.yld σ.length :: cap) (σ ++ [.loop ⟨nt, s, ps, asg, body, .ready, none⟩]) (rangeK σ.length Q s)
 | _ => False
def noRange : CCode → Bool
 | .seq a b | .cond _ a b => noRange a && noRange b
 | .block _ c | .loop c | .ghost c | .scope c => noRange c
 | .rangeF .. => false
 | _ => true
def wpc (P : Program) (nt n0 : Nat) : CCode → Post → Slots → Store → Prop
 | .skip, Q, s, σ => Q .normal s σ
 | .ops l, Q, s, σ => aOps P nt l (Q .normal) s σ
 | .draw l, Q, s, σ => drawOk l = true ∧ aOpsD P nt l (Q .normal) s σ
 | .drawU l U, Q, s, σ => drawOkU l U = true ∧ aOpsU P nt l U 0 [] [] (Q .normal) s σ
 | .seq a b, Q, s, σ => wpc P nt n0 a (seqK (wpc P nt n0 b Q) Q) s σ
 | .cond c a b, Q, s, σ => condK (wpc P nt n0 a Q) (wpc P nt n0 b Q) s σ (aev s c)
 | .block id c, Q, s, σ => wpc P nt n0 c (blockK id Q) s σ
 | .loop c, Q, s, σ => Gh n0 nt s σ fun s σ => ∃ (I : Nat → Slots → Store → Prop) (n : Nat), I n s σ ∧ ∀ n s σ, I n s σ → wpc P nt n0 c (loopK n0 nt n I Q) s σ
 | .exit id, Q, s, σ => Q (.exit id) s σ
 | .ret, Q, s, σ => Q .ret s σ
 | .ghost c, Q, s, σ => Gh n0 nt s σ (wpc P nt n0 c Q)
 | .scope c, Q, s, σ => wpc P nt n0 c (scopeK Q) s σ
 | .rangeF g ps A B, Q, s, σ => ∀ (H : Hints) (asg body : Code), comp P H asg = A → comp P H body = B → rangeC P nt ps asg body Q s σ (aev s g)
 | .bad, _, _, _ => False
section
variable {P : Program} {m : Mem} {loc : List Loc} {σ : Store} {w : World} {nt n0 lo : Nat} {s : Slots} {a : Act} {F : Fence}
def Marks (lo : Nat) (m : Mem) (loc : List Loc) (w : World) (D : List Deferred) : Prop :=
 ∃ bs : List Nat, D = bs.map (fun r => ({ target := .collected r, args := #[] } : Deferred)) ∧ bs.Nodup ∧
  ∀ r ∈ bs, lo ≤ r ∧ w.heap[r]? = some (.deferred (some [])) ∧ ¬ Names loc r ∧ ∀ o, m.wk r o = none
theorem Marks.nil : Marks lo m loc w [] := ⟨[], rfl, .nil, by simp⟩
theorem Marks.ext {m' : Mem} {loc' : List Loc} {w' : World} {D : List Deferred} (he : Ext n0 m loc w m' loc' w') (h : Marks lo m loc w D) : Marks lo m' loc' w' D := by
 obtain ⟨bs, h1, h2, h3⟩ := h
 refine ⟨bs, h1, h2, fun r hr => ?_⟩
 obtain ⟨g1, g2, g3, g4⟩ := h3 r hr
 have hlt := lt_of_heap g2
 refine ⟨g1, (he.frame r hlt g3 g4).trans g2, fun q => ?_, fun o => ?_⟩
 ·rcases he.new r q with q | q
  ·exact g3 q
  ·omega
 ·cases q : m'.wk r o with
  | none => rfl
  | some K =>
   rcases he.wk r o K q with q | q
   ·rw [g4 o] at q; simp at q
   ·omega
def After (nt n0 lo : Nat) (m : Mem) (loc : List Loc) (w : World) (Q : Post) (e : Exit) (a' : Act) (w' : World) : Prop :=
 ∃ s' σ' m' loc', Marks lo m' loc' w' a'.defers ∧ Q e s' σ' ∧ SRel m' loc' σ' w' ∧ SlotRel m' loc' nt s' a'.tmps ∧ Ext n0 m loc w m' loc' w'
def Sound (P : Program) (F : Fence) (nt n0 : Nat) (c : Code) (Q : Post) (s : Slots) (σ : Store) : Prop :=
 ∀ lo m loc w a, lo ≤ w.heap.size → n0 ≤ loc.length → SRel m loc σ w → SlotRel m loc nt s a.tmps → Marks lo m loc w a.defers → c.wpIn F 0 P (After nt n0 lo m loc w Q) a w
theorem After.from {m' : Mem} {loc' : List Loc} {w' : World} {Q : Post} {e : Exit} {a2 : Act} {w2 : World} (he : Ext n0 m loc w m' loc' w') (h : After nt n0 lo m' loc' w' Q e a2 w2) : After nt n0 lo m loc w Q e a2 w2 :=
 let ⟨s', σ', m2, loc2, h0, h1, h2, h3, h4⟩ := h; ⟨s', σ', m2, loc2, h0, h1, h2, h3, he.trans h4⟩
theorem draw_wp (hF : Wd F) (hm : P.follows .mixedOrders = true) (H : Hints) (id : Nat) (ops : Array Oper) (Q : Post) (h1 : drawOk (cOps P H id ops true) = true) (h2 : aOpsD P nt (cOps P H id ops true) (Q .normal) s σ) :
  Sound P F nt n0 (.region id ops true) Q s σ := by
 intro lo m loc w a hlo hn hs hr hd
 refine draw_sound (n0 := n0) hF hm H id ops (Q .normal) h1 h2 hs hr rfl ?_
 intro s' σ' m' loc' a' w' q1 q2 q3 q4 q5
 exact ⟨s', σ', m', loc', by rw [q4]; exact hd.ext q5, q1, q2, q3, q5.less hn⟩
theorem drawU_wp (hF : Wd F) (hm : P.follows .mixedOrders = true) (H : Hints) (id : Nat) (ops : Array Oper) (U : List (List Nat)) (Q : Post) (h1 : drawOkU (cOps P H id ops true) U = true) (h2 : aOpsU P nt (cOps P H id ops true) U 0 [] [] (Q .normal) s σ) :
  Sound P F nt n0 (.region id ops true) Q s σ := by
 intro lo m loc w a hlo hn hs hr hd
 refine drawU_sound (n0 := n0) hF hm H id ops U (Q .normal) h1 h2 hs hr rfl ?_
 intro s' σ' m' loc' a' w' q1 q2 q3 q4 q5
 exact ⟨s', σ', m', loc', by rw [q4]; exact hd.ext q5, q1, q2, q3, q5.less hn⟩
theorem set_get_same {α : Type} {l : List α} {i : Nat} {x : α} (h : l[i]? = some x) : l.set i x = l := by
 apply List.ext_getElem?
 intro j
 by_cases e : i = j
 ·subst e; rw [List.getElem?_set_self (lt_of_get h), h]
 ·rw [List.getElem?_set_ne e]
theorem SRel.loopSet (h : SRel m loc σ w) (n0 : Nat) {id l : Nat} {L : LoopA} {r r' : Loop} (o : AObj) (hl : loc[id]? = some (.blk l)) (hs : σ[id]? = some (.loop L)) (hw : w.heap[l]? = some (.loop r))
  (ho : o = .dead ∨ ∃ L' : LoopA, o = .loop L' ∧ r'.state = L'.st ∧ r'.pending = L'.pend ∧ r'.params.toList = L'.ps ∧ r'.assign = L'.asg ∧ r'.body = L'.body ∧ SlotRel m loc L'.nt L'.s r'.tmps) :
  SRel m loc (σ.set id o) (w.putObj l (.loop r')) ∧ Ext n0 m loc w m loc (w.putObj l (.loop r')) := by
 have hlt := lt_of_heap hw
 have hcell : ∀ off v, m.im l off ≠ some v := fun off v e => by
  have := h.im l off v e
  simp [World.cell?, hw] at this
 have hoth : ∀ k, k ≠ l → (w.putObj l (.loop r')).heap[k]? = w.heap[k]? := fun k hk => World.putObj_heap_other hk
 have key := h.turn n0 (m' := m) (w' := w.putObj l (.loop r')) (id := id) (l := .blk l) (l' := .blk l) (o0 := .loop L) o hl hs (.refl m) rfl
  (fun k _ hk => hoth k (fun e => hk (by subst e; rfl))) (by simp) (fun _ _ _ _ => rfl)
  (fun k off v hk e => by
   rcases hk with hk | hk
   ·simp [own] at hk; subst hk; exact absurd e (hcell off v)
   ·exact absurd (h.im_lt e) (by omega))
  (fun k n e => .inl ⟨e, fun hk => by
   simp [own] at hk; subst hk
   obtain ⟨arr, t, fz, q, _⟩ := h.bs l n e
   rw [hw] at q; simp at q⟩)
  (fun b ⟨sz, f, k, e, _⟩ => by simp at e)
  (fun b e => by
   rcases ho with rfl | ⟨L', rfl, _⟩
   ·simp [own] at e
   ·exact .inl e)
  (by
   rw [set_get_same hl]
   rcases ho with rfl | ⟨L', rfl, q⟩
   ·trivial
   ·exact ⟨r', World.putObj_heap_same hlt, q⟩) rfl rfl rfl (Nat.le_refl _)
 rw [set_get_same hl] at key
 exact key
theorem wpIn_scope_straight {c : Code} {Q : Exit → Act → World → Prop} (h : c.wpIn F n0 P (Exit.noGoto Q) a w) : (Code.scope c).wpIn F n0 P Q a w := by
 intro b k cs hro hb hr
 obtain ⟨e, a₁, w₁, hq, harr⟩ := h b (.inScope c :: k) cs hro hb hr
 have s1 : StepsIn (Machine.fenced P F) P (lone (b.atR a (.code (.scope c) :: k)) cs w) (lone (b.atR a (.code c :: .inScope c :: k)) cs w) :=
  .one (fenced_calm hb hr rfl) (step_lone_go (by simp [stepG, stepG.exec, Frame.atR]))
 have s2 : ∀ a w, StepsIn (Machine.fenced P F) P (lone (b.atR a (.inScope c :: k)) cs w) (lone (b.atR a k) cs w) := fun a w =>
  .one (fenced_calm hb hr rfl) (step_lone_go (by simp [stepG, stepG.exec, Frame.atR]))
 cases e with
 | normal => exact ⟨.normal, a₁, w₁, hq, (s1.trans harr).trans (s2 a₁ w₁)⟩
 | exit id => exact ⟨.exit id, a₁, w₁, hq, fun k' hk => s1.trans (harr.1 k' (by simp [exitTo, hk])), fun hr hk => let ⟨k₁, h1, h2⟩ := harr.2 hr (by simp [exitTo, hk]); ⟨k₁, h1, s1.trans h2⟩⟩
 | goto l => exact hq.elim
 | ret => exact ⟨_, a₁, w₁, hq, .of_steps s1 harr⟩
 | panic ch => exact ⟨_, a₁, w₁, hq, .of_steps s1 harr⟩
 | outgrown => exact ⟨_, a₁, w₁, hq, .of_steps s1 harr⟩
theorem range_sound (hF : Wd F) (hro : F.round = none) {g : Operand} {ps : Array Tmp} {asg body : Code} {Q : Post} (h : rangeC P nt ps.toList asg body Q s σ (aev s (cOpd g))) : Sound P F nt n0 (.rangeFunc g ps asg body) Q s σ := by
 have hFw : F = Fence.wide := by
  rcases hF with rfl | ⟨l, rfl⟩
  ·rfl
  ·simp at hro
 subst hFw
 intro lo m loc w a hlo hn hs hr hd
 refine wpIn_rangeFunc fun fn _ => ?_
 have hg := rel_cOpd hr g
 generalize aev s (cOpd g) = v at h hg
 unfold rangeC at h
 split at h
 ·rename_i it cap
  obtain ⟨⟨itf, hi1, hi2, hi3⟩, hcall⟩ := h
  cases hge : a.eval g <;> rw [hge] at hg <;> cases hg
  rename_i vs hlen hrel
  let w0 := w.alloc (.deferred (some []))
  have k1 := hs.alloc n0 (.deferred (some [])) (fun _ => none) none .nowhere .dead (by simp) (by simp) (by simp) trivial
  have k2 := k1.1.take σ.length (by rw [List.take_left' rfl]; exact hs.ids)
  rw [List.take_left' rfl, ← hs.len, List.take_left' rfl] at k2
  have e2 : Ext loc.length m loc w (m.add w.heap.size (fun _ => none) none) loc w0 := by
   have q := (hs.alloc loc.length (.deferred (some [])) (fun _ => none) none .nowhere .dead (by simp) (by simp) (by simp) trivial).2
   have q2 := Ext.take (m.add w.heap.size (fun _ => none) none) (loc ++ [.nowhere]) w0 loc.length (Nat.le_refl _)
   rw [List.take_left' rfl] at q2
   exact q.trans q2
  let m0 := m.add w.heap.size (fun _ => none) none
  have hr0 : SlotRel m0 loc nt s a.tmps := hr.ext e2
  let rec0 : Loop := { state := .ready, pending := none, fn := fn, tmps := a.tmps, params := ps, assign := asg, body := body, defers := w.heap.size }
  let L : LoopA := ⟨nt, s, ps.toList, asg, body, .ready, none⟩
  have hsz0 : w0.heap.size = w.heap.size + 1 := World.size_alloc _ _
  have k3 := k2.alloc loc.length (.loop rec0) (fun _ => none) none (.blk w0.heap.size) (.loop L) (by simp) (by simp) (by
   rintro b (e | ⟨sz, g, k, e, _⟩)
   ·injection e with e; exact e.symm
   ·simp at e) ⟨rec0, World.alloc_heap_new _ _, rfl, rfl, rfl, rfl, rfl, ⟨hr0.size, fun i => (hr0.rel i).mono (k2.le_add _ _) (.app _ _ _)⟩⟩
  obtain ⟨hs1, e3⟩ := k3
  let w1 := w0.alloc (.loop rec0)
  let m1 := m0.add w0.heap.size (fun _ => none) none
  let loc1 := loc ++ [.blk w0.heap.size]
  have e13 : Ext loc.length m loc w m1 loc1 w1 := e2.trans e3
  have hmark : Marks lo m1 loc1 w1 ([{ target := .collected w.heap.size, args := #[] }] ++ a.defers) := by
   obtain ⟨bs, g1, g2, g3⟩ := hd.ext e13
   refine ⟨w.heap.size :: bs, by rw [g1]; rfl, ?_, ?_⟩
   ·refine List.nodup_cons.2 ⟨fun hb => ?_, g2⟩
    obtain ⟨bs', h1, h2, h3⟩ := hd
    rw [h1] at g1
    have hbs : bs' = bs := by
     have q := congrArg (List.map fun d : Deferred => match d.target with | .collected r => r | _ => 0) g1
     simpa [List.map_map, Function.comp_def] using q
    subst hbs
    have := lt_of_heap (h3 _ hb).2.1
    omega
   ·intro r hr
    rcases List.mem_cons.1 hr with rfl | hr
    ·refine ⟨hlo, ?_, ?_, ?_⟩
     ·show (w0.heap.push (.loop rec0))[w.heap.size]? = _
      rw [Array.getElem?_push, if_neg (by omega)]
      exact World.alloc_heap_new _ _
     ·intro q
      rcases q.app with q | q | ⟨_, _, _, q, _⟩
      ·have := hs.lt _ q; omega
      ·injection q with q; omega
      ·simp at q
     ·intro o
      show m.wk w.heap.size o = none
      cases q : m.wk w.heap.size o with
      | none => rfl
      | some K =>
       obtain ⟨_, _, arr, t, fz, v, q, _⟩ := hs.ok.wk _ _ _ q
       have := lt_of_heap q; omega
    ·exact g3 r hr
  have hargs : ArgsRel m1 loc1 (.yld σ.length :: cap) (#[.func (.yield w0.heap.size) #[] #[]] ++ vs) := by
   refine ⟨by simp [hlen]; omega, ?_⟩
   intro j x v h1 h2
   cases j with
   | zero =>
    rw [Array.getElem?_append_left (by simp)] at h2
    simp at h1 h2; subst h1; subst h2
    refine .yld _ _ ?_
    show (loc ++ [Loc.blk w0.heap.size])[σ.length]? = _
    rw [← hs.len]; simp
   | succ j =>
    simp only [List.getElem?_cons_succ] at h1
    rw [Array.getElem?_append_right (by simp)] at h2
    simp at h2
    exact (hrel j x v h1 h2).ext e13
  have henterL : (Instr.enterLoop fn a.tmps ps asg body none).run P w = .ok (w.heap.size + 1, [{ target := .collected w.heap.size, args := #[] }]) w1 := run_enterLoop_outer fn a.tmps ps asg body
  have hw0 : w.heap.size + 1 = w0.heap.size := hsz0.symm
  have hcf : (callFunc it (#[.func (.yield w0.heap.size) #[] #[]] ++ vs)).run P w1 = .ok (.enter it (#[.func (.yield w0.heap.size) #[] #[]] ++ vs)) w1 := by
   unfold callFunc
   have hp : (program : Sem Program).run P w1 = .ok P w1 := rfl
   rw [Sem.run_bind, hp]
   simp only [Result.andThen_ok, hi1]
   have hb : itf.body.isNone = false := by cases hb : itf.body <;> rw [hb] at hi2 <;> simp at hi2 ⊢
   rw [if_neg (by simpa using hi3), hb]
   rfl
  have hres : ∀ W, (resolve a.eval (rangeCall g (w.heap.size + 1)) 0).run P W = .ok { target := .fn (.func it) vs, args := #[.func (.yield (w.heap.size + 1)) #[] #[]] } W := fun W => by
   simp only [resolve, rangeCall]
   rw [hge]
   simp [Deferred.ofValue, Act.eval]
  have hinv : (invoke (.fn (.func it) vs) #[.func (.yield (w.heap.size + 1)) #[] #[]]).run P w1 = .ok (.enter it (#[.func (.yield w0.heap.size) #[] #[]] ++ vs)) w1 := by
   rw [hw0]; exact hcf
  rcases hcall m1 loc1 w1 _ hs1 hargs with ⟨fn', h1, h2, h3, h4⟩ | ⟨v, w', h1, _⟩
  ·refine ⟨w.heap.size + 1, _, w1, _, w1, it, _, w1, henterL, hres w1, fun _ _ => trivial, hinv, fun q => absurd q (by simp [Fence.wide]), callsIn_wide.2 (h4.mono ?_)⟩
   rintro e w3 ⟨v, rfl, r, σ', m3, loc3, hk, q2, q3, q4⟩
   obtain ⟨L', hL, hbusy, hp⟩ := hk
   have hl3 : loc3[σ.length]? = some (.blk w0.heap.size) := by
    have hq := q4.keep σ.length (.blk w0.heap.size) (by show σ.length < (loc ++ [Loc.blk w0.heap.size]).length; rw [← hs.len]; simp) (by show (loc ++ [Loc.blk w0.heap.size])[σ.length]? = _; rw [← hs.len]; simp)
    obtain ⟨l', e, q⟩ := hq
    cases l' <;> simp [Loc.le] at q
    subst q; exact e
   obtain ⟨r3, g1, g2, g3, g4, g5, g6, g7⟩ := q3.obj _ _ _ hl3 hL
   have hend := run_endLoop (P := P) g1 (by rw [g2]; exact hbusy)
   obtain ⟨hs4, e4⟩ := q3.loopSet loc1.length (r' := { r3 with state := .exhausted }) .dead hl3 hL g1 (.inl rfl)
   have eAll : Ext loc.length m loc w m3 loc3 (w3.putObj w0.heap.size (.loop { r3 with state := .exhausted })) := e13.trans ((q4.trans e4).less (by show loc.length ≤ (loc ++ [Loc.blk w0.heap.size]).length; simp))
   have hmk := hmark.ext (q4.trans e4)
   have hafter : ∀ e, Q e s (σ'.set σ.length .dead) → After nt n0 lo m loc w Q e { a with defers := [{ target := .collected w.heap.size, args := #[] }] ++ a.defers } (w3.putObj w0.heap.size (.loop { r3 with state := .exhausted })) := fun e he =>
    ⟨s, _, m3, loc3, hmk, he, hs4, hr.ext eAll, eAll.less hn⟩
   have hend' : (Instr.endLoop (w.heap.size + 1)).run P w3 = .ok L'.pend (w3.putObj w0.heap.size (.loop { r3 with state := .exhausted })) := by rw [hw0, ← g3]; exact hend
   refine ⟨L'.pend, _, hend', ?_⟩
   revert hp
   generalize L'.pend = pp
   intro hp
   unfold pendK at hp
   split at hp
   ·exact hafter _ hp
   ·exact wpIn_ret (hafter _ hp)
   ·exact wpIn_exit (hafter _ hp)
   ·exact hp.elim
  ·rw [hcf] at h1; simp at h1
 ·exact h.elim
theorem sound (hF : Wd F) (hm : P.follows .mixedOrders = true) (H : Hints) : ∀ (c : Code) (hnr : F.round = none ∨ noRange (comp P H c) = true) (Q : Post) (s : Slots) (σ : Store), wpc P nt n0 (comp P H c) Q s σ → Sound P F nt n0 c Q s σ := by
 have ghost : ∀ {c : Code} {Q : Post} {s : Slots} {σ : Store} {K : Slots → Store → Prop}, (∀ s σ, K s σ → Sound P F nt n0 c Q s σ) → Gh n0 nt s σ K → Sound P F nt n0 c Q s σ := by
  intro c Q s σ K hk ⟨s', σ', hg, h⟩ lo m loc w a hlo hn hs hr hd
  obtain ⟨m', loc', g1, g2, g3⟩ := hg m loc w a.tmps hn hs hr
  exact wpIn_mono (hk s' σ' h lo m' loc' w a hlo (g3.len hn) g1 g2 (hd.ext g3)) fun e a' w' q => q.from g3
 have region : ∀ (id : Nat) (ops : Array Oper) (Q : Post) (s : Slots) (σ : Store), aOps P nt (cOps P H id ops false) (Q .normal) s σ → Sound P F nt n0 (.region id ops false) Q s σ := by
  intro id ops Q s σ h lo m loc w a hlo hn hs hr hd
  refine wpIn_region (ops_sound hF H id ops false (List.range ops.size) m loc σ w s a _ (fun i hi => by simpa using hi) h hs hr rfl ?_)
  intro s' σ' m' loc' a' w' q1 q2 q3 q4 q5
  exact ⟨s', σ', m', loc', by rw [q4]; exact hd.ext q5, q1, q2, q3, q5.less hn⟩
 intro c
 induction c with
 | skip => exact fun _ Q s σ h lo m loc w a hlo hn hs hr hd => wpIn_skip ⟨s, σ, m, loc, hd, h, hs, hr, .refl _ _ _ _⟩
 | label l => exact fun _ Q s σ h lo m loc w a hlo hn hs hr hd => wpIn_label ⟨s, σ, m, loc, hd, h, hs, hr, .refl _ _ _ _⟩
 | exit id => exact fun _ Q s σ h lo m loc w a hlo hn hs hr hd => wpIn_exit ⟨s, σ, m, loc, hd, h, hs, hr, .refl _ _ _ _⟩
 | ret => exact fun _ Q s σ h lo m loc w a hlo hn hs hr hd => wpIn_ret ⟨s, σ, m, loc, hd, h, hs, hr, .refl _ _ _ _⟩
 | region id ops draw =>
  intro _ Q s σ h
  cases draw with
  | false =>
   simp only [comp] at h
   split at h
   ·exact ghost (fun s σ h => region id ops Q s σ h) h
   ·exact region id ops Q s σ h
  | true =>
   simp only [comp] at h
   have hdr : ∀ s σ, wpc P nt n0 (match H.free.find? (·.1 == id) with | some (_, U) => CCode.drawU (cOps P H id ops true) U | none => CCode.draw (cOps P H id ops true)) Q s σ → Sound P F nt n0 (.region id ops true) Q s σ := by
    intro s σ h
    split at h
    ·exact drawU_wp hF hm H id ops _ Q h.1 h.2
    ·exact draw_wp hF hm H id ops Q h.1 h.2
   split at h
   ·exact ghost hdr h
   ·exact hdr _ _ h
 | seq x y ihx ihy =>
  intro hnr Q s σ h lo m loc w a hlo hn hs hr hd
  refine wpIn_seq (wpIn_mono (ihx (hnr.imp id fun q => by simp only [comp, noRange, Bool.and_eq_true] at q; exact q.1) _ s σ h lo m loc w a hlo hn hs hr hd) ?_)
  rintro e a' w' ⟨s', σ', m', loc', hd', q1, q2, q3, q4⟩
  cases e with
  | normal => exact wpIn_mono (ihy (hnr.imp id fun q => by simp only [comp, noRange, Bool.and_eq_true] at q; exact q.2) Q s' σ' q1 lo m' loc' w' a' (Nat.le_trans hlo q4.size) (q4.len hn) q2 q3 hd') fun e a2 w2 q => q.from q4
  | _ => exact ⟨s', σ', m', loc', hd', q1, q2, q3, q4⟩
 | cond c x y ihx ihy =>
  intro hnr Q s σ h lo m loc w a hlo hn hs hr hd
  have hc := rel_cOpd hr c
  simp only [comp, wpc] at h
  generalize aev s (cOpd c) = v at h hc
  unfold condK at h
  split at h
  ·have hv : a.eval c = .bool true := by generalize a.eval c = u at hc; cases hc; rfl
   exact wpIn_cond_true hv (ihx (hnr.imp id fun q => by simp only [comp, noRange, Bool.and_eq_true] at q; exact q.1) Q s σ h lo m loc w a hlo hn hs hr hd)
  ·have hv : a.eval c = .bool false := by generalize a.eval c = u at hc; cases hc; rfl
   exact wpIn_cond_false hv (ihy (hnr.imp id fun q => by simp only [comp, noRange, Bool.and_eq_true] at q; exact q.2) Q s σ h lo m loc w a hlo hn hs hr hd)
  ·exact h.elim
 | block id c ih =>
  intro hnr Q s σ h lo m loc w a hlo hn hs hr hd
  refine wpIn_block (wpIn_mono (ih hnr _ s σ h lo m loc w a hlo hn hs hr hd) ?_)
  rintro e a' w' ⟨s', σ', m', loc', hd', q1, q2, q3, q4⟩
  cases e with
  | exit id' =>
   simp only [blockK] at q1
   by_cases hid : id' = id
   ·subst hid
    simp only [beq_self_eq_true] at q1
    show Exit.inBlock _ _ _ _ _
    simp only [Exit.inBlock, if_true]
    exact ⟨s', σ', m', loc', hd', q1, q2, q3, q4⟩
   ·have : (id' == id) = false := by simpa using hid
    rw [this] at q1
    show Exit.inBlock _ _ _ _ _
    simp only [Exit.inBlock, hid, if_false]
    exact ⟨s', σ', m', loc', hd', q1, q2, q3, q4⟩
  | _ => exact ⟨s', σ', m', loc', hd', q1, q2, q3, q4⟩
 | loop c ih =>
  intro hnr Q s σ h
  refine ghost ?_ h
  intro s σ h lo m loc w a hlo hn hs hr hd
  obtain ⟨I, n, hI, hround⟩ := h
  let J : Act → World → Nat → Prop := fun a' w' n => ∃ s' σ' m' loc', Marks lo m' loc' w' a'.defers ∧ I n s' σ' ∧ SRel m' loc' σ' w' ∧ SlotRel m' loc' nt s' a'.tmps ∧ Ext n0 m loc w m' loc' w'
  let μ : Act → World → Nat := fun a' w' => open Classical in if h : ∃ n, J a' w' n then (least _ h).choose else 0
  refine wpIn_loop (fun a' w' => ∃ n, J a' w' n) μ ⟨n, s, σ, m, loc, hd, hI, hs, hr, .refl _ _ _ _⟩ ?_
  intro a1 w1 hJ
  have hμ : ∀ a' w', (∃ n, J a' w' n) → J a' w' (μ a' w') ∧ ∀ k, J a' w' k → μ a' w' ≤ k := by
   intro a' w' h
   have e : μ a' w' = (least _ h).choose := by simp only [μ]; rw [dif_pos h]
   have sp := (least _ h).choose_spec
   rw [e]
   exact ⟨sp.1, fun k hk => by
    rcases Nat.lt_or_ge k (least _ h).choose with q | q
    ·exact absurd hk (sp.2 k q)
    ·exact q⟩
  obtain ⟨⟨s1, σ1, m1, loc1, hd1, hI1, hs1, hr1, he1⟩, _⟩ := hμ a1 w1 hJ
  refine wpIn_mono (ih hnr _ s1 σ1 (hround _ s1 σ1 hI1) lo m1 loc1 w1 a1 (Nat.le_trans hlo he1.size) (he1.len hn) hs1 hr1 hd1) ?_
  rintro e a' w' ⟨s', σ', m', loc', hd', q1, q2, q3, q4⟩
  cases e with
  | normal =>
   obtain ⟨s2, σ2, hg, k, hk, hIk⟩ := q1
   obtain ⟨m2, loc2, g1, g2, g3⟩ := hg m' loc' w' a'.tmps (q4.len (he1.len hn)) q2 q3
   have hJk : J a' w' k := ⟨s2, σ2, m2, loc2, hd'.ext g3, hIk, g1, g2, (he1.trans q4).trans g3⟩
   exact ⟨⟨k, hJk⟩, Nat.lt_of_le_of_lt ((hμ a' w' ⟨k, hJk⟩).2 k hJk) hk⟩
  | _ => exact ⟨s', σ', m', loc', hd', q1, q2, q3, he1.trans q4⟩
 | rangeFunc g ps x y ihx ihy =>
  intro hnr Q s σ h
  rcases hnr with hnr | hnr
  ·exact range_sound hF hnr (h H x y rfl rfl)
  ·simp [comp, noRange] at hnr
 | scope c ih =>
  intro hnr Q s σ h lo m loc w a hlo hn hs hr hd
  refine wpIn_scope_straight (wpIn_mono (ih hnr _ s σ h lo m loc w a hlo hn hs hr hd) ?_)
  rintro e a' w' ⟨s', σ', m', loc', hd', q1, q2, q3, q4⟩
  cases e with
  | goto l => exact q1.elim
  | _ => exact ⟨s', σ', m', loc', hd', q1, q2, q3, q4⟩
 | _ => exact fun _ Q s σ h => h.elim
end
end Go.Ahl
namespace Go.Ahl
section
variable {P : Program} {nt n0 : Nat} {Q : Post} {s : Slots} {σ : Store}
theorem wpc_skip : wpc P nt n0 .skip Q s σ = Q .normal s σ := rfl
theorem wpc_ops (l : List COp) : wpc P nt n0 (.ops l) Q s σ = aOps P nt l (Q .normal) s σ := rfl
theorem wpc_seq (a b : CCode) : wpc P nt n0 (.seq a b) Q s σ = wpc P nt n0 a (seqK (wpc P nt n0 b Q) Q) s σ := rfl
theorem wpc_cond (c : Opd) (a b : CCode) : wpc P nt n0 (.cond c a b) Q s σ = condK (wpc P nt n0 a Q) (wpc P nt n0 b Q) s σ (aev s c) := rfl
theorem wpc_block (id : Nat) (c : CCode) : wpc P nt n0 (.block id c) Q s σ = wpc P nt n0 c (blockK id Q) s σ := rfl
theorem wpc_scope (c : CCode) : wpc P nt n0 (.scope c) Q s σ = wpc P nt n0 c (scopeK Q) s σ := rfl
theorem wpc_exit (id : Nat) : wpc P nt n0 (.exit id) Q s σ = Q (.exit id) s σ := rfl
theorem wpc_ret : wpc P nt n0 .ret Q s σ = Q .ret s σ := rfl
theorem wpc_ghost (c : CCode) : wpc P nt n0 (.ghost c) Q s σ = Gh n0 nt s σ (wpc P nt n0 c Q) := rfl
theorem wpc_draw (l : List COp) (h : drawOk l = true) : wpc P nt n0 (.draw l) Q s σ = aOpsD P nt l (Q .normal) s σ := by simp only [wpc, h, true_and]
theorem wpc_drawU (l : List COp) (U : List (List Nat)) (h : drawOkU l U = true) : wpc P nt n0 (.drawU l U) Q s σ = aOpsU P nt l U 0 [] [] (Q .normal) s σ := by simp only [wpc, h, true_and]
end
end Go.Ahl
namespace Go.Ahl
inductive CRes where
 | tmp (t : Nat)
 | cell (n : Option Nat) (t : Nat)
def cRes (P : Program) : ResultVar → Option CRes
 | .tmp t => some (.tmp t)
 | .cell a t => (aggSize P t).map fun n => .cell n a
def aRes (s : Slots) (σ : Store) : List CRes → (List AV → Prop) → Prop
 | [], K => K []
 | .tmp t :: r, K => aRes s σ r fun vs => K (lk s t :: vs)
 | .cell n t :: r, K => aLoad n (lk s t) σ fun v => aRes s σ r fun vs => K (v :: vs)
def one (vs : List AV) : AV :=
 match vs with
 | [v] => v
 | vs => .tuple vs
def initS : Nat → List AV → Slots
 | _, [] => []
 | i, x :: r => (i, x) :: initS (i + 1) r
def bodyK (rs : List CRes) (n0 nt : Nat) (R : Cont) : Post
 | .normal, s, σ | .ret, s, σ => Gh n0 nt s σ fun s σ => aRes s σ rs fun vs => ∃ n, n0 ≤ n ∧ IdsS n (σ.take n) ∧ Ids n (one vs) ∧ R (one vs) (σ.take n)
 | _, _, _ => False
section
variable {P : Program} {m : Mem} {loc : List Loc} {σ : Store} {w : World} {nt n0 : Nat} {s : Slots} {a : Act}
theorem look_init : ∀ (l : List AV) (k i : Nat), lk (initS k l) i = if k ≤ i then (l[i - k]?).getD .any else .any
 | [], k, i => by simp [initS, lk]
 | x :: l, k, i => by
  simp only [initS, lk]
  by_cases h : k = i
  ·subst h; simp
  ·have : (k == i) = false := by simpa using h
   rw [this, cond_false, look_init l (k + 1) i]
   by_cases hk : k ≤ i
   ·rw [if_pos (by omega), if_pos hk, show i - k = (i - (k + 1)) + 1 by omega]; simp
   ·rw [if_neg (by omega), if_neg hk]
def resOf (tmps : Array Value) : ResultVar → Sem Value
 | .tmp t => pure (tmps.getD t undef)
 | .cell a t => do loadVar t (← asAddr (tmps.getD a undef))
theorem results_eq (fn : Func) (tmps : Array Value) : results fn tmps = (do
  let vs ← fn.results.mapM (resOf tmps)
  pure (if h : vs.size = 1 then vs[0] else .tuple vs)) := rfl
theorem results_run (hs : SRel m loc σ w) (hr : SlotRel m loc nt s a.tmps) : ∀ (rv : List ResultVar) (rs : List CRes) (K : List AV → Prop), allSome (rv.map (cRes P)) = some rs → aRes s σ rs K →
  ∃ us xs, (rv.mapM (resOf a.tmps)).run P w = .ok us w ∧ K xs ∧ us.length = xs.length ∧ ∀ (j : Nat) x u, xs[j]? = some x → us[j]? = some u → Rel m loc x u
 | [], rs, K, h, hk => by simp [allSome] at h; subst h; exact ⟨[], [], rfl, hk, rfl, by simp⟩
 | .tmp t :: rv, rs, K, h, hk => by
  simp only [List.map_cons, cRes, allSome, Option.map_eq_some_iff] at h
  obtain ⟨rs', h1, rfl⟩ := h
  obtain ⟨us, xs, g1, g2, g3, g4⟩ := results_run hs hr rv rs' _ h1 hk
  refine ⟨a.tmps.getD t undef :: us, lk s t :: xs, ?_, g2, by simp [g3], ?_⟩
  ·have e0 : (resOf a.tmps (.tmp t)).run P w = .ok (a.tmps.getD t undef) w := rfl
   rw [List.mapM_cons, Sem.run_bind, e0]
   simp only [Result.andThen_ok]
   rw [Sem.run_bind, g1]; rfl
  ·intro j x u e1 e2
   cases j with
   | zero =>
    simp only [List.getElem?_cons_zero, Option.some.injEq] at e1 e2
    subst e1; subst e2; exact hr.rel t
   | succ j => simp at e1 e2; exact g4 j x u e1 e2
 | .cell c t :: rv, rs, K, h, hk => by
  cases hq : aggSize P t with
  | none => simp [cRes, allSome, hq] at h
  | some n =>
   simp only [List.map_cons, cRes, hq, Option.map_some, allSome, Option.map_eq_some_iff] at h
   obtain ⟨rs', h1, rfl⟩ := h
   have hx := hr.rel c
   obtain ⟨u, y, l1, l2, l3⟩ := same_load (P := P) (K := fun v _ => aRes s σ rs' fun vs => K (v :: vs)) hs hq hx hk
   obtain ⟨us, xs, g1, g2, g3, g4⟩ := results_run hs hr rv rs' _ h1 l2
   have hp : ∃ ad, a.tmps.getD c undef = .pointer (some ad) := by
    simp only [aRes] at hk
    generalize lk s c = z at hk hx
    generalize a.tmps.getD c undef = v at hx
    cases hx <;> first | exact ⟨_, rfl⟩ | (unfold aLoad at hk; exact hk.elim)
   obtain ⟨ad, had⟩ := hp
   rw [had] at l1
   have l1' : (loadVar t ad).run P w = .ok u w := l1
   refine ⟨u :: us, y :: xs, ?_, g2, by simp [g3], ?_⟩
   ·have e1 : (resOf a.tmps (.cell c t)).run P w = .ok u w := by simp only [resOf]; rw [had]; exact l1'
    rw [List.mapM_cons, Sem.run_bind, e1]
    simp only [Result.andThen_ok]
    rw [Sem.run_bind, g1]; rfl
   ·intro j x u e1 e2
    cases j with
    | zero => simp at e1 e2; subst e1; subst e2; exact l3
    | succ j => simp at e1 e2; exact g4 j x u e1 e2
theorem SRel.shut (h : SRel m loc σ w) {r : Nat} (hr : w.heap[r]? = some (.deferred (some []))) (hn : ¬ Names loc r) (hk : ∀ o, m.wk r o = none) : SRel m loc σ (w.putObj r (.deferred none)) := by
 have hoth : ∀ k, k ≠ r → (w.putObj r (.deferred none)).heap[k]? = w.heap[k]? := fun k hk => World.putObj_heap_other hk
 have him : ∀ o v, m.im r o ≠ some v := fun o v e => by
  have := h.im r o v e
  simp [World.cell?, hr] at this
 refine ⟨h.len, fun b o v e => ?_, fun b n e => ?_, fun i l o e1 e2 => ?_, h.inj, fun b e => by simpa using h.lt b e, fun b e q => ?_, h.mpo, ⟨by simpa using h.ok.low, h.ok.own, fun b o K e => ?_, fun b o v hb e => ?_⟩⟩
 ·have hb : b ≠ r := fun q => him o v (q ▸ e)
  have := h.im b o v e
  simpa [World.cell?, hoth b hb] using this
 ·obtain ⟨arr, t, fz, q, q2⟩ := h.bs b n e
  have hb : b ≠ r := fun q' => by subst q'; rw [hr] at q; simp at q
  exact ⟨arr, t, fz, (hoth b hb).trans q, q2⟩
 ·exact (h.obj i l o e1 e2).mono (.refl m) (.refl _ _) (fun b q => hoth b fun q' => hn (q' ▸ own_names e1 q)) (fun _ _ _ => rfl)
 ·have hb : b ≠ r := fun q' => by subst q'; have := h.mp b e q; rw [hr] at this; simp at this
  exact (hoth b hb).trans (h.mp b e q)
 ·have hb : b ≠ r := fun q' => by subst q'; rw [hk o] at e; simp at e
  obtain ⟨h1, h2, arr, t, fz, v, h3, h4, h5, h6⟩ := h.ok.wk b o K e
  exact ⟨h1, h2, arr, t, fz, v, (hoth b hb).trans h3, h4, h5, (frozen_same (hoth b hb)).trans h6⟩
 ·have hb' : b ≠ r := fun q => him o v (q ▸ e)
  exact (frozen_same (hoth b hb')).trans (h.ok.fz b o v hb e)
theorem Ext.shut {m0 : Mem} {loc0 : List Loc} {w0 : World} {r : Nat} (h : Ext n0 m0 loc0 w0 m loc w) (hr : w0.heap.size ≤ r) : Ext n0 m0 loc0 w0 m loc (w.putObj r (.deferred none)) :=
 ⟨h.os, h.tape, h.output, h.drawn, by simpa using h.size, h.mem, h.keep, h.new, fun b hb hn hz => (World.putObj_heap_other (by omega)).trans (h.frame b hb hn hz), h.wk⟩
theorem leaveM {fn : Func} {tmps : Array Value} {R' : Ending → World → Prop} {m0 : Mem} {loc0 : List Loc} {w0 : World} : ∀ (bs : List Nat) (w : World), SRel m loc σ w → Ext n0 m0 loc0 w0 m loc w → bs.Nodup →
  (∀ r ∈ bs, w0.heap.size ≤ r ∧ w.heap[r]? = some (.deferred (some [])) ∧ ¬ Names loc r ∧ ∀ o, m.wk r o = none) →
  (∀ w2, SRel m loc σ w2 → Ext n0 m0 loc0 w0 m loc w2 → ∃ v, (results fn tmps).run P w2 = .ok v w2 ∧ R' (.returned v) w2) →
  LeavesInM Fence.wide 0 P fn tmps R' (bs.map fun r => ({ target := .collected r, args := #[] } : Deferred)) .returning w
 | [], w, hs, he, _, _, h => h w hs he
 | r :: bs, w, hs, he, hn, hb, h => by
  obtain ⟨g1, g2, g3, g4⟩ := hb r List.mem_cons_self
  obtain ⟨n1, n2⟩ := List.nodup_cons.1 hn
  refine ⟨by simp, .inl ⟨r, w.putObj r (.deferred none), rfl, run_takeDeferred g2, leaveM bs _ (hs.shut g2 g3 g4) (he.shut g1) n2 (fun k hk => ?_) h⟩⟩
  obtain ⟨f1, f2, f3, f4⟩ := hb k (List.mem_cons_of_mem _ hk)
  exact ⟨f1, (World.putObj_heap_other (fun (q : k = r) => n1 (q ▸ hk))).trans f2, f3, f4⟩
theorem ACalls.intro {f : FuncId} {fn : Func} {c : Code} {args : List AV} {R : Cont} {rs : List CRes} (hm : P.follows .mixedOrders = true) (H : Hints) (hf : P.funcs[f]? = some fn) (hb : fn.body = some c)
  (hnm : fn.name ≠ "runtime.NumGoroutine") (hlen : args.length ≤ fn.ntmps) (hrs : allSome (fn.results.toList.map (cRes P)) = some rs)
  (h : IdsS σ.length σ → (∀ x ∈ args, Ids σ.length x) → wpc P fn.ntmps σ.length (comp P H c) (bodyK rs σ.length fn.ntmps R) (initS 0 args) σ) : ACalls P f args σ R := by
 intro m loc w vs hs ha
 refine .inl ⟨fn, hf, by rw [hb]; rfl, hnm, callsIn_wide.1 (callsIn_of_wp_marks (n := 0) hf hb trivial ?_)⟩
 have hids : ∀ x ∈ args, Ids σ.length x := by
  intro x hx
  obtain ⟨j, hj, rfl⟩ := List.mem_iff_getElem.1 hx
  have hj2 : j < vs.size := by rw [ha.1]; exact hj
  have := (ha.2 j _ _ (List.getElem?_eq_getElem hj) (Array.getElem?_eq_getElem hj2)).ids
  rw [hs.len] at this; exact this
 have hsl : SlotRel m loc fn.ntmps (initS 0 args) (vs ++ Array.replicate (fn.ntmps - vs.size) undef) := by
  refine ⟨by simp [ha.1]; omega, fun i => ?_⟩
  rw [look_init, if_pos (Nat.zero_le _), Nat.sub_zero, Array.getD_eq_getD_getElem?]
  by_cases hi : i < vs.size
  ·rw [Array.getElem?_append_left hi, Array.getElem?_eq_getElem hi]
   have hi2 : i < args.length := by rw [← ha.1]; exact hi
   rw [List.getElem?_eq_getElem hi2]
   exact ha.2 i _ _ (List.getElem?_eq_getElem hi2) (Array.getElem?_eq_getElem hi)
  ·rw [List.getElem?_eq_none (by rw [← ha.1]; omega)]
   exact .any _
 have hn0 : σ.length = loc.length := hs.len.symm
 refine wpIn_mono (sound (nt := fn.ntmps) (n0 := σ.length) (.inl rfl) hm H c (.inl rfl) _ _ _ (h hs.ids hids) w.heap.size m loc w { tmps := vs ++ Array.replicate (fn.ntmps - vs.size) undef, defers := [] } (Nat.le_refl _) (by omega) hs hsl .nil) ?_
 rintro e a' w' ⟨s', σ', m', loc', ⟨bs, hd, hd2, hd3⟩, q1, q2, q3, q4⟩
 have main : (Gh σ.length fn.ntmps s' σ' fun s σ' => aRes s σ' rs fun vs => ∃ n, σ.length ≤ n ∧ IdsS n (σ'.take n) ∧ Ids n (one vs) ∧ R (one vs) (σ'.take n)) →
   LeavesInM Fence.wide 0 P fn a'.tmps (fun e w' => ∃ v, e = .returned v ∧ ARet loc m w R v w') a'.defers .returning w' := by
  rintro ⟨s2, σ2, hg, hk⟩
  obtain ⟨m2, loc2, g1, g2, g3⟩ := hg m' loc' w' a'.tmps (q4.len (by omega)) q2 q3
  rw [hd]
  obtain ⟨bs2, hd', _, hd3'⟩ := Marks.ext g3 ⟨bs, rfl, hd2, hd3⟩
  have hbs : bs2 = bs := by
   have q := congrArg (List.map fun d : Deferred => match d.target with | .collected r => r | _ => 0) hd'
   simpa [List.map_map, Function.comp_def] using q.symm
  subst hbs
  refine leaveM bs2 w' g1 (q4.trans g3) hd2 hd3' fun w2 g1 g3 => ?_
  obtain ⟨us, xs, r1, ⟨n, k1, k2, k3, k4⟩, r3, r4⟩ := results_run (P := P) (a := a') g1 g2 fn.results.toList rs _ hrs hk
  have hres : (results fn a'.tmps).run P w2 = .ok (if h : us.toArray.size = 1 then us.toArray[0] else .tuple us.toArray) w2 := by
   have e1 : (fn.results.mapM (resOf a'.tmps)).run P w2 = .ok us.toArray w2 := by
    rw [Array.mapM_eq_mapM_toList]
    simp [r1]
   rw [results_eq, Sem.run_bind, e1]; rfl
  refine ⟨_, hres, _, rfl, one xs, σ2.take n, m2, loc2.take n, k4, ?_, g1.take n k2, ?_⟩
  ·have hrel : Rel m2 loc2 (one xs) (if h : us.toArray.size = 1 then us.toArray[0] else .tuple us.toArray) := by
    by_cases h1 : us.toArray.size = 1
    ·rw [dif_pos h1]
     match us, xs, r3, h1, r4 with
     | [u], [x], _, _, r4 => exact r4 0 x u rfl rfl
     | [], _, _, h1, _ => simp at h1
     | _ :: _ :: _, _, _, h1, _ => simp at h1
     | [u], [], r3, _, _ => simp at r3
     | [u], _ :: _ :: _, r3, _, _ => simp at r3
    ·rw [dif_neg h1]
     have : one xs = .tuple xs := by
      match xs, r3 with
      | [], _ => rfl
      | [x], r3 => simp at h1 r3; exact absurd r3 h1
      | _ :: _ :: _, _ => rfl
     rw [this]
     exact .tuple xs us.toArray (by simpa using r3) (fun j x u e1 e2 => r4 j x u e1 (by simpa using e2))
   exact hrel.take k3
  ·have := g3.trans (Ext.take m2 loc2 w2 n k1)
   rw [hn0] at this; exact this
 cases e with
 | normal => exact main q1
 | ret => exact main q1
 | _ => exact q1.elim
def putAll : Slots → List Nat → List AV → Slots
 | s, p :: ps, x :: xs => putAll (put s p x) ps xs
 | s, _, _ => s
def roundK (id : Nat) (n0 nt : Nat) (K : Cont) : Post
 | .normal, s, σ => Gh n0 nt s σ fun _ σ => ∃ L, σ[id]? = some (.loop L) ∧ K (.bool true) (σ.set id (.loop { L with st := .ready, pend := none }))
 | .ret, s, σ => Gh n0 nt s σ fun _ σ => ∃ L, σ[id]? = some (.loop L) ∧ K (.bool false) (σ.set id (.loop { L with st := .done, pend := some .ret }))
 | .exit k, s, σ => Gh n0 nt s σ fun _ σ => ∃ L, σ[id]? = some (.loop L) ∧ K (.bool false) (σ.set id (.loop { L with st := .done, pend := some (.exit k) }))
 | _, _, _ => False
theorem yld_of (hm : P.follows .mixedOrders = true) (H : Hints) {id : Nat} {L : LoopA} {args : List AV} {K : Cont} (hL : σ[id]? = some (.loop L)) (hst : L.st = .ready) (hps : L.ps.length = args.length) (hpn : ∀ p ∈ L.ps, p < L.nt)
  (h1 : noRange (comp P H L.asg) = true) (h2 : noRange (comp P H L.body) = true)
  (h : wpc P L.nt σ.length (comp P H L.asg) (seqK (fun s σ1 => ∃ L1, σ1[id]? = some (.loop L1) ∧ L1.st = .ready ∧ wpc P L.nt σ.length (comp P H L.body) (roundK id σ.length L.nt K) s (σ1.set id (.loop { L1 with st := .busy }))) (fun _ _ _ => False)) (putAll L.s L.ps args) σ) :
  AYld P id args σ K := by
 intro m loc w vs hs ha
 have hid := lt_of_get hL
 have hid2 : id < loc.length := by rw [hs.len]; exact hid
 have hob := hs.obj id _ _ (List.getElem?_eq_getElem hid2) hL
 obtain ⟨l, hl⟩ : ∃ l, loc[id] = .blk l := by
  generalize loc[id] = q at hob
  cases q with
  | blk b => exact ⟨b, rfl⟩
  | nowhere => exact hob.elim
  | tok sz f => exact hob.elim
 have hl' : loc[id]? = some (.blk l) := by rw [List.getElem?_eq_getElem hid2, hl]
 rw [hl] at hob
 obtain ⟨r, g1, g2, g3, g4, g5, g6, g7⟩ := hob
 have hsz : vs.size = r.params.size := by rw [ha.1, ← hps, ← g4]; simp
 refine ⟨l, r, hl', g1, hsz, ?_⟩
 have hF : Wd (Fence.wide.inRound l) := .inr ⟨l, rfl⟩
 have hput : ∀ (ps : List Nat) (xs : List AV) (us : List Value) (s : Slots) (t : Array Value), ps.length = xs.length → us.length = xs.length → (∀ p ∈ ps, p < L.nt) → (∀ (j : Nat) x v, xs[j]? = some x → us[j]? = some v → Rel m loc x v) →
   SlotRel m loc L.nt s t → SlotRel m loc L.nt (putAll s ps xs) ((ps.zip us).foldl (fun tmps (t, a) => tmps.setIfInBounds t a) t) := by
  intro ps
  induction ps with
  | nil => intro xs us s t e1 e2 _ _ h; cases xs with | nil => exact h | cons _ _ => simp at e1
  | cons p ps ih =>
   intro xs us s t e1 e2 hp hr h
   match xs, us with
   | x :: xs, u :: us =>
    simp only [List.zip_cons_cons, List.foldl_cons, putAll]
    exact ih xs us _ _ (by simpa using e1) (by simpa using e2) (fun q hq => hp q (List.mem_cons_of_mem _ hq)) (fun j x v a b => hr (j + 1) x v (by simpa using a) (by simpa using b)) (h.put (hp p List.mem_cons_self) (hr 0 x u rfl rfl))
   | [], _ => simp at e1
   | _ :: _, [] => simp at e2
 have hslots : SlotRel m loc L.nt (putAll L.s L.ps args) ((r.params.zip vs).foldl (fun tmps (t, a) => tmps.setIfInBounds t a) r.tmps) := by
  have q := hput L.ps args vs.toList L.s r.tmps hps (by simpa using ha.1) hpn (fun j x v a b => ha.2 j x v a (by simpa using b)) g7
  rw [← g4] at q
  rw [← Array.foldl_toList, Array.toList_zip]
  rw [← g4]
  exact q
 have hn : σ.length ≤ loc.length := by rw [hs.len]; exact Nat.le_refl _
 rw [g5, g6]
 refine roundIn_of_wpIn trivial ?_
 refine wpIn_mono (sound (F := Fence.wide.inRound l) (nt := L.nt) (n0 := σ.length) hF hm H L.asg (.inr h1) _ _ _ h w.heap.size m loc w { tmps := _, defers := [] } (Nat.le_refl _) hn hs hslots .nil) ?_
 rintro e a1 w1 ⟨s1, σ1, m1, loc1, hd1, q1, q2, q3, q4⟩
 cases e with
 | normal =>
  obtain ⟨L1, hL1, hst1, hbody⟩ := q1
  have hl1 : loc1[id]? = some (.blk l) := by
   obtain ⟨l', e, q⟩ := q4.keep id (.blk l) hid hl'
   cases l' <;> simp [Loc.le] at q
   subst q; exact e
  obtain ⟨r1, f1, f2, f3, f4, f5, f6, f7⟩ := q2.obj _ _ _ hl1 hL1
  obtain ⟨hs2, e2⟩ := q2.loopSet loc1.length (r' := { r1 with state := .busy }) (.loop { L1 with st := .busy }) hl1 hL1 f1 (.inr ⟨_, rfl, rfl, f3, f4, f5, f6, f7⟩)
  refine ⟨_, run_beginRound f1 (f2.trans hst1), ?_⟩
  have e12 : Ext σ.length m loc w m1 loc1 (w1.putObj l (.loop { r1 with state := .busy })) := q4.trans (e2.less (q4.len hn))
  refine wpIn_mono (sound (F := Fence.wide.inRound l) (nt := L.nt) (n0 := σ.length) hF hm H L.body (.inr h2) _ _ _ hbody w.heap.size m1 loc1 _ a1 e12.size (q4.len hn) hs2 (q3.ext e2) (hd1.ext e2)) ?_
  rintro e a3 w3 ⟨s3, σ3, m3, loc3, hd3, p1, p2, p3, p4⟩
  have fin : ∀ (jump : Option Code) (b : Bool) (st : LoopState), jump.isNone = b → (if jump.isNone then LoopState.ready else .done) = st → (Gh σ.length L.nt s3 σ3 fun _ σ => ∃ L, σ[id]? = some (.loop L) ∧ K (.bool b) (σ.set id (.loop { L with st := st, pend := jump }))) →
    ∃ v w4, (Instr.endRound l jump).run P w3 = .ok v w4 ∧ ∃ v', Ending.returned v = .returned v' ∧ ARet loc m w K v' w4 := by
   rintro jump b st hb hstt ⟨s4, σ4, hg, L4, hL4, hk⟩
   obtain ⟨m4, loc4, j1, j2, j3⟩ := hg m3 loc3 w3 a3.tmps (p4.len (q4.len hn)) p2 p3
   have eAll := (e12.trans p4).trans j3
   have hl4 : loc4[id]? = some (.blk l) := by
    obtain ⟨l', e, q⟩ := eAll.keep id (.blk l) hid hl'
    cases l' <;> simp [Loc.le] at q
    subst q; exact e
   obtain ⟨r4, f1, f2, f3, f4, f5, f6, f7⟩ := j1.obj _ _ _ hl4 hL4
   obtain ⟨hs5, e5⟩ := j1.loopSet loc4.length (r' := { r4 with state := if jump.isNone then .ready else .done, pending := jump }) (.loop { L4 with st := st, pend := jump }) hl4 hL4 f1 (.inr ⟨_, rfl, hstt, rfl, f4, f5, f6, f7⟩)
   have hnl : loc.length = σ.length := hs.len
   refine ⟨_, _, run_endRound jump f1, _, rfl, .bool b, _, m4, loc4, hk, by rw [hb]; exact .bool b, hs5, ?_⟩
   rw [hnl]
   exact eAll.trans (e5.less (eAll.len hn))
  cases e with
  | normal => exact fin none true .ready rfl rfl p1
  | ret => exact fin (some .ret) false .done rfl rfl p1
  | exit k => exact fin (some (.exit k)) false .done rfl rfl p1
  | _ => exact p1.elim
 | _ => exact q1.elim
end
end Go.Ahl
namespace Go.Ahl
def Tell (s : Slots) (n : Nat) : Slots → Prop
 | [] => True
 | (i, v) :: r => (lk s i = v ∧ Ids n v) ∧ Tell s n r
theorem Tell.lk {s : Slots} {n : Nat} : ∀ {s' : Slots}, Tell s n s' → ∀ i, lk s' i = .any ∨ (lk s' i = lk s i ∧ Ids n (lk s' i))
 | [], _, i => .inl rfl
 | (j, v) :: r, h, i => by
  simp only [Ahl.lk]
  by_cases e : j = i
  ·subst e; simp only [beq_self_eq_true, cond_true]; exact .inr ⟨h.1.1.symm, h.1.2⟩
  ·have : (j == i) = false := by simpa using e
   rw [this, cond_false]; exact Tell.lk h.2 i
theorem Gh.cut {n0 nt : Nat} {s : Slots} {σ : Store} {K : Slots → Store → Prop} (s' : Slots) (n : Nat) (hn : n0 ≤ n) (h1 : Tell s n s') (h2 : IdsS n (σ.take n)) (h : K s' (σ.take n)) : Gh n0 nt s σ K := by
 refine ⟨s', σ.take n, ?_, h⟩
 intro m loc w t hl hs hr
 refine ⟨m, loc.take n, hs.take n h2, ⟨hr.size, fun i => ?_⟩, Ext.take m loc w n hn⟩
 rcases h1.lk i with e | ⟨e, hi⟩
 ·rw [e]; exact .any _
 ·have := hr.rel i
  rw [← e] at this
  exact this.take hi
theorem take_app (σ : Store) (r : Store) : (σ ++ r).take σ.length = σ := by simp
end Go.Ahl
namespace Go.Ahl
theorem i_move (P : Program) (s : Slots) (σ : Store) (K : Cont) (x : Opd) : aI P (.move x) s σ K = K (aev s x) σ := rfl
def pickK (s : Slots) (σ : Store) (K : Cont) (a b : Opd) : AV → Prop
 | .bool true => K (aev s a) σ
 | .bool false => K (aev s b) σ
 | _ => False
theorem i_pick (P : Program) (s : Slots) (σ : Store) (K : Cont) (c a b : Opd) : aI P (.pick c a b) s σ K = pickK s σ K a b (aev s c) := by
 simp only [aI]; generalize aev s c = v
 cases v <;> first | rfl | (rename_i q; cases q <;> rfl)
def newK (σ : Store) (K : Cont) : Option (List AV) → Prop
 | some cs => K (.ptr σ.length 0) (σ ++ [.row cs])
 | none => False
theorem i_alloc (P : Program) (s : Slots) (σ : Store) (K : Cont) (z : AV) : aI P (.alloc z) s σ K = newK σ K (cellsOf z) := by
 simp only [aI]; cases cellsOf z <;> rfl
theorem i_box (P : Program) (s : Slots) (σ : Store) (K : Cont) (x : Opd) : aI P (.box x) s σ K = newK σ K (cellsOf (aev s x)) := by
 simp only [aI]; cases cellsOf (aev s x) <;> rfl
def buildK (σ : Store) (K : Cont) : Option (List AV) → Prop
 | some cs => K (.agg cs) σ
 | none => False
def partV (s : Slots) (p : Nat × Nat × Opd) : Nat × Nat × AV := (p.1, p.2.1, aev s p.2.2)
theorem i_build (P : Program) (s : Slots) (σ : Store) (K : Cont) (z : List AV) (ps : List (Nat × Nat × Opd)) : aI P (.build z ps) s σ K = buildK σ K (buildAll z (ps.map (partV s))) := by
 have e : (ps.map fun (o, n, x) => (o, n, aev s x)) = ps.map (partV s) := rfl
 simp only [aI, e]; cases buildAll z (ps.map (partV s)) <;> rfl
def bsliceK (esz : Nat) (σ : Store) (K : Cont) (own : Bool) : Option (List (List AV)) → Prop
 | some es => (∀ e ∈ es, e.length = esz) ∧ (if own then (if es.isEmpty then K (.slice .zero []) σ else K (.ref σ.length esz 0 es.length) (σ ++ [.row es.flatten])) else K (.slice (.grow σ.length) es) (σ ++ [.grow esz es.length]))
 | none => False
theorem i_bslice (P : Program) (s : Slots) (σ : Store) (K : Cont) (esz : Nat) (xs : List Opd) (own : Bool) : aI P (.bslice esz xs own) s σ K = bsliceK esz σ K own (cellsAll (evs s xs)) := by
 simp only [aI]; cases cellsAll (evs s xs) <;> rfl
def bsliceKC (esz : Nat) (σ : Store) (K : Cont) : Option (List (List AV)) → Prop
 | some es => (∀ e ∈ es, e.length = esz) ∧ K (.slice .unk es) σ
 | none => False
theorem i_bsliceC (P : Program) (s : Slots) (σ : Store) (K : Cont) (esz : Nat) (xs : List Opd) : aI P (.bsliceC esz xs) s σ K = bsliceKC esz σ K (cellsAll (evs s xs)) := by
 simp only [aI]; cases cellsAll (evs s xs) <;> rfl
theorem k_bc (esz : Nat) (σ : Store) (K : Cont) (es : List (List AV)) : bsliceKC esz σ K (some es) = ((∀ e ∈ es, e.length = esz) ∧ K (.slice .unk es) σ) := rfl
theorem i_load (P : Program) (s : Slots) (σ : Store) (K : Cont) (n : Option Nat) (x : Opd) : aI P (.load n x) s σ K = aLoad n (aev s x) σ (atS K σ) := rfl
theorem i_store (P : Program) (s : Slots) (σ : Store) (K : Cont) (n : Nat) (a x : Opd) : aI P (.store n a x) s σ K = aStore n (aev s a) (aev s x) σ (atU K) := rfl
theorem i_nilck (P : Program) (s : Slots) (σ : Store) (K : Cont) (x : Opd) : aI P (.nilck x) s σ K = aNilck (aev s x) (atS K σ) := rfl
theorem i_bin (P : Program) (s : Slots) (σ : Store) (K : Cont) (op : BinOp) (e : EqK) (x y : Opd) : aI P (.bin op e x y) s σ K = aBin op e (aev s x) (aev s y) (atS K σ) := rfl
theorem i_un (P : Program) (s : Slots) (σ : Store) (K : Cont) (op : UnOp) (x : Opd) : aI P (.un op x) s σ K = aUn op (aev s x) (atS K σ) := rfl
theorem i_conv (P : Program) (s : Slots) (σ : Store) (K : Cont) (k : IntKind) (x : Opd) : aI P (.conv k x) s σ K = aConv k (aev s x) (atS K σ) := rfl
theorem i_mkfunc (P : Program) (s : Slots) (σ : Store) (K : Cont) (f : FuncId) (c : List Opd) : aI P (.mkfunc f c) s σ K = K (.func f (evs s c)) σ := rfl
theorem i_mkmap (P : Program) (s : Slots) (σ : Store) (K : Cont) : aI P .mkmap s σ K = K (.map σ.length) (σ ++ [.map []]) := rfl
theorem i_mkslice (P : Program) (s : Slots) (σ : Store) (K : Cont) (esz bytes : Nat) (z : List AV) (l c : Opd) (own : Bool) : aI P (.mkslice esz bytes z l c own) s σ K = aMkslice esz bytes z (aev s l) (aev s c) own σ K := rfl
theorem i_slc (P : Program) (s : Slots) (σ : Store) (K : Cont) (esz : Nat) (x : Opd) (lo hi mx : Option Opd) : aI P (.slc esz x lo hi mx) s σ K = aSlc esz (aev s x) (lo.map (aev s)) (hi.map (aev s)) (mx.map (aev s)) (atS K σ) := rfl
theorem i_sstr (P : Program) (s : Slots) (σ : Store) (K : Cont) (x : Opd) (lo hi : Option Opd) : aI P (.sstr x lo hi) s σ K = aSstr (aev s x) (lo.map (aev s)) (hi.map (aev s)) (atS K σ) := rfl
theorem i_faddr (P : Program) (s : Slots) (σ : Store) (K : Cont) (o : Nat) (x : Opd) : aI P (.faddr o x) s σ K = aFaddr o (aev s x) (atS K σ) := rfl
theorem i_fieldv (P : Program) (s : Slots) (σ : Store) (K : Cont) (o : Nat) (n : Option Nat) (x : Opd) : aI P (.fieldv o n x) s σ K = aFieldv o n (aev s x) (atS K σ) := rfl
theorem i_iaddr (P : Program) (s : Slots) (σ : Store) (K : Cont) (esz : Nat) (x i : Opd) : aI P (.iaddr esz x i) s σ K = aIaddr esz (aev s x) (aev s i) (atS K σ) := rfl
theorem i_istr (P : Program) (s : Slots) (σ : Store) (K : Cont) (x i : Opd) : aI P (.istr x i) s σ K = aIstr (aev s x) (aev s i) (atS K σ) := rfl
theorem i_lookup (P : Program) (s : Slots) (σ : Store) (K : Cont) (ks : Bool) (z : AV) (m k : Opd) (ok : Bool) : aI P (.lookup ks z m k ok) s σ K = aLookup ks z (aev s m) (aev s k) ok σ (atS K σ) := rfl
theorem i_mapup (P : Program) (s : Slots) (σ : Store) (K : Cont) (ks : Bool) (m k v : Opd) : aI P (.mapup ks m k v) s σ K = aMapup ks (aev s m) (aev s k) (aev s v) σ (atU K) := rfl
theorem i_extract (P : Program) (s : Slots) (σ : Store) (K : Cont) (x : Opd) (i : Nat) : aI P (.extract x i) s σ K = aExtract (aev s x) i (atS K σ) := rfl
def callK (P : Program) (args : List AV) (σ : Store) (K : Cont) : AV → Prop
 | .func g c => ACalls P g (args ++ c) σ K
 | _ => False
theorem i_call (P : Program) (s : Slots) (σ : Store) (K : Cont) (f : Opd) (args : List Opd) : aI P (.call f args) s σ K = callK P (evs s args) σ K (aev s f) := by
 simp only [aI]; generalize aev s f = v
 cases v <;> rfl
theorem i_len (P : Program) (s : Slots) (σ : Store) (K : Cont) (k : Nat) (x : Opd) : aI P (.blen k x) s σ K = aLen k (aev s x) σ (atS K σ) := rfl
theorem i_appendC (P : Program) (s : Slots) (σ : Store) (K : Cont) (esz bytes : Nat) (a x : Opd) : aI P (.bappendC esz bytes a x) s σ K = aAppendC esz bytes (aev s a) (aev s x) (atS K σ) := rfl
theorem apC_nil (esz bytes : Nat) (t : Tok) (ys : List (List AV)) (K : AV → Prop) : aAppendC esz bytes (.slice .nil []) (.slice t ys) K = ((∀ e ∈ ys, e.length = esz ∧ e.all AV.one = true) ∧ 0 < esz ∧ bigLen ys.length bytes ∧ K (.slice .fresh ys)) := rfl
theorem i_copy (P : Program) (s : Slots) (σ : Store) (K : Cont) (esz : Nat) (d x : Opd) : aI P (.bcopy esz d x) s σ K = aCopy esz (aev s d) (aev s x) σ K := rfl
theorem i_clear (P : Program) (s : Slots) (σ : Store) (K : Cont) (z : List AV) (x : Opd) : aI P (.bclear z x) s σ K = aClear z (aev s x) σ (atU K) := rfl
theorem i_max (P : Program) (s : Slots) (σ : Store) (K : Cont) (x y : Opd) : aI P (.bmax x y) s σ K = aMax (aev s x) (aev s y) (atS K σ) := rfl
theorem i_min (P : Program) (s : Slots) (σ : Store) (K : Cont) (x y : Opd) : aI P (.bmin x y) s σ K = aMin (aev s x) (aev s y) (atS K σ) := rfl
theorem b_add (e : EqK) (k k' : IntKind) (a b : Int) (K : AV → Prop) : aBin .add e (.int k a) (.int k' b) K = (k = k' ∧ K (.int k (k.wrap (a + b)))) := rfl
theorem b_sub (e : EqK) (k k' : IntKind) (a b : Int) (K : AV → Prop) : aBin .sub e (.int k a) (.int k' b) K = (k = k' ∧ K (.int k (k.wrap (a - b)))) := rfl
theorem b_mul (e : EqK) (k k' : IntKind) (a b : Int) (K : AV → Prop) : aBin .mul e (.int k a) (.int k' b) K = (k = k' ∧ K (.int k (k.wrap (a * b)))) := rfl
theorem b_quo (e : EqK) (k k' : IntKind) (a b : Int) (K : AV → Prop) : aBin .quo e (.int k a) (.int k' b) K = (k = k' ∧ b ≠ 0 ∧ K (.int k (k.wrap (a.tdiv b)))) := rfl
theorem b_rem (e : EqK) (k k' : IntKind) (a b : Int) (K : AV → Prop) : aBin .rem e (.int k a) (.int k' b) K = (k = k' ∧ b ≠ 0 ∧ K (.int k (a.tmod b))) := rfl
theorem b_eql (e : EqK) (k k' : IntKind) (a b : Int) (K : AV → Prop) : aBin .eql e (.int k a) (.int k' b) K = (k = k' ∧ K (.bool (a == b))) := rfl
theorem b_neq (e : EqK) (k k' : IntKind) (a b : Int) (K : AV → Prop) : aBin .neq e (.int k a) (.int k' b) K = (k = k' ∧ K (.bool (a != b))) := rfl
theorem b_lss (e : EqK) (k k' : IntKind) (a b : Int) (K : AV → Prop) : aBin .lss e (.int k a) (.int k' b) K = (k = k' ∧ K (.bool (decide (a < b)))) := rfl
theorem b_leq (e : EqK) (k k' : IntKind) (a b : Int) (K : AV → Prop) : aBin .leq e (.int k a) (.int k' b) K = (k = k' ∧ K (.bool (decide (a ≤ b)))) := rfl
theorem b_gtr (e : EqK) (k k' : IntKind) (a b : Int) (K : AV → Prop) : aBin .gtr e (.int k a) (.int k' b) K = (k = k' ∧ K (.bool (decide (a > b)))) := rfl
theorem b_geq (e : EqK) (k k' : IntKind) (a b : Int) (K : AV → Prop) : aBin .geq e (.int k a) (.int k' b) K = (k = k' ∧ K (.bool (decide (a ≥ b)))) := rfl
theorem b_shl (e : EqK) (k k' : IntKind) (a b : Int) (K : AV → Prop) : aBin .shl e (.int k a) (.int k' b) K = (0 ≤ b ∧ K (.int k (k.wrap (a * 2 ^ (min b.toNat k.bits))))) := rfl
theorem b_shr (e : EqK) (k k' : IntKind) (a b : Int) (K : AV → Prop) : aBin .shr e (.int k a) (.int k' b) K = (0 ≤ b ∧ K (.int k (a.fdiv (2 ^ (min b.toNat k.bits))))) := rfl
theorem b_and (e : EqK) (k k' : IntKind) (a b : Int) (K : AV → Prop) : aBin .and e (.int k a) (.int k' b) K = (k = k' ∧ K (.int k (k.wrap (BitVec.ofInt k.bits a &&& BitVec.ofInt k.bits b).toNat))) := rfl
theorem b_or (e : EqK) (k k' : IntKind) (a b : Int) (K : AV → Prop) : aBin .or e (.int k a) (.int k' b) K = (k = k' ∧ K (.int k (k.wrap (BitVec.ofInt k.bits a ||| BitVec.ofInt k.bits b).toNat))) := rfl
theorem b_xor (e : EqK) (k k' : IntKind) (a b : Int) (K : AV → Prop) : aBin .xor e (.int k a) (.int k' b) K = (k = k' ∧ K (.int k (k.wrap (BitVec.ofInt k.bits a ^^^ BitVec.ofInt k.bits b).toNat))) := rfl
theorem s_add (e : EqK) (a b : ByteArray) (K : AV → Prop) : aBin .add e (.str a) (.str b) K = (((a.size + b.size : Nat) : Int) ≤ IntKind.i64.max ∧ K (.str (a ++ b))) := rfl
theorem s_eql (e : EqK) (a b : ByteArray) (K : AV → Prop) : aBin .eql e (.str a) (.str b) K = (K (.bool (a.toList == b.toList))) := rfl
theorem s_neq (e : EqK) (a b : ByteArray) (K : AV → Prop) : aBin .neq e (.str a) (.str b) K = (K (.bool (!(a.toList == b.toList)))) := rfl
theorem s_lss (e : EqK) (a b : ByteArray) (K : AV → Prop) : aBin .lss e (.str a) (.str b) K = (K (.bool (Op.bytesLess a.toList b.toList))) := rfl
theorem s_gtr (e : EqK) (a b : ByteArray) (K : AV → Prop) : aBin .gtr e (.str a) (.str b) K = (K (.bool (!(Op.bytesLess a.toList b.toList || a.toList == b.toList)))) := rfl
theorem b_beq (a b : Bool) (K : AV → Prop) : aBin .eql .bool (.bool a) (.bool b) K = K (.bool (a == b)) := rfl
theorem b_bne (a b : Bool) (K : AV → Prop) : aBin .neq .bool (.bool a) (.bool b) K = K (.bool (!(a == b))) := rfl
theorem b_seq (t : Tok) (xs ys : List (List AV)) (K : AV → Prop) : aBin .eql .slice (.slice t xs) (.slice .nil ys) K = ∀ b, (xs ≠ [] → b = false) → (t = .nil → b = true) → K (.bool b) := rfl
theorem b_req (id sz off len : Nat) (ys : List (List AV)) (K : AV → Prop) : aBin .eql .slice (.ref id sz off len) (.slice .nil ys) K = ∀ b, (len ≠ 0 → b = false) → K (.bool b) := rfl
theorem b_rne (id sz off len : Nat) (ys : List (List AV)) (K : AV → Prop) : aBin .neq .slice (.ref id sz off len) (.slice .nil ys) K = ∀ b, (len ≠ 0 → b = true) → K (.bool b) := rfl
theorem b_sne (t : Tok) (xs ys : List (List AV)) (K : AV → Prop) : aBin .neq .slice (.slice t xs) (.slice .nil ys) K = ∀ b, (xs ≠ [] → b = true) → (t = .nil → b = false) → K (.bool b) := rfl
theorem u_not (b : Bool) (K : AV → Prop) : aUn .not (.bool b) K = K (.bool (!b)) := rfl
theorem u_neg (k : IntKind) (n : Int) (K : AV → Prop) : aUn .neg (.int k n) K = K (.int k (k.wrap (0 - n))) := rfl
theorem l_slice (t : Tok) (e : List (List AV)) (σ : Store) (K : AV → Prop) : aLen 1 (.slice t e) σ K = K (.int .i64 e.length) := rfl
theorem l_ref (id sz off len : Nat) (σ : Store) (K : AV → Prop) : aLen 1 (.ref id sz off len) σ K = K (.int .i64 len) := rfl
theorem l_vec (id sz len : Nat) (σ : Store) (K : AV → Prop) : aLen 1 (.vec id sz len) σ K = K (.int .i64 len) := rfl
theorem l_wslice (e : List (List AV)) (σ : Store) (K : AV → Prop) : aLen 1 (.wslice e) σ K = K (.int .i64 e.length) := rfl
theorem n_wptr (c : List AV) (K : AV → Prop) : aNilck (.wptr c) K = K (.wptr c) := rfl
theorem f_wptr (o : Nat) (c : List AV) (K : AV → Prop) : aFaddr o (.wptr c) K = K (.wptr (c.drop o)) := rfl
theorem l_str (b : ByteArray) (σ : Store) (K : AV → Prop) : aLen 0 (.str b) σ K = K (.int .i64 b.size) := rfl
theorem n_ptr (id off : Nat) (K : AV → Prop) : aNilck (.ptr id off) K = K (.ptr id off) := rfl
theorem n_rptr (c : List AV) (K : AV → Prop) : aNilck (.rptr c) K = K (.rptr c) := rfl
theorem f_ptr (o id off : Nat) (K : AV → Prop) : aFaddr o (.ptr id off) K = K (.ptr id (off + o)) := rfl
theorem f_rptr (o : Nat) (c : List AV) (K : AV → Prop) : aFaddr o (.rptr c) K = K (.rptr (c.drop o)) := rfl
theorem c_int (k q : IntKind) (n : Int) (K : AV → Prop) : aConv k (.int q n) K = K (.int k (k.wrap n)) := rfl
theorem m_max (k k' : IntKind) (a b : Int) (K : AV → Prop) : aMax (.int k a) (.int k' b) K = (k = k' ∧ K (.int k (if b > a then b else a))) := rfl
theorem m_min (k k' : IntKind) (a b : Int) (K : AV → Prop) : aMin (.int k a) (.int k' b) K = (k = k' ∧ K (.int k (if b < a then b else a))) := rfl
def slcC (esz : Nat) (elems : List (List AV)) (K : AV → Prop) (l h : Nat) : Prop := l ≤ h ∧ h ≤ elems.length ∧ (∀ e ∈ elems, e.length = esz) ∧ K (.slice .unk ((elems.drop l).take (h - l)))
def slcR (esz id sz off len : Nat) (K : AV → Prop) (l h : Nat) : Prop := l ≤ h ∧ h ≤ len ∧ sz = esz ∧ K (.ref id sz (off + l * sz) (h - l))
def sstrC (b : ByteArray) (K : AV → Prop) (l h : Nat) : Prop := l ≤ h ∧ h ≤ b.size ∧ K (.str (b.extract l h))
def bnd2 (d : Nat) (lo hi : Option AV) (C : Nat → Nat → Prop) : Prop := bnd d hi fun h => bnd 0 lo fun l => C l h
theorem bnd2_nn (d : Nat) (C : Nat → Nat → Prop) : bnd2 d none none C = C 0 d := rfl
theorem bnd2_in (d : Nat) (k : IntKind) (a : Int) (C : Nat → Nat → Prop) : bnd2 d (some (.int k a)) none C = (0 ≤ a ∧ C a.toNat d) := rfl
theorem bnd2_ni (d : Nat) (k : IntKind) (a : Int) (C : Nat → Nat → Prop) : bnd2 d none (some (.int k a)) C = (0 ≤ a ∧ C 0 a.toNat) := rfl
theorem bnd2_ii (d : Nat) (k k' : IntKind) (a b : Int) (C : Nat → Nat → Prop) : bnd2 d (some (.int k a)) (some (.int k' b)) C = (0 ≤ b ∧ 0 ≤ a ∧ C a.toNat b.toNat) := rfl
theorem x_slc (esz : Nat) (t : Tok) (e : List (List AV)) (lo hi : Option AV) (K : AV → Prop) : aSlc esz (.slice t e) lo hi none K = bnd2 e.length lo hi (slcC esz e K) := rfl
theorem x_slr (esz id sz off len : Nat) (lo hi : Option AV) (K : AV → Prop) : aSlc esz (.ref id sz off len) lo hi none K = bnd2 len lo hi (slcR esz id sz off len K) := rfl
theorem x_sl0 (esz : Nat) (t : Tok) (e : List (List AV)) (k k' : IntKind) (K : AV → Prop) : aSlc esz (.slice t e) none (some (.int k 0)) (some (.int k' 0)) K = K (.slice .zero []) := rfl
theorem x_sst (b : ByteArray) (lo hi : Option AV) (K : AV → Prop) : aSstr (.str b) lo hi K = bnd2 b.size lo hi (sstrC b K) := rfl
def gv (want : Bool) : AV → GV
 | .bool true => (match want with | true => .run | false => .skip)
 | .bool false => (match want with | true => .skip | false => .run)
 | .tuple [] => .skip
 | _ => .bad
theorem gv_none (s : Slots) : guardV s none = .run := rfl
theorem gv_skip (s : Slots) (b : Bool) : guardV s (some (none, b)) = .skip := rfl
theorem gv_some (s : Slots) (t : Nat) (b : Bool) : guardV s (some (some t, b)) = gv b (lk s t) := by
 simp only [guardV]; generalize lk s t = v
 cases v <;> first | rfl | (rename_i q; cases q <;> rfl)
theorem gv_tt : gv true (.bool true) = .run := rfl
theorem gv_tf : gv true (.bool false) = .skip := rfl
theorem gv_ft : gv false (.bool true) = .skip := rfl
theorem gv_ff : gv false (.bool false) = .run := rfl
theorem gv_u (b : Bool) : gv b (.tuple []) = .skip := rfl
theorem d_none (nt : Nat) (s : Slots) (v : AV) (K : Slots → Store → Prop) (σ : Store) : dstK nt s none v K σ = K s σ := rfl
theorem d_some (nt : Nat) (s : Slots) (d : Nat) (v : AV) (K : Slots → Store → Prop) (σ : Store) : dstK nt s (some d) v K σ = (d < nt ∧ K ((d, v) :: s) σ) := rfl
theorem k_app (K : Slots → Store → Prop) (nt : Nat) (d : Option Nat) (s : Slots) (v : AV) (σ : Store) : kont K nt d s v σ = dstK nt s d v K σ := rfl
theorem aev_tmp (s : Slots) (t : Nat) : aev s (.tmp t) = lk s t := rfl
theorem aev_lit (s : Slots) (a : AV) : aev s (.lit a) = a := rfl
theorem o_nil (P : Program) (nt : Nat) (K : Slots → Store → Prop) (s : Slots) (σ : Store) : aOps P nt [] K s σ = K s σ := rfl
theorem o_cons (P : Program) (nt : Nat) (o : COp) (r : List COp) (K : Slots → Store → Prop) (s : Slots) (σ : Store) : aOps P nt (o :: r) K s σ = stepK P nt o (aOps P nt r K) s σ (guardV s o.guard) := rfl
theorem o_nilD (P : Program) (nt : Nat) (K : Slots → Store → Prop) (s : Slots) (σ : Store) : aOpsD P nt [] K s σ = K s σ := rfl
theorem o_consD (P : Program) (nt : Nat) (o : COp) (r : List COp) (K : Slots → Store → Prop) (s : Slots) (σ : Store) : aOpsD P nt (o :: r) K s σ = stepD P nt o (aOpsD P nt r K) s σ (guardV s o.guard) := rfl
theorem st_run (P : Program) (nt : Nat) (d : Option Nat) (i : AI) (g : Option (Option Nat × Bool)) (af : List Nat) (K : Slots → Store → Prop) (s : Slots) (σ : Store) : stepK P nt ⟨d, i, g, af⟩ K s σ .run = aI P i s σ (kont K nt d s) := rfl
theorem st_skip (P : Program) (nt : Nat) (d : Option Nat) (i : AI) (g : Option (Option Nat × Bool)) (af : List Nat) (K : Slots → Store → Prop) (s : Slots) (σ : Store) : stepK P nt ⟨d, i, g, af⟩ K s σ .skip = dstK nt s d (.tuple []) K σ := rfl
theorem sd_skip (P : Program) (nt : Nat) (d : Option Nat) (i : AI) (g : Option (Option Nat × Bool)) (af : List Nat) (K : Slots → Store → Prop) (s : Slots) (σ : Store) : stepD P nt ⟨d, i, g, af⟩ K s σ .skip = dstK nt s d (.tuple []) K σ := rfl
theorem sd_run (P : Program) (nt : Nat) (d : Option Nat) (i : AI) (g : Option (Option Nat × Bool)) (af : List Nat) (K : Slots → Store → Prop) (s : Slots) (σ : Store) : stepD P nt ⟨d, i, g, af⟩ K s σ .run = dK P i s σ (kont K nt d s) := rfl
theorem dk_move (P : Program) (s : Slots) (σ : Store) (K : Cont) (x : Opd) : dK P (.move x) s σ K = aI P (.move x) s σ K := rfl
theorem dk_pick (P : Program) (s : Slots) (σ : Store) (K : Cont) (c a b : Opd) : dK P (.pick c a b) s σ K = aI P (.pick c a b) s σ K := rfl
theorem dk_alloc (P : Program) (s : Slots) (σ : Store) (K : Cont) (z : AV) : dK P (.alloc z) s σ K = aI P (.alloc z) s σ K := rfl
theorem dk_box (P : Program) (s : Slots) (σ : Store) (K : Cont) (x : Opd) : dK P (.box x) s σ K = aI P (.box x) s σ K := rfl
theorem dk_build (P : Program) (s : Slots) (σ : Store) (K : Cont) (z : List AV) (ps : List (Nat × Nat × Opd)) : dK P (.build z ps) s σ K = aI P (.build z ps) s σ K := rfl
theorem dk_bslice (P : Program) (s : Slots) (σ : Store) (K : Cont) (e : Nat) (xs : List Opd) (o : Bool) : dK P (.bslice e xs o) s σ K = aI P (.bslice e xs o) s σ K := rfl
theorem dk_bsliceC (P : Program) (s : Slots) (σ : Store) (K : Cont) (e : Nat) (xs : List Opd) : dK P (.bsliceC e xs) s σ K = aI P (.bsliceC e xs) s σ K := rfl
theorem dk_load (P : Program) (s : Slots) (σ : Store) (K : Cont) (n : Option Nat) (x : Opd) : dK P (.load n x) s σ K = aI P (.load n x) s σ K := rfl
theorem dk_store (P : Program) (s : Slots) (σ : Store) (K : Cont) (n : Nat) (a x : Opd) : dK P (.store n a x) s σ K = aI P (.store n a x) s σ K := rfl
theorem dk_nilck (P : Program) (s : Slots) (σ : Store) (K : Cont) (x : Opd) : dK P (.nilck x) s σ K = aI P (.nilck x) s σ K := rfl
theorem dk_bin (P : Program) (s : Slots) (σ : Store) (K : Cont) (o : BinOp) (e : EqK) (x y : Opd) : dK P (.bin o e x y) s σ K = aI P (.bin o e x y) s σ K := rfl
theorem dk_un (P : Program) (s : Slots) (σ : Store) (K : Cont) (o : UnOp) (x : Opd) : dK P (.un o x) s σ K = aI P (.un o x) s σ K := rfl
theorem dk_conv (P : Program) (s : Slots) (σ : Store) (K : Cont) (k : IntKind) (x : Opd) : dK P (.conv k x) s σ K = aI P (.conv k x) s σ K := rfl
theorem dk_mkfunc (P : Program) (s : Slots) (σ : Store) (K : Cont) (f : FuncId) (c : List Opd) : dK P (.mkfunc f c) s σ K = aI P (.mkfunc f c) s σ K := rfl
theorem dk_mkmap (P : Program) (s : Slots) (σ : Store) (K : Cont)  : dK P (.mkmap ) s σ K = aI P (.mkmap ) s σ K := rfl
theorem dk_mkslice (P : Program) (s : Slots) (σ : Store) (K : Cont) (e b : Nat) (z : List AV) (l c : Opd) (o : Bool) : dK P (.mkslice e b z l c o) s σ K = aI P (.mkslice e b z l c o) s σ K := rfl
theorem dk_slc (P : Program) (s : Slots) (σ : Store) (K : Cont) (e : Nat) (x : Opd) (l h m : Option Opd) : dK P (.slc e x l h m) s σ K = aI P (.slc e x l h m) s σ K := rfl
theorem dk_sstr (P : Program) (s : Slots) (σ : Store) (K : Cont) (x : Opd) (l h : Option Opd) : dK P (.sstr x l h) s σ K = aI P (.sstr x l h) s σ K := rfl
theorem dk_faddr (P : Program) (s : Slots) (σ : Store) (K : Cont) (o : Nat) (x : Opd) : dK P (.faddr o x) s σ K = aI P (.faddr o x) s σ K := rfl
theorem dk_fieldv (P : Program) (s : Slots) (σ : Store) (K : Cont) (o : Nat) (n : Option Nat) (x : Opd) : dK P (.fieldv o n x) s σ K = aI P (.fieldv o n x) s σ K := rfl
theorem dk_iaddr (P : Program) (s : Slots) (σ : Store) (K : Cont) (e : Nat) (x i : Opd) : dK P (.iaddr e x i) s σ K = aI P (.iaddr e x i) s σ K := rfl
theorem dk_istr (P : Program) (s : Slots) (σ : Store) (K : Cont) (x i : Opd) : dK P (.istr x i) s σ K = aI P (.istr x i) s σ K := rfl
theorem dk_lookup (P : Program) (s : Slots) (σ : Store) (K : Cont) (ks : Bool) (z : AV) (m k : Opd) (ok : Bool) : dK P (.lookup ks z m k ok) s σ K = aI P (.lookup ks z m k ok) s σ K := rfl
theorem dk_mapup (P : Program) (s : Slots) (σ : Store) (K : Cont) (ks : Bool) (m k v : Opd) : dK P (.mapup ks m k v) s σ K = aI P (.mapup ks m k v) s σ K := rfl
theorem dk_extract (P : Program) (s : Slots) (σ : Store) (K : Cont) (x : Opd) (i : Nat) : dK P (.extract x i) s σ K = aI P (.extract x i) s σ K := rfl
theorem dk_blen (P : Program) (s : Slots) (σ : Store) (K : Cont) (k : Nat) (x : Opd) : dK P (.blen k x) s σ K = aI P (.blen k x) s σ K := rfl
theorem dk_bappendC (P : Program) (s : Slots) (σ : Store) (K : Cont) (e b : Nat) (s' x : Opd) : dK P (.bappendC e b s' x) s σ K = aI P (.bappendC e b s' x) s σ K := rfl
theorem dk_bappend (P : Program) (s : Slots) (σ : Store) (K : Cont) (e b : Nat) (s' x : Opd) (o : Bool) : dK P (.bappend e b s' x o) s σ K = aI P (.bappend e b s' x o) s σ K := rfl
theorem dk_bcopy (P : Program) (s : Slots) (σ : Store) (K : Cont) (esz : Nat) (d x : Opd) : dK P (.bcopy esz d x) s σ K = aI P (.bcopy esz d x) s σ K := rfl
theorem dk_bclear (P : Program) (s : Slots) (σ : Store) (K : Cont) (z : List AV) (x : Opd) : dK P (.bclear z x) s σ K = aI P (.bclear z x) s σ K := rfl
theorem dk_bmax (P : Program) (s : Slots) (σ : Store) (K : Cont) (x y : Opd) : dK P (.bmax x y) s σ K = aI P (.bmax x y) s σ K := rfl
theorem dk_bmin (P : Program) (s : Slots) (σ : Store) (K : Cont) (x y : Opd) : dK P (.bmin x y) s σ K = aI P (.bmin x y) s σ K := rfl
theorem dk_call (P : Program) (s : Slots) (σ : Store) (K : Cont) (f : Opd) (args : List Opd) : dK P (.call f args) s σ K = callD P (evs s args) σ K (aev s f) := rfl
theorem dk_callE (P : Program) (s : Slots) (σ : Store) (K : Cont) (f : Opd) (args : List Opd) : dK P (.callE f args) s σ K = callED P (evs s args) σ K (aev s f) := rfl
theorem callED_func (P : Program) (args : List AV) (σ : Store) (K : Cont) (g : FuncId) (c : List AV) : callED P args σ K (.func g c) = ∃ v σ', ACalls P g (args ++ c) σ (isR v σ') ∧ K v σ' := rfl
theorem ou_nil (P : Program) (nt : Nat) (U : List (List Nat)) (i : Nat) (B : List (Nat × Store)) (R : List (Nat × AI × Slots × AV)) (K : Slots → Store → Prop) (s : Slots) (σ : Store) : aOpsU P nt [] U i B R K s σ = K s σ := rfl
theorem ou_cons (P : Program) (nt : Nat) (o : COp) (r : List COp) (u : List Nat) (U : List (List Nat)) (i : Nat) (B : List (Nat × Store)) (R : List (Nat × AI × Slots × AV)) (K : Slots → Store → Prop) (s : Slots) (σ : Store) :
  aOpsU P nt (o :: r) (u :: U) i B R K s σ = stepU P nt o u i B R (fun B R => aOpsU P nt r U (i + 1) B R K) s σ (guardV s o.guard) := rfl
section
variable (P : Program) (nt : Nat) (d : Option Nat) (op : AI) (g : Option (Option Nat × Bool)) (af u : List Nat) (i : Nat) (B : List (Nat × Store)) (R : List (Nat × AI × Slots × AV)) (next : List (Nat × Store) → List (Nat × AI × Slots × AV) → Slots → Store → Prop) (s : Slots) (σ : Store)
theorem su_run : stepU P nt ⟨d, op, g, af⟩ u i B R next s σ .run = runU P nt ⟨d, op, g, af⟩ u i B R next s σ op.rank := rfl
theorem su_skip : stepU P nt ⟨d, op, g, af⟩ u i B R next s σ .skip = (oblR P u σ R ∧ dstK nt s d (.tuple []) (next ((i, σ) :: B) R) σ) := rfl
theorem ru_0 : runU P nt ⟨d, op, g, af⟩ u i B R next s σ 0 = dK P op s σ (kont (next B R) nt d s) := rfl
theorem ru_1 : runU P nt ⟨d, op, g, af⟩ u i B R next s σ 1 = dK P op s σ (fun v σ' => oblB P u op s v B ∧ kont (next B ((i, op, s, v) :: R)) nt d s v σ') := rfl
theorem ru_2 : runU P nt ⟨d, op, g, af⟩ u i B R next s σ 2 = dK P op s σ (fun v σ' => oblR P u σ' R ∧ kont (next ((i, σ) :: B) R) nt d s v σ') := rfl
theorem obR_nil : oblR P u σ [] = True := rfl
theorem obR_cons (j : Nat) (v : AV) (t : List (Nat × AI × Slots × AV)) : oblR P u σ ((j, op, s, v) :: t) = ((bif memN j u then aI P op s σ (isR v σ) else True) ∧ oblR P u σ t) := rfl
theorem obB_nil (v : AV) : oblB P u op s v [] = True := rfl
theorem obB_cons (v : AV) (k : Nat) (t : List (Nat × Store)) : oblB P u op s v ((k, σ) :: t) = ((bif memN k u then aI P op s σ (isR v σ) else True) ∧ oblB P u op s v t) := rfl
theorem memN_nil (n : Nat) : memN n [] = false := rfl
theorem memN_cons (n x : Nat) (r : List Nat) : memN n (x :: r) = bif x == n then true else memN n r := rfl
theorem isR_self (v : AV) : isR v σ v σ = True := by simp [isR]
end
theorem atS_app (K : Cont) (σ : Store) (v : AV) : atS K σ v = K v σ := rfl
theorem atU_app (K : Cont) (σ : Store) : atU K σ = K (.tuple []) σ := rfl
def getK {α : Type} (o : Option α) (K : α → Prop) : Prop :=
 match o with
 | some x => K x
 | none => False
def rowK (o : Option AObj) (K : List AV → Prop) : Prop :=
 match o with
 | some (.row c) => K c
 | _ => False
def mapK (o : Option AObj) (K : List (AV × AV) → Prop) : Prop :=
 match o with
 | some (.map c) => K c
 | _ => False
theorem getK_some {α : Type} (x : α) (K : α → Prop) : getK (some x) K = K x := rfl
theorem rowK_some (c : List AV) (K : List AV → Prop) : rowK (some (.row c)) K = K c := rfl
theorem mapK_some (c : List (AV × AV)) (K : List (AV × AV) → Prop) : mapK (some (.map c)) K = K c := rfl
theorem getK_ex {α : Type} {o : Option α} {K : α → Prop} : getK o K = ∃ x, o = some x ∧ K x := by
 cases o <;> simp [getK]
theorem rowK_ex {o : Option AObj} {K : List AV → Prop} : rowK o K = ∃ c, o = some (.row c) ∧ K c := by
 cases o with
 | none => simp [rowK]
 | some x => cases x <;> simp [rowK]
theorem mapK_ex {o : Option AObj} {K : List (AV × AV) → Prop} : mapK o K = ∃ c, o = some (.map c) ∧ K c := by
 cases o with
 | none => simp [mapK]
 | some x => cases x <;> simp [mapK]
def loadP (off : Nat) (K : AV → Prop) (c : List AV) : Prop := getK c[off]? K
def loadPN (off n : Nat) (K : AV → Prop) (c : List AV) : Prop := off + n ≤ c.length ∧ K (.agg ((c.drop off).take n))
def storeC (n id off : Nat) (σ : Store) (K : Store → Prop) (c cs : List AV) : Prop := cs.length = n ∧ off + n ≤ c.length ∧ cs.all AV.one = true ∧ K (σ.set id (.row (setAll c off cs)))
def storeP (n id off : Nat) (v : AV) (σ : Store) (K : Store → Prop) (c : List AV) : Prop := getK (cellsOf v) (storeC n id off σ K c)
def iaddrC (esz : Nat) (K : AV → Prop) (e : List AV) : Prop := e.length = esz ∧ K (.rptr e)
def istrC (K : AV → Prop) (c : UInt8) : Prop := K (.int .u8 c.toNat)
def lookupC (z : AV) (ok : Bool) (K : AV → Prop) : Option (Nat × AV) → Prop
 | some (_, v) => K (if ok then .tuple [v, .bool true] else v)
 | none => K (if ok then .tuple [z, .bool false] else z)
def lookupM (z k : AV) (ok : Bool) (K : AV → Prop) (es : List (AV × AV)) : Prop := getK (aFind k es 0) (lookupC z ok K)
def mapupC (k v : AV) (id : Nat) (σ : Store) (K : Store → Prop) (es : List (AV × AV)) : Option (Nat × AV) → Prop
 | some (i, _) => K (σ.set id (.map (es.set i (k, v))))
 | none => K (σ.set id (.map (es ++ [(k, v)])))
def mapupM (k v : AV) (id : Nat) (σ : Store) (K : Store → Prop) (es : List (AV × AV)) : Prop := getK (aFind k es 0) (mapupC k v id σ K es)
def lenM (K : AV → Prop) (es : List (AV × AV)) : Prop := K (.int .i64 es.length)
def clearP (z : List AV) (id sz off len : Nat) (σ : Store) (K : Store → Prop) (c : List AV) : Prop := off + len * sz ≤ c.length ∧ K (σ.set id (.row (setAll c off (List.replicate len z).flatten)))
def copyP2 (esz id off len off' : Nat) (σ : Store) (K : Cont) (c c' : List AV) : Prop := off' + len * esz ≤ c'.length ∧ ((c'.drop off').take (len * esz)).all AV.one = true ∧ K (.int .i64 len) (σ.set id (.row (setAll c off ((c'.drop off').take (len * esz)))))
def copyP (esz id off len id' off' : Nat) (σ : Store) (K : Cont) (c : List AV) : Prop := off + len * esz ≤ c.length ∧ rowK σ[id']? (copyP2 esz id off len off' σ K c)
def boolC (K : AV → Prop) (b : Bool) : Prop := K (.bool b)
def nboolC (K : AV → Prop) (b : Bool) : Prop := K (.bool (!b))
def elemsP (sz off len : Nat) (K : List (List AV) → Prop) (c : List AV) : Prop := off + len * sz ≤ c.length ∧ K (chunks sz len (c.drop off))
theorem e_load_ptr (id off : Nat) (σ : Store) (K : AV → Prop) : aLoad none (.ptr id off) σ K = rowK σ[id]? (loadP off K) := by
 rw [rowK_ex]; simp only [aLoad, loadP, getK_ex]
theorem e_loadN_ptr (n id off : Nat) (σ : Store) (K : AV → Prop) : aLoad (some n) (.ptr id off) σ K = rowK σ[id]? (loadPN off n K) := by
 rw [rowK_ex]; simp only [aLoad, loadPN]
theorem e_load_rptr (c : List AV) (σ : Store) (K : AV → Prop) : aLoad none (.rptr c) σ K = getK c[0]? K := by
 rw [getK_ex]; simp only [aLoad]
theorem e_loadN_rptr (n : Nat) (c : List AV) (σ : Store) (K : AV → Prop) : aLoad (some n) (.rptr c) σ K = (n ≤ c.length ∧ K (.agg (c.take n))) := rfl
theorem e_store (n id off : Nat) (v : AV) (σ : Store) (K : Store → Prop) : aStore n (.ptr id off) v σ K = rowK σ[id]? (storeP n id off v σ K) := by
 rw [rowK_ex]; simp only [aStore, storeP, storeC, getK_ex]
def iaddrW (esz : Nat) (K : AV → Prop) (e : List AV) : Prop := e.length = esz ∧ K (.wptr e)
def wstC (v : AV) (σ : Store) (K : Store → Prop) (y : AV) : Prop := ∃ k, y = .cell k ∧ kindOf v = some k ∧ K σ
theorem wst_int (k : IntKind) (n : Int) (σ : Store) (K : Store → Prop) : wstC (.int k n) σ K (.cell (.int k)) = K σ := by
 refine propext ⟨fun ⟨_, _, _, h⟩ => h, fun h => ⟨_, rfl, rfl, h⟩⟩
theorem wst_str (s : ByteArray) (σ : Store) (K : Store → Prop) : wstC (.str s) σ K (.cell .str) = K σ := by
 refine propext ⟨fun ⟨_, _, _, h⟩ => h, fun h => ⟨_, rfl, rfl, h⟩⟩
theorem e_store_wptr (n : Nat) (c : List AV) (v : AV) (σ : Store) (K : Store → Prop) : aStore n (.wptr c) v σ K = (n = 1 ∧ getK c[0]? (wstC v σ K)) := by
 rw [getK_ex]; simp only [aStore, wstC]
 refine propext ⟨fun ⟨h1, k, h2, h3, h4⟩ => ⟨h1, _, h2, k, rfl, h3, h4⟩, fun ⟨h1, y, h2, k, h3, h4, h5⟩ => ⟨h1, k, by rw [h2, h3], h4, h5⟩⟩
theorem e_iaddr_wslice (esz : Nat) (elems : List (List AV)) (k : IntKind) (n : Int) (K : AV → Prop) : aIaddr esz (.wslice elems) (.int k n) K =
  (0 ≤ n ∧ getK elems[n.toNat]? (iaddrW esz K)) := by
 rw [getK_ex]; simp only [aIaddr, iaddrW]
theorem e_load_wptr (c : List AV) (σ : Store) (K : AV → Prop) : aLoad none (.wptr c) σ K = getK c[0]? K := by
 rw [getK_ex]; simp only [aLoad]
theorem e_loadN_wptr (n : Nat) (c : List AV) (σ : Store) (K : AV → Prop) : aLoad (some n) (.wptr c) σ K = (n ≤ c.length ∧ K (.agg (c.take n))) := rfl
theorem e_iaddr_slice (esz : Nat) (t : Tok) (elems : List (List AV)) (k : IntKind) (n : Int) (K : AV → Prop) : aIaddr esz (.slice t elems) (.int k n) K =
  (0 ≤ n ∧ getK elems[n.toNat]? (iaddrC esz K)) := by
 rw [getK_ex]; simp only [aIaddr, iaddrC]
theorem e_iaddr_ref (esz id sz off len : Nat) (k : IntKind) (n : Int) (K : AV → Prop) : aIaddr esz (.ref id sz off len) (.int k n) K = (0 ≤ n ∧ n.toNat < len ∧ sz = esz ∧ K (.ptr id (off + n.toNat * sz))) := rfl
theorem e_istr (b : ByteArray) (k : IntKind) (n : Int) (K : AV → Prop) : aIstr (.str b) (.int k n) K = (0 ≤ n ∧ getK b[n.toNat]? (istrC K)) := by
 rw [getK_ex]; simp only [aIstr, istrC]
theorem e_extract (vs : List AV) (i : Nat) (K : AV → Prop) : aExtract (.tuple vs) i K = getK vs[i]? K := by
 rw [getK_ex]; simp only [aExtract]
theorem e_fieldv (o : Nat) (cs : List AV) (K : AV → Prop) : aFieldv o none (.agg cs) K = getK cs[o]? K := by
 rw [getK_ex]; simp only [aFieldv]
theorem e_fieldvN (o n : Nat) (cs : List AV) (K : AV → Prop) : aFieldv o (some n) (.agg cs) K = K (.agg ((cs.drop o).take n)) := rfl
theorem e_lookup_map (ks : Bool) (z k : AV) (id : Nat) (ok : Bool) (σ : Store) (K : AV → Prop) : aLookup ks z (.map id) k ok σ K = (k.isKey ks = true ∧ mapK σ[id]? (lookupM z k ok K)) := by
 rw [mapK_ex]; simp only [aLookup, lookupM, getK_ex]
 congr 1; apply propext; constructor
 ·rintro ⟨es, h1, r, h2, h3⟩; refine ⟨es, h1, r, h2, ?_⟩; cases r <;> exact h3
 ·rintro ⟨es, h1, r, h2, h3⟩; refine ⟨es, h1, r, h2, ?_⟩; cases r <;> exact h3
theorem e_lookup_nil (ks : Bool) (z k : AV) (ok : Bool) (σ : Store) (K : AV → Prop) : aLookup ks z .mapnil k ok σ K = (k.isKey ks = true ∧ K (if ok then .tuple [z, .bool false] else z)) := rfl
theorem e_mapup (ks : Bool) (k v : AV) (id : Nat) (σ : Store) (K : Store → Prop) : aMapup ks (.map id) k v σ K = (k.isKey ks = true ∧ mapK σ[id]? (mapupM k v id σ K)) := by
 rw [mapK_ex]; simp only [aMapup, mapupM, getK_ex]
 congr 1; apply propext; constructor
 ·rintro ⟨es, h1, r, h2, h3⟩; refine ⟨es, h1, r, h2, ?_⟩; cases r <;> exact h3
 ·rintro ⟨es, h1, r, h2, h3⟩; refine ⟨es, h1, r, h2, ?_⟩; cases r <;> exact h3
theorem e_len_map (id : Nat) (σ : Store) (K : AV → Prop) : aLen 2 (.map id) σ K = mapK σ[id]? (lenM K) := by
 rw [mapK_ex]; simp only [aLen, lenM]
theorem e_clear (z : List AV) (id sz off len : Nat) (σ : Store) (K : Store → Prop) : aClear z (.ref id sz off len) σ K =
  (z.length = sz ∧ 0 < sz ∧ z.all AV.one = true ∧ rowK σ[id]? (clearP z id sz off len σ K)) := by
 rw [rowK_ex]; simp only [aClear, clearP]
theorem e_copy (esz id sz off len id' sz' off' len' : Nat) (σ : Store) (K : Cont) : aCopy esz (.ref id sz off len) (.ref id' sz' off' len') σ K =
  (sz = esz ∧ sz' = esz ∧ 0 < esz ∧ len ≤ len' ∧ rowK σ[id]? (copyP esz id off len id' off' σ K)) := by
 rw [rowK_ex]; simp only [aCopy, copyP, copyP2, rowK_ex]
theorem e_flat_eq (ks : List Nat) (xs ys : List AV) (K : AV → Prop) : aBin .eql (.flat ks) (.agg xs) (.agg ys) K = getK (flatEq ks xs ys) (boolC K) := by
 rw [getK_ex]; simp only [aBin, boolC]
theorem e_fnil_eq (K : AV → Prop) : aBin .eql .func (.conc .nilFunc) (.conc .nilFunc) K = K (.bool true) := rfl
theorem e_fnil_ne (K : AV → Prop) : aBin .neq .func (.conc .nilFunc) (.conc .nilFunc) K = K (.bool false) := rfl
theorem e_fn_eq (g : FuncId) (c : List AV) (K : AV → Prop) : aBin .eql .func (.func g c) (.conc .nilFunc) K = K (.bool false) := rfl
theorem e_fn_ne (g : FuncId) (c : List AV) (K : AV → Prop) : aBin .neq .func (.func g c) (.conc .nilFunc) K = K (.bool true) := rfl
theorem e_flat_ne (ks : List Nat) (xs ys : List AV) (K : AV → Prop) : aBin .neq (.flat ks) (.agg xs) (.agg ys) K = getK (flatEq ks xs ys) (nboolC K) := by
 rw [getK_ex]; simp only [aBin, nboolC]
theorem e_elems_ref (esz id sz off len : Nat) (σ : Store) (K : List (List AV) → Prop) : elemsOf esz (.ref id sz off len) σ K = (sz = esz ∧ rowK σ[id]? (elemsP sz off len K)) := by
 rw [rowK_ex]; simp only [elemsOf, elemsP]
theorem e_elems_slice (esz : Nat) (t : Tok) (e : List (List AV)) (σ : Store) (K : List (List AV) → Prop) : elemsOf esz (.slice t e) σ K = K e := rfl
section
variable (σ r : Store)
theorem g_get (k : Nat) : (σ ++ r)[σ.length + k]? = r[k]? := by rw [List.getElem?_append_right (by omega)]; congr 1; omega
theorem g_get0 : (σ ++ r)[σ.length]? = r[0]? := by rw [List.getElem?_append_right (by omega)]; congr 1; omega
theorem g_set (k : Nat) (x : AObj) : (σ ++ r).set (σ.length + k) x = σ ++ r.set k x := by rw [List.set_append, if_neg (by omega)]; congr 2; omega
theorem g_set0 (x : AObj) : (σ ++ r).set σ.length x = σ ++ r.set 0 x := by rw [List.set_append, if_neg (by omega)]; congr 2; omega
theorem g_take : (σ ++ r).take σ.length = σ := by simp
end
end Go.Ahl
namespace Go.Ahl
section
variable {n0 nt : Nat} {s : Slots} {σ g : Store} {R : Cont} {rs : List CRes}
end
theorem wrap_ok {n : Int} (h : -9223372036854775808 ≤ n ∧ n < 9223372036854775808) : IntKind.i64.wrap n = n := wrap_in h.1 h.2
theorem ids_flat {n : Nat} {t : Tok} {es : List (List AV)} (ht : ∀ id, t = .grow id → id < n) (h : ∀ e ∈ es, ∀ x ∈ e, Ids n x) : Ids n (.slice t es) :=
 .slice t es ht fun i e he j x hx => h e (List.mem_of_getElem? he) x (List.mem_of_getElem? hx)
theorem loopK_exit (n0 nt n : Nat) (I : Nat → Slots → Store → Prop) (Q : Post) (id : Nat) (s : Slots) (σ : Store) : loopK n0 nt n I Q (.exit id) s σ = Q (.exit id) s σ := rfl
theorem loopK_ret (n0 nt n : Nat) (I : Nat → Slots → Store → Prop) (Q : Post) (s : Slots) (σ : Store) : loopK n0 nt n I Q .ret s σ = Q .ret s σ := rfl
theorem i_mkif (P : Program) (s : Slots) (σ : Store) (K : Cont) (t : TypeId) (x : Opd) : aI P (.mkif t x) s σ K = K (.iface t (aev s x)) σ := rfl
theorem i_inv (P : Program) (s : Slots) (σ : Store) (K : Cont) (ms : List (TypeId × FuncId × Option (Option Nat))) (x : Opd) (args : List Opd) : aI P (.inv ms x args) s σ K = aInv P ms (aev s x) (evs s args) σ K := rfl
theorem e_inv_n (P : Program) (t' t : TypeId) (f : FuncId) (r : List (TypeId × FuncId × Option (Option Nat))) (a : AV) (args : List AV) (σ : Store) (K : Cont) :
  aInv P ((t', f, none) :: r) (.iface t a) args σ K = (bif t' == t then ACalls P f (a :: args) σ K else aInv P r (.iface t a) args σ K) := by
 simp only [aInv, List.find?_cons]
 cases h : (t' == t) <;> rfl
theorem e_inv_l (P : Program) (t' t : TypeId) (f : FuncId) (n : Option Nat) (r : List (TypeId × FuncId × Option (Option Nat))) (a : AV) (args : List AV) (σ : Store) (K : Cont) :
  aInv P ((t', f, some n) :: r) (.iface t a) args σ K = (bif t' == t then aLoad n a σ (fun y => ACalls P f (y :: args) σ K) else aInv P r (.iface t a) args σ K) := by
 simp only [aInv, List.find?_cons]
 cases h : (t' == t) <;> rfl
theorem i_asrt (P : Program) (s : Slots) (σ : Store) (K : Cont) (t : TypeId) (z : AV) (x : Opd) (ok : Bool) : aI P (.asrt t z x ok) s σ K = aAsrt t z (aev s x) ok (atS K σ) := rfl
theorem dk_mkif (P : Program) (s : Slots) (σ : Store) (K : Cont) (t : TypeId) (x : Opd) : dK P (.mkif t x) s σ K = aI P (.mkif t x) s σ K := rfl
theorem dk_asrt (P : Program) (s : Slots) (σ : Store) (K : Cont) (t : TypeId) (z : AV) (x : Opd) (ok : Bool) : dK P (.asrt t z x ok) s σ K = aI P (.asrt t z x ok) s σ K := rfl
theorem e_asrt (t : TypeId) (z a : AV) (ok : Bool) (K : AV → Prop) : aAsrt t z (.iface t a) ok K = K (if ok then .tuple [a, .bool true] else a) := by simp only [aAsrt, if_true]
theorem i_bstr (P : Program) (s : Slots) (σ : Store) (K : Cont) (x : Opd) : aI P (.bstr x) s σ K = aBstr (aev s x) (atS K σ) := rfl
theorem i_rng (P : Program) (s : Slots) (σ : Store) (K : Cont) (x : Opd) : aI P (.rng x) s σ K = aRng (aev s x) σ K := rfl
theorem i_nxt (P : Program) (s : Slots) (σ : Store) (K : Cont) (x : Opd) : aI P (.nxt x) s σ K = aNxt (aev s x) σ K := rfl
theorem i_ent (P : Program) (s : Slots) (σ : Store) (K : Cont) (x : Opd) : aI P (.ent x) s σ K = aEnt (aev s x) σ (atS K σ) := rfl
theorem map_inj_u8 : ∀ {l r : List UInt8}, l.map encU8 = r.map encU8 → l = r
 | [], [], _ => rfl
 | [], _ :: _, h => by simp at h
 | _ :: _, [], h => by simp at h
 | a :: l, b :: r, h => by
  simp only [List.map_cons, List.cons.injEq] at h
  rw [map_inj_u8 h.2]
  have h1 := h.1
  unfold encU8 at h1
  simp only [List.cons.injEq, and_true, AV.int.injEq, true_and] at h1
  have : a.toNat = b.toNat := by omega
  rw [UInt8.toNat_inj.1 this]
theorem e_bstr (t : Tok) (l : List UInt8) (K : AV → Prop) : aBstr (.slice t (l.map encU8)) K = K (.str ⟨⟨l⟩⟩) := by
 apply propext
 constructor
 ·rintro ⟨r, h, k⟩; rw [map_inj_u8 h]; exact k
 ·intro h; exact ⟨l, rfl, h⟩
theorem e_rng (id : Nat) (σ : Store) (K : Cont) : aRng (.map id) σ K = mapK σ[id]? (fun es => K (.ptr σ.length 0) (σ.set id .dead ++ [.iter es []])) := by
 rw [mapK_ex]; rfl
def iterK (o : Option AObj) (K : List (AV × AV) → List Nat → Prop) : Prop :=
 match o with
 | some (.iter es seen) => K es seen
 | _ => False
theorem iterK_some (es : List (AV × AV)) (seen : List Nat) (K : List (AV × AV) → List Nat → Prop) : iterK (some (.iter es seen)) K = K es seen := rfl
theorem iterK_ex {o : Option AObj} {K : List (AV × AV) → List Nat → Prop} : iterK o K = ∃ es seen, o = some (.iter es seen) ∧ K es seen := by
 apply propext
 constructor
 ·intro h
  cases o with
  | none => exact h.elim
  | some x => cases x <;> first | exact h.elim | exact ⟨_, _, rfl, h⟩
 ·rintro ⟨es, seen, rfl, h⟩; exact h
theorem e_nxt (id : Nat) (σ : Store) (K : Cont) : aNxt (.ptr id 0) σ K = iterK σ[id]? (fun es seen => (∀ (i : Nat) k v, es[i]? = some (k, v) → i ∉ seen → K (.tuple [.bool true, k, v]) (σ.set id (.iter es (seen ++ [i])))) ∧ ((∀ i, i < es.length → i ∈ seen) → K (.tuple [.bool false]) σ)) := by
 rw [iterK_ex]; rfl
theorem e_ent (id : Nat) (σ : Store) (K : AV → Prop) : aEnt (.ptr id 0) σ K = iterK σ[id]? (fun es l => ∃ seen i, l = seen ++ [i] ∧ getK es[i]? (fun e => K (.tuple [e.1, e.2]))) := by
 rw [iterK_ex]
 apply propext
 constructor
 ·rintro ⟨es, seen, i, k, v, h1, h2, h3⟩
  exact ⟨es, _, h1, seen, i, rfl, by rw [h2]; exact h3⟩
 ·rintro ⟨es, l, h1, seen, i, rfl, h2⟩
  rw [getK_ex] at h2
  obtain ⟨⟨k, v⟩, h3, h4⟩ := h2
  exact ⟨es, seen, i, k, v, h1, h3, h4⟩
end Go.Ahl
namespace Go.Ahl
inductive WkL : List AV → List AV → Prop
 | nil : WkL [] []
 | cons {x y : AV} {xs ys : List AV} (h : Wk x y) (t : WkL xs ys) : WkL (x :: xs) (y :: ys)
inductive WkLL : List (List AV) → List (List AV) → Prop
 | nil : WkLL [] []
 | cons {x y : List AV} {xs ys : List (List AV)} (h : WkL x y) (t : WkLL xs ys) : WkLL (x :: xs) (y :: ys)
theorem WkL.refl : ∀ l, WkL l l
 | [] => .nil
 | _ :: l => .cons (.refl _) (WkL.refl l)
theorem WkLL.refl : ∀ l, WkLL l l
 | [] => .nil
 | _ :: l => .cons (.refl _) (WkLL.refl l)
theorem WkL.one {x y : AV} (h : Wk x y) : WkL [x] [y] := .cons h .nil
theorem WkLL.one {x y : List AV} (h : WkL x y) : WkLL [x] [y] := .cons h .nil
theorem WkLL.append {a b c d : List (List AV)} (h : WkLL a b) (k : WkLL c d) : WkLL (a ++ c) (b ++ d) := by
 induction h with
 | nil => exact k
 | cons h t ih => exact .cons h ih
theorem WkLL.map {α : Type} {f g : α → List AV} (h : ∀ x, WkL (f x) (g x)) : ∀ l : List α, WkLL (l.map f) (l.map g)
 | [] => .nil
 | x :: l => .cons (h x) (WkLL.map h l)
theorem WkL.len {a b : List AV} (h : WkL a b) : a.length = b.length := by
 induction h with
 | nil => rfl
 | cons _ _ ih => simp [ih]
theorem WkLL.len {a b : List (List AV)} (h : WkLL a b) : a.length = b.length := by
 induction h with
 | nil => rfl
 | cons _ _ ih => simp [ih]
theorem WkL.get {a b : List AV} (h : WkL a b) : ∀ (j : Nat) y, b[j]? = some y → ∃ x, a[j]? = some x ∧ Wk x y := by
 induction h with
 | nil => intro j y e; simp at e
 | @cons x y xs ys h t ih =>
  intro j z e
  cases j with
  | zero => simp at e; subst e; exact ⟨x, rfl, h⟩
  | succ j => simp at e; simpa using ih j z e
theorem WkLL.get {a b : List (List AV)} (h : WkLL a b) : ∀ (j : Nat) y, b[j]? = some y → ∃ x, a[j]? = some x ∧ WkL x y := by
 induction h with
 | nil => intro j y e; simp at e
 | @cons x y xs ys h t ih =>
  intro j z e
  cases j with
  | zero => simp at e; subst e; exact ⟨x, rfl, h⟩
  | succ j => simp at e; simpa using ih j z e
theorem Wk.slice (t : Tok) {a b : List (List AV)} (h : WkLL a b) : Wk (.slice t a) (.slice t b) := by
 intro m loc v hr
 cases hr with
 | slice _ _ ad cap sz bb o f hcap htok hsz ha hc hr =>
  have hl := h.len
  rw [hl]
  refine .slice t b ad cap sz bb o f (by omega) (by rw [← hl]; exact htok) ?_ ?_ (by rw [← hl]; exact hc) ?_
  ·intro e he
   obtain ⟨i, hi, rfl⟩ := List.mem_iff_getElem.1 he
   obtain ⟨x, hx, hw⟩ := h.get i _ (List.getElem?_eq_getElem hi)
   rw [← hw.len]; exact hsz x (List.mem_of_getElem? hx)
  ·intro hb; exact ha (fun e => hb (by subst e; cases h; rfl))
  ·intro i e he j x hx
   obtain ⟨e', he', hw⟩ := h.get i e he
   obtain ⟨x', hx', hw'⟩ := hw.get j x hx
   exact hw' _ _ _ (hr i e' he' j x' hx')
theorem Wk.unk (t : Tok) (a : List (List AV)) : Wk (.slice t a) (.slice .unk a) := by
 intro m loc v hr
 cases hr with
 | slice _ _ ad cap sz bb o f hcap htok hsz ha hc hr => exact .slice .unk a ad cap sz bb o f hcap trivial hsz ha hc hr
theorem Wk.fresh (id : Nat) (es : List (List AV)) : Wk (.slice (.grow id) es) (.slice .fresh es) := by
 intro m loc v h
 cases h with
 | slice _ _ a cap sz b o f hcap htok hsz ha hc hr =>
  refine .slice .fresh es a cap sz b o f hcap ?_ hsz ha hc hr
  obtain ⟨sz', f', h1, h2, h3⟩ := htok
  intro h0 b' o' e
  rcases h3 with ⟨_, rfl⟩ | ⟨bb, n, g1, g2, g3, g4, g5⟩
  ·omega
  ·rw [g2] at e; injection e with e; injection e with e; subst e; exact g5
theorem Wk.fresh0 (t : Tok) : Wk (.slice t []) (.slice .fresh []) := by
 intro m loc v h
 cases h with
 | slice _ _ a cap sz b o f hcap htok hsz ha hc hr =>
  exact .slice .fresh [] a cap sz b o f hcap (fun h => absurd h (by simp)) hsz ha hc hr
theorem Wk.agg {a b : List AV} (h : WkL a b) : Wk (.agg a) (.agg b) := by
 intro m loc v hr
 cases hr with
 | agg _ vs hlen hr =>
  refine .agg b vs (by rw [← h.len]; exact hlen) ?_
  intro j x v e1 e2
  obtain ⟨x', h1, h2⟩ := h.get j x e1
  exact h2 _ _ _ (hr j x' v h1 e2)
theorem Wk.tuple {a b : List AV} (h : WkL a b) : Wk (.tuple a) (.tuple b) := by
 intro m loc v hr
 cases hr with
 | tuple _ vs hlen hr =>
  refine .tuple b vs (by rw [← h.len]; exact hlen) ?_
  intro j x v e1 e2
  obtain ⟨x', h1, h2⟩ := h.get j x e1
  exact h2 _ _ _ (hr j x' v h1 e2)
def TellW (s : Slots) (n : Nat) : Slots → Prop
 | [] => True
 | (i, v) :: r => (Wk (lk s i) v ∧ Ids n v) ∧ TellW s n r
theorem TellW.lk {s : Slots} {n : Nat} : ∀ {s' : Slots}, TellW s n s' → ∀ i, lk s' i = .any ∨ (Wk (lk s i) (lk s' i) ∧ Ids n (lk s' i))
 | [], _, i => .inl rfl
 | (j, v) :: r, h, i => by
  simp only [Ahl.lk]
  by_cases e : j = i
  ·subst e; simp only [beq_self_eq_true, cond_true]; exact .inr ⟨h.1.1, h.1.2⟩
  ·have : (j == i) = false := by simpa using e
   rw [this, cond_false]; exact TellW.lk h.2 i
section
variable {n0 nt : Nat} {s s' s'' : Slots} {σ σ' σ'' : Store}
theorem Ghost.trans (h : Ghost n0 nt s σ s' σ') (k : Ghost n0 nt s' σ' s'' σ'') : Ghost n0 nt s σ s'' σ'' := by
 intro m loc w t hl hs hr
 obtain ⟨m1, l1, a1, a2, a3⟩ := h m loc w t hl hs hr
 obtain ⟨m2, l2, b1, b2, b3⟩ := k m1 l1 w t (a3.len hl) a1 a2
 exact ⟨m2, l2, b1, b2, a3.trans b3⟩
theorem Ghost.cut (s' : Slots) (n : Nat) (hn : n0 ≤ n) (h1 : TellW s n s') (h2 : IdsS n (σ.take n)) : Ghost n0 nt s σ s' (σ.take n) := by
 intro m loc w t hl hs hr
 refine ⟨m, loc.take n, hs.take n h2, ⟨hr.size, fun i => ?_⟩, Ext.take m loc w n hn⟩
 rcases h1.lk i with e | ⟨e, hi⟩
 ·rw [e]; exact .any _
 ·exact (e _ _ _ (hr.rel i)).take hi
theorem Ghost.keep (g : Store) (hn : n0 ≤ σ.length) (h1 : TellW s σ.length s') (h2 : IdsS σ.length σ) : Ghost n0 nt s (σ ++ g) s' σ := by
 have := Ghost.cut (σ := σ ++ g) (nt := nt) s' σ.length hn h1 (by rw [g_take]; exact h2)
 rwa [g_take] at this
theorem Ghost.keep0 (hn : n0 ≤ σ.length) (h1 : TellW s σ.length s') (h2 : IdsS σ.length σ) : Ghost n0 nt s σ s' σ := by
 have := Ghost.keep (nt := nt) [] hn h1 h2; rwa [List.append_nil] at this
theorem Ghost.freezeT (tk : Tok) (htk : tk = .unk ∨ tk = .fresh) (t : Nat) {id sz off len : Nat} {cells : List AV} (es : List (List AV)) (ht : lk s t = .ref id sz off len) (hs : σ[id]? = some (.row cells)) (hlen : es.length = len)
  (hes : ∀ (i : Nat) e, es[i]? = some e → e.length = sz ∧ ∀ j, j < sz → cells[off + (i * sz + j)]? = e[j]?) : Ghost n0 nt s σ ((t, .slice tk es) :: s) (σ.set id .dead) := by
 intro m loc w tm hl hS hr
 have hid : id < loc.length := by rw [hS.len]; exact lt_of_get hs
 have hrel := hr.rel t
 rw [ht] at hrel
 have hput : ∀ {m' loc'} (hx : SlotRel m' loc' nt s tm), Rel m' loc' (.slice tk es) (tm.getD t undef) → SlotRel m' loc' nt ((t, .slice tk es) :: s) tm := by
  intro m' loc' hx hv
  refine ⟨hx.size, fun i => ?_⟩
  simp only [Ahl.lk]
  by_cases e : t = i
  ·subst e; simp only [beq_self_eq_true, cond_true]; exact hv
  ·have : (t == i) = false := by simpa using e
   rw [this, cond_false]; exact hx.rel i
 generalize tm.getD t undef = v at hrel hput
 cases hrel with
 | ref0 _ _ _ a h1 =>
  have : es = [] := List.length_eq_zero_iff.1 (by omega)
  subst this
  exact ⟨m, loc, hS.die id, hput hr (.slice tk [] a 0 0 0 0 (fun _ _ => undef) (Nat.le_refl _) (by rcases htk with rfl | rfl; trivial; exact fun h => absurd h (by simp)) (by simp) (fun h => absurd rfl h) (fun i hi => absurd hi (by simp)) (by simp)), .refl _ _ _ _⟩
 | ref _ _ _ _ cap b n h1 h2 h3 h4 =>
  obtain ⟨arr, ty, g1, g2, g3, g4, g5⟩ := hS.obj id _ _ h1 hs
  let m' : Mem := ⟨fun k o => if k = b then (if o < cells.length then arr[o]? else none) else m.im k o, m.bs, m.mp, m.wk, m.base⟩
  have hle : m.le m' := ⟨fun k o v e => by
   show (if k = b then _ else _) = _
   by_cases hk : k = b
   ·subst hk; rw [g5] at e; simp at e
   ·rw [if_neg hk]; exact e, fun _ _ e => e, fun _ _ e => e, fun _ _ _ e => e, rfl⟩
  have hfz : ∀ k o v, Names loc k ∨ w.heap.size ≤ k → m'.im k o = some v → w.frozen? ⟨k, o, none⟩ = false := by
   intro k o v hk e
   have e : (if k = b then (if o < cells.length then arr[o]? else none) else m.im k o) = some v := e
   by_cases hkb : k = b
   ·subst hkb; simp [World.frozen?, g1]
   ·rw [if_neg hkb] at e
    rcases hk with hk | hk
    ·exact hS.ok.fz k o v (hS.ok.own k hk) e
    ·have := hS.im_lt e; omega
  have hS' : SRel m' loc (σ.set id .dead) w := by
   refine ⟨by simp [hS.len], ?_, hS.bs, ?_, (hS.die id).inj, hS.lt, hS.mp, (hS.die id).mpo, hS.ok.to rfl (Nat.le_refl _) (fun _ e => .inl e) rfl (fun k o _ hk => if_neg (fun q => hk ⟨id, .inl (by rw [q]; exact h1)⟩)) (fun _ _ _ => rfl) hfz⟩
   ·intro k o v e
    have e : (if k = b then (if o < cells.length then arr[o]? else none) else m.im k o) = some v := e
    by_cases hk : k = b
    ·subst hk
     rw [if_pos rfl] at e
     split at e
     ·simp [World.cell?, g1, e]
     ·simp at e
    ·rw [if_neg hk] at e; exact hS.im k o v e
   ·intro i l o e1 e2
    rcases get_set e2 with ⟨rfl, rfl⟩ | ⟨hne, e2⟩
    ·cases l <;> trivial
    ·have ho := hS.obj i l o e1 e2
     have hnb : own l o ≠ some b := fun q => hne (hS.inj i id l _ o _ b e1 h1 e2 hs q rfl).symm
     cases o with
     | dead => cases l <;> trivial
     | tab b2 vs =>
      cases l with
      | nowhere => exact ⟨hle.bs _ _ ho.1, fun i v e => hle.im _ _ _ (ho.2 i v e)⟩
      | blk k => exact ho.elim
      | tok sz f => exact ho.elim
     | loop L =>
      cases l with
      | blk k =>
       obtain ⟨r, q1, q2, q3, q4, q5, q6, q7⟩ := ho
       exact ⟨r, q1, q2, q3, q4, q5, q6, ⟨q7.size, fun i => (q7.rel i).mono hle (.refl _ _)⟩⟩
      | nowhere => exact ho.elim
      | tok sz f => exact ho.elim
     | iter es seen =>
      cases l with
      | blk k =>
       rcases ho with ⟨q1, q2⟩ | ⟨q, en, c, sa, st, q1, q2, q3, q4⟩
       ·exact .inl ⟨q1, q2⟩
       ·exact .inr ⟨q, en, c, sa, st, q1, q2, ⟨q3.len, fun i k x e a1 a2 => ⟨(q3.key i k x e a1 a2).1.mono hle (.refl _ _), (q3.key i k x e a1 a2).2.mono hle (.refl _ _)⟩, q3.born, q3.apart⟩, q4⟩
      | nowhere => exact ho.elim
      | tok sz f => exact ho.elim
     | map es =>
      cases l with
      | blk k =>
       obtain ⟨en, c, q1, q2⟩ := ho
       exact ⟨en, c, q1, ⟨q2.len, fun i k x e a1 a2 => ⟨(q2.key i k x e a1 a2).1.mono hle (.refl _ _), (q2.key i k x e a1 a2).2.mono hle (.refl _ _)⟩, q2.born, q2.apart⟩⟩
      | nowhere => exact ho.elim
      | tok sz f => exact ho.elim
     | row cs =>
      cases l with
      | blk k =>
       obtain ⟨arr2, t2, q1, q2, q3, q4, q5⟩ := ho
       refine ⟨arr2, t2, q1, q2, q3, fun j x v a1 a2 => (q4 j x v a1 a2).mono hle (.refl _ _), fun o => ?_⟩
       show (if k = b then _ else _) = _
       rw [if_neg (fun q => hnb (by subst q; rfl))]; exact q5 o
      | nowhere => exact ho
      | tok sz f => exact ho.elim
     | vec sz k cs =>
      cases l with
      | tok sz' f =>
       obtain ⟨q0, q1, q2, q3⟩ := ho
       refine ⟨q0, q1, q2, ?_⟩
       rcases q3 with q3 | ⟨bb, arr2, t2, a1, a2, a3, a4, a5, a6⟩
       ·exact .inl q3
       ·refine .inr ⟨bb, arr2, t2, a1, a2, a3, a4, fun j x v e1 e2 => (a5 j x v e1 e2).mono hle (.refl _ _), fun o => ?_⟩
        show (if bb = b then _ else _) = _
        rw [if_neg (fun q => hnb (by subst q; simp [own, a1]))]; exact a6 o
      | nowhere => exact ho.elim
      | blk k => exact ho.elim
     | grow sz k =>
      cases l with
      | tok sz' f =>
       obtain ⟨q1, q2, q3⟩ := ho
       refine ⟨q1, q2, ?_⟩
       rcases q3 with q3 | ⟨bb, arr2, t2, a1, a2, a3, a4⟩
       ·exact .inl q3
       ·refine .inr ⟨bb, arr2, t2, a1, a2, a3, fun o ho => ?_⟩
        show (if bb = b then _ else _) = _
        rw [if_neg (fun q => hnb (by subst q; simp [own, a1]))]; exact a4 o ho
      | nowhere => exact ho.elim
      | blk k => exact ho.elim
  have hext : Ext n0 m loc w m' loc w := ⟨rfl, rfl, rfl, Nat.le_refl _, Nat.le_refl _, hle, .refl _ _, fun _ h => .inl h, fun _ _ _ _ => rfl, fun _ _ _ e => .inl e⟩
  refine ⟨m', loc, hS', hput ⟨hr.size, fun i => (hr.rel i).mono hle (.refl _ _)⟩ ?_, hext⟩
  have hbd : ∀ i, i < es.length → ∀ j, j < sz → off + (i * sz + j) < cells.length := by
   intro i hi j hj
   have q := (hes i _ (List.getElem?_eq_getElem hi)).2 j hj
   have ql := (hes i _ (List.getElem?_eq_getElem hi)).1
   rw [List.getElem?_eq_getElem (by omega : j < (es[i]).length)] at q
   exact lt_of_get q
  rw [← hlen]
  refine .slice tk es _ cap sz b off (fun i j => arr[off + (i * sz + j)]?.getD undef) (by omega) (by rcases htk with rfl | rfl; trivial; exact fun _ b' o' e => by injection e with e; injection e with e; rw [← e]; exact hS'.blkb h1) (fun e he => ?_) (fun _ => rfl) ?_ ?_
  ·obtain ⟨i, hi, rfl⟩ := List.mem_iff_getElem.1 he
   exact (hes i _ (List.getElem?_eq_getElem hi)).1
  ·intro i hi j hj
   have hb := hbd i hi j hj
   show (if b = b then _ else _) = _
   rw [if_pos rfl, if_pos hb, Array.getElem?_eq_getElem (by omega)]; rfl
  ·intro i e he j x hx
   have hi := lt_of_get he
   obtain ⟨q1, q2⟩ := hes i e he
   have hj : j < sz := by rw [← q1]; exact lt_of_get hx
   have hb := hbd i hi j hj
   have hc := q2 j hj
   rw [hx] at hc
   have ha : arr[off + (i * sz + j)]? = some (arr[off + (i * sz + j)]'(by omega)) := Array.getElem?_eq_getElem _
   simp only [ha, Option.getD_some]
   exact (g4 _ _ _ hc ha).mono hle (.refl _ _)
theorem Ghost.freezeF (t : Nat) {id sz off len : Nat} {cells : List AV} (es : List (List AV)) (ht : lk s t = .ref id sz off len) (hs : σ[id]? = some (.row cells)) (hlen : es.length = len)
  (hes : ∀ (i : Nat) e, es[i]? = some e → e.length = sz ∧ ∀ j, j < sz → cells[off + (i * sz + j)]? = e[j]?) : Ghost n0 nt s σ ((t, .slice .fresh es) :: s) (σ.set id .dead) := .freezeT _ (.inr rfl) t es ht hs hlen hes
theorem Ghost.tok (t sz : Nat) (ht : lk s t = .slice .nil [] ∨ lk s t = .slice .zero []) : Ghost n0 nt s σ ((t, .slice (.grow σ.length) []) :: s) (σ ++ [.grow sz 0]) := by
 intro m loc w tm hl hS hr
 obtain ⟨h1, h2⟩ := hS.tok0 n0 sz
 refine ⟨m, _, h1, ⟨hr.size, fun i => ?_⟩, h2⟩
 simp only [Ahl.lk]
 by_cases e : t = i
 ·subst e; simp only [beq_self_eq_true, cond_true]
  have hrel := hr.rel t
  have : ∃ a, tm.getD t undef = .slice a 0 0 := by
   rcases ht with ht | ht <;> rw [ht] at hrel <;> generalize tm.getD t undef = v at hrel
   ·cases hrel with
    | slice _ _ ad cap sz bb o f hcap htok => exact ⟨ad, by rw [htok.2]; rfl⟩
   ·cases hrel with
    | slice _ _ ad cap sz bb o f hcap htok => exact ⟨ad, by rw [show cap = 0 from htok]; rfl⟩
  obtain ⟨a, ha⟩ := this
  rw [ha]; exact rel_tok0 sz a hS
 ·have : (t == i) = false := by simpa using e
  rw [this, cond_false]; exact (hr.rel i).mono (.refl m) (.app _ _ _)
theorem Gh.of {K : Slots → Store → Prop} (h : Ghost n0 nt s σ s' σ') (k : K s' σ') : Gh n0 nt s σ K := ⟨s', σ', h, k⟩
theorem ret_gh {t : Nat} {v : AV} {R : Cont} {n0 : Nat} (hg : Ghost n0 nt s σ [(t, v)] σ') (hn : n0 ≤ σ'.length) (hσ : IdsS σ'.length σ') (hi : Ids σ'.length v) (h : R v σ') : bodyK [.tmp t] n0 nt R .ret s σ :=
 ⟨_, _, hg, σ'.length, hn, by simpa using hσ, by simpa [one, Ahl.lk] using hi, by simpa [one, Ahl.lk] using h⟩
theorem ret_gh2 {t u : Nat} {v x : AV} {R : Cont} {n0 : Nat} (hg : Ghost n0 nt s σ [(t, v), (u, x)] σ') (htu : (t == u) = false) (hn : n0 ≤ σ'.length) (hσ : IdsS σ'.length σ') (hi : Ids σ'.length v) (hj : Ids σ'.length x) (h : R (.tuple [v, x]) σ') :
  bodyK [.tmp t, .tmp u] n0 nt R .ret s σ := by
 refine ⟨_, _, hg, σ'.length, hn, by simpa using hσ, ?_⟩
 simp only [one, Ahl.lk, htu, beq_self_eq_true, cond_true, cond_false, List.take_length]
 exact ⟨.tuple _ (fun j y hy => by match j, hy with | 0, hy => simp at hy; subst hy; exact hi | 1, hy => simp at hy; subst hy; exact hj), h⟩
theorem ret_gh0 {R : Cont} {n0 : Nat} (hg : Ghost n0 nt s σ [] σ') (hn : n0 ≤ σ'.length) (hσ : IdsS σ'.length σ') (h : R (.tuple []) σ') : bodyK [] n0 nt R .ret s σ :=
 ⟨_, _, hg, σ'.length, hn, by simpa using hσ, .tuple _ (by simp), by simpa [one] using h⟩
theorem wpc_while {P : Program} {c : CCode} {Q : Post} {α : Type} (st : α → Slots) (g : α → Store) (J : α → Prop) (μ : α → Nat) (x0 : α) (h0 : J x0) (hg : Ghost n0 nt s σ (st x0) (g x0))
  (round : ∀ x, J x → ∀ K : Post, (∀ s σ y, J y → μ y < μ x → Ghost n0 nt s σ (st y) (g y) → K .normal s σ) → (∀ id s σ, K (.exit id) s σ = Q (.exit id) s σ) → (∀ s σ, K .ret s σ = Q .ret s σ) → wpc P nt n0 c K (st x) (g x)) :
  wpc P nt n0 (.loop c) Q s σ := by
 refine .of hg ⟨fun n s σ => ∃ x, J x ∧ μ x = n ∧ s = st x ∧ σ = g x, μ x0, ⟨x0, h0, rfl, rfl, rfl⟩, ?_⟩
 rintro n _ _ ⟨x, hx, rfl, rfl, rfl⟩
 refine round x hx _ ?_ (fun _ _ _ => rfl) (fun _ _ => rfl)
 intro s σ y hy hlt hgh
 exact .of hgh ⟨μ y, hlt, y, hy, rfl, rfl, rfl⟩
theorem ACalls.wkC {P : Program} {f : FuncId} {args : List AV} {R R' : Cont} (h : ACalls P f args σ R) (hw : ∀ r σ', R r σ' → ∃ r', Wk r r' ∧ R' r' σ') : ACalls P f args σ R' := by
 intro m loc w vs hs ha
 have key : ∀ v w', ARet loc m w R v w' → ARet loc m w R' v w' := by
  rintro v w' ⟨r, σ', m', loc', h1, h2, h3⟩
  obtain ⟨r', g1, g2⟩ := hw r σ' h1
  exact ⟨r', σ', m', loc', g2, g1 _ _ _ h2, h3⟩
 rcases h m loc w vs hs ha with ⟨fn, h1, h2, h3, h4⟩ | ⟨v, w', h1, h2⟩
 ·exact .inl ⟨fn, h1, h2, h3, h4.mono fun e w' ⟨v, e1, e2⟩ => ⟨v, e1, key _ _ e2⟩⟩
 ·exact .inr ⟨v, w', h1, key _ _ h2⟩
theorem ACalls.wkR {P : Program} {f : FuncId} {args : List AV} {a b : AV} {τ : Store} (h : ACalls P f args σ (isR a τ)) (hw : Wk a b) : ACalls P f args σ (isR b τ) :=
 h.wkC fun r σ' hr => by obtain ⟨rfl, rfl⟩ := hr; exact ⟨b, hw, rfl, rfl⟩
theorem ACalls.wk {P : Program} {f : FuncId} {args args' : List AV} {R : Cont} (h : ACalls P f args' σ R) (hw : WkL args args') : ACalls P f args σ R := by
 intro m loc w vs hs ha
 refine h m loc w vs hs ⟨by rw [← hw.len]; exact ha.1, ?_⟩
 intro j x v e1 e2
 obtain ⟨x', h1, h2⟩ := hw.get j x e1
 exact h2 _ _ _ (ha.2 j x' v h1 e2)
end
end Go.Ahl
namespace Go.Ahl
section
variable {n0 nt : Nat} {s s' : Slots} {σ g : Store} {R : Cont}
theorem ret_k {t : Nat} (v : AV) (hσ : IdsS σ.length σ) (hw : Wk (lk s t) v) (hi : Ids σ.length v) (h : R v σ) : bodyK [.tmp t] σ.length nt R .ret s (σ ++ g) :=
 ret_gh (.keep g (Nat.le_refl _) ⟨⟨hw, hi⟩, trivial⟩ hσ) (Nat.le_refl _) hσ hi h
theorem ret_k0 {t : Nat} (v : AV) (hσ : IdsS σ.length σ) (hw : Wk (lk s t) v) (hi : Ids σ.length v) (h : R v σ) : bodyK [.tmp t] σ.length nt R .ret s σ :=
 ret_gh (.keep0 (Nat.le_refl _) ⟨⟨hw, hi⟩, trivial⟩ hσ) (Nat.le_refl _) hσ hi h
theorem ret_l {t u : Nat} (v x : AV) (hσ : IdsS σ.length σ) (htu : (t == u) = false) (hw : Wk (lk s t) v) (hx : Wk (lk s u) x) (hi : Ids σ.length v) (hj : Ids σ.length x) (h : R (.tuple [v, x]) σ) : bodyK [.tmp t, .tmp u] σ.length nt R .ret s (σ ++ g) :=
 ret_gh2 (.keep g (Nat.le_refl _) ⟨⟨hw, hi⟩, ⟨hx, hj⟩, trivial⟩ hσ) htu (Nat.le_refl _) hσ hi hj h
theorem ret_l0 {t u : Nat} (v x : AV) (hσ : IdsS σ.length σ) (htu : (t == u) = false) (hw : Wk (lk s t) v) (hx : Wk (lk s u) x) (hi : Ids σ.length v) (hj : Ids σ.length x) (h : R (.tuple [v, x]) σ) : bodyK [.tmp t, .tmp u] σ.length nt R .ret s σ :=
 ret_gh2 (.keep0 (Nat.le_refl _) ⟨⟨hw, hi⟩, ⟨hx, hj⟩, trivial⟩ hσ) htu (Nat.le_refl _) hσ hi hj h
end
theorem drop_cons {α : Type} {l : List α} {i : Nat} {x : α} (h : l[i]? = some x) : l.drop i = x :: l.drop (i + 1) := by
 have hl := lt_of_get h
 rw [List.drop_eq_getElem_cons hl]
 rw [List.getElem?_eq_getElem hl] at h
 injection h with h; rw [h]
theorem get_ex {α : Type} {l : List α} {i : Nat} (h : i < l.length) : ∃ x, l[i]? = some x := ⟨_, List.getElem?_eq_getElem h⟩
theorem drop_len {α : Type} {l : List α} {i : Nat} (h : ¬ i < l.length) : l.drop i = [] := List.drop_eq_nil_iff.2 (by omega)
def encI (n : Int) : List AV := [.int .i64 n]
def encB (b : Bool) : List AV := [.bool b]
def encT (b : ByteArray) : List AV := [.str b]
structure FLit where
 fact : Int
 neg : Bool
instance : DecidableEq FLit := fun a b => decidable_of_iff (a.fact = b.fact ∧ a.neg = b.neg) (by cases a; cases b; simp)
instance : Inhabited FLit := ⟨⟨0, false⟩⟩
def encLit (x : FLit) : List AV := [.int .i64 x.fact, .bool x.neg]
def encC (l : List FLit) : List AV := [.slice .unk (l.map encLit)]
def encL (l : List Int) : List AV := [.slice .unk (l.map encI)]
def encCf (l : List FLit) : List AV := [.slice .fresh (l.map encLit)]
def encLf (l : List Int) : List AV := [.slice .fresh (l.map encI)]
structure FEff where
 when_ : List FLit
 lit : FLit
structure FAct where
 name : ByteArray
 cost : Int
 pre : List FLit
 effects : List FEff
structure FTask where
 facts : List ByteArray
 init : List Int
 goal : List FLit
 actions : List FAct
def encE (e : FEff) : List AV := [.slice .unk (e.when_.map encLit), .int .i64 e.lit.fact, .bool e.lit.neg]
def encA (a : FAct) : List AV := [.str a.name, .int .i64 a.cost, .slice .unk (a.pre.map encLit), .slice .unk (a.effects.map encE)]
def encTask (t : FTask) : List AV := [.slice .unk (t.facts.map encT), .slice .unk (t.init.map encI), .slice .unk (t.goal.map encLit), .slice .unk (t.actions.map encA)]
section
variable {n : Nat}
def IdsL (n : Nat) (l : List AV) : Prop := ∀ x ∈ l, Ids n x
theorem ids_map {α : Type} {f : α → List AV} (h : ∀ x, IdsL n (f x)) (l : List α) : Ids n (.slice .unk (l.map f)) :=
 ids_flat (fun _ e => by simp at e) fun e he x hx => by obtain ⟨y, _, rfl⟩ := List.mem_map.1 he; exact h y x hx
theorem idsL_nil : IdsL n [] := by intro x hx; simp at hx
theorem idsL_cons {x : AV} {l : List AV} (h : Ids n x) (k : IdsL n l) : IdsL n (x :: l) := by
 intro y hy
 rcases List.mem_cons.1 hy with rfl | hy
 ·exact h
 ·exact k y hy
theorem ids_encI (x : Int) : IdsL n (encI x) := idsL_cons (.int _ _) idsL_nil
theorem ids_encB (x : Bool) : IdsL n (encB x) := idsL_cons (.bool _) idsL_nil
theorem ids_encT (x : ByteArray) : IdsL n (encT x) := idsL_cons (.str _) idsL_nil
theorem ids_encLit (x : FLit) : IdsL n (encLit x) := idsL_cons (.int _ _) (idsL_cons (.bool _) idsL_nil)
theorem ids_encC (x : List FLit) : IdsL n (encC x) := idsL_cons (ids_map ids_encLit _) idsL_nil
theorem ids_encL (x : List Int) : IdsL n (encL x) := idsL_cons (ids_map ids_encI _) idsL_nil
theorem ids_mapf {α : Type} {f : α → List AV} (h : ∀ x, IdsL n (f x)) (l : List α) : Ids n (.slice .fresh (l.map f)) :=
 ids_flat (fun _ e => by simp at e) fun e he x hx => by obtain ⟨y, _, rfl⟩ := List.mem_map.1 he; exact h y x hx
theorem ids_encCf (x : List FLit) : IdsL n (encCf x) := idsL_cons (ids_mapf ids_encLit _) idsL_nil
theorem ids_encLf (x : List Int) : IdsL n (encLf x) := idsL_cons (ids_mapf ids_encI _) idsL_nil
theorem ids_encE (x : FEff) : IdsL n (encE x) := idsL_cons (ids_map ids_encLit _) (idsL_cons (.int _ _) (idsL_cons (.bool _) idsL_nil))
theorem ids_encA (x : FAct) : IdsL n (encA x) := idsL_cons (.str _) (idsL_cons (.int _ _) (idsL_cons (ids_map ids_encLit _) (idsL_cons (ids_map ids_encE _) idsL_nil)))
theorem ids_encTask (x : FTask) : IdsL n (encTask x) := idsL_cons (ids_map ids_encT _) (idsL_cons (ids_map ids_encI _) (idsL_cons (ids_map ids_encLit _) (idsL_cons (ids_map ids_encA _) idsL_nil)))
theorem ids_agg {l : List AV} (h : IdsL n l) : Ids n (.agg l) := .agg l fun j x e => h x (List.mem_of_getElem? e)
theorem ids_func0 (f : FuncId) : Ids n (.func f []) := .func f [] (by simp)
theorem ids_nil (t : Tok) (ht : ∀ id, t = .grow id → id < n) : Ids n (.slice t []) := ids_flat ht (by simp)
end
end Go.Ahl
namespace Go.Ahl
theorem ids_up {n k : Nat} (h : n ≤ k) {a : AV} (i : Ids n a) : Ids k a := by
 induction i with
 | any => exact .any
 | bool b => exact .bool b
 | int k i => exact .int k i
 | str s => exact .str s
 | slice t es ht _ ih => exact .slice t es (fun id e => Nat.lt_of_lt_of_le (ht id e) h) ih
 | ref id sz off len hi => exact .ref id sz off len (Nat.lt_of_lt_of_le hi h)
 | vec id sz len hi => exact .vec id sz len (Nat.lt_of_lt_of_le hi h)
 | ptr id off hi => exact .ptr id off (Nat.lt_of_lt_of_le hi h)
 | rptr c _ ih => exact .rptr c ih
 | map id hi => exact .map id (Nat.lt_of_lt_of_le hi h)
 | mapnil => exact .mapnil
 | func f c _ ih => exact .func f c ih
 | agg c _ ih => exact .agg c ih
 | tuple c _ ih => exact .tuple c ih
 | conc v => exact .conc v
 | yld id hi => exact .yld id (Nat.lt_of_lt_of_le hi h)
 | iface t x _ ih => exact .iface t x ih
 | cell K => exact .cell K
 | wslice es h0 _ ih => exact .wslice es (by omega) ih
 | wptr es h0 _ ih => exact .wptr es (by omega) ih
theorem idsO_up {n k : Nat} (h : n ≤ k) {o : AObj} (i : IdsO n o) : IdsO k o := by
 cases o with
 | row c => exact fun j x e => ids_up h (i j x e)
 | vec _ _ c => exact fun j x e => ids_up h (i j x e)
 | map es => exact fun j a x e => ⟨ids_up h (i j a x e).1, ids_up h (i j a x e).2⟩
 | iter es _ => exact fun j a x e => ⟨ids_up h (i j a x e).1, ids_up h (i j a x e).2⟩
 | loop L => exact fun j => ids_up h (i j)
 | _ => trivial
theorem idsS_push {σ : Store} {o : AObj} (h : IdsS σ.length σ) (ho : IdsO (σ.length + 1) o) : IdsS (σ ++ [o]).length (σ ++ [o]) := by
 intro i x e
 rw [List.length_append, List.length_singleton]
 rcases Nat.lt_or_ge i σ.length with hi | hi
 ·rw [List.getElem?_append_left hi] at e; exact idsO_up (by omega) (h i x e)
 ·rw [List.getElem?_append_right hi] at e
  have : i - σ.length = 0 := by have := lt_of_get e; simp at this; omega
  rw [this] at e; simp at e; subst e; exact ho
theorem ids_grow {σ : Store} {l : List AV} (h : IdsS σ.length σ) (hl : IdsL (σ.length + 1) l) : IdsS (σ ++ [AObj.row l]).length (σ ++ [AObj.row l]) :=
 idsS_push h fun j x e => hl x (List.mem_of_getElem? e)
section
variable {n0 nt : Nat} {s s' : Slots} {σ g : Store}
theorem Ghost.keep1 (o : AObj) (hn : n0 ≤ σ.length) (h1 : TellW s (σ.length + 1) s') (h2 : IdsS (σ ++ [o]).length (σ ++ [o])) : Ghost n0 nt s (σ ++ o :: g) s' (σ ++ [o]) := by
 have := Ghost.keep (s := s) (s' := s') (nt := nt) (n0 := n0) (σ := σ ++ [o]) g (by simp; omega) (by simpa using h1) h2
 rwa [List.append_assoc, List.singleton_append] at this
end
end Go.Ahl
namespace Go.Ahl
def bys (l : List UInt8) : ByteArray := ⟨⟨l⟩⟩
end Go.Ahl
