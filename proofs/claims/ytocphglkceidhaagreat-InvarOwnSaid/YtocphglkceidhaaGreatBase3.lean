/- Contracts of the given program's functions, and an abstract layer over the model; no condition. -/
import Derived.WalkKit
import Derived.ProofKit
import Derived.SizedLaws
import Derived.Carry
import Derived.Test.YtocphglkceidhaaGreatProg
import Derived.Lib.Bytealg
import Derived.Test.YtocphglkceidhaaGreatRows
import Derived.Shelf.SlSortCmp.NoneTotal
import Derived.Ground.SlsfProg
import Derived.Test.YtocphglkceidhaaGreatBase2
set_option linter.unusedVariables false
set_option linter.unusedSimpArgs false
/- The abstract layer, part 23: from the readings of a call's arguments to abstract values; a law's statement. -/
namespace Go.Ahl
/-- All of a world's memory, as what never changes. -/
def memOf (w : World) : Mem where
  im b o := w.cell? ⟨b, o, none⟩
  bs b := match w.heap[b]? with
    | some (.cells arr _ _) => some arr.size
    | _ => none
  mp _ := none
  wk _ _ := none
  base := w.heap.size
theorem srel_memOf (w : World) : SRel (memOf w) [] [] w where
  len := rfl
  im := fun _ _ _ h => h
  bs := fun b n h => by
    simp only [memOf] at h
    split at h
    · rename_i arr t fz hb
      injection h with h
      exact ⟨arr, t, fz, hb, h⟩
    · simp at h
  obj := by intro i l o h; simp at h
  inj := by intro i j l l' o o' b h; simp at h
  lt := by rintro b ⟨i, e | ⟨_, _, _, e, _⟩⟩ <;> simp at e
  mp := fun b e h => by simp [memOf] at h
  mpo := by intro i l o b h; simp at h
  ok := ⟨Nat.le_refl _, by rintro b ⟨i, e | ⟨_, _, _, e, _⟩⟩ <;> simp at e, fun b o K h => by simp [memOf] at h, fun b o v q e => by
    have := World.block_lt_of_cell? w ⟨b, o, none⟩ e
    have q : w.heap.size ≤ b := q
    simp only at this; omega⟩
/-- What type t's readings are, as data. -/
def Reads (P : Program) (t : TypeId) {α : Type} (f : α → List AV) (ok : α → Prop) : Prop :=
  ∀ (H : Type) (enc : TypeId × Value → H) (w : World) (fuel : Nat) (cs : List Value) (d : DataW H) (ps : List MemPlace),
    DataW.trod enc P w 0 (fun _ => true) true fuel t cs = some (d, ps) → (∀ x ∈ d.weights P t, x ≤ reachBytes) → ∃ x, ok x ∧ Cells (memOf w) [] (f x) cs
section
variable {P : Program} {t e : TypeId}
theorem Reads.conv {α β : Type} {f : α → List AV} {g : β → List AV} {ok : α → Prop} {ok' : β → Prop} (h : Reads P t f ok) (c : α → β) (hc : ∀ x, g (c x) = f x) (ho : ∀ x, ok x → ok' (c x)) : Reads P t g ok' := by
  intro H enc w fuel cs d ps ht hw
  obtain ⟨x, h1, h2⟩ := h H enc w fuel cs d ps ht hw
  exact ⟨c x, ho x h1, by rw [hc]; exact h2⟩
theorem cells_one {m : Mem} {x : AV} {v : Value} (h : Rel m [] x v) : Cells m [] [x] [v] := .cons h .nil
theorem Reads.bool (ht : P.underlying t = some .bool) : Reads P t encB (fun _ => True) := by
  intro H enc w fuel cs d ps h hw
  cases fuel with
  | zero => simp [DataW.trod] at h
  | succ n =>
    simp only [DataW.trod, ht] at h
    split at h <;> simp_all
    rename_i b
    cases b
    · exact .inl (cells_one (.bool _))
    · exact .inr (cells_one (.bool _))
theorem Reads.int (ht : P.underlying t = some (.int .i64)) : Reads P t encI (fun n => -9223372036854775808 ≤ n ∧ n ≤ 9223372036854775807) := by
  intro H enc w fuel cs d ps h hw
  cases fuel with
  | zero => simp [DataW.trod] at h
  | succ n =>
    simp only [DataW.trod, ht] at h
    split at h <;> try (simp_all; done)
    rename_i k k' nn hk
    have hk : IntKind.i64 = k := by injection hk with q; injection q
    subst hk
    split at h
    · rename_i hc
      obtain ⟨rfl, hwf⟩ := hc
      refine ⟨nn, ?_, cells_one (.int _ _)⟩
      simpa [Lit.wf, IntKind.min, IntKind.max, IntKind.signed, IntKind.bits] using hwf
    · simp at h
theorem Reads.str (ht : P.underlying t = some .string) : Reads P t encT (fun s => s.size ≤ 140737488355328) := by
  intro H enc w fuel cs d ps h hw
  cases fuel with
  | zero => simp [DataW.trod] at h
  | succ n =>
    simp only [DataW.trod, ht] at h
    split at h <;> simp_all
    rename_i s
    obtain ⟨_, rfl, _⟩ := h
    refine ⟨s, ?_, cells_one (.str _)⟩
    have := hw s.data.toList.length (by simp [DataW.weights])
    have h2 : s.size = s.data.toList.length := rfl
    simp only [reachBytes] at this
    omega
theorem mapM_get {α β : Type} (f : α → Option β) : ∀ (l : List α) (r : List β), l.mapM f = some r → r.length = l.length ∧ ∀ (i : Nat) x, l[i]? = some x → ∃ y, f x = some y ∧ r[i]? = some y
  | [], r, h => by simp at h; subst h; simp
  | a :: l, r, h => by
    rw [List.mapM_cons] at h
    cases ha : f a with
    | none => rw [ha] at h; simp at h
    | some y =>
      cases hl : l.mapM f with
      | none => rw [ha, hl] at h; simp at h
      | some r' =>
        rw [ha, hl] at h; simp at h; subst h
        obtain ⟨q1, q2⟩ := mapM_get f l r' hl
        refine ⟨by simp [q1], ?_⟩
        intro i x hx
        cases i with
        | zero => simp at hx; subst hx; exact ⟨y, ha, by simp⟩
        | succ i => simp at hx; simpa using q2 i x hx
theorem weightsAll_mem {H : Type} {d : DataW H} : ∀ {l : List (DataW H)}, d ∈ l → ∀ x ∈ d.weights P e, x ∈ DataW.weightsAll P e l
  | [], h, _, _ => by simp at h
  | a :: l, h, x, hx => by
    rw [DataW.weightsAll, List.mem_append]
    rcases List.mem_cons.1 h with rfl | h
    · exact .inl hx
    · exact .inr (weightsAll_mem h x hx)
/-- A choice for each number below n. -/
theorem choose_list {α : Type} {p : Nat → α → Prop} : ∀ n : Nat, (∀ i, i < n → ∃ x, p i x) → ∃ l : List α, l.length = n ∧ ∀ (i : Nat) x, l[i]? = some x → p i x
  | 0, _ => ⟨[], rfl, by simp⟩
  | n + 1, h => by
    obtain ⟨l, h1, h2⟩ := choose_list n (fun i hi => h i (by omega))
    obtain ⟨x, hx⟩ := h n (by omega)
    refine ⟨l ++ [x], by simp [h1], ?_⟩
    intro i y hy
    rw [List.getElem?_append] at hy
    split at hy
    · exact h2 i y hy
    · have := lt_of_get hy; simp at this
      have hi : i = n := by omega
      subst hi; rw [h1, Nat.sub_self] at hy; simp at hy; subst hy; exact hx
theorem cells?_some {w : World} {a : Addr} {n : Nat} {cs : List Value} (h : w.cells? 0 a n = some cs) : cs.length = n ∧ ∀ (j : Nat) v, cs[j]? = some v → w.cell? (a.add j) = some v := by
  unfold World.cells? at h
  rw [if_pos (Nat.zero_le _)] at h
  obtain ⟨h1, h2⟩ := mapM_get _ _ _ h
  refine ⟨by simpa using h1, ?_⟩
  intro j v hv
  have hj : j < n := by have := lt_of_get hv; simp at h1; omega
  obtain ⟨y, h3, h4⟩ := h2 j j (by rw [List.getElem?_range hj])
  rw [hv] at h4; injection h4 with h4; subst h4; exact h3
/-- A list that memory can hold, of such elements. -/
def okL {α : Type} (ok : α → Prop) (l : List α) : Prop := l.length ≤ 140737488355328 ∧ ∀ x ∈ l, ok x
theorem Reads.slice {α : Type} {f : α → List AV} {ok : α → Prop} (ht : P.underlying t = some (.slice e)) (hb : 0 < P.bytesOf e) (hc0 : 0 < P.cellsOf e) (he : Reads P e f ok) :
    Reads P t (encS f) (okL ok) := by
  intro H enc w fuel cs d ps h hw
  cases fuel with
  | zero => simp [DataW.trod] at h
  | succ n =>
    simp only [DataW.trod, ht] at h
    split at h
    all_goals first | (simp at h; done) | skip
    all_goals try (rename_i heq; simp at heq; done)
    · simp at h
      refine ⟨[], ⟨by simp, by simp⟩, cells_one ?_⟩
      exact .slice .unk [] none 0 0 0 0 (fun _ _ => undef) (Nat.le_refl _) trivial (by simp) (fun h => absurd rfl h) (fun i hi => absurd hi (by simp)) (by simp)
    · rename_i e' a len cap heq
      have heq' : e = e' := by injection heq with q; injection q
      subst heq'
      split at h
      · rename_i hc
        obtain ⟨_, hcap, _⟩ := hc
        cases hm : (List.range len).mapM (fun i => (w.cells? 0 (a.add (i * P.cellsOf e)) (P.cellsOf e)).bind (DataW.trod enc P w 0 (fun _ => true) true n e)) with
        | none => rw [hm] at h; simp at h
        | some elems =>
          rw [hm] at h
          simp only [Option.bind_some, if_true, Option.map_eq_some_iff] at h
          obtain ⟨rest, hr, hd⟩ := h
          injection hd with hd1 hd2
          subst hd1
          obtain ⟨q1, q2⟩ := mapM_get _ _ _ hm
          simp only [List.length_range] at q1
          have hwt : ∀ x ∈ ((elems.map (·.1)).length + (rest.map (·.1)).length) * P.bytesOf e :: (DataW.weightsAll P e (elems.map (·.1)) ++ DataW.weightsAll P e (rest.map (·.1))), x ≤ reachBytes := by
            intro x hx; apply hw x; simp only [DataW.weights, ht]; exact hx
          have hlen : len ≤ 140737488355328 := by
            have h1 := hwt _ List.mem_cons_self
            simp only [List.length_map, q1, reachBytes] at h1
            have h2 : len + rest.length ≤ (len + rest.length) * P.bytesOf e := Nat.le_mul_of_pos_right _ hb
            omega
          have key : ∀ i, i < len → ∃ x, ok x ∧ ∃ cs, Cells (memOf w) [] (f x) cs ∧ cs.length = P.cellsOf e ∧ ∀ (j : Nat) v, cs[j]? = some v → w.cell? ((a.add (i * P.cellsOf e)).add j) = some v := by
            intro i hi
            obtain ⟨y, h3, h4⟩ := q2 i i (by rw [List.getElem?_range hi])
            cases hcs : w.cells? 0 (a.add (i * P.cellsOf e)) (P.cellsOf e) with
            | none => rw [hcs] at h3; simp at h3
            | some cs =>
              rw [hcs] at h3
              obtain ⟨y1, y2⟩ := y
              simp only [Option.bind_some] at h3
              obtain ⟨x, hx1, hx2⟩ := he H enc w n cs y1 y2 h3 (fun z hz => hwt z (List.mem_cons_of_mem _ (List.mem_append_left _ (weightsAll_mem (List.mem_map.2 ⟨_, List.mem_of_getElem? h4, rfl⟩) z hz))))
              obtain ⟨c1, c2⟩ := cells?_some hcs
              exact ⟨x, hx1, cs, hx2, c1, c2⟩
          obtain ⟨l, hl1, hl2⟩ := choose_list len key
          refine ⟨l, ⟨by omega, fun x hx => ?_⟩, cells_one ?_⟩
          · obtain ⟨i, hi, rfl⟩ := List.mem_iff_getElem.1 hx
            exact (hl2 i _ (List.getElem?_eq_getElem hi)).1
          · obtain ⟨ab, ao, ap⟩ := a
            by_cases hz : len = 0
            · have : l = [] := List.length_eq_zero_iff.1 (by omega)
              subst this; subst hz
              exact .slice .unk [] (some ⟨ab, ao, ap⟩) cap 0 0 0 (fun _ _ => undef) (Nat.zero_le _) trivial (by simp) (fun h => absurd rfl h) (fun i hi => absurd hi (by simp)) (by simp)
            have hap : ap = none := by
              obtain ⟨x, hx⟩ : ∃ x, l[0]? = some x := get_ex (by omega)
              obtain ⟨_, cs, _, c1, c2⟩ := hl2 0 x hx
              obtain ⟨v, hv⟩ : ∃ v, cs[0]? = some v := get_ex (by omega)
              have := c2 0 v hv
              cases ap with
              | none => rfl
              | some q => simp [World.cell?, Addr.add] at this; split at this <;> simp at this
            subst hap
            have hadd : ∀ i j, ((⟨ab, ao, none⟩ : Addr).add (i * P.cellsOf e)).add j = ⟨ab, ao + (i * P.cellsOf e + j), none⟩ := by
              intro i j; rw [add_at, add_at]; congr 1; omega
            have hcl : ∀ (i : Nat) x, l[i]? = some x → (f x).length = P.cellsOf e := by
              intro i x hx
              obtain ⟨_, cs, c0, c1, _⟩ := hl2 i x hx
              rw [← c0.1, c1]
            have hval : ∀ i, i < len → ∀ j, j < P.cellsOf e → ∃ v, w.cell? ⟨ab, ao + (i * P.cellsOf e + j), none⟩ = some v := by
              intro i hi j hj
              obtain ⟨x, hx⟩ : ∃ x, l[i]? = some x := get_ex (by omega)
              obtain ⟨_, cs, _, c1, c2⟩ := hl2 i x hx
              obtain ⟨v, hv⟩ : ∃ v, cs[j]? = some v := get_ex (by omega)
              exact ⟨v, by rw [← hadd]; exact c2 j v hv⟩
            have hR := Rel.slice (m := memOf w) (loc := []) .unk (l.map f) (some ⟨ab, ao, none⟩) cap (P.cellsOf e) ab ao (fun i j => (w.cell? ⟨ab, ao + (i * P.cellsOf e + j), none⟩).getD undef)
              (by simp; omega) trivial ?_ (fun _ => rfl) ?_ ?_
            · rw [List.length_map, hl1] at hR; exact hR
            · intro y hy
              obtain ⟨x, hx, rfl⟩ := List.mem_map.1 hy
              obtain ⟨i, hi, rfl⟩ := List.mem_iff_getElem.1 hx
              exact hcl i _ (List.getElem?_eq_getElem hi)
            · intro i hi j hj
              simp only [List.length_map, hl1] at hi
              obtain ⟨v, hv⟩ := hval i hi j hj
              show w.cell? _ = _
              rw [hv]; rfl
            · intro i y hy j z hz'
              rw [List.getElem?_map] at hy
              cases hx : l[i]? with
              | none => rw [hx] at hy; simp at hy
              | some x =>
                rw [hx] at hy; simp at hy; subst hy
                obtain ⟨_, cs, c0, c1, c2⟩ := hl2 i x hx
                have hj : j < P.cellsOf e := by have := lt_of_get hz'; rw [hcl i x hx] at this; exact this
                obtain ⟨v, hv⟩ : ∃ v, cs[j]? = some v := get_ex (by omega)
                have h5 := c2 j v hv
                rw [hadd] at h5
                simp only [h5, Option.getD_some]
                exact c0.2 j z v hz' hv
      · simp at h
/-- The readings of a struct's fields, from cell 'off' on. -/
def ReadsFs (P : Program) (off : Nat) (fs : List Field) {α : Type} (f : α → List AV) (ok : α → Prop) : Prop :=
  ∀ (H : Type) (enc : TypeId × Value → H) (w : World) (fuel : Nat) (cs : List Value) (xs : List (DataW H × List MemPlace)),
    cs.length = off + (fs.map fun f => P.cellsOf f.type).sum →
    fs.mapM (fun f => DataW.trod enc P w 0 (fun _ => true) true fuel f.type ((cs.drop f.offset).take (P.cellsOf f.type))) = some xs → (∀ x ∈ DataW.weightsEach P (fs.map (·.type)) (xs.map (·.1)), x ≤ reachBytes) →
    ∃ x, ok x ∧ Cells (memOf w) [] (f x) (cs.drop off)
theorem ReadsFs.nil (off : Nat) : ReadsFs P off [] (fun _ : Unit => []) (fun _ => True) := by
  intro H enc w fuel cs xs hl hm hw
  refine ⟨(), trivial, ?_⟩
  rw [List.drop_eq_nil_of_le (by simp at hl; omega)]
  exact .nil
theorem ReadsFs.cons {off : Nat} {fd : Field} {fs : List Field} {α β : Type} {f : α → List AV} {g : β → List AV} {ok : α → Prop} {ok' : β → Prop} (ho : fd.offset = off) (h : Reads P fd.type f ok) (hr : ReadsFs P (off + P.cellsOf fd.type) fs g ok') :
    ReadsFs P off (fd :: fs) (fun x : α × β => f x.1 ++ g x.2) (fun x => ok x.1 ∧ ok' x.2) := by
  intro H enc w fuel cs xs hl hm hw
  rw [List.mapM_cons] at hm
  cases ha : DataW.trod enc P w 0 (fun _ => true) true fuel fd.type ((cs.drop fd.offset).take (P.cellsOf fd.type)) with
  | none => rw [ha] at hm; simp at hm
  | some y =>
    cases hb : fs.mapM (fun f => DataW.trod enc P w 0 (fun _ => true) true fuel f.type ((cs.drop f.offset).take (P.cellsOf f.type))) with
    | none => rw [ha, hb] at hm; simp at hm
    | some ys =>
      rw [ha, hb] at hm; simp at hm; subst hm
      obtain ⟨d, ps⟩ := y
      have hw' : ∀ x ∈ d.weights P fd.type ++ DataW.weightsEach P (fs.map (·.type)) (ys.map (·.1)), x ≤ reachBytes := by
        intro x hx; apply hw x; simp only [List.map_cons, DataW.weightsEach]; exact hx
      obtain ⟨x, h1, h2⟩ := h H enc w fuel _ d ps ha (fun z hz => hw' z (List.mem_append_left _ hz))
      obtain ⟨y, h3, h4⟩ := hr H enc w fuel cs ys (by simp only [List.map_cons, List.sum_cons] at hl; omega) hb (fun z hz => hw' z (List.mem_append_right _ hz))
      refine ⟨(x, y), ⟨h1, h3⟩, ?_⟩
      have := h2.append h4
      rw [ho, ← List.drop_drop, List.take_append_drop] at this
      exact this
theorem Reads.struct {fs : Array Field} {α : Type} {f : α → List AV} {ok : α → Prop} (ht : P.underlying t = some (.struct fs)) (hc : P.cellsOf t = (fs.toList.map fun f => P.cellsOf f.type).sum) (h : ReadsFs P 0 fs.toList f ok) : Reads P t f ok := by
  intro H enc w fuel cs d ps hx hw
  cases fuel with
  | zero => simp [DataW.trod] at hx
  | succ n =>
    simp only [DataW.trod, ht] at hx
    split at hx
    · rename_i hl
      cases hm : fs.toList.mapM (fun f => DataW.trod enc P w 0 (fun _ => true) true n f.type ((cs.drop f.offset).take (P.cellsOf f.type))) with
      | none => rw [hm] at hx; simp at hx
      | some xs =>
        rw [hm] at hx
        simp only [Option.map_some, Option.some.injEq, Prod.mk.injEq] at hx
        obtain ⟨rfl, _⟩ := hx
        obtain ⟨x, h1, h2⟩ := h H enc w n cs xs (by omega) hm (fun z hz => hw z (by simp only [DataW.weights, ht]; exact hz))
        exact ⟨x, h1, by simpa using h2⟩
    · simp at hx
/-- An argument that is one cell. -/
theorem Reads.arg {α : Type} {f : α → AV} {ok : α → Prop} (h : Reads P t (fun x => [f x]) ok) (hag : ∀ d, P.underlying t = some d → aggB d = false) {H : Type} {enc : TypeId × Value → H} {w : World} {base : Nat} {v : Value} {d : DataW H} {ps : List MemPlace}
    (hv : Value.okWide P w .any base t v) (hd : DataW.Trod enc P w 0 (fun _ => true) true t v d ps) (hw : ∀ x ∈ d.weights P t, x ≤ reachBytes) : ∃ x, ok x ∧ Rel (memOf w) [] (f x) v := by
  obtain ⟨fuel, hf⟩ := hd
  obtain ⟨x, h1, h2⟩ := h H enc w fuel _ d ps hf hw
  refine ⟨x, h1, ?_⟩
  have hone : v.cells = #[v] := by
    cases hu : P.underlying t with
    | none => simp [Value.okWide, hu, Cell.okWide, Cell.ok] at hv
    | some dd =>
      have := hag dd hu
      cases v <;> first | rfl | (cases dd <;> simp [aggB] at this <;> simp [Value.okWide, hu, Cell.okWide, Cell.ok] at hv)
  rw [hone] at h2
  exact h2.2 0 _ _ rfl rfl
/-- An argument that is a struct. -/
theorem Reads.argS {fs : Array Field} {α : Type} {f : α → List AV} {ok : α → Prop} (h : Reads P t f ok) (hu : P.underlying t = some (.struct fs)) {H : Type} {enc : TypeId × Value → H} {w : World} {base : Nat} {v : Value} {d : DataW H} {ps : List MemPlace}
    (hv : Value.okWide P w .any base t v) (hd : DataW.Trod enc P w 0 (fun _ => true) true t v d ps) (hw : ∀ x ∈ d.weights P t, x ≤ reachBytes) : ∃ x, ok x ∧ Rel (memOf w) [] (.agg (f x)) v := by
  obtain ⟨fuel, hf⟩ := hd
  obtain ⟨x, h1, h2⟩ := h H enc w fuel _ d ps hf hw
  refine ⟨x, h1, ?_⟩
  unfold Value.okWide at hv
  rw [hu] at hv
  obtain ⟨cs, rfl, _, _⟩ := hv
  exact .agg _ cs (by have := h2.1; simpa [Value.cells] using this) (fun j x v e1 e2 => h2.2 j x v e1 (by simpa [Value.cells] using e2))
end
open Go.ChangeShapes Go.WideShapes Go.ChangeAt Go.RowKit
section
variable {P : Program}
/-- What an argument of type t is, abstractly. -/
def RArg (P : Program) (t : TypeId) {α : Type} (f : α → AV) (ok : α → Prop) : Prop :=
  ∀ (H : Type) (enc : TypeId × Value → H) (w : World) (base : Nat) (v : Value) (d : DataW H) (ps : List MemPlace), Value.okWide P w .any base t v → DataW.Trod enc P w 0 (fun _ => true) true t v d ps →
    (∀ x ∈ d.weights P t, x ≤ reachBytes) → ∃ x, ok x ∧ Rel (memOf w) [] (f x) v
theorem RArg.one {t : TypeId} {α : Type} {f : α → AV} {ok : α → Prop} (h : Reads P t (fun x => [f x]) ok) (hag : ∀ d, P.underlying t = some d → aggB d = false) : RArg P t f ok := fun H enc w base v d ps hv hd hw => h.arg hag hv hd hw
theorem RArg.agg {t : TypeId} {α : Type} {f : α → List AV} {ok : α → Prop} {fs : Array Field} (h : Reads P t f ok) (hu : P.underlying t = some (.struct fs)) : RArg P t (fun x => .agg (f x)) ok := fun H enc w base v d ps hv hd hw => h.argS hu hv hd hw
/-- Whatever arguments of these types can be read: their abstract values meet Q. -/
def ReadsAll (P : Program) (ts : List TypeId) (Q : List AV → Prop) : Prop :=
  ∀ (H : Type) (enc : TypeId × Value → H) (w : World) (base : Nat) (vs : List Value) (ds : List (DataW H)) (ps : List MemPlace),
    (∀ (j : Nat) t v, ts[j]? = some t → vs[j]? = some v → Value.okWide P w .any base t v) → DataW.TrodAll enc P w 0 (fun _ => true) true ts vs ds ps → (∀ x ∈ DataW.weightsEach P ts ds, x ≤ reachBytes) →
    ∃ avs, Q avs ∧ vs.length = avs.length ∧ ∀ (j : Nat) x v, avs[j]? = some x → vs[j]? = some v → Rel (memOf w) [] x v
theorem ReadsAll.nil {Q : List AV → Prop} (h : Q []) : ReadsAll P [] Q := by
  intro H enc w base vs ds ps hv ht hw
  obtain ⟨rfl, _, _⟩ := trodAll_nil ht
  exact ⟨[], h, rfl, by simp⟩
theorem ReadsAll.cons {t : TypeId} {ts : List TypeId} {α : Type} {f : α → AV} {ok : α → Prop} {Q : List AV → Prop} (h : RArg P t f ok) (hr : ∀ x, ok x → ReadsAll P ts (fun l => Q (f x :: l))) : ReadsAll P (t :: ts) Q := by
  intro H enc w base vs ds ps hv ht hw
  obtain ⟨v, vs', d, ds', p, q, rfl, rfl, rfl, h1, h2⟩ := trodAll_cons ht
  have hw' : ∀ x ∈ d.weights P t ++ DataW.weightsEach P ts ds', x ≤ reachBytes := by intro x hx; apply hw x; simp only [DataW.weightsEach]; exact hx
  obtain ⟨x, o1, r1⟩ := h H enc w base v d p (hv 0 t v rfl rfl) h1 (fun z hz => hw' z (List.mem_append_left _ hz))
  obtain ⟨avs, q1, q2, q3⟩ := hr x o1 H enc w base vs' ds' q (fun j t v a b => hv (j + 1) t v (by simpa using a) (by simpa using b)) h2 (fun z hz => hw' z (List.mem_append_right _ hz))
  refine ⟨f x :: avs, q1, by simp [q2], ?_⟩
  intro j y u hy hu
  cases j with
  | zero => simp at hy hu; subst hy; subst hu; exact r1
  | succ j => simp at hy hu; exact q3 j y u hy hu
theorem below_of_ext {m m' : Mem} {loc' : List Loc} {w w' : World} (h : Ext 0 m [] w m' loc' w') (hz : ∀ b o, m.wk b o = none) : Below w.heap.size w w' :=
  ⟨h.os, h.tape, h.output, h.size, fun b hb => h.frame b hb (by rintro ⟨i, e | ⟨_, _, _, e, _⟩⟩ <;> simp at e) (hz b)⟩
theorem trodAll_stays {H : Type} {enc : TypeId × Value → H} (hl : laidOutB P = true) {W W' : World} {sp : Nat → Bool} : ∀ {ts : List TypeId} {vs : List Value} {ds : List (DataW H)} {ps : List MemPlace}, (∀ t ∈ ts, P.readableRec t = true ∧ t < P.types.size) →
    DataW.TrodAll enc P W 0 (fun _ => true) true ts vs ds ps → (∀ x ∈ ps, W.sameAt W' x) → (∀ x ∈ ps, sp x.block = true) → DataW.TrodAll enc P W' 0 sp true ts vs ds ps
  | [], vs, ds, ps, hr, h, hs, hp => by
    obtain ⟨rfl, rfl, rfl⟩ := trodAll_nil h
    exact trodAll_mk0
  | t :: ts, vs, ds, ps, hr, h, hs, hp => by
    obtain ⟨v, vs', d, ds', p, q, rfl, rfl, rfl, h1, h2⟩ := trodAll_cons h
    have ht := hr t List.mem_cons_self
    refine ⟨p, q, WideElems.Trod_stays hl ht.1 ht.2 h1 (fun x hx => hs x (List.mem_append_left _ hx)) (fun x hx => hp x (List.mem_append_left _ hx)), ?_, rfl⟩
    exact trodAll_stays hl (fun t ht => hr t (List.mem_cons_of_mem _ ht)) h2 (fun x hx => hs x (List.mem_append_right _ hx)) (fun x hx => hp x (List.mem_append_right _ hx))
/-- The change of a call that leaves what was there. -/
theorem post_same {H : Type} {enc : TypeId × Value → H} {f : Func} {s : ChangeSpec} {apart fresh handsOn again : Bool} {W W' : World} {args : Array Value} {v : Value} {ds gs : List (DataW H)} {before pa pv : List MemPlace}
    (hW : DataW.Whole enc P f.params.toList s.vars apart W args.toList ds gs before)
    (hres : ∀ (b : Nat) (sp : Nat → Bool) (hd : Bool), DataW.TrodAll enc P W' b sp hd f.resultTypes.toList (v.resultList f.resultTypes.size) (s.fn H (ds ++ gs)).results [])
    (hargs : ∀ sp : Nat → Bool, (∀ p ∈ before, sp p.block = true) → DataW.TrodAll enc P W' 0 sp true f.params.toList args.toList (s.fn H (ds ++ gs)).args pa)
    (hvars : ∀ sp : Nat → Bool, (∀ p ∈ before, sp p.block = true) → DataW.TrodVars enc P W' sp s.vars (s.fn H (ds ++ gs)).vars pv)
    (hps : before = pa ++ pv) (hk : W.keptBut W' (· ∈ before)) (hfz : ∀ a : Addr, a.block < W.heap.size → W'.frozen? a = W.frozen? a)
    (hok : ∀ (j : Nat) (t : TypeId) (r : Value), f.resultTypes[j]? = some t → (v.resultList f.resultTypes.size)[j]? = some r → Value.okWide P W' .any 0 t r) :
    s.post enc P f apart fresh handsOn again W args v W' := by
  have hold : ∀ p ∈ before, (fun b => decide (b < W.heap.size)) p.block = true := fun p hp => by simpa using hW.lt p hp
  have hlt := hW.lt
  refine ⟨ds, gs, before, [], pa, pv, hW, hres _ _ _, hargs _ hold, hvars _ hold, World.keptBut_mono (fun p hp => ⟨hp, ?_⟩) hk, fun _ => ?_⟩
  · rw [hps, List.mem_append] at hp
    exact Or.inr hp
  · obtain ⟨_, _, _, _, _, hz, hn⟩ := hW
    refine ⟨hok, _, _, ([] ++ pa) ++ pv, ⟨[] ++ pa, pv, trodAll_append (hargs _ (fun _ _ => rfl)) (hres _ _ _), hvars _ (fun _ _ => rfl), rfl, ?_, ?_⟩, ?_⟩
    · intro b off hp
      have hb : MemPlace.cell b off ∈ before := by rw [hps]; simpa using hp
      rw [hfz _ (hlt _ hb)]
      exact hz b off hb
    · intro ha
      have := hn ha
      rw [hps] at this
      simpa using this
    · intro p hp _
      rw [hps]
      simpa using hp
/-- A law's call: it answers true, and its arguments read as before. -/
theorem law_post {H : Type} {enc : TypeId × Value → H} {f : FuncId} {fn : Func} {s : ChangeSpec} {tb : TypeId} (hf : P.funcs[f]? = some fn) (hb : fn.body.isSome = true) (hn : fn.name ≠ "runtime.NumGoroutine")
    (hs0 : s.vars = []) (hs : ∀ ds : List (DataW H), ds.length = fn.params.size → s.fn H ds = { results := [.lit (.bool true)], args := ds })
    (hl : laidOutB P = true) (hr : ∀ t ∈ fn.params.toList, P.readableRec t = true ∧ t < P.types.size) (hres : fn.resultTypes = #[tb]) (hbool : P.underlying tb = some .bool)
    (hA : ReadsAll P fn.params.toList fun avs => ACalls P f avs [] (isR (.bool true) []))
    {W : World} {base : Nat} {args : Array Value} {ds gs : List (DataW H)} {before : List MemPlace} (hval : ∀ (j : Nat) t v, fn.params[j]? = some t → args[j]? = some v → Value.okWide P W .any base t v)
    (hW : DataW.Whole enc P fn.params.toList s.vars false W args.toList ds gs before)
    (hsz : (DataW.weightsEach P (fn.params.toList ++ s.plain.varTypes P) (ds ++ gs)).all (· ≤ reachBytes) = true) :
    Calls P f args W fun e W' => ∃ v, e = .returned v ∧ s.post enc P fn false true false false W args v W' := by
  have hW' := hW
  obtain ⟨p, q, hT, hV, rfl, hfz, hnd⟩ := hW
  rw [hs0] at hV
  obtain ⟨rfl, rfl⟩ := trodVars_none hV
  have hpl : s.plain.varTypes P = [] := by simp [DataSpec.varTypes, ChangeSpec.plain, hs0]
  rw [hpl, List.append_nil, List.append_nil] at hsz
  obtain ⟨avs, h1, h2, h3⟩ := hA H enc W base args.toList ds p (fun j t v a b => hval j t v (by simpa using a) (by simpa using b)) hT (fun x hx => by simpa using List.all_eq_true.1 hsz x hx)
  refine (h1.calls hf hb hn (srel_memOf W) ⟨by simpa using h2, fun j x v a b => h3 j x v a (by simpa using b)⟩).mono ?_
  rintro e W' ⟨v, rfl, r, σ', m', loc', ⟨rfl, rfl⟩, hrel, hsr, hext⟩
  have hv : v = .bool true := by cases hrel; rfl
  subst hv
  have hbl := below_of_ext hext (fun _ _ => rfl)
  have hlt : ∀ x ∈ p, x.block < W.heap.size := fun x hx => hW'.lt x (by simpa using hx)
  have hlen : ds.length = fn.params.size := by
    have : ∀ (ts : List TypeId) (vs : List Value) (ds : List (DataW H)) (ps : List MemPlace), DataW.TrodAll enc P W 0 (fun _ => true) true ts vs ds ps → ds.length = ts.length := by
      intro ts
      induction ts with
      | nil => intro vs ds ps h; obtain ⟨_, rfl, _⟩ := trodAll_nil h; rfl
      | cons t ts ih => intro vs ds ps h; obtain ⟨v, vs', d, ds', p, q, rfl, rfl, rfl, h1, h2⟩ := trodAll_cons h; simp [ih _ _ _ h2]
    simpa using this _ _ _ _ hT
  have hsp := hs (ds ++ []) (by simpa using hlen)
  refine ⟨_, rfl, post_same (pa := p) (pv := []) hW' ?_ ?_ ?_ rfl (hbl.frame _) (fun a ha => hbl.frozen ha) ?_⟩
  · intro b sp hd
    rw [hsp, hres]
    exact trodAll_mk1 (shut_bool hbool _)
  · intro sp hsp'
    rw [hsp, List.append_nil]
    exact trodAll_stays hl hr hT (fun x hx => hbl.same (hlt x hx)) (fun x hx => hsp' x (by simpa using hx))
  · intro sp hsp'
    rw [hsp, hs0]; exact rfl
  · exact ok_one hres rfl (okWide_bool_mk hbool _)
end
end Go.Ahl
namespace Go.Proofs.YtocphglkceidhaaGreat
open Go.Ahl
def condHolds (s : List Int) (l : List FLit) : Bool := l.all fun x => s.contains x.fact != x.neg
/-- Rising numbers behind p, below n. -/
def risingB (n : Int) : Int → List Int → Bool
  | _, [] => true
  | p, x :: l => decide (p < x) && decide (x < n) && risingB n x l
def prevI (s : List Int) (i : Nat) (p : Int) : Prop := -1 ≤ p ∧ (i = 0 → p = -1) ∧ (0 < i → s[i - 1]? = some p)
def c_rising : CCode := .seq (.ops [⟨some 4, .move (.lit (.bool false)), none, []⟩]) (.seq (.seq (.ops [⟨some 7, .move (.tmp 1), none, []⟩, ⟨some 8, .blen 1 (.tmp 7), none, []⟩, ⟨some 9, .move (.lit (.int .i64 0)), none, []⟩]) (.block 0 (.loop (.seq (.ops [⟨some 10, .bin .lss .none (.tmp 9) (.tmp 8), none, []⟩]) (.seq (.cond (.tmp 10) .skip (.exit 0)) (.seq (.block 1 (.seq (.ops [⟨some 11, .move (.tmp 9), none, []⟩, ⟨some 12, .iaddr 1 (.tmp 7) (.tmp 9), none, []⟩, ⟨some 13, .load none (.tmp 12), none, []⟩, ⟨some 5, .move (.tmp 11), none, []⟩, ⟨some 6, .move (.tmp 13), none, []⟩]) (.seq (.ops [⟨some 14, .move (.tmp 6), none, []⟩, ⟨some 15, .bin .lss .none (.tmp 14) (.lit (.int .i64 0)), none, []⟩, ⟨some 16, .move (.tmp 15), none, []⟩, ⟨some 17, .move (.tmp 6), some (some 16, false), []⟩, ⟨some 18, .move (.tmp 0), some (some 16, false), []⟩, ⟨some 19, .bin .geq .none (.tmp 17) (.tmp 18), some (some 16, false), []⟩, ⟨some 20, .pick (.tmp 16) (.lit (.bool true)) (.tmp 19), none, []⟩, ⟨some 21, .move (.tmp 20), none, []⟩, ⟨some 22, .move (.tmp 5), some (some 21, false), []⟩, ⟨some 23, .bin .gtr .none (.tmp 22) (.lit (.int .i64 0)), some (some 21, false), []⟩, ⟨some 24, .move (.tmp 23), some (some 21, false), []⟩, ⟨some 25, .move (.tmp 1), some (some 24, true), []⟩, ⟨some 26, .move (.tmp 5), some (some 24, true), []⟩, ⟨some 27, .bin .sub .none (.tmp 26) (.lit (.int .i64 1)), some (some 24, true), []⟩, ⟨some 28, .iaddr 1 (.tmp 25) (.tmp 27), some (some 24, true), []⟩, ⟨some 29, .load none (.tmp 28), some (some 24, true), []⟩, ⟨some 30, .move (.tmp 6), some (some 24, true), []⟩, ⟨some 31, .bin .geq .none (.tmp 29) (.tmp 30), some (some 24, true), []⟩, ⟨some 32, .pick (.tmp 24) (.tmp 31) (.lit (.bool false)), some (some 21, false), []⟩, ⟨some 33, .pick (.tmp 21) (.lit (.bool true)) (.tmp 32), none, []⟩]) (.cond (.tmp 33) (.seq (.ops [⟨some 4, .move (.lit (.bool false)), none, []⟩]) .ret) .skip)))) (.ops [⟨some 34, .bin .add .none (.tmp 9) (.lit (.int .i64 1)), none, []⟩, ⟨some 9, .move (.tmp 34), none, []⟩]))))))) (.seq (.ops [⟨some 4, .move (.lit (.bool true)), none, []⟩]) .ret))
set_option maxRecDepth 20000 in
theorem rising_spec (s : List Int) (n : Int) (tok : Tok) (σ : Store) (hs : s.length ≤ 140737488355328) :
    ACalls Tryz.prog 87 [.int .i64 n, .slice tok (s.map Ahl.encI)] σ (isR (.bool (risingB n (-1) s)) σ) := by
  refine ACalls.intro (rs := [(.tmp 4)]) (by kernel_rfl) { own := [], ghosts := [] } Tryz.func87 (c := Tryz.f87.body.getD .skip) (by kernel_rfl) (by decide) (by rw [show Tryz.f87.ntmps = 35 by kernel_rfl]; exact Nat.le_of_ble_eq_true rfl) (by kernel_rfl) ?_
  intro hσ hids
  rw [show comp Tryz.prog { own := [], ghosts := [] } (Tryz.f87.body.getD .skip) = c_rising by kernel_rfl, show Tryz.f87.ntmps = 35 by kernel_rfl]
  unfold c_rising
  have hil : Ids σ.length (.slice tok (s.map Ahl.encI)) := hids _ (by simp)
  simp only [go_sem, Int.reduceToNat, Int.reduceLE, Int.reduceLT, Nat.reduceBEq, Nat.reduceLT, Nat.reduceAdd, Nat.reduceLeDiff]
  refine wpc_while (fun (q : Nat × Int) => [(0, .int .i64 n), (1, .slice tok (s.map Ahl.encI)), (7, .slice tok (s.map Ahl.encI)), (8, .int .i64 s.length), (9, .int .i64 q.1)]) (fun _ => σ) (fun q => q.1 ≤ s.length ∧ prevI s q.1 q.2 ∧ risingB n (-1) s = risingB n q.2 (s.drop q.1)) (fun q => s.length - q.1) (0, -1) ⟨Nat.zero_le _, ⟨by omega, by simp, by simp⟩, rfl⟩ (by (try dsimp only); first | exact ghk | exact ghk0) ?_
  rintro ⟨i, p⟩ ⟨hi, ⟨hp1, hp2, hp3⟩, hv⟩ K hK hE hR
  dsimp only at hi hp1 hp2 hp3 hv ⊢
  by_cases h : i < s.length
  · obtain ⟨y, hx⟩ := get_ex h
    have hlt : ((i : Int) < (s.length : Int)) := by omega
    have hw : IntKind.i64.wrap ((i : Int) + 1) = ((i + 1 : Nat) : Int) := by rw [wrap_ok (by omega)]; omega
    rw [drop_cons hx, risingB] at hv
    by_cases h1 : y < 0
    · simp only [go_sem, Int.reduceToNat, Int.reduceLE, Int.reduceLT, Nat.reduceBEq, Nat.reduceLT, Nat.reduceAdd, Nat.reduceLeDiff, hlt, hx, Ahl.encI, h1]
      rw [hR]
      first | exact rtk (.bool false) ⟨by rw [hv]; simp; omega, rfl⟩ | exact rtk0 (.bool false) ⟨by rw [hv]; simp; omega, rfl⟩
    by_cases h2 : y ≥ n
    · simp only [go_sem, Int.reduceToNat, Int.reduceLE, Int.reduceLT, Nat.reduceBEq, Nat.reduceLT, Nat.reduceAdd, Nat.reduceLeDiff, hlt, hx, Ahl.encI, h1, h2]
      rw [hR]
      first | exact rtk (.bool false) ⟨by rw [hv]; simp; omega, rfl⟩ | exact rtk0 (.bool false) ⟨by rw [hv]; simp; omega, rfl⟩
    by_cases h3 : (i : Int) > 0
    · have hw1 : IntKind.i64.wrap ((i : Int) - 1) = ((i - 1 : Nat) : Int) := by rw [wrap_ok (by omega)]; omega
      have hy := hp3 (by omega)
      by_cases h4 : p ≥ y
      · simp only [go_sem, Int.reduceToNat, Int.reduceLE, Int.reduceLT, Nat.reduceBEq, Nat.reduceLT, Nat.reduceAdd, Nat.reduceLeDiff, hlt, hx, Ahl.encI, h1, h2, h3, hw1, hy, h4]
        rw [hR]
        first | exact rtk (.bool false) ⟨by rw [hv]; simp; omega, rfl⟩ | exact rtk0 (.bool false) ⟨by rw [hv]; simp; omega, rfl⟩
      · simp only [go_sem, Int.reduceToNat, Int.reduceLE, Int.reduceLT, Nat.reduceBEq, Nat.reduceLT, Nat.reduceAdd, Nat.reduceLeDiff, hlt, hx, Ahl.encI, h1, h2, h3, hw1, hy, h4]
        have h5 : decide (p < y) = true := by simpa using h4
        have h6 : decide (y < n) = true := by simpa using h2
        rw [h5, h6, Bool.true_and, Bool.true_and] at hv
        refine hK _ _ ((i + 1, y)) (⟨by simp only []; omega, ⟨by simp only []; omega, by simp, fun _ => hx⟩, hv⟩) (by first | omega | (simp only []; omega) | (simp; omega)) ?_; (try dsimp only); (try simp only [ hw]); first | exact ghk | exact ghk0
    · have h5 : decide (p < y) = true := by have := hp2 (by omega); simp; omega
      have h6 : decide (y < n) = true := by simpa using h2
      rw [h5, h6, Bool.true_and, Bool.true_and] at hv
      simp only [go_sem, Int.reduceToNat, Int.reduceLE, Int.reduceLT, Nat.reduceBEq, Nat.reduceLT, Nat.reduceAdd, Nat.reduceLeDiff, hlt, hx, Ahl.encI, h1, h2, h3]
      refine hK _ _ ((i + 1, y)) (⟨by simp only []; omega, ⟨by simp only []; omega, by simp, fun _ => hx⟩, hv⟩) (by first | omega | (simp only []; omega) | (simp; omega)) ?_; (try dsimp only); (try simp only [ hw]); first | exact ghk | exact ghk0
  · have hlt : ¬ ((i : Int) < (s.length : Int)) := by omega
    rw [drop_len h] at hv
    simp only [go_sem, Int.reduceToNat, Int.reduceLE, Int.reduceLT, Nat.reduceBEq, Nat.reduceLT, Nat.reduceAdd, Nat.reduceLeDiff, hlt, hE]
    first | exact rtk (.bool true) ⟨by rw [hv]; rfl, rfl⟩ | exact rtk0 (.bool true) ⟨by rw [hv]; rfl, rfl⟩
def c_rising01 : CCode := .seq (.ops [⟨some 4, .move (.lit (.bool false)), none, []⟩]) (.seq (.seq (.ops [⟨some 7, .move (.tmp 0), none, []⟩, ⟨some 8, .blen 1 (.tmp 7), none, []⟩, ⟨some 9, .move (.lit (.int .i64 0)), none, []⟩]) (.block 0 (.loop (.seq (.ops [⟨some 10, .bin .lss .none (.tmp 9) (.tmp 8), none, []⟩]) (.seq (.cond (.tmp 10) .skip (.exit 0)) (.seq (.block 1 (.seq (.ops [⟨some 11, .move (.tmp 9), none, []⟩, ⟨some 12, .iaddr 1 (.tmp 7) (.tmp 9), none, []⟩, ⟨some 13, .load none (.tmp 12), none, []⟩, ⟨some 5, .move (.tmp 11), none, []⟩, ⟨some 6, .move (.tmp 13), none, []⟩]) (.seq (.ops [⟨some 14, .move (.tmp 6), none, []⟩, ⟨some 15, .bin .lss .none (.tmp 14) (.lit (.int .i64 0)), none, []⟩, ⟨some 16, .move (.tmp 15), none, []⟩, ⟨some 17, .move (.tmp 6), some (some 16, false), []⟩, ⟨some 18, .move (.tmp 1), some (some 16, false), []⟩, ⟨some 19, .bin .geq .none (.tmp 17) (.tmp 18), some (some 16, false), []⟩, ⟨some 20, .pick (.tmp 16) (.lit (.bool true)) (.tmp 19), none, []⟩, ⟨some 21, .move (.tmp 20), none, []⟩, ⟨some 22, .move (.tmp 5), some (some 21, false), []⟩, ⟨some 23, .bin .gtr .none (.tmp 22) (.lit (.int .i64 0)), some (some 21, false), []⟩, ⟨some 24, .move (.tmp 23), some (some 21, false), []⟩, ⟨some 25, .move (.tmp 0), some (some 24, true), []⟩, ⟨some 26, .move (.tmp 5), some (some 24, true), []⟩, ⟨some 27, .bin .sub .none (.tmp 26) (.lit (.int .i64 1)), some (some 24, true), []⟩, ⟨some 28, .iaddr 1 (.tmp 25) (.tmp 27), some (some 24, true), []⟩, ⟨some 29, .load none (.tmp 28), some (some 24, true), []⟩, ⟨some 30, .move (.tmp 6), some (some 24, true), []⟩, ⟨some 31, .bin .geq .none (.tmp 29) (.tmp 30), some (some 24, true), []⟩, ⟨some 32, .pick (.tmp 24) (.tmp 31) (.lit (.bool false)), some (some 21, false), []⟩, ⟨some 33, .pick (.tmp 21) (.lit (.bool true)) (.tmp 32), none, []⟩]) (.cond (.tmp 33) (.seq (.ops [⟨some 4, .move (.lit (.bool false)), none, []⟩]) .ret) .skip)))) (.ops [⟨some 34, .bin .add .none (.tmp 9) (.lit (.int .i64 1)), none, []⟩, ⟨some 9, .move (.tmp 34), none, []⟩]))))))) (.seq (.ops [⟨some 4, .move (.lit (.bool true)), none, []⟩]) .ret))
set_option maxRecDepth 20000 in
theorem rising01_spec (s : List Int) (n : Int) (tok : Tok) (σ : Store) (hs : s.length ≤ 140737488355328) :
    ACalls Tryz.prog 70 [.slice tok (s.map Ahl.encI), .int .i64 n] σ (isR (.bool (risingB n (-1) s)) σ) := by
  refine ACalls.intro (rs := [(.tmp 4)]) (by kernel_rfl) { own := [], ghosts := [] } Tryz.func70 (c := Tryz.f70.body.getD .skip) (by kernel_rfl) (by decide) (by rw [show Tryz.f70.ntmps = 35 by kernel_rfl]; exact Nat.le_of_ble_eq_true rfl) (by kernel_rfl) ?_
  intro hσ hids
  rw [show comp Tryz.prog { own := [], ghosts := [] } (Tryz.f70.body.getD .skip) = c_rising01 by kernel_rfl, show Tryz.f70.ntmps = 35 by kernel_rfl]
  unfold c_rising01
  have hil : Ids σ.length (.slice tok (s.map Ahl.encI)) := hids _ (by simp)
  simp only [go_sem, Int.reduceToNat, Int.reduceLE, Int.reduceLT, Nat.reduceBEq, Nat.reduceLT, Nat.reduceAdd, Nat.reduceLeDiff]
  refine wpc_while (fun (q : Nat × Int) => [(1, .int .i64 n), (0, .slice tok (s.map Ahl.encI)), (7, .slice tok (s.map Ahl.encI)), (8, .int .i64 s.length), (9, .int .i64 q.1)]) (fun _ => σ) (fun q => q.1 ≤ s.length ∧ prevI s q.1 q.2 ∧ risingB n (-1) s = risingB n q.2 (s.drop q.1)) (fun q => s.length - q.1) (0, -1) ⟨Nat.zero_le _, ⟨by omega, by simp, by simp⟩, rfl⟩ (by (try dsimp only); first | exact ghk | exact ghk0) ?_
  rintro ⟨i, p⟩ ⟨hi, ⟨hp1, hp2, hp3⟩, hv⟩ K hK hE hR
  dsimp only at hi hp1 hp2 hp3 hv ⊢
  by_cases h : i < s.length
  · obtain ⟨y, hx⟩ := get_ex h
    have hlt : ((i : Int) < (s.length : Int)) := by omega
    have hw : IntKind.i64.wrap ((i : Int) + 1) = ((i + 1 : Nat) : Int) := by rw [wrap_ok (by omega)]; omega
    rw [drop_cons hx, risingB] at hv
    by_cases h1 : y < 0
    · simp only [go_sem, Int.reduceToNat, Int.reduceLE, Int.reduceLT, Nat.reduceBEq, Nat.reduceLT, Nat.reduceAdd, Nat.reduceLeDiff, hlt, hx, Ahl.encI, h1]
      rw [hR]
      first | exact rtk (.bool false) ⟨by rw [hv]; simp; omega, rfl⟩ | exact rtk0 (.bool false) ⟨by rw [hv]; simp; omega, rfl⟩
    by_cases h2 : y ≥ n
    · simp only [go_sem, Int.reduceToNat, Int.reduceLE, Int.reduceLT, Nat.reduceBEq, Nat.reduceLT, Nat.reduceAdd, Nat.reduceLeDiff, hlt, hx, Ahl.encI, h1, h2]
      rw [hR]
      first | exact rtk (.bool false) ⟨by rw [hv]; simp; omega, rfl⟩ | exact rtk0 (.bool false) ⟨by rw [hv]; simp; omega, rfl⟩
    by_cases h3 : (i : Int) > 0
    · have hw1 : IntKind.i64.wrap ((i : Int) - 1) = ((i - 1 : Nat) : Int) := by rw [wrap_ok (by omega)]; omega
      have hy := hp3 (by omega)
      by_cases h4 : p ≥ y
      · simp only [go_sem, Int.reduceToNat, Int.reduceLE, Int.reduceLT, Nat.reduceBEq, Nat.reduceLT, Nat.reduceAdd, Nat.reduceLeDiff, hlt, hx, Ahl.encI, h1, h2, h3, hw1, hy, h4]
        rw [hR]
        first | exact rtk (.bool false) ⟨by rw [hv]; simp; omega, rfl⟩ | exact rtk0 (.bool false) ⟨by rw [hv]; simp; omega, rfl⟩
      · simp only [go_sem, Int.reduceToNat, Int.reduceLE, Int.reduceLT, Nat.reduceBEq, Nat.reduceLT, Nat.reduceAdd, Nat.reduceLeDiff, hlt, hx, Ahl.encI, h1, h2, h3, hw1, hy, h4]
        have h5 : decide (p < y) = true := by simpa using h4
        have h6 : decide (y < n) = true := by simpa using h2
        rw [h5, h6, Bool.true_and, Bool.true_and] at hv
        refine hK _ _ ((i + 1, y)) (⟨by simp only []; omega, ⟨by simp only []; omega, by simp, fun _ => hx⟩, hv⟩) (by first | omega | (simp only []; omega) | (simp; omega)) ?_; (try dsimp only); (try simp only [ hw]); first | exact ghk | exact ghk0
    · have h5 : decide (p < y) = true := by have := hp2 (by omega); simp; omega
      have h6 : decide (y < n) = true := by simpa using h2
      rw [h5, h6, Bool.true_and, Bool.true_and] at hv
      simp only [go_sem, Int.reduceToNat, Int.reduceLE, Int.reduceLT, Nat.reduceBEq, Nat.reduceLT, Nat.reduceAdd, Nat.reduceLeDiff, hlt, hx, Ahl.encI, h1, h2, h3]
      refine hK _ _ ((i + 1, y)) (⟨by simp only []; omega, ⟨by simp only []; omega, by simp, fun _ => hx⟩, hv⟩) (by first | omega | (simp only []; omega) | (simp; omega)) ?_; (try dsimp only); (try simp only [ hw]); first | exact ghk | exact ghk0
  · have hlt : ¬ ((i : Int) < (s.length : Int)) := by omega
    rw [drop_len h] at hv
    simp only [go_sem, Int.reduceToNat, Int.reduceLE, Int.reduceLT, Nat.reduceBEq, Nat.reduceLT, Nat.reduceAdd, Nat.reduceLeDiff, hlt, hE]
    first | exact rtk (.bool true) ⟨by rw [hv]; rfl, rfl⟩ | exact rtk0 (.bool true) ⟨by rw [hv]; rfl, rfl⟩
/-- A condition of facts behind p, below n. -/
def condB (n : Int) : Int → List FLit → Bool
  | _, [] => true
  | p, x :: l => decide (p < x.fact) && decide (x.fact < n) && condB n x.fact l
def prevC (s : List FLit) (i : Nat) (p : Int) : Prop := -1 ≤ p ∧ (i = 0 → p = -1) ∧ (0 < i → ∃ b, s[i - 1]? = some ⟨p, b⟩)
def d_cond_0 : List COp := [⟨some 14, .faddr 0 (.tmp 6), none, []⟩, ⟨some 15, .load none (.tmp 14), none, [0]⟩, ⟨some 16, .bin .lss .none (.tmp 15) (.lit (.int .i64 0)), none, [1]⟩, ⟨some 17, .move (.tmp 16), none, [2]⟩, ⟨some 18, .faddr 0 (.tmp 6), some (some 17, false), [3]⟩, ⟨some 19, .load none (.tmp 18), some (some 17, false), [4, 3]⟩, ⟨some 20, .move (.tmp 0), some (some 17, false), [3]⟩, ⟨some 21, .bin .geq .none (.tmp 19) (.tmp 20), some (some 17, false), [5, 6, 3]⟩, ⟨some 22, .pick (.tmp 17) (.lit (.bool true)) (.tmp 21), none, [3, 7]⟩, ⟨some 23, .move (.tmp 22), none, [8, 3]⟩, ⟨some 24, .move (.tmp 5), some (some 23, false), [9]⟩, ⟨some 25, .bin .gtr .none (.tmp 24) (.lit (.int .i64 0)), some (some 23, false), [10, 9]⟩, ⟨some 26, .move (.tmp 25), some (some 23, false), [11, 9, 9]⟩, ⟨some 27, .move (.tmp 1), some (some 26, true), [12]⟩, ⟨some 28, .move (.tmp 5), some (some 26, true), [12]⟩, ⟨some 29, .bin .sub .none (.tmp 28) (.lit (.int .i64 1)), some (some 26, true), [14, 12]⟩, ⟨some 30, .iaddr 2 (.tmp 27) (.tmp 29), some (some 26, true), [13, 15, 12]⟩, ⟨some 31, .faddr 0 (.tmp 30), some (some 26, true), [16, 12]⟩, ⟨some 32, .load none (.tmp 31), some (some 26, true), [17, 12]⟩, ⟨some 33, .faddr 0 (.tmp 6), some (some 26, true), [12]⟩, ⟨some 34, .load none (.tmp 33), some (some 26, true), [19, 12]⟩, ⟨some 35, .bin .geq .none (.tmp 32) (.tmp 34), some (some 26, true), [18, 20, 12]⟩, ⟨some 36, .pick (.tmp 26) (.tmp 35) (.lit (.bool false)), some (some 23, false), [12, 21, 9]⟩, ⟨some 37, .pick (.tmp 23) (.lit (.bool true)) (.tmp 36), none, [9, 22]⟩]
theorem dr_cond_0 (P : Program) (nt n0 : Nat) (Q : Post) (s : Slots) (σ : Store) : wpc P nt n0 (.draw d_cond_0) Q s σ = aOpsD P nt [⟨some 14, .faddr 0 (.tmp 6), none, []⟩, ⟨some 15, .load none (.tmp 14), none, [0]⟩, ⟨some 16, .bin .lss .none (.tmp 15) (.lit (.int .i64 0)), none, [1]⟩, ⟨some 17, .move (.tmp 16), none, [2]⟩, ⟨some 18, .faddr 0 (.tmp 6), some (some 17, false), [3]⟩, ⟨some 19, .load none (.tmp 18), some (some 17, false), [4, 3]⟩, ⟨some 20, .move (.tmp 0), some (some 17, false), [3]⟩, ⟨some 21, .bin .geq .none (.tmp 19) (.tmp 20), some (some 17, false), [5, 6, 3]⟩, ⟨some 22, .pick (.tmp 17) (.lit (.bool true)) (.tmp 21), none, [3, 7]⟩, ⟨some 23, .move (.tmp 22), none, [8, 3]⟩, ⟨some 24, .move (.tmp 5), some (some 23, false), [9]⟩, ⟨some 25, .bin .gtr .none (.tmp 24) (.lit (.int .i64 0)), some (some 23, false), [10, 9]⟩, ⟨some 26, .move (.tmp 25), some (some 23, false), [11, 9, 9]⟩, ⟨some 27, .move (.tmp 1), some (some 26, true), [12]⟩, ⟨some 28, .move (.tmp 5), some (some 26, true), [12]⟩, ⟨some 29, .bin .sub .none (.tmp 28) (.lit (.int .i64 1)), some (some 26, true), [14, 12]⟩, ⟨some 30, .iaddr 2 (.tmp 27) (.tmp 29), some (some 26, true), [13, 15, 12]⟩, ⟨some 31, .faddr 0 (.tmp 30), some (some 26, true), [16, 12]⟩, ⟨some 32, .load none (.tmp 31), some (some 26, true), [17, 12]⟩, ⟨some 33, .faddr 0 (.tmp 6), some (some 26, true), [12]⟩, ⟨some 34, .load none (.tmp 33), some (some 26, true), [19, 12]⟩, ⟨some 35, .bin .geq .none (.tmp 32) (.tmp 34), some (some 26, true), [18, 20, 12]⟩, ⟨some 36, .pick (.tmp 26) (.tmp 35) (.lit (.bool false)), some (some 23, false), [12, 21, 9]⟩, ⟨some 37, .pick (.tmp 23) (.lit (.bool true)) (.tmp 36), none, [9, 22]⟩] (Q .normal) s σ := wpc_draw _ (by decide)
def c_cond : CCode := .seq (.ops [⟨some 4, .move (.lit (.bool false)), none, []⟩]) (.seq (.seq (.ops [⟨some 7, .move (.tmp 1), none, []⟩, ⟨some 8, .blen 1 (.tmp 7), none, []⟩, ⟨some 9, .move (.lit (.int .i64 0)), none, []⟩]) (.block 0 (.loop (.seq (.ops [⟨some 10, .bin .lss .none (.tmp 9) (.tmp 8), none, []⟩]) (.seq (.cond (.tmp 10) .skip (.exit 0)) (.seq (.block 1 (.seq (.ops [⟨some 11, .move (.tmp 9), none, []⟩, ⟨some 12, .iaddr 2 (.tmp 7) (.tmp 9), none, []⟩, ⟨some 13, .load (some 2) (.tmp 12), none, []⟩, ⟨some 6, .alloc (.agg [.int .i64 0, .bool false]), none, []⟩, ⟨some 5, .move (.tmp 11), none, []⟩, ⟨none, .store 2 (.tmp 6) (.tmp 13), none, []⟩]) (.seq (.draw d_cond_0) (.cond (.tmp 37) (.seq (.ops [⟨some 4, .move (.lit (.bool false)), none, []⟩]) .ret) .skip)))) (.ops [⟨some 38, .bin .add .none (.tmp 9) (.lit (.int .i64 1)), none, []⟩, ⟨some 9, .move (.tmp 38), none, []⟩]))))))) (.seq (.ops [⟨some 4, .move (.lit (.bool true)), none, []⟩]) .ret))
set_option maxRecDepth 20000 in
theorem cond_spec (s : List FLit) (n : Int) (tok : Tok) (σ : Store) (hs : s.length ≤ 140737488355328) :
    ACalls Tryz.prog 65 [.int .i64 n, .slice tok (s.map encLit)] σ (isR (.bool (condB n (-1) s)) σ) := by
  refine ACalls.intro (rs := [(.tmp 4)]) (by kernel_rfl) { own := [], ghosts := [] } Tryz.func65 (c := Tryz.f65.body.getD .skip) (by kernel_rfl) (by decide) (by rw [show Tryz.f65.ntmps = 39 by kernel_rfl]; exact Nat.le_of_ble_eq_true rfl) (by kernel_rfl) ?_
  intro hσ hids
  rw [show comp Tryz.prog { own := [], ghosts := [] } (Tryz.f65.body.getD .skip) = c_cond by kernel_rfl, show Tryz.f65.ntmps = 39 by kernel_rfl]
  unfold c_cond
  have hil : Ids σ.length (.slice tok (s.map encLit)) := hids _ (by simp)
  simp only [go_sem, Int.reduceToNat, Int.reduceLE, Int.reduceLT, Nat.reduceBEq, Nat.reduceLT, Nat.reduceAdd, Nat.reduceLeDiff, dr_cond_0]
  refine wpc_while (fun (q : Nat × Int) => [(0, .int .i64 n), (1, .slice tok (s.map encLit)), (7, .slice tok (s.map encLit)), (8, .int .i64 s.length), (9, .int .i64 q.1)]) (fun _ => σ) (fun q => q.1 ≤ s.length ∧ prevC s q.1 q.2 ∧ condB n (-1) s = condB n q.2 (s.drop q.1)) (fun q => s.length - q.1) (0, -1) ⟨Nat.zero_le _, ⟨by omega, by simp, by simp⟩, rfl⟩ (by (try dsimp only); first | exact ghk | exact ghk0) ?_
  rintro ⟨i, p⟩ ⟨hi, ⟨hp1, hp2, hp3⟩, hv⟩ K hK hE hR
  dsimp only at hi hp1 hp2 hp3 hv ⊢
  by_cases h : i < s.length
  · obtain ⟨⟨y, nb⟩, hx⟩ := get_ex h
    have hlt : ((i : Int) < (s.length : Int)) := by omega
    have hw : IntKind.i64.wrap ((i : Int) + 1) = ((i + 1 : Nat) : Int) := by rw [wrap_ok (by omega)]; omega
    rw [drop_cons hx, condB] at hv
    dsimp only at hv
    by_cases h1 : y < 0
    · simp only [go_sem, Int.reduceToNat, Int.reduceLE, Int.reduceLT, Nat.reduceBEq, Nat.reduceLT, Nat.reduceAdd, Nat.reduceLeDiff, dr_cond_0, hlt, hx, encLit, h1]
      rw [hR]
      first | exact rtk (.bool false) ⟨by rw [hv]; simp; omega, rfl⟩ | exact rtk0 (.bool false) ⟨by rw [hv]; simp; omega, rfl⟩
    by_cases h2 : y ≥ n
    · simp only [go_sem, Int.reduceToNat, Int.reduceLE, Int.reduceLT, Nat.reduceBEq, Nat.reduceLT, Nat.reduceAdd, Nat.reduceLeDiff, dr_cond_0, hlt, hx, encLit, h1, h2]
      rw [hR]
      first | exact rtk (.bool false) ⟨by rw [hv]; simp; omega, rfl⟩ | exact rtk0 (.bool false) ⟨by rw [hv]; simp; omega, rfl⟩
    by_cases h3 : (i : Int) > 0
    · have hw1 : IntKind.i64.wrap ((i : Int) - 1) = ((i - 1 : Nat) : Int) := by rw [wrap_ok (by omega)]; omega
      obtain ⟨pb, hy⟩ := hp3 (by omega)
      by_cases h4 : p ≥ y
      · simp only [go_sem, Int.reduceToNat, Int.reduceLE, Int.reduceLT, Nat.reduceBEq, Nat.reduceLT, Nat.reduceAdd, Nat.reduceLeDiff, dr_cond_0, hlt, hx, encLit, h1, h2, h3, hw1, hy, h4]
        rw [hR]
        first | exact rtk (.bool false) ⟨by rw [hv]; simp; omega, rfl⟩ | exact rtk0 (.bool false) ⟨by rw [hv]; simp; omega, rfl⟩
      · simp only [go_sem, Int.reduceToNat, Int.reduceLE, Int.reduceLT, Nat.reduceBEq, Nat.reduceLT, Nat.reduceAdd, Nat.reduceLeDiff, dr_cond_0, hlt, hx, encLit, h1, h2, h3, hw1, hy, h4]
        have h5 : decide (p < y) = true := by simpa using h4
        have h6 : decide (y < n) = true := by simpa using h2
        rw [h5, h6, Bool.true_and, Bool.true_and] at hv
        refine hK _ _ ((i + 1, y)) (⟨by simp only []; omega, ⟨by simp only []; omega, by simp, fun _ => ⟨nb, hx⟩⟩, hv⟩) (by first | omega | (simp only []; omega) | (simp; omega)) ?_; (try dsimp only); (try simp only [ hw]); first | exact ghk | exact ghk0
    · have h5 : decide (p < y) = true := by have := hp2 (by omega); simp; omega
      have h6 : decide (y < n) = true := by simpa using h2
      rw [h5, h6, Bool.true_and, Bool.true_and] at hv
      simp only [go_sem, Int.reduceToNat, Int.reduceLE, Int.reduceLT, Nat.reduceBEq, Nat.reduceLT, Nat.reduceAdd, Nat.reduceLeDiff, dr_cond_0, hlt, hx, encLit, h1, h2, h3]
      refine hK _ _ ((i + 1, y)) (⟨by simp only []; omega, ⟨by simp only []; omega, by simp, fun _ => ⟨nb, hx⟩⟩, hv⟩) (by first | omega | (simp only []; omega) | (simp; omega)) ?_; (try dsimp only); (try simp only [ hw]); first | exact ghk | exact ghk0
  · have hlt : ¬ ((i : Int) < (s.length : Int)) := by omega
    rw [drop_len h] at hv
    simp only [go_sem, Int.reduceToNat, Int.reduceLE, Int.reduceLT, Nat.reduceBEq, Nat.reduceLT, Nat.reduceAdd, Nat.reduceLeDiff, dr_cond_0, hlt, hE]
    first | exact rtk (.bool true) ⟨by rw [hv]; rfl, rfl⟩ | exact rtk0 (.bool true) ⟨by rw [hv]; rfl, rfl⟩
def d_cond01_0 : List COp := [⟨some 14, .faddr 0 (.tmp 6), none, []⟩, ⟨some 15, .load none (.tmp 14), none, [0]⟩, ⟨some 16, .bin .lss .none (.tmp 15) (.lit (.int .i64 0)), none, [1]⟩, ⟨some 17, .move (.tmp 16), none, [2]⟩, ⟨some 18, .faddr 0 (.tmp 6), some (some 17, false), [3]⟩, ⟨some 19, .load none (.tmp 18), some (some 17, false), [4, 3]⟩, ⟨some 20, .move (.tmp 1), some (some 17, false), [3]⟩, ⟨some 21, .bin .geq .none (.tmp 19) (.tmp 20), some (some 17, false), [5, 6, 3]⟩, ⟨some 22, .pick (.tmp 17) (.lit (.bool true)) (.tmp 21), none, [3, 7]⟩, ⟨some 23, .move (.tmp 22), none, [8, 3]⟩, ⟨some 24, .move (.tmp 5), some (some 23, false), [9]⟩, ⟨some 25, .bin .gtr .none (.tmp 24) (.lit (.int .i64 0)), some (some 23, false), [10, 9]⟩, ⟨some 26, .move (.tmp 25), some (some 23, false), [11, 9, 9]⟩, ⟨some 27, .move (.tmp 0), some (some 26, true), [12]⟩, ⟨some 28, .move (.tmp 5), some (some 26, true), [12]⟩, ⟨some 29, .bin .sub .none (.tmp 28) (.lit (.int .i64 1)), some (some 26, true), [14, 12]⟩, ⟨some 30, .iaddr 2 (.tmp 27) (.tmp 29), some (some 26, true), [13, 15, 12]⟩, ⟨some 31, .faddr 0 (.tmp 30), some (some 26, true), [16, 12]⟩, ⟨some 32, .load none (.tmp 31), some (some 26, true), [17, 12]⟩, ⟨some 33, .faddr 0 (.tmp 6), some (some 26, true), [12]⟩, ⟨some 34, .load none (.tmp 33), some (some 26, true), [19, 12]⟩, ⟨some 35, .bin .geq .none (.tmp 32) (.tmp 34), some (some 26, true), [18, 20, 12]⟩, ⟨some 36, .pick (.tmp 26) (.tmp 35) (.lit (.bool false)), some (some 23, false), [12, 21, 9]⟩, ⟨some 37, .pick (.tmp 23) (.lit (.bool true)) (.tmp 36), none, [9, 22]⟩]
theorem dr_cond01_0 (P : Program) (nt n0 : Nat) (Q : Post) (s : Slots) (σ : Store) : wpc P nt n0 (.draw d_cond01_0) Q s σ = aOpsD P nt [⟨some 14, .faddr 0 (.tmp 6), none, []⟩, ⟨some 15, .load none (.tmp 14), none, [0]⟩, ⟨some 16, .bin .lss .none (.tmp 15) (.lit (.int .i64 0)), none, [1]⟩, ⟨some 17, .move (.tmp 16), none, [2]⟩, ⟨some 18, .faddr 0 (.tmp 6), some (some 17, false), [3]⟩, ⟨some 19, .load none (.tmp 18), some (some 17, false), [4, 3]⟩, ⟨some 20, .move (.tmp 1), some (some 17, false), [3]⟩, ⟨some 21, .bin .geq .none (.tmp 19) (.tmp 20), some (some 17, false), [5, 6, 3]⟩, ⟨some 22, .pick (.tmp 17) (.lit (.bool true)) (.tmp 21), none, [3, 7]⟩, ⟨some 23, .move (.tmp 22), none, [8, 3]⟩, ⟨some 24, .move (.tmp 5), some (some 23, false), [9]⟩, ⟨some 25, .bin .gtr .none (.tmp 24) (.lit (.int .i64 0)), some (some 23, false), [10, 9]⟩, ⟨some 26, .move (.tmp 25), some (some 23, false), [11, 9, 9]⟩, ⟨some 27, .move (.tmp 0), some (some 26, true), [12]⟩, ⟨some 28, .move (.tmp 5), some (some 26, true), [12]⟩, ⟨some 29, .bin .sub .none (.tmp 28) (.lit (.int .i64 1)), some (some 26, true), [14, 12]⟩, ⟨some 30, .iaddr 2 (.tmp 27) (.tmp 29), some (some 26, true), [13, 15, 12]⟩, ⟨some 31, .faddr 0 (.tmp 30), some (some 26, true), [16, 12]⟩, ⟨some 32, .load none (.tmp 31), some (some 26, true), [17, 12]⟩, ⟨some 33, .faddr 0 (.tmp 6), some (some 26, true), [12]⟩, ⟨some 34, .load none (.tmp 33), some (some 26, true), [19, 12]⟩, ⟨some 35, .bin .geq .none (.tmp 32) (.tmp 34), some (some 26, true), [18, 20, 12]⟩, ⟨some 36, .pick (.tmp 26) (.tmp 35) (.lit (.bool false)), some (some 23, false), [12, 21, 9]⟩, ⟨some 37, .pick (.tmp 23) (.lit (.bool true)) (.tmp 36), none, [9, 22]⟩] (Q .normal) s σ := wpc_draw _ (by decide)
def c_cond01 : CCode := .seq (.ops [⟨some 4, .move (.lit (.bool false)), none, []⟩]) (.seq (.seq (.ops [⟨some 7, .move (.tmp 0), none, []⟩, ⟨some 8, .blen 1 (.tmp 7), none, []⟩, ⟨some 9, .move (.lit (.int .i64 0)), none, []⟩]) (.block 0 (.loop (.seq (.ops [⟨some 10, .bin .lss .none (.tmp 9) (.tmp 8), none, []⟩]) (.seq (.cond (.tmp 10) .skip (.exit 0)) (.seq (.block 1 (.seq (.ops [⟨some 11, .move (.tmp 9), none, []⟩, ⟨some 12, .iaddr 2 (.tmp 7) (.tmp 9), none, []⟩, ⟨some 13, .load (some 2) (.tmp 12), none, []⟩, ⟨some 6, .alloc (.agg [.int .i64 0, .bool false]), none, []⟩, ⟨some 5, .move (.tmp 11), none, []⟩, ⟨none, .store 2 (.tmp 6) (.tmp 13), none, []⟩]) (.seq (.draw d_cond01_0) (.cond (.tmp 37) (.seq (.ops [⟨some 4, .move (.lit (.bool false)), none, []⟩]) .ret) .skip)))) (.ops [⟨some 38, .bin .add .none (.tmp 9) (.lit (.int .i64 1)), none, []⟩, ⟨some 9, .move (.tmp 38), none, []⟩]))))))) (.seq (.ops [⟨some 4, .move (.lit (.bool true)), none, []⟩]) .ret))
set_option maxRecDepth 20000 in
theorem cond01_spec (s : List FLit) (n : Int) (tok : Tok) (σ : Store) (hs : s.length ≤ 140737488355328) :
    ACalls Tryz.prog 77 [.slice tok (s.map encLit), .int .i64 n] σ (isR (.bool (condB n (-1) s)) σ) := by
  refine ACalls.intro (rs := [(.tmp 4)]) (by kernel_rfl) { own := [], ghosts := [] } Tryz.func77 (c := Tryz.f77.body.getD .skip) (by kernel_rfl) (by decide) (by rw [show Tryz.f77.ntmps = 39 by kernel_rfl]; exact Nat.le_of_ble_eq_true rfl) (by kernel_rfl) ?_
  intro hσ hids
  rw [show comp Tryz.prog { own := [], ghosts := [] } (Tryz.f77.body.getD .skip) = c_cond01 by kernel_rfl, show Tryz.f77.ntmps = 39 by kernel_rfl]
  unfold c_cond01
  have hil : Ids σ.length (.slice tok (s.map encLit)) := hids _ (by simp)
  simp only [go_sem, Int.reduceToNat, Int.reduceLE, Int.reduceLT, Nat.reduceBEq, Nat.reduceLT, Nat.reduceAdd, Nat.reduceLeDiff, dr_cond01_0]
  refine wpc_while (fun (q : Nat × Int) => [(1, .int .i64 n), (0, .slice tok (s.map encLit)), (7, .slice tok (s.map encLit)), (8, .int .i64 s.length), (9, .int .i64 q.1)]) (fun _ => σ) (fun q => q.1 ≤ s.length ∧ prevC s q.1 q.2 ∧ condB n (-1) s = condB n q.2 (s.drop q.1)) (fun q => s.length - q.1) (0, -1) ⟨Nat.zero_le _, ⟨by omega, by simp, by simp⟩, rfl⟩ (by (try dsimp only); first | exact ghk | exact ghk0) ?_
  rintro ⟨i, p⟩ ⟨hi, ⟨hp1, hp2, hp3⟩, hv⟩ K hK hE hR
  dsimp only at hi hp1 hp2 hp3 hv ⊢
  by_cases h : i < s.length
  · obtain ⟨⟨y, nb⟩, hx⟩ := get_ex h
    have hlt : ((i : Int) < (s.length : Int)) := by omega
    have hw : IntKind.i64.wrap ((i : Int) + 1) = ((i + 1 : Nat) : Int) := by rw [wrap_ok (by omega)]; omega
    rw [drop_cons hx, condB] at hv
    dsimp only at hv
    by_cases h1 : y < 0
    · simp only [go_sem, Int.reduceToNat, Int.reduceLE, Int.reduceLT, Nat.reduceBEq, Nat.reduceLT, Nat.reduceAdd, Nat.reduceLeDiff, dr_cond01_0, hlt, hx, encLit, h1]
      rw [hR]
      first | exact rtk (.bool false) ⟨by rw [hv]; simp; omega, rfl⟩ | exact rtk0 (.bool false) ⟨by rw [hv]; simp; omega, rfl⟩
    by_cases h2 : y ≥ n
    · simp only [go_sem, Int.reduceToNat, Int.reduceLE, Int.reduceLT, Nat.reduceBEq, Nat.reduceLT, Nat.reduceAdd, Nat.reduceLeDiff, dr_cond01_0, hlt, hx, encLit, h1, h2]
      rw [hR]
      first | exact rtk (.bool false) ⟨by rw [hv]; simp; omega, rfl⟩ | exact rtk0 (.bool false) ⟨by rw [hv]; simp; omega, rfl⟩
    by_cases h3 : (i : Int) > 0
    · have hw1 : IntKind.i64.wrap ((i : Int) - 1) = ((i - 1 : Nat) : Int) := by rw [wrap_ok (by omega)]; omega
      obtain ⟨pb, hy⟩ := hp3 (by omega)
      by_cases h4 : p ≥ y
      · simp only [go_sem, Int.reduceToNat, Int.reduceLE, Int.reduceLT, Nat.reduceBEq, Nat.reduceLT, Nat.reduceAdd, Nat.reduceLeDiff, dr_cond01_0, hlt, hx, encLit, h1, h2, h3, hw1, hy, h4]
        rw [hR]
        first | exact rtk (.bool false) ⟨by rw [hv]; simp; omega, rfl⟩ | exact rtk0 (.bool false) ⟨by rw [hv]; simp; omega, rfl⟩
      · simp only [go_sem, Int.reduceToNat, Int.reduceLE, Int.reduceLT, Nat.reduceBEq, Nat.reduceLT, Nat.reduceAdd, Nat.reduceLeDiff, dr_cond01_0, hlt, hx, encLit, h1, h2, h3, hw1, hy, h4]
        have h5 : decide (p < y) = true := by simpa using h4
        have h6 : decide (y < n) = true := by simpa using h2
        rw [h5, h6, Bool.true_and, Bool.true_and] at hv
        refine hK _ _ ((i + 1, y)) (⟨by simp only []; omega, ⟨by simp only []; omega, by simp, fun _ => ⟨nb, hx⟩⟩, hv⟩) (by first | omega | (simp only []; omega) | (simp; omega)) ?_; (try dsimp only); (try simp only [ hw]); first | exact ghk | exact ghk0
    · have h5 : decide (p < y) = true := by have := hp2 (by omega); simp; omega
      have h6 : decide (y < n) = true := by simpa using h2
      rw [h5, h6, Bool.true_and, Bool.true_and] at hv
      simp only [go_sem, Int.reduceToNat, Int.reduceLE, Int.reduceLT, Nat.reduceBEq, Nat.reduceLT, Nat.reduceAdd, Nat.reduceLeDiff, dr_cond01_0, hlt, hx, encLit, h1, h2, h3]
      refine hK _ _ ((i + 1, y)) (⟨by simp only []; omega, ⟨by simp only []; omega, by simp, fun _ => ⟨nb, hx⟩⟩, hv⟩) (by first | omega | (simp only []; omega) | (simp; omega)) ?_; (try dsimp only); (try simp only [ hw]); first | exact ghk | exact ghk0
  · have hlt : ¬ ((i : Int) < (s.length : Int)) := by omega
    rw [drop_len h] at hv
    simp only [go_sem, Int.reduceToNat, Int.reduceLE, Int.reduceLT, Nat.reduceBEq, Nat.reduceLT, Nat.reduceAdd, Nat.reduceLeDiff, dr_cond01_0, hlt, hE]
    first | exact rtk (.bool true) ⟨by rw [hv]; rfl, rfl⟩ | exact rtk0 (.bool true) ⟨by rw [hv]; rfl, rfl⟩
end Go.Proofs.YtocphglkceidhaaGreat
namespace Go.Proofs.YtocphglkceidhaaGreat
open Go.Ahl
def encF (f : List (List FLit)) : List AV := [.slice .unk (f.map encC)]
def formB (n : Int) (f : List (List FLit)) : Bool := f.all (condB n (-1))
def isForm (n : Int) (f : List (List FLit)) : Bool := decide (f.length ≤ 400) && formB n f
theorem mulTop {j n T : Nat} (h : j ≤ n) : j * T ≤ n * T := Nat.mul_le_mul_right _ h
def formSize (f : List (List FLit)) : Nat := f.length + (f.map List.length).sum
theorem sum_cons (f : List FLit) (r : List (List FLit)) : (((f :: r).map List.length).sum : Nat) = f.length + (r.map List.length).sum := by simp
theorem sums_cons (f : List (List FLit)) (r : List (List (List FLit))) : (((f :: r).map formSize).sum : Nat) = formSize f + (r.map formSize).sum := by simp
def c_few07 : CCode := .seq (.ops [⟨some 4, .move (.lit (.bool false)), none, []⟩]) (.seq (.ops [⟨some 5, .move (.lit (.int .i64 0)), none, []⟩]) (.seq (.seq (.ops [⟨some 10, .move (.tmp 1), none, []⟩, ⟨some 11, .blen 1 (.tmp 10), none, []⟩, ⟨some 12, .move (.lit (.int .i64 0)), none, []⟩]) (.block 0 (.loop (.seq (.ops [⟨some 13, .bin .lss .none (.tmp 12) (.tmp 11), none, []⟩]) (.seq (.cond (.tmp 13) .skip (.exit 0)) (.seq (.block 1 (.seq (.ops [⟨some 14, .iaddr 1 (.tmp 10) (.tmp 12), none, []⟩, ⟨some 15, .load none (.tmp 14), none, []⟩, ⟨some 7, .move (.tmp 15), none, []⟩]) (.seq (.ops [⟨some 16, .move (.tmp 5), none, []⟩, ⟨some 17, .move (.tmp 7), none, []⟩, ⟨some 18, .blen 1 (.tmp 17), none, []⟩, ⟨some 19, .bin .add .none (.tmp 16) (.tmp 18), none, []⟩, ⟨some 5, .move (.tmp 19), none, []⟩]) (.seq (.seq (.ops [⟨some 20, .move (.tmp 5), none, []⟩, ⟨some 21, .move (.tmp 0), none, []⟩, ⟨some 22, .bin .gtr .none (.tmp 20) (.tmp 21), none, []⟩]) (.cond (.tmp 22) (.seq (.ops [⟨some 4, .move (.lit (.bool false)), none, []⟩]) .ret) .skip)) (.seq (.ops [⟨some 23, .move (.tmp 7), none, []⟩, ⟨some 24, .blen 1 (.tmp 23), none, []⟩, ⟨some 25, .move (.lit (.int .i64 0)), none, []⟩]) (.block 2 (.loop (.seq (.ops [⟨some 26, .bin .lss .none (.tmp 25) (.tmp 24), none, []⟩]) (.seq (.cond (.tmp 26) .skip (.exit 2)) (.seq (.block 3 (.seq (.ops [⟨some 27, .iaddr 1 (.tmp 23) (.tmp 25), none, []⟩, ⟨some 28, .load none (.tmp 27), none, []⟩, ⟨some 9, .move (.tmp 28), none, []⟩]) (.ops [⟨some 29, .move (.tmp 5), none, []⟩, ⟨some 30, .move (.tmp 9), none, []⟩, ⟨some 31, .blen 1 (.tmp 30), none, []⟩, ⟨some 32, .bin .add .none (.tmp 29) (.tmp 31), none, []⟩, ⟨some 5, .move (.tmp 32), none, []⟩]))) (.ops [⟨some 33, .bin .add .none (.tmp 25) (.lit (.int .i64 1)), none, []⟩, ⟨some 25, .move (.tmp 33), none, []⟩]))))))))))) (.ops [⟨some 34, .bin .add .none (.tmp 12) (.lit (.int .i64 1)), none, []⟩, ⟨some 12, .move (.tmp 34), none, []⟩]))))))) (.seq (.ops [⟨some 35, .move (.tmp 5), none, []⟩, ⟨some 36, .move (.tmp 0), none, []⟩, ⟨some 37, .bin .leq .none (.tmp 35) (.tmp 36), none, []⟩, ⟨some 4, .move (.tmp 37), none, []⟩]) .ret)))
set_option maxRecDepth 20000 in
theorem few07_spec (n : Nat) (hn : n ≤ 4096) (fs : List (List (List FLit))) (tok : Tok) (σ : Store) (hf : fs.length ≤ 140737488355328) (hl : ∀ f ∈ fs, f.length ≤ 140737488355328 ∧ ∀ l ∈ f, l.length ≤ 140737488355328) :
    ACalls Tryz.prog 34 [.int .i64 n, .slice tok (fs.map encF)] σ (isR (.bool (decide ((fs.map formSize).sum ≤ n))) σ) := by
  refine ACalls.intro (rs := [(.tmp 4)]) (by kernel_rfl) { own := [], ghosts := [] } Tryz.func34 (c := Tryz.f34.body.getD .skip) (by kernel_rfl) (by decide) (by rw [show Tryz.f34.ntmps = 38 by kernel_rfl]; exact Nat.le_of_ble_eq_true rfl) (by kernel_rfl) ?_
  intro hσ hids
  rw [show comp Tryz.prog { own := [], ghosts := [] } (Tryz.f34.body.getD .skip) = c_few07 by kernel_rfl, show Tryz.f34.ntmps = 38 by kernel_rfl]
  unfold c_few07
  obtain ⟨T, hT⟩ : ∃ T : Nat, T = 140737488355328 := ⟨_, rfl⟩
  have hnT := mulTop (T := T) hn
  have hil' : Ids σ.length (.slice tok (fs.map encF)) := hids _ (by simp)
  simp only [go_sem, Int.reduceToNat, Int.reduceLE, Int.reduceLT, Nat.reduceBEq, Nat.reduceLT, Nat.reduceAdd, Nat.reduceLeDiff]
  refine wpc_while (fun (q : Nat × Nat) => [(0, .int .i64 n), (5, .int .i64 q.2), (10, .slice tok (fs.map encF)), (11, .int .i64 fs.length), (12, .int .i64 q.1)]) (fun _ => σ) (fun q => q.1 ≤ fs.length ∧ q.2 ≤ n + n * T ∧ (fs.map formSize).sum = q.2 + ((fs.drop q.1).map formSize).sum) (fun q => fs.length - q.1) (0, 0) ⟨Nat.zero_le _, Nat.zero_le _, by simp⟩ (by (try dsimp only); first | exact ghk | exact ghk0) ?_
  rintro ⟨i, a⟩ ⟨hi, ha, hv⟩ K hK hE hR
  dsimp only at hi ha hv ⊢
  by_cases h : i < fs.length
  · obtain ⟨f, hx⟩ := get_ex h; have hlt : ((i : Int) < (fs.length : Int)) := (by omega); have hw : IntKind.i64.wrap ((i : Int) + 1) = ((i + 1 : Nat) : Int) := (by rw [wrap_ok (by omega)]; omega)
    obtain ⟨f1, f2⟩ := hl f (List.mem_of_getElem? hx)
    rw [drop_cons hx, sums_cons, formSize] at hv
    have hw1 : IntKind.i64.wrap ((a : Int) + f.length) = ((a + f.length : Nat) : Int) := by rw [wrap_ok (by omega)]; omega
    by_cases h1 : ((a + f.length : Nat) : Int) > n
    · simp only [go_sem, Int.reduceToNat, Int.reduceLE, Int.reduceLT, Nat.reduceBEq, Nat.reduceLT, Nat.reduceAdd, Nat.reduceLeDiff, hlt, hx, encF, hw1, h1]
      rw [hR]
      first | exact rtk (.bool false) ⟨by rw [decide_eq_false (p := (fs.map formSize).sum ≤ n) (by omega)], rfl⟩ | exact rtk0 (.bool false) ⟨by rw [decide_eq_false (p := (fs.map formSize).sum ≤ n) (by omega)], rfl⟩
    · have hif : Ids σ.length (.slice .unk (f.map encC)) := ids_map ids_encC _
      simp only [go_sem, Int.reduceToNat, Int.reduceLE, Int.reduceLT, Nat.reduceBEq, Nat.reduceLT, Nat.reduceAdd, Nat.reduceLeDiff, hlt, hx, encF, hw1, h1]
      refine wpc_while (fun (q : Nat × Nat) => [(0, .int .i64 n), (5, .int .i64 q.2), (10, .slice tok (fs.map encF)), (11, .int .i64 fs.length), (12, .int .i64 i), (23, .slice .unk (f.map encC)), (24, .int .i64 f.length), (25, .int .i64 q.1)]) (fun _ => σ) (fun q => q.1 ≤ f.length ∧ q.2 ≤ n + q.1 * T ∧ (fs.map formSize).sum = q.2 + ((f.drop q.1).map List.length).sum + ((fs.drop (i + 1)).map formSize).sum) (fun q => f.length - q.1) (0, a + f.length) ⟨Nat.zero_le _, by simp only []; omega, by rw [List.drop_zero]; omega⟩ (by (try dsimp only); first | exact ghk | exact ghk0) ?_
      rintro ⟨j, b⟩ ⟨hjl, hbb, hvj⟩ K' hK' hE' hR'
      dsimp only at hjl hbb hvj ⊢
      have hfn : f.length ≤ n := by omega
      have hjm := mulTop (T := T) (Nat.le_trans hjl hfn)
      by_cases hj : j < f.length
      · obtain ⟨l, hxj⟩ := get_ex hj; have hltj : ((j : Int) < (f.length : Int)) := (by omega); have hwj : IntKind.i64.wrap ((j : Int) + 1) = ((j + 1 : Nat) : Int) := (by rw [wrap_ok (by omega)]; omega)
        have f3 := f2 l (List.mem_of_getElem? hxj)
        rw [drop_cons hxj, sum_cons] at hvj
        have hw2 : IntKind.i64.wrap ((b : Int) + l.length) = ((b + l.length : Nat) : Int) := by rw [wrap_ok (by omega)]; omega
        simp only [go_sem, Int.reduceToNat, Int.reduceLE, Int.reduceLT, Nat.reduceBEq, Nat.reduceLT, Nat.reduceAdd, Nat.reduceLeDiff, hltj, hxj, encC, hw2]
        refine hK' _ _ (j + 1, b + l.length) ⟨by simp only []; omega, by simp only [Nat.add_mul]; omega, by simp only []; omega⟩ (by simp only []; omega) ?_
        exact (by (try dsimp only); (try simp only [hwj]); first | exact ghk | exact ghk0)
      · have hltj : ¬ ((j : Int) < (f.length : Int)) := by omega
        rw [drop_len hj] at hvj
        simp only [go_sem, Int.reduceToNat, Int.reduceLE, Int.reduceLT, Nat.reduceBEq, Nat.reduceLT, Nat.reduceAdd, Nat.reduceLeDiff, hltj, hE']
        refine hK _ _ ((i + 1, b)) (⟨by simp only []; omega, by simp only []; omega, by simpa using hvj⟩) (by first | omega | (simp only []; omega) | (simp; omega)) ?_; (try dsimp only); (try simp only [ hw]); first | exact ghk | exact ghk0
  · have hlt : ¬ ((i : Int) < (fs.length : Int)) := by omega
    rw [drop_len h, List.map_nil, List.sum_nil] at hv
    simp only [go_sem, Int.reduceToNat, Int.reduceLE, Int.reduceLT, Nat.reduceBEq, Nat.reduceLT, Nat.reduceAdd, Nat.reduceLeDiff, hlt, hE]
    first | exact rtk (.bool (decide ((a : Int) ≤ n))) ⟨by congr 1; apply decide_eq_decide.2; omega, rfl⟩ | exact rtk0 (.bool (decide ((a : Int) ≤ n))) ⟨by congr 1; apply decide_eq_decide.2; omega, rfl⟩
end Go.Proofs.YtocphglkceidhaaGreat
namespace Go.Proofs.YtocphglkceidhaaGreat
open Go.Ahl
theorem bget (b : ByteArray) (i : Nat) : b[i]? = b.data.toList[i]? := by
  rw [Array.getElem?_toList]
  by_cases h : i < b.size
  · rw [getElem?_pos b i h, Array.getElem?_eq_getElem (by exact h)]; rfl
  · rw [getElem?_neg b i h, Array.getElem?_eq_none (by simpa using h)]
def letterB (c : Int) : Bool := (decide (97 ≤ c) && decide (c ≤ 122)) || (decide (65 ≤ c) && decide (c ≤ 90))
def digitB (c : Int) : Bool := decide (48 ≤ c) && decide (c ≤ 57)
def c_letter : CCode := .seq (.ops [⟨some 2, .move (.lit (.bool false)), none, []⟩]) (.seq (.ops [⟨some 3, .move (.tmp 0), none, []⟩, ⟨some 4, .bin .geq .none (.tmp 3) (.lit (.int .u8 97)), none, []⟩, ⟨some 5, .move (.tmp 4), none, []⟩, ⟨some 6, .move (.tmp 0), some (some 5, true), []⟩, ⟨some 7, .bin .leq .none (.tmp 6) (.lit (.int .u8 122)), some (some 5, true), []⟩, ⟨some 8, .pick (.tmp 5) (.tmp 7) (.lit (.bool false)), none, []⟩, ⟨some 9, .move (.tmp 8), none, []⟩, ⟨some 10, .move (.tmp 0), some (some 9, false), []⟩, ⟨some 11, .bin .geq .none (.tmp 10) (.lit (.int .u8 65)), some (some 9, false), []⟩, ⟨some 12, .move (.tmp 11), some (some 9, false), []⟩, ⟨some 13, .move (.tmp 0), some (some 12, true), []⟩, ⟨some 14, .bin .leq .none (.tmp 13) (.lit (.int .u8 90)), some (some 12, true), []⟩, ⟨some 15, .pick (.tmp 12) (.tmp 14) (.lit (.bool false)), some (some 9, false), []⟩, ⟨some 16, .pick (.tmp 9) (.lit (.bool true)) (.tmp 15), none, []⟩, ⟨some 2, .move (.tmp 16), none, []⟩]) .ret)
set_option maxRecDepth 20000 in
theorem letter_spec (c : Int) (σ : Store) : ACalls Tryz.prog 130 [.int .u8 c] σ (isR (.bool (letterB c)) σ) := by
  refine ACalls.intro (rs := [(.tmp 2)]) (by kernel_rfl) { own := [], ghosts := [] } Tryz.func130 (c := Tryz.f130.body.getD .skip) (by kernel_rfl) (by decide) (by rw [show Tryz.f130.ntmps = 17 by kernel_rfl]; exact Nat.le_of_ble_eq_true rfl) (by kernel_rfl) ?_
  intro hσ hids
  rw [show comp Tryz.prog { own := [], ghosts := [] } (Tryz.f130.body.getD .skip) = c_letter by kernel_rfl, show Tryz.f130.ntmps = 17 by kernel_rfl]
  unfold c_letter
  by_cases h1 : c ≥ 97 <;> by_cases h2 : c ≤ 122 <;> by_cases h3 : c ≥ 65 <;> by_cases h4 : c ≤ 90
  all_goals
    simp only [go_sem, Int.reduceToNat, Int.reduceLE, Int.reduceLT, Nat.reduceBEq, Nat.reduceLT, Nat.reduceAdd, Nat.reduceLeDiff, h1, h2, h3, h4]
    first | exact rtw (v := .bool _) wkS ⟨by simp only [letterB, ge_iff_le] at *; simp only [h1, h2, h3, h4]; rfl, rfl⟩ | exact rtw0 (v := .bool _) wkS ⟨by simp only [letterB, ge_iff_le] at *; simp only [h1, h2, h3, h4]; rfl, rfl⟩
def c_letter01 : CCode := .seq (.ops [⟨some 2, .move (.lit (.bool false)), none, []⟩]) (.seq (.ops [⟨some 3, .move (.tmp 0), none, []⟩, ⟨some 4, .bin .geq .none (.tmp 3) (.lit (.int .u8 97)), none, []⟩, ⟨some 5, .move (.tmp 4), none, []⟩, ⟨some 6, .move (.tmp 0), some (some 5, true), []⟩, ⟨some 7, .bin .leq .none (.tmp 6) (.lit (.int .u8 122)), some (some 5, true), []⟩, ⟨some 8, .pick (.tmp 5) (.tmp 7) (.lit (.bool false)), none, []⟩, ⟨some 9, .move (.tmp 8), none, []⟩, ⟨some 10, .move (.tmp 0), some (some 9, false), []⟩, ⟨some 11, .bin .geq .none (.tmp 10) (.lit (.int .u8 65)), some (some 9, false), []⟩, ⟨some 12, .move (.tmp 11), some (some 9, false), []⟩, ⟨some 13, .move (.tmp 0), some (some 12, true), []⟩, ⟨some 14, .bin .leq .none (.tmp 13) (.lit (.int .u8 90)), some (some 12, true), []⟩, ⟨some 15, .pick (.tmp 12) (.tmp 14) (.lit (.bool false)), some (some 9, false), []⟩, ⟨some 16, .pick (.tmp 9) (.lit (.bool true)) (.tmp 15), none, []⟩, ⟨some 2, .move (.tmp 16), none, []⟩]) .ret)
set_option maxRecDepth 20000 in
theorem letter01_spec (c : Int) (σ : Store) : ACalls Tryz.prog 146 [.int .u8 c] σ (isR (.bool (letterB c)) σ) := by
  refine ACalls.intro (rs := [(.tmp 2)]) (by kernel_rfl) { own := [], ghosts := [] } Tryz.func146 (c := Tryz.f146.body.getD .skip) (by kernel_rfl) (by decide) (by rw [show Tryz.f146.ntmps = 17 by kernel_rfl]; exact Nat.le_of_ble_eq_true rfl) (by kernel_rfl) ?_
  intro hσ hids
  rw [show comp Tryz.prog { own := [], ghosts := [] } (Tryz.f146.body.getD .skip) = c_letter01 by kernel_rfl, show Tryz.f146.ntmps = 17 by kernel_rfl]
  unfold c_letter01
  by_cases h1 : c ≥ 97 <;> by_cases h2 : c ≤ 122 <;> by_cases h3 : c ≥ 65 <;> by_cases h4 : c ≤ 90
  all_goals
    simp only [go_sem, Int.reduceToNat, Int.reduceLE, Int.reduceLT, Nat.reduceBEq, Nat.reduceLT, Nat.reduceAdd, Nat.reduceLeDiff, h1, h2, h3, h4]
    first | exact rtw (v := .bool _) wkS ⟨by simp only [letterB, ge_iff_le] at *; simp only [h1, h2, h3, h4]; rfl, rfl⟩ | exact rtw0 (v := .bool _) wkS ⟨by simp only [letterB, ge_iff_le] at *; simp only [h1, h2, h3, h4]; rfl, rfl⟩
def c_digit01 : CCode := .seq (.ops [⟨some 2, .move (.lit (.bool false)), none, []⟩]) (.seq (.ops [⟨some 3, .move (.tmp 0), none, []⟩, ⟨some 4, .bin .geq .none (.tmp 3) (.lit (.int .u8 48)), none, []⟩, ⟨some 5, .move (.tmp 4), none, []⟩, ⟨some 6, .move (.tmp 0), some (some 5, true), []⟩, ⟨some 7, .bin .leq .none (.tmp 6) (.lit (.int .u8 57)), some (some 5, true), []⟩, ⟨some 8, .pick (.tmp 5) (.tmp 7) (.lit (.bool false)), none, []⟩, ⟨some 2, .move (.tmp 8), none, []⟩]) .ret)
set_option maxRecDepth 20000 in
theorem digit01_spec (c : Int) (σ : Store) : ACalls Tryz.prog 147 [.int .u8 c] σ (isR (.bool (digitB c)) σ) := by
  refine ACalls.intro (rs := [(.tmp 2)]) (by kernel_rfl) { own := [], ghosts := [] } Tryz.func147 (c := Tryz.f147.body.getD .skip) (by kernel_rfl) (by decide) (by rw [show Tryz.f147.ntmps = 9 by kernel_rfl]; exact Nat.le_of_ble_eq_true rfl) (by kernel_rfl) ?_
  intro hσ hids
  rw [show comp Tryz.prog { own := [], ghosts := [] } (Tryz.f147.body.getD .skip) = c_digit01 by kernel_rfl, show Tryz.f147.ntmps = 9 by kernel_rfl]
  unfold c_digit01
  by_cases h1 : c ≥ 48 <;> by_cases h2 : c ≤ 57
  all_goals
    simp only [go_sem, Int.reduceToNat, Int.reduceLE, Int.reduceLT, Nat.reduceBEq, Nat.reduceLT, Nat.reduceAdd, Nat.reduceLeDiff, h1, h2]
    first | exact rtw (v := .bool _) wkS ⟨by simp only [digitB, ge_iff_le] at *; simp only [h1, h2]; rfl, rfl⟩ | exact rtw0 (v := .bool _) wkS ⟨by simp only [digitB, ge_iff_le] at *; simp only [h1, h2]; rfl, rfl⟩
theorem toNat_eq (a b : UInt8) : ((a.toNat : Int) == (b.toNat : Int)) = (a == b) := by
  by_cases h : a = b
  · subst h; simp
  · have h1 : (a == b) = false := by simpa using h
    have h2 : ¬ (a.toNat : Int) = (b.toNat : Int) := fun e => h (UInt8.toNat_inj.1 (by omega))
    rw [h1]; simpa using h2
def c_within01 : CCode := .seq (.ops [⟨some 4, .move (.lit (.bool false)), none, []⟩]) (.seq (.seq (.ops [⟨some 6, .move (.tmp 0), none, []⟩, ⟨some 7, .blen 0 (.tmp 6), none, []⟩, ⟨some 8, .move (.lit (.int .i64 0)), none, []⟩]) (.block 0 (.loop (.seq (.ops [⟨some 9, .bin .lss .none (.tmp 8) (.tmp 7), none, []⟩]) (.seq (.cond (.tmp 9) .skip (.exit 0)) (.seq (.block 1 (.seq (.ops [⟨some 10, .move (.tmp 8), none, []⟩, ⟨some 5, .move (.tmp 10), none, []⟩]) (.seq (.ops [⟨some 11, .move (.tmp 0), none, []⟩, ⟨some 12, .move (.tmp 5), none, []⟩, ⟨some 13, .istr (.tmp 11) (.tmp 12), none, []⟩, ⟨some 14, .move (.tmp 1), none, []⟩, ⟨some 15, .bin .eql .none (.tmp 13) (.tmp 14), none, []⟩]) (.cond (.tmp 15) (.seq (.ops [⟨some 4, .move (.lit (.bool true)), none, []⟩]) .ret) .skip)))) (.ops [⟨some 16, .bin .add .none (.tmp 8) (.lit (.int .i64 1)), none, []⟩, ⟨some 8, .move (.tmp 16), none, []⟩]))))))) (.seq (.ops [⟨some 4, .move (.lit (.bool false)), none, []⟩]) .ret))
set_option maxRecDepth 20000 in
theorem within01_spec (b : ByteArray) (c : UInt8) (σ : Store) (hb : b.data.toList.length ≤ 140737488355328) : ACalls Tryz.prog 148 [.str b, .int .u8 c.toNat] σ (isR (.bool (b.data.toList.contains c)) σ) := by
  refine ACalls.intro (rs := [(.tmp 4)]) (by kernel_rfl) { own := [], ghosts := [] } Tryz.func148 (c := Tryz.f148.body.getD .skip) (by kernel_rfl) (by decide) (by rw [show Tryz.f148.ntmps = 17 by kernel_rfl]; exact Nat.le_of_ble_eq_true rfl) (by kernel_rfl) ?_
  intro hσ hids
  rw [show comp Tryz.prog { own := [], ghosts := [] } (Tryz.f148.body.getD .skip) = c_within01 by kernel_rfl, show Tryz.f148.ntmps = 17 by kernel_rfl]
  unfold c_within01
  have hs : b.size = b.data.toList.length := rfl
  simp only [go_sem, Int.reduceToNat, Int.reduceLE, Int.reduceLT, Nat.reduceBEq, Nat.reduceLT, Nat.reduceAdd, Nat.reduceLeDiff]
  rw [hs]
  refine wpc_while (fun i => [(0, .str b), (1, .int .u8 c.toNat), (7, .int .i64 b.data.toList.length), (8, .int .i64 (i : Nat))]) (fun _ => σ) (fun i => i ≤ b.data.toList.length ∧ b.data.toList.contains c = (b.data.toList.drop i).contains c) (fun i => b.data.toList.length - i) 0 ⟨Nat.zero_le _, rfl⟩ (by (try dsimp only); first | exact ghk | exact ghk0) ?_
  rintro i ⟨hi, hv⟩ K hK hE hR
  by_cases h : i < b.data.toList.length
  · obtain ⟨y, hx⟩ := get_ex h; have hlt : ((i : Int) < (b.data.toList.length : Int)) := (by omega); have hw : IntKind.i64.wrap ((i : Int) + 1) = ((i + 1 : Nat) : Int) := (by rw [wrap_ok (by omega)]; omega)
    rw [drop_cons hx, List.contains_cons] at hv
    rw [← bget] at hx
    by_cases h1 : c = y
    · subst h1
      simp only [go_sem, Int.reduceToNat, Int.reduceLE, Int.reduceLT, Nat.reduceBEq, Nat.reduceLT, Nat.reduceAdd, Nat.reduceLeDiff, hlt, hx, toNat_eq, beq_self_eq_true]
      rw [hR]
      first | exact rtk (.bool true) ⟨by rw [hv]; simp, rfl⟩ | exact rtk0 (.bool true) ⟨by rw [hv]; simp, rfl⟩
    · have h1' : (y == c) = false := by simpa using Ne.symm h1
      have h1'' : (c == y) = false := by simpa using h1
      simp only [go_sem, Int.reduceToNat, Int.reduceLE, Int.reduceLT, Nat.reduceBEq, Nat.reduceLT, Nat.reduceAdd, Nat.reduceLeDiff, hlt, hx, toNat_eq, h1']
      rw [h1'', Bool.false_or] at hv
      refine hK _ _ (i + 1) (⟨by omega, hv⟩) (by first | omega | (simp only []; omega) | (simp; omega)) ?_; (try dsimp only); (try simp only [ hw]); first | exact ghk | exact ghk0
  · have hlt : ¬ ((i : Int) < (b.data.toList.length : Int)) := by omega
    rw [drop_len h] at hv
    simp only [go_sem, Int.reduceToNat, Int.reduceLE, Int.reduceLT, Nat.reduceBEq, Nat.reduceLT, Nat.reduceAdd, Nat.reduceLeDiff, hlt, hE]
    first | exact rtk (.bool false) ⟨by rw [hv]; rfl, rfl⟩ | exact rtk0 (.bool false) ⟨by rw [hv]; rfl, rfl⟩
def okC (c : UInt8) : Bool := letterB c.toNat || digitB c.toNat || [45, 95, 40, 41, 44].contains c
def nameL : List UInt8 → Bool
  | [] => false
  | c :: l => decide (l.length + 1 ≤ 40) && letterB c.toNat && (c :: l).all okC
def nameB (b : ByteArray) : Bool := nameL b.data.toList
theorem nameL_len {l : List UInt8} (h : ¬ (l.length : Int) < 1) (h2 : ¬ (l.length : Int) > 40) {c : UInt8} (hc : l[0]? = some c) : nameL l = (letterB c.toNat && l.all okC) := by
  cases l with
  | nil => simp at h
  | cons d l =>
    simp only [List.getElem?_cons_zero, Option.some.injEq] at hc
    subst hc
    rw [nameL, decide_eq_true (by simp at h2; omega : l.length + 1 ≤ 40), Bool.true_and]
theorem nameL_short {l : List UInt8} (h : (l.length : Int) < 1) : nameL l = false := by
  cases l with
  | nil => rfl
  | cons c l => simp at h; omega
theorem nameL_long {l : List UInt8} (h : (l.length : Int) > 40) : nameL l = false := by
  cases l with
  | nil => rfl
  | cons c l => rw [nameL, decide_eq_false (by simp at h; omega)]; rfl
def c_name01 : CCode := .seq (.ops [⟨some 2, .move (.lit (.bool false)), none, []⟩]) (.seq (.seq (.ops [⟨some 4, .move (.tmp 0), none, []⟩, ⟨some 5, .blen 0 (.tmp 4), none, []⟩, ⟨some 6, .bin .lss .none (.tmp 5) (.lit (.int .i64 1)), none, []⟩, ⟨some 7, .move (.tmp 6), none, []⟩, ⟨some 8, .move (.tmp 0), some (some 7, false), []⟩, ⟨some 9, .blen 0 (.tmp 8), some (some 7, false), []⟩, ⟨some 10, .bin .gtr .none (.tmp 9) (.lit (.int .i64 40)), some (some 7, false), []⟩, ⟨some 11, .pick (.tmp 7) (.lit (.bool true)) (.tmp 10), none, []⟩, ⟨some 12, .move (.tmp 11), none, []⟩, ⟨some 13, .move (.tmp 0), some (some 12, false), []⟩, ⟨some 14, .istr (.tmp 13) (.lit (.int .i64 0)), some (some 12, false), []⟩, ⟨some 15, .call (.lit (.func 146 [])) [.tmp 14], some (some 12, false), []⟩, ⟨some 16, .un .not (.tmp 15), some (some 12, false), []⟩, ⟨some 17, .pick (.tmp 12) (.lit (.bool true)) (.tmp 16), none, []⟩]) (.cond (.tmp 17) (.seq (.ops [⟨some 2, .move (.lit (.bool false)), none, []⟩]) .ret) .skip)) (.seq (.seq (.ops [⟨some 18, .move (.tmp 0), none, []⟩, ⟨some 19, .blen 0 (.tmp 18), none, []⟩, ⟨some 20, .move (.lit (.int .i64 0)), none, []⟩]) (.block 0 (.loop (.seq (.ops [⟨some 21, .bin .lss .none (.tmp 20) (.tmp 19), none, []⟩]) (.seq (.cond (.tmp 21) .skip (.exit 0)) (.seq (.block 1 (.seq (.ops [⟨some 22, .move (.tmp 20), none, []⟩, ⟨some 3, .move (.tmp 22), none, []⟩]) (.seq (.ops [⟨some 23, .move (.tmp 0), none, []⟩, ⟨some 24, .move (.tmp 3), none, []⟩, ⟨some 25, .istr (.tmp 23) (.tmp 24), none, []⟩, ⟨some 26, .call (.lit (.func 146 [])) [.tmp 25], none, []⟩, ⟨some 27, .un .not (.tmp 26), none, []⟩, ⟨some 28, .move (.tmp 27), none, []⟩, ⟨some 29, .move (.tmp 0), some (some 28, true), []⟩, ⟨some 30, .move (.tmp 3), some (some 28, true), []⟩, ⟨some 31, .istr (.tmp 29) (.tmp 30), some (some 28, true), []⟩, ⟨some 32, .call (.lit (.func 147 [])) [.tmp 31], some (some 28, true), []⟩, ⟨some 33, .un .not (.tmp 32), some (some 28, true), []⟩, ⟨some 34, .pick (.tmp 28) (.tmp 33) (.lit (.bool false)), none, []⟩, ⟨some 35, .move (.tmp 34), none, []⟩, ⟨some 36, .move (.tmp 0), some (some 35, true), []⟩, ⟨some 37, .move (.tmp 3), some (some 35, true), []⟩, ⟨some 38, .istr (.tmp 36) (.tmp 37), some (some 35, true), []⟩, ⟨some 39, .call (.lit (.func 148 [])) [.lit (.str (bys [45, 95, 40, 41, 44])), .tmp 38], some (some 35, true), []⟩, ⟨some 40, .un .not (.tmp 39), some (some 35, true), []⟩, ⟨some 41, .pick (.tmp 35) (.tmp 40) (.lit (.bool false)), none, []⟩]) (.cond (.tmp 41) (.seq (.ops [⟨some 2, .move (.lit (.bool false)), none, []⟩]) .ret) .skip)))) (.ops [⟨some 42, .bin .add .none (.tmp 20) (.lit (.int .i64 1)), none, []⟩, ⟨some 20, .move (.tmp 42), none, []⟩]))))))) (.seq (.ops [⟨some 2, .move (.lit (.bool true)), none, []⟩]) .ret)))
set_option maxRecDepth 20000 in
theorem name01_spec (b : ByteArray) (σ : Store) (hb : b.data.toList.length ≤ 140737488355328) : ACalls Tryz.prog 109 [.str b] σ (isR (.bool (nameB b)) σ) := by
  refine ACalls.intro (rs := [(.tmp 2)]) (by kernel_rfl) { own := [], ghosts := [] } Tryz.func109 (c := Tryz.f109.body.getD .skip) (by kernel_rfl) (by decide) (by rw [show Tryz.f109.ntmps = 43 by kernel_rfl]; exact Nat.le_of_ble_eq_true rfl) (by kernel_rfl) ?_
  intro hσ hids
  rw [show comp Tryz.prog { own := [], ghosts := [] } (Tryz.f109.body.getD .skip) = c_name01 by kernel_rfl, show Tryz.f109.ntmps = 43 by kernel_rfl]
  unfold c_name01
  have hs : b.size = b.data.toList.length := rfl
  unfold nameB
  by_cases h1 : (b.data.toList.length : Int) < 1
  · simp only [go_sem, Int.reduceToNat, Int.reduceLE, Int.reduceLT, Nat.reduceBEq, Nat.reduceLT, Nat.reduceAdd, Nat.reduceLeDiff, hs, h1]
    first | exact rtk (.bool false) ⟨by rw [nameL_short h1], rfl⟩ | exact rtk0 (.bool false) ⟨by rw [nameL_short h1], rfl⟩
  by_cases h2 : (b.data.toList.length : Int) > 40
  · simp only [go_sem, Int.reduceToNat, Int.reduceLE, Int.reduceLT, Nat.reduceBEq, Nat.reduceLT, Nat.reduceAdd, Nat.reduceLeDiff, hs, h1, h2]
    first | exact rtk (.bool false) ⟨by rw [nameL_long h2], rfl⟩ | exact rtk0 (.bool false) ⟨by rw [nameL_long h2], rfl⟩
  obtain ⟨c0, hc0⟩ : ∃ c, b.data.toList[0]? = some c := get_ex (by omega)
  have hn := nameL_len h1 h2 hc0
  rw [← bget] at hc0
  simp only [go_sem, Int.reduceToNat, Int.reduceLE, Int.reduceLT, Nat.reduceBEq, Nat.reduceLT, Nat.reduceAdd, Nat.reduceLeDiff, hs, h1, h2, hc0, Int.toNat_zero, Int.le_refl]
  refine (letter01_spec c0.toNat σ).is ?_
  cases hl : letterB c0.toNat
  · simp only [go_sem, Int.reduceToNat, Int.reduceLE, Int.reduceLT, Nat.reduceBEq, Nat.reduceLT, Nat.reduceAdd, Nat.reduceLeDiff, hs]
    first | exact rtk (.bool false) ⟨by rw [hn, hl]; rfl, rfl⟩ | exact rtk0 (.bool false) ⟨by rw [hn, hl]; rfl, rfl⟩
  rw [hl, Bool.true_and] at hn
  simp only [go_sem, Int.reduceToNat, Int.reduceLE, Int.reduceLT, Nat.reduceBEq, Nat.reduceLT, Nat.reduceAdd, Nat.reduceLeDiff, hs]
  refine wpc_while (fun i => [(0, .str b), (19, .int .i64 b.data.toList.length), (20, .int .i64 (i : Nat))]) (fun _ => σ) (fun i => i ≤ b.data.toList.length ∧ nameL b.data.toList = (b.data.toList.drop i).all okC) (fun i => b.data.toList.length - i) 0 ⟨Nat.zero_le _, hn⟩ (by (try dsimp only); first | exact ghk | exact ghk0) ?_
  rintro i ⟨hi, hv⟩ K hK hE hR
  by_cases h : i < b.data.toList.length
  · obtain ⟨y, hx⟩ := get_ex h; have hlt : ((i : Int) < (b.data.toList.length : Int)) := (by omega); have hw : IntKind.i64.wrap ((i : Int) + 1) = ((i + 1 : Nat) : Int) := (by rw [wrap_ok (by omega)]; omega)
    rw [drop_cons hx, List.all_cons] at hv
    rw [← bget] at hx
    simp only [go_sem, Int.reduceToNat, Int.reduceLE, Int.reduceLT, Nat.reduceBEq, Nat.reduceLT, Nat.reduceAdd, Nat.reduceLeDiff, hlt, hx]
    refine (letter01_spec y.toNat σ).is ?_
    cases h1 : letterB y.toNat
    · simp only [go_sem, Int.reduceToNat, Int.reduceLE, Int.reduceLT, Nat.reduceBEq, Nat.reduceLT, Nat.reduceAdd, Nat.reduceLeDiff, hx]
      refine (digit01_spec y.toNat σ).is ?_
      cases h2 : digitB y.toNat
      · simp only [go_sem, Int.reduceToNat, Int.reduceLE, Int.reduceLT, Nat.reduceBEq, Nat.reduceLT, Nat.reduceAdd, Nat.reduceLeDiff, hx]
        refine (within01_spec (bys [45, 95, 40, 41, 44]) y σ (by decide)).is ?_
        have hok : okC y = (bys [45, 95, 40, 41, 44]).data.toList.contains y := by rw [okC, h1, h2]; rfl
        cases h3 : (bys [45, 95, 40, 41, 44]).data.toList.contains y
        · simp only [go_sem, Int.reduceToNat, Int.reduceLE, Int.reduceLT, Nat.reduceBEq, Nat.reduceLT, Nat.reduceAdd, Nat.reduceLeDiff]
          rw [hR]
          first | exact rtk (.bool false) ⟨by rw [hv, hok, h3]; rfl, rfl⟩ | exact rtk0 (.bool false) ⟨by rw [hv, hok, h3]; rfl, rfl⟩
        · simp only [go_sem, Int.reduceToNat, Int.reduceLE, Int.reduceLT, Nat.reduceBEq, Nat.reduceLT, Nat.reduceAdd, Nat.reduceLeDiff]
          rw [hok, h3, Bool.true_and] at hv
          refine hK _ _ (i + 1) (⟨by omega, hv⟩) (by first | omega | (simp only []; omega) | (simp; omega)) ?_; (try dsimp only); (try simp only [ hw]); first | exact ghk | exact ghk0
      · simp only [go_sem, Int.reduceToNat, Int.reduceLE, Int.reduceLT, Nat.reduceBEq, Nat.reduceLT, Nat.reduceAdd, Nat.reduceLeDiff]
        have hok : okC y = true := by rw [okC, h1, h2]; rfl
        rw [hok, Bool.true_and] at hv
        refine hK _ _ (i + 1) (⟨by omega, hv⟩) (by first | omega | (simp only []; omega) | (simp; omega)) ?_; (try dsimp only); (try simp only [ hw]); first | exact ghk | exact ghk0
    · simp only [go_sem, Int.reduceToNat, Int.reduceLE, Int.reduceLT, Nat.reduceBEq, Nat.reduceLT, Nat.reduceAdd, Nat.reduceLeDiff]
      have hok : okC y = true := by rw [okC, h1]; rfl
      rw [hok, Bool.true_and] at hv
      refine hK _ _ (i + 1) (⟨by omega, hv⟩) (by first | omega | (simp only []; omega) | (simp; omega)) ?_; (try dsimp only); (try simp only [ hw]); first | exact ghk | exact ghk0
  · have hlt : ¬ ((i : Int) < (b.data.toList.length : Int)) := by omega
    rw [drop_len h] at hv
    simp only [go_sem, Int.reduceToNat, Int.reduceLE, Int.reduceLT, Nat.reduceBEq, Nat.reduceLT, Nat.reduceAdd, Nat.reduceLeDiff, hlt, hE]
    first | exact rtk (.bool true) ⟨by rw [hv]; rfl, rfl⟩ | exact rtk0 (.bool true) ⟨by rw [hv]; rfl, rfl⟩
theorem indexByteString_spec (b : ByteArray) (c : UInt8) (σ : Store) : ACalls Tryz.prog 169 [.str b, .int .u8 c.toNat] σ (isR (.int .i64 (Lib.indexByte b.data.toList c)) σ) := by
  refine .extern Tryz.func169 (by kernel_rfl) (by kernel_rfl) (by kernel_rfl) (by kernel_rfl) (e := Extern.BytealgIndexByte.indexByte) ?_
  intro m loc w vs ha
  obtain ⟨v0, v1, rfl, h0, h1⟩ := ha.two
  cases h0; cases h1
  refine ⟨_, Lib.run_indexByteString _ _ _, ?_⟩
  rw [Int.toNat_natCast, show c.toNat.toUInt8 = c by simp]
  exact .int _ _
def c_indexByte2 : CCode := .seq (.ops [⟨some 4, .move (.lit (.int .i64 0)), none, []⟩]) (.seq (.ops [⟨some 5, .move (.tmp 0), none, []⟩, ⟨some 6, .move (.tmp 1), none, []⟩, ⟨some 7, .call (.lit (.func 169 [])) [.tmp 5, .tmp 6], none, []⟩, ⟨some 4, .move (.tmp 7), none, []⟩]) .ret)
set_option maxRecDepth 20000 in
theorem indexByte2_spec (b : ByteArray) (c : UInt8) (σ : Store) : ACalls Tryz.prog 157 [.str b, .int .u8 c.toNat] σ (isR (.int .i64 (Lib.indexByte b.data.toList c)) σ) := by
  refine ACalls.intro (rs := [(.tmp 4)]) (by kernel_rfl) { own := [], ghosts := [] } Tryz.func157 (c := Tryz.f157.body.getD .skip) (by kernel_rfl) (by decide) (by rw [show Tryz.f157.ntmps = 8 by kernel_rfl]; exact Nat.le_of_ble_eq_true rfl) (by kernel_rfl) ?_
  intro hσ hids
  rw [show comp Tryz.prog { own := [], ghosts := [] } (Tryz.f157.body.getD .skip) = c_indexByte2 by kernel_rfl, show Tryz.f157.ntmps = 8 by kernel_rfl]
  unfold c_indexByte2
  simp only [go_sem, Int.reduceToNat, Int.reduceLE, Int.reduceLT, Nat.reduceBEq, Nat.reduceLT, Nat.reduceAdd, Nat.reduceLeDiff]
  refine (indexByteString_spec b c σ).is ?_
  simp only [go_sem, Int.reduceToNat, Int.reduceLE, Int.reduceLT, Nat.reduceBEq, Nat.reduceLT, Nat.reduceAdd, Nat.reduceLeDiff]
  first | exact rtw (v := .int .i64 _) wkS ⟨rfl, rfl⟩ | exact rtw0 (v := .int .i64 _) wkS ⟨rfl, rfl⟩
def c_indexByte : CCode := .seq (.ops [⟨some 4, .move (.lit (.int .i64 0)), none, []⟩]) (.seq (.ops [⟨some 5, .move (.tmp 0), none, []⟩, ⟨some 6, .move (.tmp 1), none, []⟩, ⟨some 7, .call (.lit (.func 157 [])) [.tmp 5, .tmp 6], none, []⟩, ⟨some 4, .move (.tmp 7), none, []⟩]) .ret)
set_option maxRecDepth 20000 in
theorem indexByte_spec (b : ByteArray) (c : UInt8) (σ : Store) : ACalls Tryz.prog 131 [.str b, .int .u8 c.toNat] σ (isR (.int .i64 (Lib.indexByte b.data.toList c)) σ) := by
  refine ACalls.intro (rs := [(.tmp 4)]) (by kernel_rfl) { own := [], ghosts := [] } Tryz.func131 (c := Tryz.f131.body.getD .skip) (by kernel_rfl) (by decide) (by rw [show Tryz.f131.ntmps = 8 by kernel_rfl]; exact Nat.le_of_ble_eq_true rfl) (by kernel_rfl) ?_
  intro hσ hids
  rw [show comp Tryz.prog { own := [], ghosts := [] } (Tryz.f131.body.getD .skip) = c_indexByte by kernel_rfl, show Tryz.f131.ntmps = 8 by kernel_rfl]
  unfold c_indexByte
  simp only [go_sem, Int.reduceToNat, Int.reduceLE, Int.reduceLT, Nat.reduceBEq, Nat.reduceLT, Nat.reduceAdd, Nat.reduceLeDiff]
  refine (indexByte2_spec b c σ).is ?_
  simp only [go_sem, Int.reduceToNat, Int.reduceLE, Int.reduceLT, Nat.reduceBEq, Nat.reduceLT, Nat.reduceAdd, Nat.reduceLeDiff]
  first | exact rtw (v := .int .i64 _) wkS ⟨rfl, rfl⟩ | exact rtw0 (v := .int .i64 _) wkS ⟨rfl, rfl⟩
theorem indexByte_neg : ∀ (l : List UInt8) (c : UInt8), (Lib.indexByte l c < 0) = (l.contains c = false)
  | [], c => by simp [Lib.indexByte]
  | b :: l, c => by
    have ih := indexByte_neg l c
    have h1 := Lib.indexByte_ge l c
    unfold Lib.indexByte
    rw [List.contains_cons]
    by_cases hb : b = c
    · subst hb; simp
    · have e1 : (b == c) = false := by simpa using hb
      have e2 : (c == b) = false := by simpa using Ne.symm hb
      rw [e1, e2, Bool.false_or, ← ih, if_neg (by simp)]
      by_cases hm : Lib.indexByte l c = -1
      · rw [if_pos (by simpa using hm), hm]
      · rw [if_neg (by simpa using hm)]; exact propext ⟨fun _ => by omega, fun _ => by omega⟩
def c_name : CCode := .seq (.ops [⟨some 2, .move (.lit (.bool false)), none, []⟩]) (.seq (.seq (.ops [⟨some 5, .move (.tmp 0), none, []⟩, ⟨some 6, .bin .eql .none (.tmp 5) (.lit (.str (bys []))), none, []⟩, ⟨some 7, .move (.tmp 6), none, []⟩, ⟨some 8, .move (.tmp 0), some (some 7, false), []⟩, ⟨some 9, .blen 0 (.tmp 8), some (some 7, false), []⟩, ⟨some 10, .bin .gtr .none (.tmp 9) (.lit (.int .i64 40)), some (some 7, false), []⟩, ⟨some 11, .pick (.tmp 7) (.lit (.bool true)) (.tmp 10), none, []⟩, ⟨some 12, .move (.tmp 11), none, []⟩, ⟨some 13, .move (.tmp 0), some (some 12, false), []⟩, ⟨some 14, .istr (.tmp 13) (.lit (.int .i64 0)), some (some 12, false), []⟩, ⟨some 15, .call (.lit (.func 130 [])) [.tmp 14], some (some 12, false), []⟩, ⟨some 16, .un .not (.tmp 15), some (some 12, false), []⟩, ⟨some 17, .pick (.tmp 12) (.lit (.bool true)) (.tmp 16), none, []⟩]) (.cond (.tmp 17) (.seq (.ops [⟨some 2, .move (.lit (.bool false)), none, []⟩]) .ret) .skip)) (.seq (.seq (.ops [⟨some 18, .move (.tmp 0), none, []⟩, ⟨some 19, .blen 0 (.tmp 18), none, []⟩, ⟨some 20, .move (.lit (.int .i64 0)), none, []⟩]) (.block 0 (.loop (.seq (.ops [⟨some 21, .bin .lss .none (.tmp 20) (.tmp 19), none, []⟩]) (.seq (.cond (.tmp 21) .skip (.exit 0)) (.seq (.block 1 (.seq (.ops [⟨some 22, .move (.tmp 20), none, []⟩, ⟨some 3, .move (.tmp 22), none, []⟩]) (.seq (.ops [⟨some 23, .move (.tmp 0), none, []⟩, ⟨some 24, .move (.tmp 3), none, []⟩, ⟨some 25, .istr (.tmp 23) (.tmp 24), none, []⟩, ⟨some 4, .move (.tmp 25), none, []⟩]) (.seq (.ops [⟨some 26, .move (.tmp 4), none, []⟩, ⟨some 27, .call (.lit (.func 130 [])) [.tmp 26], none, []⟩, ⟨some 28, .un .not (.tmp 27), none, []⟩, ⟨some 29, .move (.tmp 28), none, []⟩, ⟨some 30, .move (.tmp 4), some (some 29, true), []⟩, ⟨some 31, .bin .lss .none (.tmp 30) (.lit (.int .u8 48)), some (some 29, true), []⟩, ⟨some 32, .move (.tmp 31), some (some 29, true), []⟩, ⟨some 33, .move (.tmp 4), some (some 32, false), []⟩, ⟨some 34, .bin .gtr .none (.tmp 33) (.lit (.int .u8 57)), some (some 32, false), []⟩, ⟨some 35, .pick (.tmp 32) (.lit (.bool true)) (.tmp 34), some (some 29, true), []⟩, ⟨some 36, .pick (.tmp 29) (.tmp 35) (.lit (.bool false)), none, []⟩, ⟨some 37, .move (.tmp 36), none, []⟩, ⟨some 38, .move (.tmp 4), some (some 37, true), []⟩, ⟨some 39, .call (.lit (.func 131 [])) [.lit (.str (bys [45, 95, 40, 41, 44])), .tmp 38], some (some 37, true), []⟩, ⟨some 40, .bin .lss .none (.tmp 39) (.lit (.int .i64 0)), some (some 37, true), []⟩, ⟨some 41, .pick (.tmp 37) (.tmp 40) (.lit (.bool false)), none, []⟩]) (.cond (.tmp 41) (.seq (.ops [⟨some 2, .move (.lit (.bool false)), none, []⟩]) .ret) .skip))))) (.ops [⟨some 42, .bin .add .none (.tmp 20) (.lit (.int .i64 1)), none, []⟩, ⟨some 20, .move (.tmp 42), none, []⟩]))))))) (.seq (.ops [⟨some 2, .move (.lit (.bool true)), none, []⟩]) .ret)))
set_option maxRecDepth 20000 in
theorem name_spec (b : ByteArray) (σ : Store) (hb : b.data.toList.length ≤ 140737488355328) : ACalls Tryz.prog 88 [.str b] σ (isR (.bool (nameB b)) σ) := by
  refine ACalls.intro (rs := [(.tmp 2)]) (by kernel_rfl) { own := [], ghosts := [] } Tryz.func88 (c := Tryz.f88.body.getD .skip) (by kernel_rfl) (by decide) (by rw [show Tryz.f88.ntmps = 43 by kernel_rfl]; exact Nat.le_of_ble_eq_true rfl) (by kernel_rfl) ?_
  intro hσ hids
  rw [show comp Tryz.prog { own := [], ghosts := [] } (Tryz.f88.body.getD .skip) = c_name by kernel_rfl, show Tryz.f88.ntmps = 43 by kernel_rfl]
  unfold c_name
  have hs : b.size = b.data.toList.length := rfl
  unfold nameB
  have hem : (b.toList == (bys []).toList) = decide (b.data.toList.length = 0) := by
    by_cases he : b = .empty
    · subst he; rw [toList_data, toList_data]; rfl
    · rw [decide_eq_false (fun e => he (by cases b; simp at e; subst e; rfl))]
      refine beq_eq_false_iff_ne.2 fun e => he ?_
      rw [toList_data, toList_data] at e
      cases b; simp [bys] at e; subst e; rfl
  by_cases h1 : (b.data.toList.length : Int) < 1
  · have h1' : b.data.toList.length = 0 := by omega
    simp only [go_sem, Int.reduceToNat, Int.reduceLE, Int.reduceLT, Nat.reduceBEq, Nat.reduceLT, Nat.reduceAdd, Nat.reduceLeDiff, hs, hem, h1']
    first | exact rtk (.bool false) ⟨by rw [nameL_short h1], rfl⟩ | exact rtk0 (.bool false) ⟨by rw [nameL_short h1], rfl⟩
  have h1' : ¬ b.data.toList.length = 0 := by omega
  by_cases h2 : (b.data.toList.length : Int) > 40
  · simp only [go_sem, Int.reduceToNat, Int.reduceLE, Int.reduceLT, Nat.reduceBEq, Nat.reduceLT, Nat.reduceAdd, Nat.reduceLeDiff, hs, hem, h1', h2]
    first | exact rtk (.bool false) ⟨by rw [nameL_long h2], rfl⟩ | exact rtk0 (.bool false) ⟨by rw [nameL_long h2], rfl⟩
  obtain ⟨c0, hc0⟩ : ∃ c, b.data.toList[0]? = some c := get_ex (by omega)
  have hn := nameL_len h1 h2 hc0
  rw [← bget] at hc0
  simp only [go_sem, Int.reduceToNat, Int.reduceLE, Int.reduceLT, Nat.reduceBEq, Nat.reduceLT, Nat.reduceAdd, Nat.reduceLeDiff, hs, hem, h1', h2, hc0, Int.toNat_zero, Int.le_refl]
  refine (letter_spec c0.toNat σ).is ?_
  cases hl : letterB c0.toNat
  · simp only [go_sem, Int.reduceToNat, Int.reduceLE, Int.reduceLT, Nat.reduceBEq, Nat.reduceLT, Nat.reduceAdd, Nat.reduceLeDiff, hs]
    first | exact rtk (.bool false) ⟨by rw [hn, hl]; rfl, rfl⟩ | exact rtk0 (.bool false) ⟨by rw [hn, hl]; rfl, rfl⟩
  rw [hl, Bool.true_and] at hn
  simp only [go_sem, Int.reduceToNat, Int.reduceLE, Int.reduceLT, Nat.reduceBEq, Nat.reduceLT, Nat.reduceAdd, Nat.reduceLeDiff, hs]
  refine wpc_while (fun i => [(0, .str b), (19, .int .i64 b.data.toList.length), (20, .int .i64 (i : Nat))]) (fun _ => σ) (fun i => i ≤ b.data.toList.length ∧ nameL b.data.toList = (b.data.toList.drop i).all okC) (fun i => b.data.toList.length - i) 0 ⟨Nat.zero_le _, hn⟩ (by (try dsimp only); first | exact ghk | exact ghk0) ?_
  rintro i ⟨hi, hv⟩ K hK hE hR
  by_cases h : i < b.data.toList.length
  · obtain ⟨y, hx⟩ := get_ex h; have hlt : ((i : Int) < (b.data.toList.length : Int)) := (by omega); have hw : IntKind.i64.wrap ((i : Int) + 1) = ((i + 1 : Nat) : Int) := (by rw [wrap_ok (by omega)]; omega)
    rw [drop_cons hx, List.all_cons] at hv
    rw [← bget] at hx
    simp only [go_sem, Int.reduceToNat, Int.reduceLE, Int.reduceLT, Nat.reduceBEq, Nat.reduceLT, Nat.reduceAdd, Nat.reduceLeDiff, hlt, hx]
    refine (letter_spec y.toNat σ).is ?_
    cases h1 : letterB y.toNat
    · have hdig : digitB y.toNat = (!(decide ((y.toNat : Int) < 48)) && !(decide ((y.toNat : Int) > 57))) := by
        unfold digitB
        by_cases a : (y.toNat : Int) < 48 <;> by_cases b : (y.toNat : Int) > 57
        · rw [decide_eq_true a, decide_eq_true b, decide_eq_false (by omega)]; rfl
        · rw [decide_eq_true a, decide_eq_false b, decide_eq_false (by omega)]; rfl
        · rw [decide_eq_false a, decide_eq_true b, decide_eq_true (by omega), decide_eq_false (by omega)]; rfl
        · rw [decide_eq_false a, decide_eq_false b, decide_eq_true (by omega), decide_eq_true (by omega)]; rfl
      by_cases h2 : digitB y.toNat = true
      · rw [h2] at hdig
        have a1 : ¬ (y.toNat : Int) < 48 := fun a => by rw [decide_eq_true a] at hdig; simp at hdig
        have a2 : ¬ (y.toNat : Int) > 57 := fun a => by rw [decide_eq_true a, Bool.not_true, Bool.and_false] at hdig; simp at hdig
        have hok : okC y = true := by rw [okC, h1, h2]; rfl
        rw [hok, Bool.true_and] at hv
        simp only [go_sem, Int.reduceToNat, Int.reduceLE, Int.reduceLT, Nat.reduceBEq, Nat.reduceLT, Nat.reduceAdd, Nat.reduceLeDiff, a1, a2]
        refine hK _ _ (i + 1) (⟨by omega, hv⟩) (by first | omega | (simp only []; omega) | (simp; omega)) ?_; (try dsimp only); (try simp only [ hw]); first | exact ghk | exact ghk0
      · have h2 : digitB y.toNat = false := by simpa using h2
        rw [h2] at hdig
        have hor : (y.toNat : Int) < 48 ∨ (¬ (y.toNat : Int) < 48 ∧ (y.toNat : Int) > 57) := by
          by_cases a : (y.toNat : Int) < 48
          · exact .inl a
          · refine .inr ⟨a, ?_⟩
            rw [decide_eq_false a, Bool.not_false, Bool.true_and] at hdig
            simpa using hdig.symm
        have hok : okC y = [45, 95, 40, 41, 44].contains y := by rw [okC, h1, h2]; rfl
        have hi := indexByte_neg [45, 95, 40, 41, 44] y
        rcases hor with a1 | ⟨a1, a2⟩
        · simp only [go_sem, Int.reduceToNat, Int.reduceLE, Int.reduceLT, Nat.reduceBEq, Nat.reduceLT, Nat.reduceAdd, Nat.reduceLeDiff, a1]
          refine (indexByte_spec (bys [45, 95, 40, 41, 44]) y σ).is ?_
          rw [show (bys [45, 95, 40, 41, 44]).data.toList = [45, 95, 40, 41, 44] from rfl]
          cases h3 : [45, 95, 40, 41, 44].contains y
          · rw [h3] at hi
            have hi : Lib.indexByte [45, 95, 40, 41, 44] y < 0 := by rw [hi]
            simp only [go_sem, Int.reduceToNat, Int.reduceLE, Int.reduceLT, Nat.reduceBEq, Nat.reduceLT, Nat.reduceAdd, Nat.reduceLeDiff, hi]
            rw [hR]
            first | exact rtk (.bool false) ⟨by rw [hv, hok, h3]; rfl, rfl⟩ | exact rtk0 (.bool false) ⟨by rw [hv, hok, h3]; rfl, rfl⟩
          · rw [h3] at hi
            have hi : ¬ Lib.indexByte [45, 95, 40, 41, 44] y < 0 := by rw [hi]; simp
            simp only [go_sem, Int.reduceToNat, Int.reduceLE, Int.reduceLT, Nat.reduceBEq, Nat.reduceLT, Nat.reduceAdd, Nat.reduceLeDiff, hi]
            rw [hok, h3, Bool.true_and] at hv
            refine hK _ _ (i + 1) (⟨by omega, hv⟩) (by first | omega | (simp only []; omega) | (simp; omega)) ?_; (try dsimp only); (try simp only [ hw]); first | exact ghk | exact ghk0
        · simp only [go_sem, Int.reduceToNat, Int.reduceLE, Int.reduceLT, Nat.reduceBEq, Nat.reduceLT, Nat.reduceAdd, Nat.reduceLeDiff, a1, a2]
          refine (indexByte_spec (bys [45, 95, 40, 41, 44]) y σ).is ?_
          rw [show (bys [45, 95, 40, 41, 44]).data.toList = [45, 95, 40, 41, 44] from rfl]
          cases h3 : [45, 95, 40, 41, 44].contains y
          · rw [h3] at hi
            have hi : Lib.indexByte [45, 95, 40, 41, 44] y < 0 := by rw [hi]
            simp only [go_sem, Int.reduceToNat, Int.reduceLE, Int.reduceLT, Nat.reduceBEq, Nat.reduceLT, Nat.reduceAdd, Nat.reduceLeDiff, hi]
            rw [hR]
            first | exact rtk (.bool false) ⟨by rw [hv, hok, h3]; rfl, rfl⟩ | exact rtk0 (.bool false) ⟨by rw [hv, hok, h3]; rfl, rfl⟩
          · rw [h3] at hi
            have hi : ¬ Lib.indexByte [45, 95, 40, 41, 44] y < 0 := by rw [hi]; simp
            simp only [go_sem, Int.reduceToNat, Int.reduceLE, Int.reduceLT, Nat.reduceBEq, Nat.reduceLT, Nat.reduceAdd, Nat.reduceLeDiff, hi]
            rw [hok, h3, Bool.true_and] at hv
            refine hK _ _ (i + 1) (⟨by omega, hv⟩) (by first | omega | (simp only []; omega) | (simp; omega)) ?_; (try dsimp only); (try simp only [ hw]); first | exact ghk | exact ghk0
    · simp only [go_sem, Int.reduceToNat, Int.reduceLE, Int.reduceLT, Nat.reduceBEq, Nat.reduceLT, Nat.reduceAdd, Nat.reduceLeDiff]
      have hok : okC y = true := by rw [okC, h1]; rfl
      rw [hok, Bool.true_and] at hv
      refine hK _ _ (i + 1) (⟨by omega, hv⟩) (by first | omega | (simp only []; omega) | (simp; omega)) ?_; (try dsimp only); (try simp only [ hw]); first | exact ghk | exact ghk0
  · have hlt : ¬ ((i : Int) < (b.data.toList.length : Int)) := by omega
    rw [drop_len h] at hv
    simp only [go_sem, Int.reduceToNat, Int.reduceLE, Int.reduceLT, Nat.reduceBEq, Nat.reduceLT, Nat.reduceAdd, Nat.reduceLeDiff, hlt, hE]
    first | exact rtk (.bool true) ⟨by rw [hv]; rfl, rfl⟩ | exact rtk0 (.bool true) ⟨by rw [hv]; rfl, rfl⟩
end Go.Proofs.YtocphglkceidhaaGreat
namespace Go.Proofs.YtocphglkceidhaaGreat
open Go.Ahl
theorem take_succ' {α : Type} {l : List α} {i : Nat} {x : α} (h : l[i]? = some x) : l.take (i + 1) = l.take i ++ [x] := by
  rw [List.take_add_one, h]; rfl
/-- Names that are none of some, and differ. -/
def namesFrom (seen : List ByteArray) : List ByteArray → Bool
  | [] => true
  | s :: l => nameB s && !(decide (s ∈ seen)) && namesFrom (seen ++ [s]) l
def c_names01 : CCode := .seq (.ops [⟨some 2, .move (.lit (.bool false)), none, []⟩]) (.seq (.ops [⟨some 6, .mkmap, none, []⟩, ⟨some 3, .move (.tmp 6), none, []⟩]) (.seq (.seq (.ops [⟨some 7, .move (.tmp 0), none, []⟩, ⟨some 8, .blen 1 (.tmp 7), none, []⟩, ⟨some 9, .move (.lit (.int .i64 0)), none, []⟩]) (.block 0 (.loop (.seq (.ops [⟨some 10, .bin .lss .none (.tmp 9) (.tmp 8), none, []⟩]) (.seq (.cond (.tmp 10) .skip (.exit 0)) (.seq (.block 1 (.seq (.ops [⟨some 11, .iaddr 1 (.tmp 7) (.tmp 9), none, []⟩, ⟨some 12, .load none (.tmp 11), none, []⟩, ⟨some 5, .move (.tmp 12), none, []⟩]) (.seq (.seq (.ops [⟨some 13, .move (.tmp 5), none, []⟩, ⟨some 14, .call (.lit (.func 109 [])) [.tmp 13], none, []⟩, ⟨some 15, .un .not (.tmp 14), none, []⟩, ⟨some 16, .move (.tmp 15), none, []⟩, ⟨some 17, .move (.tmp 3), some (some 16, false), []⟩, ⟨some 18, .move (.tmp 5), some (some 16, false), []⟩, ⟨some 19, .lookup true (.bool false) (.tmp 17) (.tmp 18) false, some (some 16, false), []⟩, ⟨some 20, .pick (.tmp 16) (.lit (.bool true)) (.tmp 19), none, []⟩]) (.cond (.tmp 20) (.seq (.ops [⟨some 2, .move (.lit (.bool false)), none, []⟩]) .ret) .skip)) (.ops [⟨some 21, .move (.tmp 3), none, []⟩, ⟨some 22, .move (.tmp 5), none, []⟩, ⟨none, .mapup true (.tmp 21) (.tmp 22) (.lit (.bool true)), none, []⟩])))) (.ops [⟨some 23, .bin .add .none (.tmp 9) (.lit (.int .i64 1)), none, []⟩, ⟨some 9, .move (.tmp 23), none, []⟩]))))))) (.seq (.ops [⟨some 2, .move (.lit (.bool true)), none, []⟩]) .ret)))
set_option maxRecDepth 20000 in
theorem names01_spec (l : List ByteArray) (tok : Tok) (σ : Store) (hl : l.length ≤ 140737488355328) (hb : ∀ b ∈ l, b.data.toList.length ≤ 140737488355328) :
    ACalls Tryz.prog 76 [.slice tok (l.map encT)] σ (isR (.bool (namesFrom [] l)) σ) := by
  refine ACalls.intro (rs := [(.tmp 2)]) (by kernel_rfl) { own := [], ghosts := [] } Tryz.func76 (c := Tryz.f76.body.getD .skip) (by kernel_rfl) (by decide) (by rw [show Tryz.f76.ntmps = 24 by kernel_rfl]; exact Nat.le_of_ble_eq_true rfl) (by kernel_rfl) ?_
  intro hσ hids
  rw [show comp Tryz.prog { own := [], ghosts := [] } (Tryz.f76.body.getD .skip) = c_names01 by kernel_rfl, show Tryz.f76.ntmps = 24 by kernel_rfl]
  unfold c_names01
  have hil : Ids σ.length (.slice tok (l.map encT)) := hids _ (by simp)
  simp only [go_sem, Int.reduceToNat, Int.reduceLE, Int.reduceLT, Nat.reduceBEq, Nat.reduceLT, Nat.reduceAdd, Nat.reduceLeDiff]
  refine wpc_while (fun i => [(3, .map σ.length), (7, .slice tok (l.map encT)), (8, .int .i64 l.length), (9, .int .i64 (i : Nat))]) (fun i => σ ++ [.map (encSet (l.take i))]) (fun i => i ≤ l.length ∧ namesFrom [] l = namesFrom (l.take i) (l.drop i)) (fun i => l.length - i) 0 ⟨Nat.zero_le _, rfl⟩ (have hσ1 := idsS_push hσ (ids_encSet (l.take 0)); (by (try dsimp only); exact ghk1)) ?_
  rintro i ⟨hi, hv⟩ K hK hE hR
  by_cases h : i < l.length
  · obtain ⟨y, hx⟩ := get_ex h; have hlt : ((i : Int) < (l.length : Int)) := (by omega); have hw : IntKind.i64.wrap ((i : Int) + 1) = ((i + 1 : Nat) : Int) := (by rw [wrap_ok (by omega)]; omega)
    rw [drop_cons hx, namesFrom] at hv
    simp only [go_sem, Int.reduceToNat, Int.reduceLE, Int.reduceLT, Nat.reduceBEq, Nat.reduceLT, Nat.reduceAdd, Nat.reduceLeDiff, hlt, hx, encT]
    refine (name01_spec y _ (hb y (List.mem_of_getElem? hx))).is ?_
    cases h1 : nameB y
    · simp only [go_sem, Int.reduceToNat, Int.reduceLE, Int.reduceLT, Nat.reduceBEq, Nat.reduceLT, Nat.reduceAdd, Nat.reduceLeDiff]
      rw [hR]
      first | exact rtk (.bool false) ⟨by rw [hv, h1]; rfl, rfl⟩ | exact rtk0 (.bool false) ⟨by rw [hv, h1]; rfl, rfl⟩
    by_cases h2 : y ∈ l.take i
    · obtain ⟨j, hj⟩ := find_in y _ 0 h2
      simp only [go_sem, Int.reduceToNat, Int.reduceLE, Int.reduceLT, Nat.reduceBEq, Nat.reduceLT, Nat.reduceAdd, Nat.reduceLeDiff, hj]
      rw [hR]
      first | exact rtk (.bool false) ⟨by rw [hv, h1, decide_eq_true h2]; rfl, rfl⟩ | exact rtk0 (.bool false) ⟨by rw [hv, h1, decide_eq_true h2]; rfl, rfl⟩
    · have hj := find_out y _ 0 h2
      simp only [go_sem, Int.reduceToNat, Int.reduceLE, Int.reduceLT, Nat.reduceBEq, Nat.reduceLT, Nat.reduceAdd, Nat.reduceLeDiff, hj, encSet_app, ← take_succ' hx]
      rw [h1, decide_eq_false h2, Bool.not_false, Bool.true_and, Bool.true_and, ← take_succ' hx] at hv
      have hσ1 := idsS_push hσ (ids_encSet (l.take (i + 1)))
      refine hK _ _ (i + 1) (⟨by omega, hv⟩) (by first | omega | (simp only []; omega) | (simp; omega)) ?_; (try dsimp only); (try simp only [ hw]); exact ghk1
  · have hlt : ¬ ((i : Int) < (l.length : Int)) := by omega
    rw [drop_len h] at hv
    simp only [go_sem, Int.reduceToNat, Int.reduceLE, Int.reduceLT, Nat.reduceBEq, Nat.reduceLT, Nat.reduceAdd, Nat.reduceLeDiff, hlt, hE]
    first | exact rtk (.bool true) ⟨by rw [hv]; rfl, rfl⟩ | exact rtk0 (.bool true) ⟨by rw [hv]; rfl, rfl⟩
def effB (n : Int) (e : FEff) : Bool := condB n (-1) e.when_ && (decide (0 ≤ e.lit.fact) && decide (e.lit.fact < n))
def actB (n : Int) (a : FAct) : Bool := decide (0 ≤ a.cost) && (decide (a.cost ≤ 100000) && (condB n (-1) a.pre && (decide (a.effects.length ≤ 100) && a.effects.all (effB n))))
def validB (t : FTask) : Bool :=
  decide (t.facts.length ≤ 200) && (decide (t.actions.length ≤ 1000) && (risingB t.facts.length (-1) t.init && (condB t.facts.length (-1) t.goal && (namesFrom [] t.facts && (namesFrom [] (t.actions.map (·.name)) && t.actions.all (actB t.facts.length))))))
/-- A task whose lists are not too long. -/
structure TB (t : FTask) : Prop where
  facts : t.facts.length ≤ 140737488355328
  names : ∀ b ∈ t.facts, b.data.toList.length ≤ 140737488355328
  init : t.init.length ≤ 140737488355328
  goal : t.goal.length ≤ 140737488355328
  actions : t.actions.length ≤ 140737488355328
  name : ∀ a ∈ t.actions, a.name.data.toList.length ≤ 140737488355328
  pre : ∀ a ∈ t.actions, a.pre.length ≤ 140737488355328
  effects : ∀ a ∈ t.actions, a.effects.length ≤ 140737488355328
  whens : ∀ a ∈ t.actions, ∀ e ∈ a.effects, e.when_.length ≤ 140737488355328
def c_is01 : CCode := .seq (.ops [⟨some 1, .box (.tmp 0), none, []⟩, ⟨some 2, .move (.lit (.bool false)), none, []⟩]) (.seq (.ops [⟨some 9, .faddr 0 (.tmp 1), none, []⟩, ⟨some 10, .load none (.tmp 9), none, []⟩, ⟨some 11, .blen 1 (.tmp 10), none, []⟩, ⟨some 3, .move (.tmp 11), none, []⟩]) (.seq (.seq (.ops [⟨some 12, .move (.tmp 3), none, []⟩, ⟨some 13, .bin .gtr .none (.tmp 12) (.lit (.int .i64 200)), none, []⟩, ⟨some 14, .move (.tmp 13), none, []⟩, ⟨some 15, .faddr 0 (.tmp 1), some (some 14, false), []⟩, ⟨some 16, .load none (.tmp 15), some (some 14, false), []⟩, ⟨some 17, .call (.lit (.func 76 [])) [.tmp 16], some (some 14, false), []⟩, ⟨some 18, .un .not (.tmp 17), some (some 14, false), []⟩, ⟨some 19, .pick (.tmp 14) (.lit (.bool true)) (.tmp 18), none, []⟩, ⟨some 20, .move (.tmp 19), none, []⟩, ⟨some 21, .faddr 1 (.tmp 1), some (some 20, false), []⟩, ⟨some 22, .load none (.tmp 21), some (some 20, false), []⟩, ⟨some 23, .move (.tmp 3), some (some 20, false), []⟩, ⟨some 24, .call (.lit (.func 70 [])) [.tmp 22, .tmp 23], some (some 20, false), []⟩, ⟨some 25, .un .not (.tmp 24), some (some 20, false), []⟩, ⟨some 26, .pick (.tmp 20) (.lit (.bool true)) (.tmp 25), none, []⟩, ⟨some 27, .move (.tmp 26), none, []⟩, ⟨some 28, .faddr 2 (.tmp 1), some (some 27, false), []⟩, ⟨some 29, .load none (.tmp 28), some (some 27, false), []⟩, ⟨some 30, .move (.tmp 3), some (some 27, false), []⟩, ⟨some 31, .call (.lit (.func 77 [])) [.tmp 29, .tmp 30], some (some 27, false), []⟩, ⟨some 32, .un .not (.tmp 31), some (some 27, false), []⟩, ⟨some 33, .pick (.tmp 27) (.lit (.bool true)) (.tmp 32), none, []⟩, ⟨some 34, .move (.tmp 33), none, []⟩, ⟨some 35, .faddr 3 (.tmp 1), some (some 34, false), []⟩, ⟨some 36, .load none (.tmp 35), some (some 34, false), []⟩, ⟨some 37, .blen 1 (.tmp 36), some (some 34, false), []⟩, ⟨some 38, .bin .gtr .none (.tmp 37) (.lit (.int .i64 1000)), some (some 34, false), []⟩, ⟨some 39, .pick (.tmp 34) (.lit (.bool true)) (.tmp 38), none, []⟩]) (.cond (.tmp 39) (.seq (.ops [⟨some 2, .move (.lit (.bool false)), none, []⟩]) .ret) .skip)) (.seq (.ops [⟨some 4, .move (.lit (.slice .nil [])), none, []⟩]) (.seq (.seq (.ops [⟨some 40, .faddr 3 (.tmp 1), none, []⟩, ⟨some 41, .load none (.tmp 40), none, []⟩, ⟨some 42, .blen 1 (.tmp 41), none, []⟩, ⟨some 43, .move (.lit (.int .i64 0)), none, []⟩]) (.block 0 (.loop (.seq (.ops [⟨some 44, .bin .lss .none (.tmp 43) (.tmp 42), none, []⟩]) (.seq (.cond (.tmp 44) .skip (.exit 0)) (.seq (.block 1 (.seq (.ops [⟨some 45, .iaddr 4 (.tmp 41) (.tmp 43), none, []⟩, ⟨some 46, .load (some 4) (.tmp 45), none, []⟩, ⟨some 6, .alloc (.agg [.str (bys []), .int .i64 0, .slice .nil [], .slice .nil []]), none, []⟩, ⟨none, .store 4 (.tmp 6) (.tmp 46), none, []⟩]) (.seq (.seq (.ops [⟨some 47, .faddr 1 (.tmp 6), none, []⟩, ⟨some 48, .load none (.tmp 47), none, []⟩, ⟨some 49, .bin .lss .none (.tmp 48) (.lit (.int .i64 0)), none, []⟩, ⟨some 50, .move (.tmp 49), none, []⟩, ⟨some 51, .faddr 1 (.tmp 6), some (some 50, false), []⟩, ⟨some 52, .load none (.tmp 51), some (some 50, false), []⟩, ⟨some 53, .bin .gtr .none (.tmp 52) (.lit (.int .i64 100000)), some (some 50, false), []⟩, ⟨some 54, .pick (.tmp 50) (.lit (.bool true)) (.tmp 53), none, []⟩, ⟨some 55, .move (.tmp 54), none, []⟩, ⟨some 56, .faddr 2 (.tmp 6), some (some 55, false), []⟩, ⟨some 57, .load none (.tmp 56), some (some 55, false), []⟩, ⟨some 58, .move (.tmp 3), some (some 55, false), []⟩, ⟨some 59, .call (.lit (.func 77 [])) [.tmp 57, .tmp 58], some (some 55, false), []⟩, ⟨some 60, .un .not (.tmp 59), some (some 55, false), []⟩, ⟨some 61, .pick (.tmp 55) (.lit (.bool true)) (.tmp 60), none, []⟩, ⟨some 62, .move (.tmp 61), none, []⟩, ⟨some 63, .faddr 3 (.tmp 6), some (some 62, false), []⟩, ⟨some 64, .load none (.tmp 63), some (some 62, false), []⟩, ⟨some 65, .blen 1 (.tmp 64), some (some 62, false), []⟩, ⟨some 66, .bin .gtr .none (.tmp 65) (.lit (.int .i64 100)), some (some 62, false), []⟩, ⟨some 67, .pick (.tmp 62) (.lit (.bool true)) (.tmp 66), none, []⟩]) (.cond (.tmp 67) (.seq (.ops [⟨some 2, .move (.lit (.bool false)), none, []⟩]) .ret) .skip)) (.seq (.seq (.ops [⟨some 68, .faddr 3 (.tmp 6), none, []⟩, ⟨some 69, .load none (.tmp 68), none, []⟩, ⟨some 70, .blen 1 (.tmp 69), none, []⟩, ⟨some 71, .move (.lit (.int .i64 0)), none, []⟩]) (.block 2 (.loop (.seq (.ops [⟨some 72, .bin .lss .none (.tmp 71) (.tmp 70), none, []⟩]) (.seq (.cond (.tmp 72) .skip (.exit 2)) (.seq (.block 3 (.seq (.ops [⟨some 73, .iaddr 3 (.tmp 69) (.tmp 71), none, []⟩, ⟨some 74, .load (some 3) (.tmp 73), none, []⟩, ⟨some 8, .alloc (.agg [.slice .nil [], .int .i64 0, .bool false]), none, []⟩, ⟨none, .store 3 (.tmp 8) (.tmp 74), none, []⟩]) (.seq (.ops [⟨some 75, .faddr 0 (.tmp 8), none, []⟩, ⟨some 76, .load none (.tmp 75), none, []⟩, ⟨some 77, .move (.tmp 3), none, []⟩, ⟨some 78, .call (.lit (.func 77 [])) [.tmp 76, .tmp 77], none, []⟩, ⟨some 79, .un .not (.tmp 78), none, []⟩, ⟨some 80, .move (.tmp 79), none, []⟩, ⟨some 81, .faddr 1 (.tmp 8), some (some 80, false), []⟩, ⟨some 82, .faddr 0 (.tmp 81), some (some 80, false), []⟩, ⟨some 83, .load none (.tmp 82), some (some 80, false), []⟩, ⟨some 84, .bin .lss .none (.tmp 83) (.lit (.int .i64 0)), some (some 80, false), []⟩, ⟨some 85, .pick (.tmp 80) (.lit (.bool true)) (.tmp 84), none, []⟩, ⟨some 86, .move (.tmp 85), none, []⟩, ⟨some 87, .faddr 1 (.tmp 8), some (some 86, false), []⟩, ⟨some 88, .faddr 0 (.tmp 87), some (some 86, false), []⟩, ⟨some 89, .load none (.tmp 88), some (some 86, false), []⟩, ⟨some 90, .move (.tmp 3), some (some 86, false), []⟩, ⟨some 91, .bin .geq .none (.tmp 89) (.tmp 90), some (some 86, false), []⟩, ⟨some 92, .pick (.tmp 86) (.lit (.bool true)) (.tmp 91), none, []⟩]) (.cond (.tmp 92) (.seq (.ops [⟨some 2, .move (.lit (.bool false)), none, []⟩]) .ret) .skip)))) (.ops [⟨some 93, .bin .add .none (.tmp 71) (.lit (.int .i64 1)), none, []⟩, ⟨some 71, .move (.tmp 93), none, []⟩]))))))) (.ops [⟨some 94, .move (.tmp 4), none, []⟩, ⟨some 95, .faddr 0 (.tmp 6), none, []⟩, ⟨some 96, .load none (.tmp 95), none, []⟩, ⟨some 97, .bslice 1 [.tmp 96] false, none, []⟩, ⟨some 98, .bappend 1 16 (.tmp 94) (.tmp 97) false, none, []⟩, ⟨some 4, .move (.tmp 98), none, []⟩]))))) (.ops [⟨some 99, .bin .add .none (.tmp 43) (.lit (.int .i64 1)), none, []⟩, ⟨some 43, .move (.tmp 99), none, []⟩]))))))) (.seq (.ops [⟨some 100, .move (.tmp 4), none, []⟩, ⟨some 101, .call (.lit (.func 76 [])) [.tmp 100], none, []⟩, ⟨some 2, .move (.tmp 101), none, []⟩]) .ret)))))
set_option maxRecDepth 20000 in
theorem is01_spec (t : FTask) (σ : Store) (hb : TB t) : ACalls Tryz.prog 35 [.agg (encTask t)] σ (isR (.bool (validB t)) σ) := by
  refine ACalls.intro (rs := [(.tmp 2)]) (by kernel_rfl) { own := [], ghosts := [] } Tryz.func35 (c := Tryz.f35.body.getD .skip) (by kernel_rfl) (by decide) (by rw [show Tryz.f35.ntmps = 102 by kernel_rfl]; exact Nat.le_of_ble_eq_true rfl) (by kernel_rfl) ?_
  intro hσ hids
  rw [show comp Tryz.prog { own := [], ghosts := [] } (Tryz.f35.body.getD .skip) = c_is01 by kernel_rfl, show Tryz.f35.ntmps = 102 by kernel_rfl]
  unfold c_is01
  unfold validB
  by_cases h1 : (t.facts.length : Int) > 200
  · simp only [go_sem, Int.reduceToNat, Int.reduceLE, Int.reduceLT, Nat.reduceBEq, Nat.reduceLT, Nat.reduceAdd, Nat.reduceLeDiff, encTask, h1]
    first | exact rtk (.bool false) ⟨by rw [decide_eq_false (by omega : ¬ t.facts.length ≤ 200)]; rfl, rfl⟩ | exact rtk0 (.bool false) ⟨by rw [decide_eq_false (by omega : ¬ t.facts.length ≤ 200)]; rfl, rfl⟩
  rw [decide_eq_true (by omega : t.facts.length ≤ 200), Bool.true_and]
  simp only [go_sem, Int.reduceToNat, Int.reduceLE, Int.reduceLT, Nat.reduceBEq, Nat.reduceLT, Nat.reduceAdd, Nat.reduceLeDiff, encTask, h1]
  refine (names01_spec t.facts _ _ hb.facts hb.names).is ?_
  cases h2 : namesFrom [] t.facts
  · simp only [go_sem, Int.reduceToNat, Int.reduceLE, Int.reduceLT, Nat.reduceBEq, Nat.reduceLT, Nat.reduceAdd, Nat.reduceLeDiff]
    first | exact rtk (.bool false) ⟨by simp only [Bool.false_and, Bool.and_false], rfl⟩ | exact rtk0 (.bool false) ⟨by simp only [Bool.false_and, Bool.and_false], rfl⟩
  simp only [go_sem, Int.reduceToNat, Int.reduceLE, Int.reduceLT, Nat.reduceBEq, Nat.reduceLT, Nat.reduceAdd, Nat.reduceLeDiff]
  refine (rising01_spec t.init t.facts.length _ _ hb.init).is ?_
  cases h3 : risingB t.facts.length (-1) t.init
  · simp only [go_sem, Int.reduceToNat, Int.reduceLE, Int.reduceLT, Nat.reduceBEq, Nat.reduceLT, Nat.reduceAdd, Nat.reduceLeDiff]
    first | exact rtk (.bool false) ⟨by simp only [Bool.false_and, Bool.and_false], rfl⟩ | exact rtk0 (.bool false) ⟨by simp only [Bool.false_and, Bool.and_false], rfl⟩
  simp only [go_sem, Int.reduceToNat, Int.reduceLE, Int.reduceLT, Nat.reduceBEq, Nat.reduceLT, Nat.reduceAdd, Nat.reduceLeDiff]
  refine (cond01_spec t.goal t.facts.length _ _ hb.goal).is ?_
  cases h4 : condB t.facts.length (-1) t.goal
  · simp only [go_sem, Int.reduceToNat, Int.reduceLE, Int.reduceLT, Nat.reduceBEq, Nat.reduceLT, Nat.reduceAdd, Nat.reduceLeDiff]
    first | exact rtk (.bool false) ⟨by simp only [Bool.false_and, Bool.and_false], rfl⟩ | exact rtk0 (.bool false) ⟨by simp only [Bool.false_and, Bool.and_false], rfl⟩
  by_cases h5 : (t.actions.length : Int) > 1000
  · simp only [go_sem, Int.reduceToNat, Int.reduceLE, Int.reduceLT, Nat.reduceBEq, Nat.reduceLT, Nat.reduceAdd, Nat.reduceLeDiff, h5]
    first | exact rtk (.bool false) ⟨by rw [decide_eq_false (by omega : ¬ t.actions.length ≤ 1000)]; rfl, rfl⟩ | exact rtk0 (.bool false) ⟨by rw [decide_eq_false (by omega : ¬ t.actions.length ≤ 1000)]; rfl, rfl⟩
  rw [decide_eq_true (by omega : t.actions.length ≤ 1000)]
  simp only [Bool.true_and]
  simp only [go_sem, Int.reduceToNat, Int.reduceLE, Int.reduceLT, Nat.reduceBEq, Nat.reduceLT, Nat.reduceAdd, Nat.reduceLeDiff, h5]
  -- the names so far
  refine wpc_while (fun i => [(4, .slice (.grow σ.length) (((t.actions.take i).map (·.name)).map encT)), (3, .int .i64 t.facts.length), (41, .slice .unk (t.actions.map encA)), (42, .int .i64 t.actions.length), (43, .int .i64 (i : Nat))])
    (fun i => σ ++ [.grow 1 i]) (fun i => i ≤ t.actions.length ∧ (namesFrom [] (t.actions.map (·.name)) && t.actions.all (actB t.facts.length)) = (namesFrom [] (t.actions.map (·.name)) && (t.actions.drop i).all (actB t.facts.length))) (fun i => t.actions.length - i) 0 ⟨Nat.zero_le _, rfl⟩ (.begin 4 1 _ (Nat.le_refl _) tellT hσ) ?_
  rintro i ⟨hi, hv⟩ K hK hE hR
  by_cases h : i < t.actions.length
  · obtain ⟨a, hx⟩ := get_ex h; have hlt : ((i : Int) < (t.actions.length : Int)) := (by omega); have hw : IntKind.i64.wrap ((i : Int) + 1) = ((i + 1 : Nat) : Int) := (by rw [wrap_ok (by omega)]; omega)
    have ha := List.mem_of_getElem? hx
    rw [drop_cons hx, List.all_cons] at hv
    by_cases a1 : a.cost < 0
    · simp only [go_sem, Int.reduceToNat, Int.reduceLE, Int.reduceLT, Nat.reduceBEq, Nat.reduceLT, Nat.reduceAdd, Nat.reduceLeDiff, hlt, hx, encA, a1]
      rw [hR]
      first | exact rtk (.bool false) ⟨by rw [hv, actB, decide_eq_false (by omega : ¬ 0 ≤ a.cost), Bool.false_and, Bool.false_and, Bool.and_false], rfl⟩ | exact rtk0 (.bool false) ⟨by rw [hv, actB, decide_eq_false (by omega : ¬ 0 ≤ a.cost), Bool.false_and, Bool.false_and, Bool.and_false], rfl⟩
    by_cases a2 : a.cost > 100000
    · simp only [go_sem, Int.reduceToNat, Int.reduceLE, Int.reduceLT, Nat.reduceBEq, Nat.reduceLT, Nat.reduceAdd, Nat.reduceLeDiff, hlt, hx, encA, a1, a2]
      rw [hR]
      first | exact rtk (.bool false) ⟨by rw [hv, actB, decide_eq_false (by omega : ¬ a.cost ≤ 100000), Bool.false_and, Bool.and_false, Bool.false_and, Bool.and_false], rfl⟩ | exact rtk0 (.bool false) ⟨by rw [hv, actB, decide_eq_false (by omega : ¬ a.cost ≤ 100000), Bool.false_and, Bool.and_false, Bool.false_and, Bool.and_false], rfl⟩
    rw [actB, decide_eq_true (by omega : 0 ≤ a.cost), decide_eq_true (by omega : a.cost ≤ 100000), Bool.true_and, Bool.true_and] at hv
    simp only [go_sem, Int.reduceToNat, Int.reduceLE, Int.reduceLT, Nat.reduceBEq, Nat.reduceLT, Nat.reduceAdd, Nat.reduceLeDiff, hlt, hx, encA, a1, a2]
    refine (cond01_spec a.pre t.facts.length _ _ (hb.pre a ha)).is ?_
    cases a3 : condB t.facts.length (-1) a.pre
    · simp only [go_sem, Int.reduceToNat, Int.reduceLE, Int.reduceLT, Nat.reduceBEq, Nat.reduceLT, Nat.reduceAdd, Nat.reduceLeDiff]
      rw [hR]
      first | exact rtk (.bool false) ⟨by rw [hv, a3, Bool.false_and, Bool.false_and, Bool.and_false], rfl⟩ | exact rtk0 (.bool false) ⟨by rw [hv, a3, Bool.false_and, Bool.false_and, Bool.and_false], rfl⟩
    rw [a3, Bool.true_and] at hv
    by_cases a4 : (a.effects.length : Int) > 100
    · simp only [go_sem, Int.reduceToNat, Int.reduceLE, Int.reduceLT, Nat.reduceBEq, Nat.reduceLT, Nat.reduceAdd, Nat.reduceLeDiff, a4]
      rw [hR]
      first | exact rtk (.bool false) ⟨by rw [hv, decide_eq_false (by omega : ¬ a.effects.length ≤ 100), Bool.false_and, Bool.false_and, Bool.and_false], rfl⟩ | exact rtk0 (.bool false) ⟨by rw [hv, decide_eq_false (by omega : ¬ a.effects.length ≤ 100), Bool.false_and, Bool.false_and, Bool.and_false], rfl⟩
    rw [decide_eq_true (by omega : a.effects.length ≤ 100), Bool.true_and] at hv
    simp only [go_sem, Int.reduceToNat, Int.reduceLE, Int.reduceLT, Nat.reduceBEq, Nat.reduceLT, Nat.reduceAdd, Nat.reduceLeDiff, a4]
    have hσ2 : IdsS (σ ++ [AObj.grow 1 i, AObj.row (encA a)]).length (σ ++ [AObj.grow 1 i, AObj.row (encA a)]) := idsS_app _ hσ (all_cons' trivial (all_cons' (idsO_row (ids_encA a)) all_nil'))
    refine wpc_while (fun j => [(4, .slice (.grow σ.length) (((t.actions.take i).map (·.name)).map encT)), (3, .int .i64 t.facts.length), (6, .ptr (σ.length + 1) 0), (41, .slice .unk (t.actions.map encA)), (42, .int .i64 t.actions.length), (43, .int .i64 (i : Nat)), (69, .slice .unk (a.effects.map encE)), (70, .int .i64 a.effects.length), (71, .int .i64 (j : Nat))])
      (fun j => σ ++ [.grow 1 i, .row (encA a)]) (fun j => j ≤ a.effects.length ∧ (namesFrom [] (t.actions.map (·.name)) && t.actions.all (actB t.facts.length)) = (namesFrom [] (t.actions.map (·.name)) && ((a.effects.drop j).all (effB t.facts.length) && (t.actions.drop (i + 1)).all (actB t.facts.length)))) (fun j => a.effects.length - j) 0 ⟨Nat.zero_le _, hv⟩ (by (try dsimp only); first | exact ghL (hσ2) | exact ghL0 (hσ2)) ?_
    rintro j ⟨hj', hvj⟩ K' hK' hE' hR'
    by_cases hj : j < a.effects.length
    · obtain ⟨e, hxj⟩ := get_ex hj; have hltj : ((j : Int) < (a.effects.length : Int)) := (by omega); have hwj : IntKind.i64.wrap ((j : Int) + 1) = ((j + 1 : Nat) : Int) := (by rw [wrap_ok (by omega)]; omega)
      have he := List.mem_of_getElem? hxj
      rw [drop_cons hxj, List.all_cons] at hvj
      simp only [go_sem, Int.reduceToNat, Int.reduceLE, Int.reduceLT, Nat.reduceBEq, Nat.reduceLT, Nat.reduceAdd, Nat.reduceLeDiff, hltj, hxj, encE]
      refine (cond01_spec e.when_ t.facts.length _ _ (hb.whens a ha e he)).is ?_
      cases b1 : condB t.facts.length (-1) e.when_
      · simp only [go_sem, Int.reduceToNat, Int.reduceLE, Int.reduceLT, Nat.reduceBEq, Nat.reduceLT, Nat.reduceAdd, Nat.reduceLeDiff, hR', hR]
        first | exact rtk (.bool false) ⟨by rw [hvj, effB, b1, Bool.false_and, Bool.false_and, Bool.false_and, Bool.and_false], rfl⟩ | exact rtk0 (.bool false) ⟨by rw [hvj, effB, b1, Bool.false_and, Bool.false_and, Bool.false_and, Bool.and_false], rfl⟩
      rw [effB, b1, Bool.true_and] at hvj
      by_cases b2 : e.lit.fact < 0
      · simp only [go_sem, Int.reduceToNat, Int.reduceLE, Int.reduceLT, Nat.reduceBEq, Nat.reduceLT, Nat.reduceAdd, Nat.reduceLeDiff, b2, hR', hR]
        first | exact rtk (.bool false) ⟨by rw [hvj, decide_eq_false (by omega : ¬ 0 ≤ e.lit.fact), Bool.false_and, Bool.false_and, Bool.false_and, Bool.and_false], rfl⟩ | exact rtk0 (.bool false) ⟨by rw [hvj, decide_eq_false (by omega : ¬ 0 ≤ e.lit.fact), Bool.false_and, Bool.false_and, Bool.false_and, Bool.and_false], rfl⟩
      by_cases b3 : e.lit.fact ≥ t.facts.length
      · simp only [go_sem, Int.reduceToNat, Int.reduceLE, Int.reduceLT, Nat.reduceBEq, Nat.reduceLT, Nat.reduceAdd, Nat.reduceLeDiff, b2, b3, hR', hR]
        first | exact rtk (.bool false) ⟨by rw [hvj, decide_eq_false (by omega : ¬ e.lit.fact < t.facts.length), Bool.and_false, Bool.false_and, Bool.false_and, Bool.and_false], rfl⟩ | exact rtk0 (.bool false) ⟨by rw [hvj, decide_eq_false (by omega : ¬ e.lit.fact < t.facts.length), Bool.and_false, Bool.false_and, Bool.false_and, Bool.and_false], rfl⟩
      rw [decide_eq_true (by omega : 0 ≤ e.lit.fact), decide_eq_true (by omega : e.lit.fact < t.facts.length), Bool.true_and, Bool.true_and] at hvj
      simp only [go_sem, Int.reduceToNat, Int.reduceLE, Int.reduceLT, Nat.reduceBEq, Nat.reduceLT, Nat.reduceAdd, Nat.reduceLeDiff, b2, b3]
      refine hK' _ _ (j + 1) ⟨by omega, hvj⟩ (by omega) ?_
      exact (by (try dsimp only); (try simp only [ hwj]); first | exact ghL (hσ2) | exact ghL0 (hσ2))
    · have hltj : ¬ ((j : Int) < (a.effects.length : Int)) := by omega
      rw [drop_len hj, List.all_nil, Bool.true_and] at hvj
      have hc : List.map encT (List.map (fun x => x.name) (List.take i t.actions)) ++ [[AV.str a.name]] = List.map encT (List.map (fun x => x.name) (List.take (i + 1) t.actions)) := by rw [take_succ' hx]; simp [encT]
      have hn : (List.take i t.actions).length = i := List.length_take_of_le (by omega)
      have hbig : bigLen (i + 1) 16 := big_ok (by omega) (by omega)
      simp only [go_sem, Int.reduceToNat, Int.reduceLE, Int.reduceLT, Nat.reduceBEq, Nat.reduceLT, Nat.reduceAdd, Nat.reduceLeDiff, hltj, hE', encA, encT, hc, hn, hbig]
      have hσ1 := idsS_push hσ (o := .grow 1 (i + 1)) trivial
      refine hK _ _ (i + 1) (⟨by omega, hvj⟩) (by first | omega | (simp only []; omega) | (simp; omega)) ?_; (try dsimp only); (try simp only [ hw]); exact ghk1
  · have hlt : ¬ ((i : Int) < (t.actions.length : Int)) := by omega
    rw [drop_len h, List.all_nil, Bool.and_true] at hv
    have ht : t.actions.take i = t.actions := List.take_of_length_le (by omega)
    rw [ht]
    simp only [go_sem, Int.reduceToNat, Int.reduceLE, Int.reduceLT, Nat.reduceBEq, Nat.reduceLT, Nat.reduceAdd, Nat.reduceLeDiff, hlt, hE]
    refine (names01_spec (t.actions.map (·.name)) _ _ (by rw [List.length_map]; exact hb.actions) (fun b hb' => by obtain ⟨a, ha, rfl⟩ := List.mem_map.1 hb'; exact hb.name a ha)).is ?_
    simp only [go_sem, Int.reduceToNat, Int.reduceLE, Int.reduceLT, Nat.reduceBEq, Nat.reduceLT, Nat.reduceAdd, Nat.reduceLeDiff]
    first | exact rtw (v := .bool _) wkS ⟨by rw [hv], rfl⟩ | exact rtw0 (v := .bool _) wkS ⟨by rw [hv], rfl⟩
end Go.Proofs.YtocphglkceidhaaGreat
namespace Go.Proofs.YtocphglkceidhaaGreat
open Go.Ahl
/-- The actions as task.Valid goes through them. -/
def actsFrom (n : Int) (seen : List ByteArray) : List FAct → Bool
  | [] => true
  | a :: l => nameB a.name && (!(decide (a.name ∈ seen)) && (actB n a && actsFrom n (seen ++ [a.name]) l))
theorem actsFrom_eq (n : Int) : ∀ (l : List FAct) (seen : List ByteArray), actsFrom n seen l = (namesFrom seen (l.map (·.name)) && l.all (actB n))
  | [], seen => rfl
  | a :: l, seen => by
    rw [actsFrom, List.map_cons, namesFrom, List.all_cons, actsFrom_eq n l]
    cases nameB a.name <;> cases decide (a.name ∈ seen) <;> cases actB n a <;> simp
def c_valid : CCode := .seq (.ops [⟨some 1, .box (.tmp 0), none, []⟩, ⟨some 2, .move (.lit (.bool false)), none, []⟩]) (.seq (.ops [⟨some 11, .faddr 0 (.tmp 1), none, []⟩, ⟨some 12, .load none (.tmp 11), none, []⟩, ⟨some 13, .blen 1 (.tmp 12), none, []⟩, ⟨some 3, .move (.tmp 13), none, []⟩]) (.seq (.seq (.ops [⟨some 14, .move (.tmp 3), none, []⟩, ⟨some 15, .bin .gtr .none (.tmp 14) (.lit (.int .i64 200)), none, []⟩, ⟨some 16, .move (.tmp 15), none, []⟩, ⟨some 17, .faddr 3 (.tmp 1), some (some 16, false), []⟩, ⟨some 18, .load none (.tmp 17), some (some 16, false), []⟩, ⟨some 19, .blen 1 (.tmp 18), some (some 16, false), []⟩, ⟨some 20, .bin .gtr .none (.tmp 19) (.lit (.int .i64 1000)), some (some 16, false), []⟩, ⟨some 21, .pick (.tmp 16) (.lit (.bool true)) (.tmp 20), none, []⟩, ⟨some 22, .move (.tmp 21), none, []⟩, ⟨some 23, .move (.tmp 3), some (some 22, false), []⟩, ⟨some 24, .faddr 1 (.tmp 1), some (some 22, false), []⟩, ⟨some 25, .load none (.tmp 24), some (some 22, false), []⟩, ⟨some 26, .call (.lit (.func 87 [])) [.tmp 23, .tmp 25], some (some 22, false), []⟩, ⟨some 27, .un .not (.tmp 26), some (some 22, false), []⟩, ⟨some 28, .pick (.tmp 22) (.lit (.bool true)) (.tmp 27), none, []⟩, ⟨some 29, .move (.tmp 28), none, []⟩, ⟨some 30, .move (.tmp 3), some (some 29, false), []⟩, ⟨some 31, .faddr 2 (.tmp 1), some (some 29, false), []⟩, ⟨some 32, .load none (.tmp 31), some (some 29, false), []⟩, ⟨some 33, .call (.lit (.func 65 [])) [.tmp 30, .tmp 32], some (some 29, false), []⟩, ⟨some 34, .un .not (.tmp 33), some (some 29, false), []⟩, ⟨some 35, .pick (.tmp 29) (.lit (.bool true)) (.tmp 34), none, []⟩]) (.cond (.tmp 35) (.seq (.ops [⟨some 2, .move (.lit (.bool false)), none, []⟩]) .ret) .skip)) (.seq (.ops [⟨some 36, .mkmap, none, []⟩, ⟨some 4, .move (.tmp 36), none, []⟩]) (.seq (.seq (.ops [⟨some 37, .faddr 0 (.tmp 1), none, []⟩, ⟨some 38, .load none (.tmp 37), none, []⟩, ⟨some 39, .blen 1 (.tmp 38), none, []⟩, ⟨some 40, .move (.lit (.int .i64 0)), none, []⟩]) (.block 0 (.loop (.seq (.ops [⟨some 41, .bin .lss .none (.tmp 40) (.tmp 39), none, []⟩]) (.seq (.cond (.tmp 41) .skip (.exit 0)) (.seq (.block 1 (.seq (.ops [⟨some 42, .iaddr 1 (.tmp 38) (.tmp 40), none, []⟩, ⟨some 43, .load none (.tmp 42), none, []⟩, ⟨some 6, .move (.tmp 43), none, []⟩]) (.seq (.seq (.ops [⟨some 44, .move (.tmp 6), none, []⟩, ⟨some 45, .call (.lit (.func 88 [])) [.tmp 44], none, []⟩, ⟨some 46, .un .not (.tmp 45), none, []⟩, ⟨some 47, .move (.tmp 46), none, []⟩, ⟨some 48, .move (.tmp 4), some (some 47, false), []⟩, ⟨some 49, .move (.tmp 6), some (some 47, false), []⟩, ⟨some 50, .lookup true (.bool false) (.tmp 48) (.tmp 49) false, some (some 47, false), []⟩, ⟨some 51, .pick (.tmp 47) (.lit (.bool true)) (.tmp 50), none, []⟩]) (.cond (.tmp 51) (.seq (.ops [⟨some 2, .move (.lit (.bool false)), none, []⟩]) .ret) .skip)) (.ops [⟨some 52, .move (.tmp 4), none, []⟩, ⟨some 53, .move (.tmp 6), none, []⟩, ⟨none, .mapup true (.tmp 52) (.tmp 53) (.lit (.bool true)), none, []⟩])))) (.ops [⟨some 54, .bin .add .none (.tmp 40) (.lit (.int .i64 1)), none, []⟩, ⟨some 40, .move (.tmp 54), none, []⟩]))))))) (.seq (.ops [⟨some 55, .mkmap, none, []⟩, ⟨some 4, .move (.tmp 55), none, []⟩]) (.seq (.seq (.ops [⟨some 56, .faddr 3 (.tmp 1), none, []⟩, ⟨some 57, .load none (.tmp 56), none, []⟩, ⟨some 58, .blen 1 (.tmp 57), none, []⟩, ⟨some 59, .move (.lit (.int .i64 0)), none, []⟩]) (.block 2 (.loop (.seq (.ops [⟨some 60, .bin .lss .none (.tmp 59) (.tmp 58), none, []⟩]) (.seq (.cond (.tmp 60) .skip (.exit 2)) (.seq (.block 3 (.seq (.ops [⟨some 61, .iaddr 4 (.tmp 57) (.tmp 59), none, []⟩, ⟨some 62, .load (some 4) (.tmp 61), none, []⟩, ⟨some 8, .alloc (.agg [.str (bys []), .int .i64 0, .slice .nil [], .slice .nil []]), none, []⟩, ⟨none, .store 4 (.tmp 8) (.tmp 62), none, []⟩]) (.seq (.seq (.ops [⟨some 63, .faddr 0 (.tmp 8), none, []⟩, ⟨some 64, .load none (.tmp 63), none, []⟩, ⟨some 65, .call (.lit (.func 88 [])) [.tmp 64], none, []⟩, ⟨some 66, .un .not (.tmp 65), none, []⟩, ⟨some 67, .move (.tmp 66), none, []⟩, ⟨some 68, .move (.tmp 4), some (some 67, false), []⟩, ⟨some 69, .faddr 0 (.tmp 8), some (some 67, false), []⟩, ⟨some 70, .load none (.tmp 69), some (some 67, false), []⟩, ⟨some 71, .lookup true (.bool false) (.tmp 68) (.tmp 70) false, some (some 67, false), []⟩, ⟨some 72, .pick (.tmp 67) (.lit (.bool true)) (.tmp 71), none, []⟩, ⟨some 73, .move (.tmp 72), none, []⟩, ⟨some 74, .faddr 1 (.tmp 8), some (some 73, false), []⟩, ⟨some 75, .load none (.tmp 74), some (some 73, false), []⟩, ⟨some 76, .bin .lss .none (.tmp 75) (.lit (.int .i64 0)), some (some 73, false), []⟩, ⟨some 77, .pick (.tmp 73) (.lit (.bool true)) (.tmp 76), none, []⟩, ⟨some 78, .move (.tmp 77), none, []⟩, ⟨some 79, .faddr 1 (.tmp 8), some (some 78, false), []⟩, ⟨some 80, .load none (.tmp 79), some (some 78, false), []⟩, ⟨some 81, .bin .gtr .none (.tmp 80) (.lit (.int .i64 100000)), some (some 78, false), []⟩, ⟨some 82, .pick (.tmp 78) (.lit (.bool true)) (.tmp 81), none, []⟩, ⟨some 83, .move (.tmp 82), none, []⟩, ⟨some 84, .move (.tmp 3), some (some 83, false), []⟩, ⟨some 85, .faddr 2 (.tmp 8), some (some 83, false), []⟩, ⟨some 86, .load none (.tmp 85), some (some 83, false), []⟩, ⟨some 87, .call (.lit (.func 65 [])) [.tmp 84, .tmp 86], some (some 83, false), []⟩, ⟨some 88, .un .not (.tmp 87), some (some 83, false), []⟩, ⟨some 89, .pick (.tmp 83) (.lit (.bool true)) (.tmp 88), none, []⟩, ⟨some 90, .move (.tmp 89), none, []⟩, ⟨some 91, .faddr 3 (.tmp 8), some (some 90, false), []⟩, ⟨some 92, .load none (.tmp 91), some (some 90, false), []⟩, ⟨some 93, .blen 1 (.tmp 92), some (some 90, false), []⟩, ⟨some 94, .bin .gtr .none (.tmp 93) (.lit (.int .i64 100)), some (some 90, false), []⟩, ⟨some 95, .pick (.tmp 90) (.lit (.bool true)) (.tmp 94), none, []⟩]) (.cond (.tmp 95) (.seq (.ops [⟨some 2, .move (.lit (.bool false)), none, []⟩]) .ret) .skip)) (.seq (.ops [⟨some 96, .move (.tmp 4), none, []⟩, ⟨some 97, .faddr 0 (.tmp 8), none, []⟩, ⟨some 98, .load none (.tmp 97), none, []⟩, ⟨none, .mapup true (.tmp 96) (.tmp 98) (.lit (.bool true)), none, []⟩]) (.seq (.ops [⟨some 99, .faddr 3 (.tmp 8), none, []⟩, ⟨some 100, .load none (.tmp 99), none, []⟩, ⟨some 101, .blen 1 (.tmp 100), none, []⟩, ⟨some 102, .move (.lit (.int .i64 0)), none, []⟩]) (.block 4 (.loop (.seq (.ops [⟨some 103, .bin .lss .none (.tmp 102) (.tmp 101), none, []⟩]) (.seq (.cond (.tmp 103) .skip (.exit 4)) (.seq (.block 5 (.seq (.ops [⟨some 104, .iaddr 3 (.tmp 100) (.tmp 102), none, []⟩, ⟨some 105, .load (some 3) (.tmp 104), none, []⟩, ⟨some 10, .alloc (.agg [.slice .nil [], .int .i64 0, .bool false]), none, []⟩, ⟨none, .store 3 (.tmp 10) (.tmp 105), none, []⟩]) (.seq (.ops [⟨some 106, .move (.tmp 3), none, []⟩, ⟨some 107, .faddr 0 (.tmp 10), none, []⟩, ⟨some 108, .load none (.tmp 107), none, []⟩, ⟨some 109, .call (.lit (.func 65 [])) [.tmp 106, .tmp 108], none, []⟩, ⟨some 110, .un .not (.tmp 109), none, []⟩, ⟨some 111, .move (.tmp 110), none, []⟩, ⟨some 112, .faddr 1 (.tmp 10), some (some 111, false), []⟩, ⟨some 113, .faddr 0 (.tmp 112), some (some 111, false), []⟩, ⟨some 114, .load none (.tmp 113), some (some 111, false), []⟩, ⟨some 115, .bin .lss .none (.tmp 114) (.lit (.int .i64 0)), some (some 111, false), []⟩, ⟨some 116, .pick (.tmp 111) (.lit (.bool true)) (.tmp 115), none, []⟩, ⟨some 117, .move (.tmp 116), none, []⟩, ⟨some 118, .faddr 1 (.tmp 10), some (some 117, false), []⟩, ⟨some 119, .faddr 0 (.tmp 118), some (some 117, false), []⟩, ⟨some 120, .load none (.tmp 119), some (some 117, false), []⟩, ⟨some 121, .move (.tmp 3), some (some 117, false), []⟩, ⟨some 122, .bin .geq .none (.tmp 120) (.tmp 121), some (some 117, false), []⟩, ⟨some 123, .pick (.tmp 117) (.lit (.bool true)) (.tmp 122), none, []⟩]) (.cond (.tmp 123) (.seq (.ops [⟨some 2, .move (.lit (.bool false)), none, []⟩]) .ret) .skip)))) (.ops [⟨some 124, .bin .add .none (.tmp 102) (.lit (.int .i64 1)), none, []⟩, ⟨some 102, .move (.tmp 124), none, []⟩]))))))))))) (.ops [⟨some 125, .bin .add .none (.tmp 59) (.lit (.int .i64 1)), none, []⟩, ⟨some 59, .move (.tmp 125), none, []⟩]))))))) (.seq (.ops [⟨some 2, .move (.lit (.bool true)), none, []⟩]) .ret)))))))
set_option maxRecDepth 20000 in
theorem valid_spec (t : FTask) (σ : Store) (hb : TB t) : ACalls Tryz.prog 53 [.agg (encTask t)] σ (isR (.bool (validB t)) σ) := by
  refine ACalls.intro (rs := [(.tmp 2)]) (by kernel_rfl) { own := [], ghosts := [] } Tryz.func53 (c := Tryz.f53.body.getD .skip) (by kernel_rfl) (by decide) (by rw [show Tryz.f53.ntmps = 126 by kernel_rfl]; exact Nat.le_of_ble_eq_true rfl) (by kernel_rfl) ?_
  intro hσ hids
  rw [show comp Tryz.prog { own := [], ghosts := [] } (Tryz.f53.body.getD .skip) = c_valid by kernel_rfl, show Tryz.f53.ntmps = 126 by kernel_rfl]
  unfold c_valid
  unfold validB
  rw [← actsFrom_eq]
  by_cases h1 : (t.facts.length : Int) > 200
  · simp only [go_sem, Int.reduceToNat, Int.reduceLE, Int.reduceLT, Nat.reduceBEq, Nat.reduceLT, Nat.reduceAdd, Nat.reduceLeDiff, encTask, h1]
    first | exact rtk (.bool false) ⟨by rw [decide_eq_false (by omega : ¬ t.facts.length ≤ 200)]; rfl, rfl⟩ | exact rtk0 (.bool false) ⟨by rw [decide_eq_false (by omega : ¬ t.facts.length ≤ 200)]; rfl, rfl⟩
  rw [decide_eq_true (by omega : t.facts.length ≤ 200), Bool.true_and]
  by_cases h5 : (t.actions.length : Int) > 1000
  · simp only [go_sem, Int.reduceToNat, Int.reduceLE, Int.reduceLT, Nat.reduceBEq, Nat.reduceLT, Nat.reduceAdd, Nat.reduceLeDiff, encTask, h1, h5]
    first | exact rtk (.bool false) ⟨by rw [decide_eq_false (by omega : ¬ t.actions.length ≤ 1000)]; rfl, rfl⟩ | exact rtk0 (.bool false) ⟨by rw [decide_eq_false (by omega : ¬ t.actions.length ≤ 1000)]; rfl, rfl⟩
  rw [decide_eq_true (by omega : t.actions.length ≤ 1000)]
  simp only [go_sem, Int.reduceToNat, Int.reduceLE, Int.reduceLT, Nat.reduceBEq, Nat.reduceLT, Nat.reduceAdd, Nat.reduceLeDiff, encTask, h1, h5]
  refine (rising_spec t.init t.facts.length _ _ hb.init).is ?_
  cases h3 : risingB t.facts.length (-1) t.init
  · simp only [go_sem, Int.reduceToNat, Int.reduceLE, Int.reduceLT, Nat.reduceBEq, Nat.reduceLT, Nat.reduceAdd, Nat.reduceLeDiff]
    first | exact rtk (.bool false) ⟨by simp only [Bool.false_and, Bool.and_false], rfl⟩ | exact rtk0 (.bool false) ⟨by simp only [Bool.false_and, Bool.and_false], rfl⟩
  simp only [go_sem, Int.reduceToNat, Int.reduceLE, Int.reduceLT, Nat.reduceBEq, Nat.reduceLT, Nat.reduceAdd, Nat.reduceLeDiff]
  refine (cond_spec t.goal t.facts.length _ _ hb.goal).is ?_
  cases h4 : condB t.facts.length (-1) t.goal
  · simp only [go_sem, Int.reduceToNat, Int.reduceLE, Int.reduceLT, Nat.reduceBEq, Nat.reduceLT, Nat.reduceAdd, Nat.reduceLeDiff]
    first | exact rtk (.bool false) ⟨by simp only [Bool.false_and, Bool.and_false], rfl⟩ | exact rtk0 (.bool false) ⟨by simp only [Bool.false_and, Bool.and_false], rfl⟩
  simp only [Bool.true_and]
  simp only [go_sem, Int.reduceToNat, Int.reduceLE, Int.reduceLT, Nat.reduceBEq, Nat.reduceLT, Nat.reduceAdd, Nat.reduceLeDiff]
  have hs1 : ∀ i, IdsS (σ ++ [AObj.row (encTask t), AObj.map (encSet (t.facts.take i))]).length (σ ++ [AObj.row (encTask t), AObj.map (encSet (t.facts.take i))]) := fun i => idsS_app _ hσ (all_cons' (idsO_row (ids_encTask t)) (all_cons' (ids_encSet _) all_nil'))
  refine wpc_while (fun i => [(1, .ptr σ.length 0), (3, .int .i64 t.facts.length), (4, .map (σ.length + 1)), (38, .slice .unk (t.facts.map encT)), (39, .int .i64 t.facts.length), (40, .int .i64 (i : Nat))]) (fun i => σ ++ [.row (encTask t), .map (encSet (t.facts.take i))])
    (fun i => i ≤ t.facts.length ∧ namesFrom [] t.facts = namesFrom (t.facts.take i) (t.facts.drop i)) (fun i => t.facts.length - i) 0 ⟨Nat.zero_le _, rfl⟩ (by (try dsimp only); first | exact ghL (hs1 0) | exact ghL0 (hs1 0)) ?_
  rintro i ⟨hi, hv⟩ K hK hE hR
  by_cases h : i < t.facts.length
  · obtain ⟨y, hx⟩ := get_ex h; have hlt : ((i : Int) < (t.facts.length : Int)) := (by omega); have hw : IntKind.i64.wrap ((i : Int) + 1) = ((i + 1 : Nat) : Int) := (by rw [wrap_ok (by omega)]; omega)
    rw [drop_cons hx, namesFrom] at hv
    simp only [go_sem, Int.reduceToNat, Int.reduceLE, Int.reduceLT, Nat.reduceBEq, Nat.reduceLT, Nat.reduceAdd, Nat.reduceLeDiff, hlt, hx, encT, hR]
    refine (name_spec y _ (hb.names y (List.mem_of_getElem? hx))).is ?_
    cases h1 : nameB y
    · simp only [go_sem, Int.reduceToNat, Int.reduceLE, Int.reduceLT, Nat.reduceBEq, Nat.reduceLT, Nat.reduceAdd, Nat.reduceLeDiff, hR]
      first | exact rtk (.bool false) ⟨by rw [hv, h1, Bool.false_and, Bool.false_and, Bool.false_and], rfl⟩ | exact rtk0 (.bool false) ⟨by rw [hv, h1, Bool.false_and, Bool.false_and, Bool.false_and], rfl⟩
    by_cases h2 : y ∈ t.facts.take i
    · obtain ⟨j, hj⟩ := find_in y _ 0 h2
      simp only [go_sem, Int.reduceToNat, Int.reduceLE, Int.reduceLT, Nat.reduceBEq, Nat.reduceLT, Nat.reduceAdd, Nat.reduceLeDiff, hj, hR]
      first | exact rtk (.bool false) ⟨by rw [hv, h1, decide_eq_true h2, Bool.not_true, Bool.and_false, Bool.false_and, Bool.false_and], rfl⟩ | exact rtk0 (.bool false) ⟨by rw [hv, h1, decide_eq_true h2, Bool.not_true, Bool.and_false, Bool.false_and, Bool.false_and], rfl⟩
    · have hj := find_out y _ 0 h2
      simp only [go_sem, Int.reduceToNat, Int.reduceLE, Int.reduceLT, Nat.reduceBEq, Nat.reduceLT, Nat.reduceAdd, Nat.reduceLeDiff, hj, encSet_app, ← take_succ' hx]
      rw [h1, decide_eq_false h2, Bool.not_false, Bool.true_and, Bool.true_and, ← take_succ' hx] at hv
      refine hK _ _ (i + 1) (⟨by omega, hv⟩) (by first | omega | (simp only []; omega) | (simp; omega)) ?_; (try dsimp only); (try simp only [ hw]); first | exact ghL (hs1 (i + 1)) | exact ghL0 (hs1 (i + 1))
  · have hlt : ¬ ((i : Int) < (t.facts.length : Int)) := by omega
    rw [drop_len h, namesFrom] at hv
    simp only [go_sem, Int.reduceToNat, Int.reduceLE, Int.reduceLT, Nat.reduceBEq, Nat.reduceLT, Nat.reduceAdd, Nat.reduceLeDiff, hlt, hE, encTask]
    rw [hv, Bool.true_and]
    clear hK hE hR
    have hs2 : ∀ i, IdsS (σ ++ [AObj.row (encTask t), AObj.map (encSet t.facts), AObj.map (encSet ((t.actions.take i).map (·.name)))]).length (σ ++ [AObj.row (encTask t), AObj.map (encSet t.facts), AObj.map (encSet ((t.actions.take i).map (·.name)))]) := fun i => idsS_app _ hσ (all_cons' (idsO_row (ids_encTask t)) (all_cons' (ids_encSet _) (all_cons' (ids_encSet _) all_nil')))
    have ht : t.facts.take i = t.facts := List.take_of_length_le (by omega)
    rw [ht]
    refine wpc_while (fun i => [(3, .int .i64 t.facts.length), (4, .map (σ.length + 2)), (57, .slice .unk (t.actions.map encA)), (58, .int .i64 t.actions.length), (59, .int .i64 (i : Nat))])
      (fun i => σ ++ [.row (encTask t), .map (encSet t.facts), .map (encSet ((t.actions.take i).map (·.name)))]) (fun i => i ≤ t.actions.length ∧ actsFrom t.facts.length [] t.actions = actsFrom t.facts.length ((t.actions.take i).map (·.name)) (t.actions.drop i)) (fun i => t.actions.length - i) 0 ⟨Nat.zero_le _, rfl⟩ (by (try dsimp only); first | exact ghL (hs2 0) | exact ghL0 (hs2 0)) ?_
    clear hv h hi
    rintro i ⟨hi, hv⟩ K hK hE hR
    by_cases h : i < t.actions.length
    · obtain ⟨a, hx⟩ := get_ex h; have hlt : ((i : Int) < (t.actions.length : Int)) := (by omega); have hw : IntKind.i64.wrap ((i : Int) + 1) = ((i + 1 : Nat) : Int) := (by rw [wrap_ok (by omega)]; omega)
      have ha := List.mem_of_getElem? hx
      rw [drop_cons hx, actsFrom] at hv
      simp only [go_sem, Int.reduceToNat, Int.reduceLE, Int.reduceLT, Nat.reduceBEq, Nat.reduceLT, Nat.reduceAdd, Nat.reduceLeDiff, hlt, hx, encA]
      refine (name_spec a.name _ (hb.name a ha)).is ?_
      cases n1 : nameB a.name
      · simp only [go_sem, Int.reduceToNat, Int.reduceLE, Int.reduceLT, Nat.reduceBEq, Nat.reduceLT, Nat.reduceAdd, Nat.reduceLeDiff, hR]
        first | exact rtk (.bool false) ⟨by rw [hv, n1]; rfl, rfl⟩ | exact rtk0 (.bool false) ⟨by rw [hv, n1]; rfl, rfl⟩
      rw [n1, Bool.true_and] at hv
      by_cases n2 : a.name ∈ (t.actions.take i).map (·.name)
      · obtain ⟨j, hj⟩ := find_in a.name _ 0 n2
        simp only [go_sem, Int.reduceToNat, Int.reduceLE, Int.reduceLT, Nat.reduceBEq, Nat.reduceLT, Nat.reduceAdd, Nat.reduceLeDiff, hj, hR]
        first | exact rtk (.bool false) ⟨by rw [hv, decide_eq_true n2]; rfl, rfl⟩ | exact rtk0 (.bool false) ⟨by rw [hv, decide_eq_true n2]; rfl, rfl⟩
      have hj := find_out a.name _ 0 n2
      rw [decide_eq_false n2, Bool.not_false, Bool.true_and, actB] at hv
      by_cases a1 : a.cost < 0
      · simp only [go_sem, Int.reduceToNat, Int.reduceLE, Int.reduceLT, Nat.reduceBEq, Nat.reduceLT, Nat.reduceAdd, Nat.reduceLeDiff, hj, a1, hR]
        first | exact rtk (.bool false) ⟨by rw [hv, decide_eq_false (by omega : ¬ 0 ≤ a.cost)]; rfl, rfl⟩ | exact rtk0 (.bool false) ⟨by rw [hv, decide_eq_false (by omega : ¬ 0 ≤ a.cost)]; rfl, rfl⟩
      by_cases a2 : a.cost > 100000
      · simp only [go_sem, Int.reduceToNat, Int.reduceLE, Int.reduceLT, Nat.reduceBEq, Nat.reduceLT, Nat.reduceAdd, Nat.reduceLeDiff, hj, a1, a2, hR]
        first | exact rtk (.bool false) ⟨by rw [hv, decide_eq_false (by omega : ¬ a.cost ≤ 100000), Bool.false_and, Bool.and_false]; rfl, rfl⟩ | exact rtk0 (.bool false) ⟨by rw [hv, decide_eq_false (by omega : ¬ a.cost ≤ 100000), Bool.false_and, Bool.and_false]; rfl, rfl⟩
      rw [decide_eq_true (by omega : 0 ≤ a.cost), decide_eq_true (by omega : a.cost ≤ 100000), Bool.true_and, Bool.true_and] at hv
      simp only [go_sem, Int.reduceToNat, Int.reduceLE, Int.reduceLT, Nat.reduceBEq, Nat.reduceLT, Nat.reduceAdd, Nat.reduceLeDiff, hj, a1, a2]
      refine (cond_spec a.pre t.facts.length _ _ (hb.pre a ha)).is ?_
      cases a3 : condB t.facts.length (-1) a.pre
      · simp only [go_sem, Int.reduceToNat, Int.reduceLE, Int.reduceLT, Nat.reduceBEq, Nat.reduceLT, Nat.reduceAdd, Nat.reduceLeDiff, hR]
        first | exact rtk (.bool false) ⟨by rw [hv, a3]; rfl, rfl⟩ | exact rtk0 (.bool false) ⟨by rw [hv, a3]; rfl, rfl⟩
      rw [a3, Bool.true_and] at hv
      by_cases a4 : (a.effects.length : Int) > 100
      · simp only [go_sem, Int.reduceToNat, Int.reduceLE, Int.reduceLT, Nat.reduceBEq, Nat.reduceLT, Nat.reduceAdd, Nat.reduceLeDiff, a4, hR]
        first | exact rtk (.bool false) ⟨by rw [hv, decide_eq_false (by omega : ¬ a.effects.length ≤ 100)]; rfl, rfl⟩ | exact rtk0 (.bool false) ⟨by rw [hv, decide_eq_false (by omega : ¬ a.effects.length ≤ 100)]; rfl, rfl⟩
      rw [decide_eq_true (by omega : a.effects.length ≤ 100), Bool.true_and] at hv
      have hc : (t.actions.take i).map (·.name) ++ [a.name] = (t.actions.take (i + 1)).map (·.name) := by rw [take_succ' hx]; simp
      rw [hc] at hv
      simp only [go_sem, Int.reduceToNat, Int.reduceLE, Int.reduceLT, Nat.reduceBEq, Nat.reduceLT, Nat.reduceAdd, Nat.reduceLeDiff, a4, hj, encSet_app, hc]
      refine wpc_while (fun j => [(3, .int .i64 t.facts.length), (4, .map (σ.length + 2)), (57, .slice .unk (t.actions.map encA)), (58, .int .i64 t.actions.length), (59, .int .i64 (i : Nat)), (100, .slice .unk (a.effects.map encE)), (101, .int .i64 a.effects.length), (102, .int .i64 (j : Nat))])
        (fun j => σ ++ [.row (encTask t), .map (encSet t.facts), .map (encSet ((t.actions.take (i + 1)).map (·.name)))]) (fun j => j ≤ a.effects.length ∧ actsFrom t.facts.length [] t.actions = ((a.effects.drop j).all (effB t.facts.length) && actsFrom t.facts.length ((t.actions.take (i + 1)).map (·.name)) (t.actions.drop (i + 1)))) (fun j => a.effects.length - j) 0 ⟨Nat.zero_le _, hv⟩ (by (try dsimp only); first | exact ghL (hs2 (i + 1)) | exact ghL0 (hs2 (i + 1))) ?_
      rintro j ⟨hj', hvj⟩ K' hK' hE' hR'
      by_cases hj : j < a.effects.length
      · obtain ⟨e, hxj⟩ := get_ex hj; have hltj : ((j : Int) < (a.effects.length : Int)) := (by omega); have hwj : IntKind.i64.wrap ((j : Int) + 1) = ((j + 1 : Nat) : Int) := (by rw [wrap_ok (by omega)]; omega)
        have he := List.mem_of_getElem? hxj
        rw [drop_cons hxj, List.all_cons] at hvj
        simp only [go_sem, Int.reduceToNat, Int.reduceLE, Int.reduceLT, Nat.reduceBEq, Nat.reduceLT, Nat.reduceAdd, Nat.reduceLeDiff, hltj, hxj, encE]
        refine (cond_spec e.when_ t.facts.length _ _ (hb.whens a ha e he)).is ?_
        cases b1 : condB t.facts.length (-1) e.when_
        · simp only [go_sem, Int.reduceToNat, Int.reduceLE, Int.reduceLT, Nat.reduceBEq, Nat.reduceLT, Nat.reduceAdd, Nat.reduceLeDiff, hR', hR]
          first | exact rtk (.bool false) ⟨by rw [hvj, effB, b1]; rfl, rfl⟩ | exact rtk0 (.bool false) ⟨by rw [hvj, effB, b1]; rfl, rfl⟩
        rw [effB, b1, Bool.true_and] at hvj
        by_cases b2 : e.lit.fact < 0
        · simp only [go_sem, Int.reduceToNat, Int.reduceLE, Int.reduceLT, Nat.reduceBEq, Nat.reduceLT, Nat.reduceAdd, Nat.reduceLeDiff, b2, hR', hR]
          first | exact rtk (.bool false) ⟨by rw [hvj, decide_eq_false (by omega : ¬ 0 ≤ e.lit.fact)]; rfl, rfl⟩ | exact rtk0 (.bool false) ⟨by rw [hvj, decide_eq_false (by omega : ¬ 0 ≤ e.lit.fact)]; rfl, rfl⟩
        by_cases b3 : e.lit.fact ≥ t.facts.length
        · simp only [go_sem, Int.reduceToNat, Int.reduceLE, Int.reduceLT, Nat.reduceBEq, Nat.reduceLT, Nat.reduceAdd, Nat.reduceLeDiff, b2, b3, hR', hR]
          first | exact rtk (.bool false) ⟨by rw [hvj, decide_eq_false (by omega : ¬ e.lit.fact < t.facts.length), Bool.and_false]; rfl, rfl⟩ | exact rtk0 (.bool false) ⟨by rw [hvj, decide_eq_false (by omega : ¬ e.lit.fact < t.facts.length), Bool.and_false]; rfl, rfl⟩
        rw [decide_eq_true (by omega : 0 ≤ e.lit.fact), decide_eq_true (by omega : e.lit.fact < t.facts.length), Bool.true_and, Bool.true_and] at hvj
        simp only [go_sem, Int.reduceToNat, Int.reduceLE, Int.reduceLT, Nat.reduceBEq, Nat.reduceLT, Nat.reduceAdd, Nat.reduceLeDiff, b2, b3]
        refine hK' _ _ (j + 1) ⟨by omega, hvj⟩ (by omega) ?_
        exact (by (try dsimp only); (try simp only [ hwj]); first | exact ghL (hs2 (i + 1)) | exact ghL0 (hs2 (i + 1)))
      · have hltj : ¬ ((j : Int) < (a.effects.length : Int)) := by omega
        rw [drop_len hj, List.all_nil, Bool.true_and] at hvj
        simp only [go_sem, Int.reduceToNat, Int.reduceLE, Int.reduceLT, Nat.reduceBEq, Nat.reduceLT, Nat.reduceAdd, Nat.reduceLeDiff, hltj, hE']
        refine hK _ _ (i + 1) (⟨by omega, hvj⟩) (by first | omega | (simp only []; omega) | (simp; omega)) ?_; (try dsimp only); (try simp only [ hw]); first | exact ghL (hs2 (i + 1)) | exact ghL0 (hs2 (i + 1))
    · have hlt : ¬ ((i : Int) < (t.actions.length : Int)) := by omega
      rw [drop_len h] at hv
      simp only [go_sem, Int.reduceToNat, Int.reduceLE, Int.reduceLT, Nat.reduceBEq, Nat.reduceLT, Nat.reduceAdd, Nat.reduceLeDiff, hlt, hE]
      first | exact rtk (.bool true) ⟨by rw [hv]; rfl, rfl⟩ | exact rtk0 (.bool true) ⟨by rw [hv]; rfl, rfl⟩
end Go.Proofs.YtocphglkceidhaaGreat
namespace Go.Proofs.YtocphglkceidhaaGreat
open Go.Ahl
/-- The place of the first element of a kind, counted from k, or -1. -/
def idxFrom {α : Type} (p : α → Bool) : Int → List α → Int
  | _, [] => -1
  | k, x :: l => if p x then k else idxFrom p (k + 1) l
theorem idxFrom_ge {α : Type} (p : α → Bool) : ∀ (l : List α) (k : Int), 0 ≤ k → decide (idxFrom p k l ≥ 0) = l.any p
  | [], k, h => by simp [idxFrom]
  | x :: l, k, h => by
    rw [idxFrom, List.any_cons]
    cases hx : p x
    · simp only [Bool.false_eq_true, if_false, Bool.false_or]; exact idxFrom_ge p l (k + 1) (by omega)
    · simp [h]
def c_indexFuncC : CCode := .seq (.ops [⟨some 4, .move (.lit (.int .i64 0)), none, []⟩]) (.seq (.seq (.ops [⟨some 6, .move (.tmp 0), none, []⟩, ⟨some 7, .blen 1 (.tmp 6), none, []⟩, ⟨some 8, .move (.lit (.int .i64 0)), none, []⟩]) (.block 0 (.loop (.seq (.ops [⟨some 9, .bin .lss .none (.tmp 8) (.tmp 7), none, []⟩]) (.seq (.cond (.tmp 9) .skip (.exit 0)) (.seq (.block 1 (.seq (.ops [⟨some 10, .move (.tmp 8), none, []⟩, ⟨some 5, .move (.tmp 10), none, []⟩]) (.seq (.ops [⟨some 11, .move (.tmp 1), none, []⟩, ⟨some 12, .move (.tmp 0), none, []⟩, ⟨some 13, .move (.tmp 5), none, []⟩, ⟨some 14, .iaddr 1 (.tmp 12) (.tmp 13), none, []⟩, ⟨some 15, .load none (.tmp 14), none, []⟩, ⟨some 16, .call (.tmp 11) [.tmp 15], none, []⟩]) (.cond (.tmp 16) (.seq (.ops [⟨some 17, .move (.tmp 5), none, []⟩, ⟨some 4, .move (.tmp 17), none, []⟩]) .ret) .skip)))) (.ops [⟨some 18, .bin .add .none (.tmp 8) (.lit (.int .i64 1)), none, []⟩, ⟨some 8, .move (.tmp 18), none, []⟩]))))))) (.seq (.ops [⟨some 4, .move (.lit (.int .i64 (-1))), none, []⟩]) .ret))
set_option maxRecDepth 20000 in
theorem indexFuncC_spec {α : Type} (v : α → AV) (l : List α) (g : FuncId) (cap : List AV) (p : α → Bool) (tok : Tok) (σ : Store) (hl : l.length ≤ 140737488355328)
    (hp : ∀ x ∈ l, ACalls Tryz.prog g (v x :: cap) σ (isR (.bool (p x)) σ)) :
    ACalls Tryz.prog 89 [.slice tok (l.map fun x => [v x]), .func g cap] σ (isR (.int .i64 (idxFrom p 0 l)) σ) := by
  refine ACalls.intro (rs := [(.tmp 4)]) (by kernel_rfl) { own := [], ghosts := [] } Tryz.func89 (c := Tryz.f89.body.getD .skip) (by kernel_rfl) (by decide) (by rw [show Tryz.f89.ntmps = 19 by kernel_rfl]; exact Nat.le_of_ble_eq_true rfl) (by kernel_rfl) ?_
  intro hσ hids
  rw [show comp Tryz.prog { own := [], ghosts := [] } (Tryz.f89.body.getD .skip) = c_indexFuncC by kernel_rfl, show Tryz.f89.ntmps = 19 by kernel_rfl]
  unfold c_indexFuncC
  have hil : Ids σ.length (.slice tok (l.map fun x => [v x])) := hids _ (by simp)
  have hif : Ids σ.length (.func g cap) := hids _ (by simp)
  simp only [go_sem, Int.reduceToNat, Int.reduceLE, Int.reduceLT, Nat.reduceBEq, Nat.reduceLT, Nat.reduceAdd, Nat.reduceLeDiff]
  refine wpc_while (fun i => [(0, .slice tok (l.map fun x => [v x])), (1, .func g cap), (7, .int .i64 l.length), (8, .int .i64 (i : Nat))]) (fun _ => σ) (fun i => i ≤ l.length ∧ idxFrom p 0 l = idxFrom p i (l.drop i)) (fun i => l.length - i) 0 ⟨Nat.zero_le _, rfl⟩ (by (try dsimp only); first | exact ghk | exact ghk0) ?_
  rintro i ⟨hi, hv⟩ K hK hE hR
  by_cases h : i < l.length
  · obtain ⟨y, hx⟩ := get_ex h; have hlt : ((i : Int) < (l.length : Int)) := (by omega); have hw : IntKind.i64.wrap ((i : Int) + 1) = ((i + 1 : Nat) : Int) := (by rw [wrap_ok (by omega)]; omega)
    rw [drop_cons hx, idxFrom] at hv
    simp only [go_sem, Int.reduceToNat, Int.reduceLE, Int.reduceLT, Nat.reduceBEq, Nat.reduceLT, Nat.reduceAdd, Nat.reduceLeDiff, hlt, hx]
    refine (hp y (List.mem_of_getElem? hx)).is ?_
    cases h1 : p y
    · simp only [go_sem, Int.reduceToNat, Int.reduceLE, Int.reduceLT, Nat.reduceBEq, Nat.reduceLT, Nat.reduceAdd, Nat.reduceLeDiff]
      rw [h1, if_neg (by simp)] at hv
      refine hK _ _ (i + 1) (⟨by omega, by rw [hv]; norm_cast⟩) (by first | omega | (simp only []; omega) | (simp; omega)) ?_; (try dsimp only); (try simp only [ hw]); first | exact ghk | exact ghk0
    · rw [h1, if_pos rfl] at hv
      simp only [go_sem, Int.reduceToNat, Int.reduceLE, Int.reduceLT, Nat.reduceBEq, Nat.reduceLT, Nat.reduceAdd, Nat.reduceLeDiff, hR]
      first | exact rtk (.int .i64 i) ⟨by rw [hv], rfl⟩ | exact rtk0 (.int .i64 i) ⟨by rw [hv], rfl⟩
  · have hlt : ¬ ((i : Int) < (l.length : Int)) := by omega
    rw [drop_len h] at hv
    simp only [go_sem, Int.reduceToNat, Int.reduceLE, Int.reduceLT, Nat.reduceBEq, Nat.reduceLT, Nat.reduceAdd, Nat.reduceLeDiff, hlt, hE]
    first | exact rtk (.int .i64 (-1)) ⟨by rw [hv]; rfl, rfl⟩ | exact rtk0 (.int .i64 (-1)) ⟨by rw [hv]; rfl, rfl⟩
def c_indexFuncL : CCode := .seq (.ops [⟨some 4, .move (.lit (.int .i64 0)), none, []⟩]) (.seq (.seq (.ops [⟨some 6, .move (.tmp 0), none, []⟩, ⟨some 7, .blen 1 (.tmp 6), none, []⟩, ⟨some 8, .move (.lit (.int .i64 0)), none, []⟩]) (.block 0 (.loop (.seq (.ops [⟨some 9, .bin .lss .none (.tmp 8) (.tmp 7), none, []⟩]) (.seq (.cond (.tmp 9) .skip (.exit 0)) (.seq (.block 1 (.seq (.ops [⟨some 10, .move (.tmp 8), none, []⟩, ⟨some 5, .move (.tmp 10), none, []⟩]) (.seq (.ops [⟨some 11, .move (.tmp 1), none, []⟩, ⟨some 12, .move (.tmp 0), none, []⟩, ⟨some 13, .move (.tmp 5), none, []⟩, ⟨some 14, .iaddr 2 (.tmp 12) (.tmp 13), none, []⟩, ⟨some 15, .load (some 2) (.tmp 14), none, []⟩, ⟨some 16, .call (.tmp 11) [.tmp 15], none, []⟩]) (.cond (.tmp 16) (.seq (.ops [⟨some 17, .move (.tmp 5), none, []⟩, ⟨some 4, .move (.tmp 17), none, []⟩]) .ret) .skip)))) (.ops [⟨some 18, .bin .add .none (.tmp 8) (.lit (.int .i64 1)), none, []⟩, ⟨some 8, .move (.tmp 18), none, []⟩]))))))) (.seq (.ops [⟨some 4, .move (.lit (.int .i64 (-1))), none, []⟩]) .ret))
set_option maxRecDepth 20000 in
theorem indexFuncL_spec (l : List FLit) (g : FuncId) (cap : List AV) (p : FLit → Bool) (tok : Tok) (σ : Store) (hl : l.length ≤ 140737488355328)
    (hp : ∀ x ∈ l, ACalls Tryz.prog g (.agg (encLit x) :: cap) σ (isR (.bool (p x)) σ)) :
    ACalls Tryz.prog 158 [.slice tok (l.map encLit), .func g cap] σ (isR (.int .i64 (idxFrom p 0 l)) σ) := by
  refine ACalls.intro (rs := [(.tmp 4)]) (by kernel_rfl) { own := [], ghosts := [] } Tryz.func158 (c := Tryz.f158.body.getD .skip) (by kernel_rfl) (by decide) (by rw [show Tryz.f158.ntmps = 19 by kernel_rfl]; exact Nat.le_of_ble_eq_true rfl) (by kernel_rfl) ?_
  intro hσ hids
  rw [show comp Tryz.prog { own := [], ghosts := [] } (Tryz.f158.body.getD .skip) = c_indexFuncL by kernel_rfl, show Tryz.f158.ntmps = 19 by kernel_rfl]
  unfold c_indexFuncL
  have hil : Ids σ.length (.slice tok (l.map encLit)) := hids _ (by simp)
  have hif : Ids σ.length (.func g cap) := hids _ (by simp)
  simp only [go_sem, Int.reduceToNat, Int.reduceLE, Int.reduceLT, Nat.reduceBEq, Nat.reduceLT, Nat.reduceAdd, Nat.reduceLeDiff]
  refine wpc_while (fun i => [(0, .slice tok (l.map encLit)), (1, .func g cap), (7, .int .i64 l.length), (8, .int .i64 (i : Nat))]) (fun _ => σ) (fun i => i ≤ l.length ∧ idxFrom p 0 l = idxFrom p i (l.drop i)) (fun i => l.length - i) 0 ⟨Nat.zero_le _, rfl⟩ (by (try dsimp only); first | exact ghk | exact ghk0) ?_
  rintro i ⟨hi, hv⟩ K hK hE hR
  by_cases h : i < l.length
  · obtain ⟨y, hx⟩ := get_ex h; have hlt : ((i : Int) < (l.length : Int)) := (by omega); have hw : IntKind.i64.wrap ((i : Int) + 1) = ((i + 1 : Nat) : Int) := (by rw [wrap_ok (by omega)]; omega)
    rw [drop_cons hx, idxFrom] at hv
    simp only [go_sem, Int.reduceToNat, Int.reduceLE, Int.reduceLT, Nat.reduceBEq, Nat.reduceLT, Nat.reduceAdd, Nat.reduceLeDiff, hlt, hx, encLit]
    refine (hp y (List.mem_of_getElem? hx)).is ?_
    cases h1 : p y
    · simp only [go_sem, Int.reduceToNat, Int.reduceLE, Int.reduceLT, Nat.reduceBEq, Nat.reduceLT, Nat.reduceAdd, Nat.reduceLeDiff]
      rw [h1, if_neg (by simp)] at hv
      refine hK _ _ (i + 1) (⟨by omega, by rw [hv]; norm_cast⟩) (by first | omega | (simp only []; omega) | (simp; omega)) ?_; (try dsimp only); (try simp only [ hw]); first | exact ghk | exact ghk0
    · rw [h1, if_pos rfl] at hv
      simp only [go_sem, Int.reduceToNat, Int.reduceLE, Int.reduceLT, Nat.reduceBEq, Nat.reduceLT, Nat.reduceAdd, Nat.reduceLeDiff, hR]
      first | exact rtk (.int .i64 i) ⟨by rw [hv], rfl⟩ | exact rtk0 (.int .i64 i) ⟨by rw [hv], rfl⟩
  · have hlt : ¬ ((i : Int) < (l.length : Int)) := by omega
    rw [drop_len h] at hv
    simp only [go_sem, Int.reduceToNat, Int.reduceLE, Int.reduceLT, Nat.reduceBEq, Nat.reduceLT, Nat.reduceAdd, Nat.reduceLeDiff, hlt, hE]
    first | exact rtk (.int .i64 (-1)) ⟨by rw [hv]; rfl, rfl⟩ | exact rtk0 (.int .i64 (-1)) ⟨by rw [hv]; rfl, rfl⟩
def c_containsFuncC : CCode := .seq (.ops [⟨some 4, .move (.lit (.bool false)), none, []⟩]) (.seq (.ops [⟨some 5, .move (.tmp 0), none, []⟩, ⟨some 6, .move (.tmp 1), none, []⟩, ⟨some 7, .call (.lit (.func 89 [])) [.tmp 5, .tmp 6], none, []⟩, ⟨some 8, .bin .geq .none (.tmp 7) (.lit (.int .i64 0)), none, []⟩, ⟨some 4, .move (.tmp 8), none, []⟩]) .ret)
set_option maxRecDepth 20000 in
theorem containsFuncC_spec {α : Type} (v : α → AV) (l : List α) (g : FuncId) (cap : List AV) (p : α → Bool) (tok : Tok) (σ : Store) (hl : l.length ≤ 140737488355328)
    (hp : ∀ x ∈ l, ACalls Tryz.prog g (v x :: cap) σ (isR (.bool (p x)) σ)) :
    ACalls Tryz.prog 56 [.slice tok (l.map fun x => [v x]), .func g cap] σ (isR (.bool (l.any p)) σ) := by
  refine ACalls.intro (rs := [(.tmp 4)]) (by kernel_rfl) { own := [], ghosts := [] } Tryz.func56 (c := Tryz.f56.body.getD .skip) (by kernel_rfl) (by decide) (by rw [show Tryz.f56.ntmps = 9 by kernel_rfl]; exact Nat.le_of_ble_eq_true rfl) (by kernel_rfl) ?_
  intro hσ hids
  rw [show comp Tryz.prog { own := [], ghosts := [] } (Tryz.f56.body.getD .skip) = c_containsFuncC by kernel_rfl, show Tryz.f56.ntmps = 9 by kernel_rfl]
  unfold c_containsFuncC
  simp only [go_sem, Int.reduceToNat, Int.reduceLE, Int.reduceLT, Nat.reduceBEq, Nat.reduceLT, Nat.reduceAdd, Nat.reduceLeDiff]
  refine (indexFuncC_spec v l g cap p tok σ hl hp).is ?_
  simp only [go_sem, Int.reduceToNat, Int.reduceLE, Int.reduceLT, Nat.reduceBEq, Nat.reduceLT, Nat.reduceAdd, Nat.reduceLeDiff, idxFrom_ge p l 0 (Int.le_refl _)]
  first | exact rtw (v := .bool _) wkS ⟨rfl, rfl⟩ | exact rtw0 (v := .bool _) wkS ⟨rfl, rfl⟩
def c_containsFuncL : CCode := .seq (.ops [⟨some 4, .move (.lit (.bool false)), none, []⟩]) (.seq (.ops [⟨some 5, .move (.tmp 0), none, []⟩, ⟨some 6, .move (.tmp 1), none, []⟩, ⟨some 7, .call (.lit (.func 158 [])) [.tmp 5, .tmp 6], none, []⟩, ⟨some 8, .bin .geq .none (.tmp 7) (.lit (.int .i64 0)), none, []⟩, ⟨some 4, .move (.tmp 8), none, []⟩]) .ret)
set_option maxRecDepth 20000 in
theorem containsFuncL_spec (l : List FLit) (g : FuncId) (cap : List AV) (p : FLit → Bool) (tok : Tok) (σ : Store) (hl : l.length ≤ 140737488355328)
    (hp : ∀ x ∈ l, ACalls Tryz.prog g (.agg (encLit x) :: cap) σ (isR (.bool (p x)) σ)) :
    ACalls Tryz.prog 132 [.slice tok (l.map encLit), .func g cap] σ (isR (.bool (l.any p)) σ) := by
  refine ACalls.intro (rs := [(.tmp 4)]) (by kernel_rfl) { own := [], ghosts := [] } Tryz.func132 (c := Tryz.f132.body.getD .skip) (by kernel_rfl) (by decide) (by rw [show Tryz.f132.ntmps = 9 by kernel_rfl]; exact Nat.le_of_ble_eq_true rfl) (by kernel_rfl) ?_
  intro hσ hids
  rw [show comp Tryz.prog { own := [], ghosts := [] } (Tryz.f132.body.getD .skip) = c_containsFuncL by kernel_rfl, show Tryz.f132.ntmps = 9 by kernel_rfl]
  unfold c_containsFuncL
  simp only [go_sem, Int.reduceToNat, Int.reduceLE, Int.reduceLT, Nat.reduceBEq, Nat.reduceLT, Nat.reduceAdd, Nat.reduceLeDiff]
  refine (indexFuncL_spec l g cap p tok σ hl hp).is ?_
  simp only [go_sem, Int.reduceToNat, Int.reduceLE, Int.reduceLT, Nat.reduceBEq, Nat.reduceLT, Nat.reduceAdd, Nat.reduceLeDiff, idxFrom_ge p l 0 (Int.le_refl _)]
  first | exact rtw (v := .bool _) wkS ⟨rfl, rfl⟩ | exact rtw0 (v := .bool _) wkS ⟨rfl, rfl⟩
theorem flat_lit (x y : FLit) : flatEq [1, 0] (encLit x) (encLit y) = some (decide (x = y)) := by
  obtain ⟨a, b⟩ := x; obtain ⟨c, d⟩ := y
  simp only [encLit, flatEq, cellEq, if_true]
  congr 1
  by_cases h1 : a = c <;> by_cases h2 : b = d <;> simp [h1, h2]
/-- Are all literals of the first among the second's? -/
def withinB (a b : List FLit) : Bool := !(a.any fun x => !(b.contains x))
theorem any_not {α : Type} (p : α → Bool) (l : List α) : (!(l.any fun x => !(p x))) = l.all p := by
  induction l with
  | nil => rfl
  | cons x l ih => rw [List.any_cons, List.all_cons, Bool.not_or, ih, Bool.not_not]
/-- A formula whose lists are not too long. -/
def FB (f : List (List FLit)) : Prop := f.length ≤ 140737488355328 ∧ ∀ l ∈ f, l.length ≤ 140737488355328
def lessI (a b : FLit) : Int := if a.fact = b.fact then (if a.neg = b.neg then 0 else if b.neg then -1 else 1) else a.fact - b.fact
/-- Facts that are numbers of facts. -/
def litOk (x : FLit) : Prop := 0 ≤ x.fact ∧ x.fact ≤ 1073741824
def cmpLits : List FLit → List FLit → Int
  | [], [] => 0
  | [], _ :: _ => -1
  | _ :: _, [] => 1
  | a :: l, b :: r => if lessI a b = 0 then cmpLits l r else lessI a b
def orderI (a b : List FLit) : Int := if a.length = b.length then cmpLits a b else (a.length : Int) - b.length
end Go.Proofs.YtocphglkceidhaaGreat
namespace Go.Proofs.YtocphglkceidhaaGreat
open Go.Ahl
def okI (n : Int) : Prop := -9223372036854775808 ≤ n ∧ n ≤ 9223372036854775807
theorem rd_int : Reads Tryz.prog 3 Ahl.encI okI := .int Tryz.underlying3
theorem rd_str : Reads Tryz.prog 9 encT (fun s => s.size ≤ 140737488355328) := .str Tryz.underlying9
theorem rd_lit : Reads Tryz.prog 68 encLit (fun _ => True) :=
  (Reads.struct Tryz.underlying68 (by kernel_rfl) (ReadsFs.cons (by rfl) rd_int (.cons (by kernel_rfl) (.bool Tryz.underlying4) (.nil _)))).conv (fun x => ⟨x.1, x.2.1⟩) (fun x => rfl) (fun _ _ => trivial)
theorem rd_strs : Reads Tryz.prog 22 (Ahl.encS encT) (okL fun s => s.size ≤ 140737488355328) := .slice Tryz.underlying22 (Nat.le_of_ble_eq_true (by kernel_rfl)) (Nat.le_of_ble_eq_true (by kernel_rfl)) rd_str
theorem rd_ints : Reads Tryz.prog 23 (Ahl.encS Ahl.encI) (okL okI) := .slice Tryz.underlying23 (Nat.le_of_ble_eq_true (by kernel_rfl)) (Nat.le_of_ble_eq_true (by kernel_rfl)) rd_int
theorem rd_lits : Reads Tryz.prog 24 (Ahl.encS encLit) (okL fun _ => True) := .slice Tryz.underlying24 (Nat.le_of_ble_eq_true (by kernel_rfl)) (Nat.le_of_ble_eq_true (by kernel_rfl)) rd_lit
theorem rd_form : Reads Tryz.prog 28 (Ahl.encS encC) (fun f => FB f) :=
  (Reads.slice Tryz.underlying28 (Nat.le_of_ble_eq_true (by kernel_rfl)) (Nat.le_of_ble_eq_true (by kernel_rfl)) rd_lits).conv id (fun _ => rfl) (fun f h => ⟨h.1, fun l hl => (h.2 l hl).1⟩)
theorem rd_eff : Reads Tryz.prog 70 encE (fun e => e.when_.length ≤ 140737488355328) :=
  (Reads.struct Tryz.underlying70 (by kernel_rfl) (ReadsFs.cons (by rfl) rd_lits (.cons (by kernel_rfl) rd_lit (.nil _)))).conv (fun x => ⟨x.1, x.2.1⟩) (fun x => rfl) (fun x h => h.1.1)
theorem rd_effs : Reads Tryz.prog 71 (Ahl.encS encE) (okL fun e => e.when_.length ≤ 140737488355328) := .slice Tryz.underlying71 (Nat.le_of_ble_eq_true (by kernel_rfl)) (Nat.le_of_ble_eq_true (by kernel_rfl)) rd_eff
structure AB (a : FAct) : Prop where
  name : a.name.data.toList.length ≤ 140737488355328
  pre : a.pre.length ≤ 140737488355328
  effects : a.effects.length ≤ 140737488355328
  whens : ∀ e ∈ a.effects, e.when_.length ≤ 140737488355328
theorem rd_act : Reads Tryz.prog 73 encA AB :=
  (Reads.struct Tryz.underlying73 (by kernel_rfl) (ReadsFs.cons (by rfl) rd_str (.cons (by kernel_rfl) rd_int (.cons (by kernel_rfl) rd_lits (.cons (by kernel_rfl) rd_effs (.nil _)))))).conv (fun x => ⟨x.1, x.2.1, x.2.2.1, x.2.2.2.1⟩) (fun x => rfl) (fun x h => ⟨h.1, h.2.2.1.1, h.2.2.2.1.1, h.2.2.2.1.2⟩)
theorem rd_acts : Reads Tryz.prog 25 (Ahl.encS encA) (okL AB) := .slice Tryz.underlying25 (Nat.le_of_ble_eq_true (by kernel_rfl)) (Nat.le_of_ble_eq_true (by kernel_rfl)) rd_act
theorem rd_task : Reads Tryz.prog 27 encTask TB :=
  (Reads.struct Tryz.underlying27 (by kernel_rfl) (ReadsFs.cons (by rfl) rd_strs (.cons (by kernel_rfl) rd_ints (.cons (by kernel_rfl) rd_lits (.cons (by kernel_rfl) rd_acts (.nil _)))))).conv (fun x => ⟨x.1, x.2.1, x.2.2.1, x.2.2.2.1⟩) (fun x => rfl)
    (fun x h => ⟨h.1.1, h.1.2, h.2.1.1, h.2.2.1.1, h.2.2.2.1.1, fun a ha => (h.2.2.2.1.2 a ha).name, fun a ha => (h.2.2.2.1.2 a ha).pre, fun a ha => (h.2.2.2.1.2 a ha).effects, fun a ha => (h.2.2.2.1.2 a ha).whens⟩)
theorem ra_task : RArg Tryz.prog 27 (fun t => .agg (encTask t)) TB := .agg rd_task Tryz.underlying27
theorem ra_form : RArg Tryz.prog 28 (fun f : List (List FLit) => .slice .unk (f.map encC)) FB := .one rd_form (by intro d h; rw [Tryz.underlying28] at h; injection h with h; subst h; rfl)
theorem laidOut : laidOutB Tryz.prog = true := by kernel_rfl
theorem own : ownKnob Tryz.prog.godebug = none := by kernel_rfl
theorem rdble {ts : List TypeId} (h : (ts.all fun t => Tryz.prog.readableRec t && decide (t < Tryz.prog.types.size)) = true) : ∀ t ∈ ts, Tryz.prog.readableRec t = true ∧ t < Tryz.prog.types.size := by
  intro t ht
  have := List.all_eq_true.1 h t ht
  rw [Bool.and_eq_true] at this
  exact ⟨this.1, of_decide_eq_true this.2⟩
end Go.Proofs.YtocphglkceidhaaGreat
namespace Go.Proofs.YtocphglkceidhaaGreat
open Go.Ahl
def c_cloneL : CCode := .seq (.ops [⟨some 2, .move (.lit (.slice .nil [])), none, []⟩]) (.seq (.seq (.ops [⟨some 3, .move (.tmp 0), none, []⟩, ⟨some 4, .bin .eql .slice (.tmp 3) (.lit (.slice .nil [])), none, []⟩]) (.cond (.tmp 4) (.seq (.ops [⟨some 2, .move (.lit (.slice .nil [])), none, []⟩]) .ret) .skip)) (.seq (.ops [⟨some 5, .bslice 2 [] false, none, []⟩, ⟨some 6, .move (.tmp 0), none, []⟩, ⟨some 7, .bappend 2 16 (.tmp 5) (.tmp 6) false, none, []⟩, ⟨some 2, .move (.tmp 7), none, []⟩]) .ret))
set_option maxRecDepth 20000 in
theorem cloneL_specF (l : List FLit) (tok : Tok) (σ : Store) (hl : l.length ≤ 1073741824) :
    ACalls Tryz.prog 96 [.slice tok (l.map encLit)] σ (isR (.slice .fresh (l.map encLit)) σ) := by
  refine ACalls.intro (rs := [(.tmp 2)]) (by kernel_rfl) { own := [], ghosts := [] } Tryz.func96 (c := Tryz.f96.body.getD .skip) (by kernel_rfl) (by decide) (by rw [show Tryz.f96.ntmps = 8 by kernel_rfl]; exact Nat.le_of_ble_eq_true rfl) (by kernel_rfl) ?_
  intro hσ hids
  rw [show comp Tryz.prog { own := [], ghosts := [] } (Tryz.f96.body.getD .skip) = c_cloneL by kernel_rfl, show Tryz.f96.ntmps = 8 by kernel_rfl]
  unfold c_cloneL
  have hbig : bigLen l.length 16 := big_ok (by omega) (by omega)
  simp only [go_sem, Int.reduceToNat, Int.reduceLE, Int.reduceLT, Nat.reduceBEq, Nat.reduceLT, Nat.reduceAdd, Nat.reduceLeDiff]
  intro b hb
  cases b
  · have hall : ∀ x ∈ l, (encLit x).length = 2 ∧ (encLit x).all AV.one = true := fun x _ => ⟨rfl, rfl⟩
    simp only [go_sem, Int.reduceToNat, Int.reduceLE, Int.reduceLT, Nat.reduceBEq, Nat.reduceLT, Nat.reduceAdd, Nat.reduceLeDiff, hbig]
    refine ⟨hall, ?_⟩
    first | exact rtk (.slice .fresh (l.map encLit)) ⟨rfl, rfl⟩ | exact rtk0 (.slice .fresh (l.map encLit)) ⟨rfl, rfl⟩
  · have hl0 : l = [] := by
      cases l with
      | nil => rfl
      | cons x l => exact absurd (hb (by simp)) (by simp)
    subst hl0
    simp only [go_sem, Int.reduceToNat, Int.reduceLE, Int.reduceLT, Nat.reduceBEq, Nat.reduceLT, Nat.reduceAdd, Nat.reduceLeDiff]
    first | exact rtk (.slice .fresh []) ⟨rfl, rfl⟩ | exact rtk0 (.slice .fresh []) ⟨rfl, rfl⟩
end Go.Proofs.YtocphglkceidhaaGreat
namespace Go.Proofs.YtocphglkceidhaaGreat
open Go.Ahl
/-! ### The order of conditions is total -/
def keyL (x : FLit) : Int := 2 * x.fact + (if x.neg then 1 else 0)
theorem lessI_neg (a b : FLit) : (lessI a b < 0) = (keyL a < keyL b) := by
  unfold lessI keyL
  apply propext
  by_cases h : a.fact = b.fact
  · rw [if_pos h, h]; cases a.neg <;> cases b.neg <;> simp <;> omega
  · rw [if_neg h]; cases a.neg <;> cases b.neg <;> simp <;> omega
theorem lessI_zero (a b : FLit) : (lessI a b = 0) = (keyL a = keyL b) := by
  unfold lessI keyL
  apply propext
  by_cases h : a.fact = b.fact
  · rw [if_pos h, h]; cases a.neg <;> cases b.neg <;> simp <;> omega
  · rw [if_neg h]; cases a.neg <;> cases b.neg <;> simp <;> omega
theorem keyL_inj {a b : FLit} (h : keyL a = keyL b) : a = b := by
  obtain ⟨f, n⟩ := a; obtain ⟨g, k⟩ := b
  unfold keyL at h
  cases n <;> cases k <;> simp at h <;> first | (have : f = g := by omega); subst this; rfl | omega
theorem cmp_refl : ∀ a : List FLit, cmpLits a a = 0
  | [] => rfl
  | x :: l => by rw [cmpLits, if_pos (by rw [lessI_zero]), cmp_refl l]
theorem cmp_anti : ∀ {a b : List FLit}, cmpLits a b = 0 → a = b
  | [], [], _ => rfl
  | [], _ :: _, h => by simp [cmpLits] at h
  | _ :: _, [], h => by simp [cmpLits] at h
  | x :: a, y :: b, h => by
    rw [cmpLits] at h
    by_cases h0 : lessI x y = 0
    · rw [if_pos h0] at h
      rw [lessI_zero] at h0
      rw [keyL_inj h0, cmp_anti h]
    · rw [if_neg h0] at h; exact absurd h h0
theorem cmp_swap : ∀ {a b : List FLit}, cmpLits a b < 0 ↔ 0 < cmpLits b a
  | [], [] => by simp [cmpLits]
  | [], _ :: _ => by simp [cmpLits]
  | _ :: _, [] => by simp [cmpLits]
  | x :: a, y :: b => by
    rw [cmpLits, cmpLits]
    by_cases h0 : lessI x y = 0
    · have h1 : lessI y x = 0 := by rw [lessI_zero] at h0 ⊢; exact h0.symm
      rw [if_pos h0, if_pos h1]; exact cmp_swap
    · have h1 : ¬ lessI y x = 0 := by rw [lessI_zero] at h0 ⊢; exact fun e => h0 e.symm
      rw [if_neg h0, if_neg h1]
      have e1 := lessI_neg x y
      have e2 := lessI_neg y x
      rw [lessI_zero] at h0
      rw [e1]
      constructor
      · intro h
        rcases Int.lt_trichotomy (lessI y x) 0 with q | q | q
        · rw [e2] at q; omega
        · exact absurd q h1
        · exact q
      · intro h
        have : ¬ keyL y < keyL x := fun q => by rw [← e2] at q; omega
        omega
theorem cmp_trans : ∀ {a b c : List FLit}, cmpLits a b < 0 → cmpLits b c < 0 → cmpLits a c < 0
  | [], [], _, h, _ => by simp [cmpLits] at h
  | _ :: _, [], _, h, _ => by simp [cmpLits] at h
  | _, _ :: _, [], _, h => by simp [cmpLits] at h
  | [], _ :: _, _ :: _, _, _ => by simp [cmpLits]
  | x :: a, y :: b, z :: c, h, k => by
    rw [cmpLits] at h k ⊢
    by_cases h0 : lessI x y = 0
    · rw [if_pos h0] at h
      rw [lessI_zero] at h0
      have hxy := keyL_inj h0; subst hxy
      by_cases k0 : lessI x z = 0
      · rw [if_pos k0] at k ⊢; exact cmp_trans h k
      · rw [if_neg k0] at k ⊢; exact k
    · rw [if_neg h0, lessI_neg] at h
      by_cases k0 : lessI y z = 0
      · rw [lessI_zero] at k0
        have hyz := keyL_inj k0; subst hyz
        rw [if_neg h0, lessI_neg]; exact h
      · rw [if_neg k0, lessI_neg] at k
        rw [if_neg (by rw [lessI_zero]; omega), lessI_neg]; omega
theorem order_refl (a : List FLit) : orderI a a = 0 := by rw [orderI, if_pos rfl, cmp_refl]
theorem order_anti {a b : List FLit} (h : orderI a b = 0) : a = b := by
  unfold orderI at h
  by_cases hl : a.length = b.length
  · rw [if_pos hl] at h; exact cmp_anti h
  · rw [if_neg hl] at h; omega
theorem order_swap {a b : List FLit} : orderI a b < 0 ↔ 0 < orderI b a := by
  unfold orderI
  by_cases hl : a.length = b.length
  · rw [if_pos hl, if_pos hl.symm]; exact cmp_swap
  · rw [if_neg hl, if_neg (fun e => hl e.symm)]; omega
theorem order_trans {a b c : List FLit} (h : orderI a b < 0) (k : orderI b c < 0) : orderI a c < 0 := by
  unfold orderI at h k ⊢
  by_cases hl : a.length = b.length
  · rw [if_pos hl] at h
    by_cases kl : b.length = c.length
    · rw [if_pos kl] at k; rw [if_pos (hl.trans kl)]; exact cmp_trans h k
    · rw [if_neg kl] at k; rw [if_neg (by omega)]; omega
  · rw [if_neg hl] at h
    by_cases kl : b.length = c.length
    · rw [if_neg (by omega)]; omega
    · rw [if_neg kl] at k; rw [if_neg (by omega)]; omega
theorem order_le_total (a b : List FLit) : orderI a b ≤ 0 ∨ orderI b a ≤ 0 := by
  rcases Int.lt_trichotomy (orderI a b) 0 with h | h | h
  · exact .inl (by omega)
  · exact .inl (by omega)
  · have := (order_swap (a := b) (b := a)).2 h; exact .inr (by omega)
theorem order_le_trans {a b c : List FLit} (h : orderI a b ≤ 0) (k : orderI b c ≤ 0) : orderI a c ≤ 0 := by
  rcases Int.lt_or_eq_of_le h with h | h
  · rcases Int.lt_or_eq_of_le k with k | k
    · exact Int.le_of_lt (order_trans h k)
    · rw [← order_anti k]; exact Int.le_of_lt h
  · rw [order_anti h]; exact k
def insO (x : List FLit) : List (List FLit) → List (List FLit)
  | [] => [x]
  | y :: l => if orderI x y ≤ 0 then x :: y :: l else y :: insO x l
/-- The terms in order. -/
def sortO : List (List FLit) → List (List FLit)
  | [] => []
  | x :: l => insO x (sortO l)
theorem insO_perm (x : List FLit) : ∀ l, (insO x l).Perm (x :: l)
  | [] => .refl _
  | y :: l => by
    rw [insO]
    split
    · exact .refl _
    · exact ((insO_perm x l).cons y).trans (.swap x y l)
theorem sortO_perm : ∀ l, (sortO l).Perm l
  | [] => .refl _
  | x :: l => (insO_perm x (sortO l)).trans ((sortO_perm l).cons x)
def leO (a b : List FLit) : Prop := orderI a b ≤ 0
theorem insO_sorted (x : List FLit) : ∀ {l}, l.Pairwise leO → (insO x l).Pairwise leO
  | [], _ => by simp [insO]
  | y :: l, h => by
    rw [insO]
    rw [List.pairwise_cons] at h
    split
    · rename_i hxy
      refine List.pairwise_cons.2 ⟨fun z hz => ?_, List.pairwise_cons.2 h⟩
      rcases List.mem_cons.1 hz with rfl | hz
      · exact hxy
      · exact order_le_trans hxy (h.1 z hz)
    · rename_i hxy
      refine List.pairwise_cons.2 ⟨fun z hz => ?_, insO_sorted x h.2⟩
      rcases List.mem_cons.1 ((insO_perm x l).mem_iff.1 hz) with rfl | hz
      · rcases order_le_total z y with q | q
        · exact absurd q hxy
        · exact q
      · exact h.1 z hz
theorem sortO_sorted : ∀ l, (sortO l).Pairwise leO
  | [] => .nil
  | x :: l => insO_sorted x (sortO_sorted l)
/-! ### Reduced formulas -/
def redLoop : List (List FLit) → List (List FLit) → List (List FLit)
  | out, [] => out
  | out, x :: l => if out.any (fun y => withinB y x) then redLoop out l else redLoop (out ++ [x]) l
/-- The reduced form of a formula. -/
def reducedL (f : List (List FLit)) : List (List FLit) := redLoop [] (sortO f)
end Go.Proofs.YtocphglkceidhaaGreat
/- The abstract layer, part 20: the library's sorting of rows of one cell an element, told of rows of one's own. -/
namespace Go.Ahl
open Go.Sort Go.Shelf Go.RowKit Go.Lib Go.Proofs
/-- The memory, without what may be written to at any time. -/
def Mem.strip (m : Mem) : Mem := { m with wk := fun _ _ => none }
theorem SRel.strip {m : Mem} {loc : List Loc} {σ : Store} {w : World} (h : SRel m loc σ w) (hr : ∀ a v, Rel m loc a v → Rel m.strip loc a v) : SRel m.strip loc σ w where
  len := h.len
  im := h.im
  bs := h.bs
  obj i l o h1 h2 := by
    have := h.obj i l o h1 h2
    cases l with
    | nowhere => cases o <;> exact this
    | blk b =>
      cases o with
      | dead => trivial
      | grow sz n => exact this
      | vec sz n cells => exact this
      | row cells =>
        obtain ⟨arr, t, h1, h2, h3, h4, h5⟩ := this
        exact ⟨arr, t, h1, h2, h3, fun j x v e1 e2 => hr _ _ (h4 j x v e1 e2), h5⟩
      | map es =>
        obtain ⟨en, c, h1, h2⟩ := this
        exact ⟨en, c, h1, ⟨h2.len, fun i k x e a b => ⟨hr _ _ (h2.key i k x e a b).1, hr _ _ (h2.key i k x e a b).2⟩, h2.born, h2.apart⟩⟩
      | iter es seen =>
        rcases this with ⟨h1, h2⟩ | ⟨q, en, c, sa, st, h1, h2, h3, h4⟩
        · exact .inl ⟨h1, h2⟩
        · exact .inr ⟨q, en, c, sa, st, h1, h2, ⟨h3.len, fun i k x e a b => ⟨hr _ _ (h3.key i k x e a b).1, hr _ _ (h3.key i k x e a b).2⟩, h3.born, h3.apart⟩, h4⟩
    | tok sz f =>
      cases o with
      | vec sz' n cells =>
        obtain ⟨h0, h1, h2, h3⟩ := this
        refine ⟨h0, h1, h2, ?_⟩
        rcases h3 with h3 | ⟨b, arr, t, g1, g2, g3, g4, g5, g6⟩
        · exact .inl h3
        · exact .inr ⟨b, arr, t, g1, g2, g3, g4, fun j x v e1 e2 => hr _ _ (g5 j x v e1 e2), g6⟩
      | _ => exact this
  inj := h.inj
  lt := h.lt
  mp := h.mp
  mpo := h.mpo
  ok := ⟨h.ok.low, h.ok.own, fun _ _ _ e => by simp [Mem.strip] at e, h.ok.fz⟩
theorem Rel.strip {m : Mem} {a : AV} {v : Value} (h : Rel m [] a v) : Rel m.strip [] a v := by
  generalize hl : ([] : List Loc) = loc at h
  induction h with
  | any v => exact .any v
  | bool b => exact .bool b
  | int k n => exact .int k n
  | str s => exact .str s
  | slice tok elems a cap sz b o f hcap htok hsz ha hc hr ih =>
    refine .slice tok elems a cap sz b o f hcap ?_ hsz ha hc ih
    cases tok <;> exact htok
  | ref id sz off len cap b n h1 h2 h3 h4 => exact .ref id sz off len cap b n h1 h2 h3 h4
  | ref0 id sz off a h1 => exact .ref0 id sz off a h1
  | vec id sz len cap f a h1 h2 h3 => exact .vec id sz len cap f a h1 h2 h3
  | ptr id off b h1 => exact .ptr id off b h1
  | rptr cells b o f hc hr ih => exact .rptr cells b o f hc ih
  | map id b h1 => exact .map id b h1
  | mapnil => exact .mapnil
  | func fn c vs h1 h2 ih => exact .func fn c vs h1 ih
  | agg c vs h1 h2 ih => exact .agg c vs h1 ih
  | tuple c vs h1 h2 ih => exact .tuple c vs h1 ih
  | conc v => exact .conc v
  | cell K v h => exact .cell K v h
  | wslice elems a cap sz b o f hl' => subst hl; simp at hl'
  | wptr cells b o f hl' => subst hl; simp at hl'
theorem world_of_ext {m m' : Mem} {loc' : List Loc} {w w' : World} (h : Ext 0 m [] w m' loc' w') (hz : ∀ b o, m.wk b o = none) : ∃ q os', w' = grow (w.drewN q) os' := by
  refine ⟨w'.drawn - w.drawn, w'.heap.extract w.heap.size w'.heap.size, ?_⟩
  have hn : ∀ b, ¬ Names [] b := by rintro b ⟨i, e | ⟨_, _, _, e, _⟩⟩ <;> simp at e
  have h1 := h.os; have h2 := h.tape; have h3 := h.output; have h4 := h.drawn
  have hh : w'.heap = w.heap ++ w'.heap.extract w.heap.size w'.heap.size := by
    apply Array.ext_getElem?
    intro k
    rw [Array.getElem?_append]
    by_cases hk : k < w.heap.size
    · rw [if_pos hk]; exact h.frame k hk (hn k) (hz k)
    · rw [if_neg hk, Array.getElem?_extract]
      by_cases hk2 : k < w'.heap.size
      · rw [if_pos (by omega)]; congr 1; omega
      · rw [if_neg (by omega), Array.getElem?_eq_none (by omega)]
  cases w; cases w'
  simp only at h1 h2 h3 h4 hh
  subst h1; subst h2; subst h3
  simp only [grow, World.drewN, World.mk.injEq, true_and, and_true]
  exact ⟨hh, by omega⟩
theorem srel_base {m : Mem} {loc : List Loc} {σ : Store} {w : World} (h : SRel m loc σ w) : SRel m [] [] w := by
  have := h.take 0 (fun i o e => by simp at e)
  simpa using this
section
variable {α : Type} [Inhabited α] (enc : α → Value) (w : World) (blk off n : Nat) (d : Array α) (os : Array Obj)
theorem size_sortWorld : (sortWorld enc w blk off n d os).heap.size = w.heap.size + os.size := by
  simp [sortWorld, Sort.ahead]
theorem sortWorld_other {k : Nat} (hk : k < w.heap.size) (hne : k ≠ blk) : (sortWorld enc w blk off n d os).heap[k]? = w.heap[k]? := by
  show ((putRow enc (Sort.ahead w n) blk off d).heap ++ os)[k]? = _
  rw [Array.getElem?_append_left (by simpa [Sort.ahead] using hk)]
  show (w.heap.modify blk _)[k]? = _
  rw [Array.getElem?_modify, if_neg (fun e => hne e.symm)]
theorem sortWorld_own {arr : Array Value} {t : TypeId} {fz : Nat × Nat} (h : w.heap[blk]? = some (.cells arr t fz)) : (sortWorld enc w blk off n d os).heap[blk]? = some (.cells (putCells enc off d arr) t fz) := by
  have hk : blk < w.heap.size := by
    rcases Nat.lt_or_ge blk w.heap.size with q | q
    · exact q
    · rw [Array.getElem?_eq_none q] at h; simp at h
  show ((putRow enc (Sort.ahead w n) blk off d).heap ++ os)[blk]? = _
  rw [Array.getElem?_append_left (by simpa [Sort.ahead] using hk)]
  show (w.heap.modify blk _)[blk]? = _
  rw [Array.getElem?_modify, if_pos rfl, h]; rfl
theorem size_putCells (arr : Array Value) : (putCells enc off d arr).size = arr.size := by simp [putCells]
end
theorem srel_sorted {α : Type} [Inhabited α] (enc : α → Value) {m : Mem} {w : World} (blk off n : Nat) (d : Array α) (os : Array Obj) (h : SRel m [] [] w) (hb : ∀ o, m.im blk o = none) (hbm : m.mp blk = none) (hz : ∀ b o, m.wk b o = none) : SRel m [] [] (sortWorld enc w blk off n d os) := by
  refine ⟨rfl, ?_, ?_, by intro i l o e; simp at e, by intro i j l l' o o' b e; simp at e, by rintro b ⟨i, e | ⟨_, _, _, e, _⟩⟩ <;> simp at e, ?_, by intro i l o b e; simp at e, ?_⟩
  · intro b o v e
    have hne : b ≠ blk := fun q => by subst q; rw [hb] at e; simp at e
    have := h.im b o v e
    have hlt := h.im_lt e
    unfold World.cell? at this ⊢
    rw [sortWorld_other enc w blk off n d os hlt hne]; exact this
  · intro b k e
    obtain ⟨arr, t, fz, h1, h2⟩ := h.bs b k e
    by_cases hne : b = blk
    · subst hne; exact ⟨_, t, fz, sortWorld_own enc w b off n d os h1, by rw [size_putCells]; exact h2⟩
    · exact ⟨arr, t, fz, by rw [sortWorld_other enc w blk off n d os (h.bs_lt e) hne]; exact h1, h2⟩
  · intro b e q
    have hne : b ≠ blk := fun q' => by subst q'; rw [hbm] at q; simp at q
    rw [sortWorld_other enc w blk off n d os (h.mp_lt q) hne]; exact h.mp b e q
  · refine ⟨by rw [size_sortWorld]; exact Nat.le_trans h.ok.low (Nat.le_add_right _ _), by rintro b ⟨i, e | ⟨_, _, _, e, _⟩⟩ <;> simp at e, fun b o K e => by rw [hz] at e; simp at e, fun b o v q e => ?_⟩
    have hne : b ≠ blk := fun q' => by subst q'; rw [hb] at e; simp at e
    rw [frozen_same (sortWorld_other enc w blk off n d os (h.im_lt e) hne)]; exact h.ok.fz b o v q e
theorem rel_ref {m : Mem} {loc : List Loc} {id sz off len : Nat} {v : Value} (h : Rel m loc (.ref id sz off len) v) :
    (∃ cap b n, v = .slice (some ⟨b, off, none⟩) len cap ∧ loc[id]? = some (.blk b) ∧ len ≤ cap ∧ m.bs b = some n ∧ off + cap * sz ≤ n) ∨ (len = 0 ∧ ∃ a, v = .slice a 0 0) := by
  cases h with
  | ref _ _ _ _ cap b n h1 h2 h3 h4 => exact .inl ⟨cap, b, n, rfl, h1, h2, h3, h4⟩
  | ref0 _ _ _ a _ => exact .inr ⟨rfl, a, rfl⟩
section
variable {P : Program} {ρ : Ren} {β : Type}
/-- slices.SortFunc at rows of one cell an element, by an order that only looks at its two elements. -/
theorem sort1 (L : SlLaysF.n6 P ρ) {fn gn : Func} (hf : P.funcs[ρ.f 6]? = some fn) (hfb : fn.body.isSome = true) (hfn : fn.name ≠ "runtime.NumGoroutine") (av : β → AV) (ok : β → Prop) (cf : β → β → Int)
    (hone : ∀ b, (av b).one = true) (hids : ∀ b, Ids 0 (av b)) (b0 : β) (v0 : Value) (hb0 : ok b0) (hv0 : ∀ m, Rel m [] (av b0) v0)
    (irr : ∀ x, ok x → ¬ cf x x < 0) (tr : ∀ x y z, ok x → ok y → ok z → cf x y < 0 → cf y z < 0 → cf x z < 0) (ntr : ∀ x y z, ok x → ok y → ok z → ¬ cf x y < 0 → ¬ cf y z < 0 → ¬ cf x z < 0)
    (g : FuncId) (hg : P.funcs[g]? = some gn) (hgb : gn.body.isSome = true) (hgn : (gn.name == "runtime.NumGoroutine") = false) (hcmp : ∀ x y, ok x → ok y → ACalls P g [av x, av y] [] (isR (.int .i64 (cf x y)) []))
    (id : Nat) (l : List β) (hl : ∀ x ∈ l, ok x) (σ : Store) (hσ : σ[id]? = some (.row (l.map av))) (hlen : l.length < 4611686018427387904) :
    ACalls P (ρ.f 6) [.ref id 1 0 l.length, .func g []] σ fun r σ' => r = .tuple [] ∧ ∃ l' : List β, l'.Perm l ∧ l'.Pairwise (fun x y => ¬ cf y x < 0) ∧ σ' = σ.set id (.row (l'.map av)) := by
  intro m loc w vs hs ha
  refine .inl ⟨fn, hf, hfb, hfn, ?_⟩
  obtain ⟨v, u, rfl, h1, h2⟩ := ha.two
  cases h2 with
  | func _ _ us hlenu _ =>
  have hus : us = #[] := Array.size_eq_zero_iff.1 hlenu
  subst hus
  have hid := lt_of_get hσ
  have hloc : loc[id]? = some (loc[id]'(by rw [hs.len]; exact hid)) := List.getElem?_eq_getElem _
  by_cases hl0 : l.length = 0
  · have hlnil : l = [] := List.length_eq_zero_iff.1 hl0
    subst hlnil
    have key : ∀ a c, v = .slice a 0 c → Calls P (ρ.f 6) #[v, .func (.func g) #[] #[]] w fun e w' => ∃ v', e = .returned v' ∧ ARet loc m w (fun r σ' => r = .tuple [] ∧ ∃ l' : List β, l'.Perm [] ∧ l'.Pairwise (fun x y => ¬ cf y x < 0) ∧ σ' = σ.set id (.row (l'.map av))) v' w' := by
      rintro a c rfl
      refine (AnyF.slices_SortFunc_none (P := P) (ρ := ρ) { L with } a c _ w).mono ?_
      rintro e w' ⟨rfl, rfl⟩
      refine ⟨_, rfl, .tuple [], σ, m, loc, ⟨rfl, [], .refl _, .nil, ?_⟩, .tuple [] #[] rfl (by simp), hs, .refl _ _ _ _⟩
      rw [← set_same hσ]; simp
    rcases rel_ref h1 with ⟨cap, b, n, q0, _⟩ | ⟨_, a, q0⟩
    · exact key _ _ q0
    · exact key _ _ q0
  · rcases rel_ref h1 with ⟨cap, blk, n, q0, q1, q2, q3, q4⟩ | ⟨q0, _⟩
    rotate_left
    · exact absurd q0 hl0
    · subst q0
      obtain ⟨arr, t, e1, e2, e3, e4, e5⟩ := hs.obj id _ _ q1 hσ
      have e3 : l.length ≤ arr.size := by simpa using e3
      let A := { p : β × Value // ok p.1 ∧ Rel m [] (av p.1) p.2 }
      letI : Inhabited A := ⟨⟨(b0, v0), hb0, hv0 m⟩⟩
      let enc : A → Value := fun x => x.1.2
      let cfA : A → A → Int := fun x y => cf x.1.1 y.1.1
      have hrel : ∀ j (hj : j < l.length), Rel m [] (av l[j]) (arr[j]'(by omega)) := by
        intro j hj
        have := e4 j (av l[j]) (arr[j]'(by omega)) (by rw [List.getElem?_map, List.getElem?_eq_getElem hj]; rfl) (Array.getElem?_eq_getElem _)
        have := this.take (n := 0) (hids _)
        simpa using this
      let d : Array A := Array.ofFn fun j : Fin l.length => ⟨(l[j.1], arr[j.1]'(by omega)), hl _ (List.getElem_mem _), hrel j.1 j.2⟩
      have hds : d.size = l.length := by simp [d]
      have hdj : ∀ j (hj : j < l.length), (d[j]!).1 = (l[j], arr[j]'(by omega)) := by
        intro j hj
        rw [getElem!_pos d j (by rw [hds]; exact hj)]
        simp [d]
      have hdl : d.toList.map (·.1.1) = l := by
        apply List.ext_getElem (by simp [hds])
        intro j h1 h2
        simp [d]
      have hO : SWO (ltOf cfA) := by
        refine ⟨fun x => ?_, fun x y z a b => ?_, fun x y z a b => ?_⟩
        · exact decide_eq_false (irr _ x.2.1)
        · exact decide_eq_true (tr _ _ _ x.2.1 y.2.1 z.2.1 (of_decide_eq_true a) (of_decide_eq_true b))
        · exact decide_eq_false (ntr _ _ _ x.2.1 y.2.1 z.2.1 (of_decide_eq_false a) (of_decide_eq_false b))
      have hgc : ∃ c, gn.body = some c := Option.isSome_iff_exists.1 hgb
      obtain ⟨gc, hgc⟩ := hgc
      have hH : Holds enc w blk 0 d := by
        intro j hj
        rw [hds] at hj
        have : enc d[j]! = arr[j]'(by omega) := by show (d[j]!).1.2 = _; rw [hdj j hj]
        rw [this, Nat.zero_add]
        refine ⟨by simp [World.cell?, e1], by simp [World.frozen?, e1]⟩
      have hblk : blk < w.heap.size := hs.lt blk ⟨id, .inl q1⟩
      have hbase := srel_base hs
      have hlays : CmpLays1 P g #[] enc cfA blk 0 d.size w := by
        intro n' os dk hsz x y
        have hS := srel_sorted (m := m.strip) enc blk 0 n' dk os (hbase.strip fun _ _ q => q.strip) e5 (hs.mpo id _ _ blk q1 hσ rfl) (fun _ _ => rfl)
        have hA : ArgsRel m.strip [] [av x.1.1, av y.1.1] (#[enc x, enc y] ++ #[]) := by
          refine ⟨rfl, fun j a v => ?_⟩
          match j with
          | 0 => intro r1 r2; simp at r1 r2; subst r1; subst r2; exact x.2.2.strip
          | 1 => intro r1 r2; simp at r1 r2; subst r1; subst r2; exact y.2.2.strip
          | j + 2 => intro r1; simp at r1
        refine ((hcmp x.1.1 y.1.1 x.2.1 y.2.1).calls hg hgb (by simpa using hgn) hS hA).mono ?_
        rintro e w' ⟨v, rfl, r, σ', m', loc', ⟨rfl, rfl⟩, r1, r2, r3⟩
        cases r1
        exact ⟨rfl, world_of_ext r3 (fun _ _ => rfl)⟩
      have hmain := Any.slices_SortFunc L enc (fun x => rel_one x.2.2 (hone _)) cfA hO g #[] blk 0 cap d w (enters_of hg hgn hgc) hlays hH hblk (by rw [hds]; exact hlen)
      rw [hds] at hmain
      refine hmain.mono ?_
      rintro e w' ⟨rfl, d', n', os, hperm, hsorted, rfl⟩
      obtain ⟨p1, _, p3⟩ := hperm
      have hd's : d'.size = l.length := p1.trans hds
      have ex : ∀ x : Array A, x.size = l.length → (x.extract 0 l.length).toList = x.toList := fun x hx => by rw [← hx]; simp
      rw [ex d' hd's, ex d hds] at p3
      let l' : List β := d'.toList.map (·.1.1)
      have hl's : l'.length = l.length := by simp [l', hd's]
      have hset : loc.set id (.blk blk) = loc := set_same q1
      have key := hs.turn loc.length (m' := m) (w' := sortWorld enc w blk 0 n' d' os) (l' := .blk blk) (.row (l'.map av)) q1 hσ (.refl m) (.refl _)
        (fun k hk hne => sortWorld_other enc w blk 0 n' d' os hk (fun q => hne (by subst q; rfl))) (by rw [size_sortWorld]; omega) (fun _ _ _ _ => rfl) ?_ ?_ ?_ (fun b q => .inl q) ?_ rfl rfl rfl (by simp [sortWorld, grow, putRow, mapBlock, Sort.ahead])
      · rw [hset] at key
        refine ⟨_, rfl, .tuple [], _, m, loc, ⟨rfl, l', ?_, ?_, rfl⟩, .tuple [] #[] rfl (by simp), key.1, key.2⟩
        · have := p3.map (fun x : A => x.1.1); rw [hdl] at this; exact this
        · rw [List.pairwise_iff_getElem]
          intro i j hi hj hij
          have := hsorted i j (Nat.zero_le _) hij (by rw [← hl's]; exact hj)
          rw [getElem!_pos d' j (by rw [hd's, ← hl's]; exact hj), getElem!_pos d' i (by rw [hd's, ← hl's]; exact hi)] at this
          have := of_decide_eq_false this
          simpa [l', cfA] using this
      · intro k o v hk e'
        rcases hk with hk | hk
        · simp [own] at hk; subst hk; rw [e5] at e'; simp at e'
        · have := hs.im_lt e'; omega
      · intro k z hz
        by_cases hk : k = blk
        · subst hk
          refine .inr ⟨_, t, _, sortWorld_own enc w k 0 n' d' os e1, ?_⟩
          rw [size_putCells]
          rw [e2] at hz; injection hz
        · exact .inl ⟨hz, by simp [own]; exact fun q => hk q.symm⟩
      · rintro b ⟨_, _, _, e, _⟩; simp at e
      · refine ⟨_, t, sortWorld_own enc w blk 0 n' d' os e1, by rw [size_putCells]; exact e2, by rw [size_putCells, List.length_map, hl's]; exact e3, ?_, e5⟩
        rw [hset]
        intro j x v hj hv'
        have hjl : j < l.length := by have := lt_of_get hj; simpa [hl's] using this
        have hjd : j < d'.size := by rw [hd's]; exact hjl
        have hx : x = av (d'[j]).1.1 := by
          simp only [l', List.getElem?_map, Array.getElem?_toList, Array.getElem?_eq_getElem hjd, Option.map_some, Option.some.injEq] at hj
          exact hj.symm
        have hvv : v = (d'[j]).1.2 := by
          simp only [putCells, Array.getElem?_mapIdx, Array.getElem?_eq_getElem (by omega : j < arr.size), Option.map_some, Option.some.injEq] at hv'
          rw [if_pos (by omega), Nat.sub_zero, getElem!_pos d' j hjd] at hv'
          exact hv'.symm
        subst hx; subst hvv
        exact (d'[j]).2.2.mono (.refl m) (fun i l hi => by simp at hi)
end
end Go.Ahl
namespace Go.Proofs
open Go.Shelf Go.RowKit Go.Lib Go.Sort
end Go.Proofs
namespace Go.Proofs.YtocphglkceidhaaGreat
open Go.Ahl
/-- A condition of facts that are numbers, not too long. -/
def cOk (l : List FLit) : Prop := l.length ≤ 1073741824 ∧ ∀ x ∈ l, litOk x
/-- A formula of such, not too long. -/
def fOk (f : List (List FLit)) : Prop := f.length ≤ 1073741824 ∧ ∀ l ∈ f, cOk l
end Go.Proofs.YtocphglkceidhaaGreat
namespace Go.Proofs.YtocphglkceidhaaGreat
open Go.Ahl
/-! ### Conditions of n facts -/
def cV (n : Int) (l : List FLit) : Prop := condB n (-1) l = true
def vF (n : Int) (f : List (List FLit)) : Prop := ∀ l ∈ f, cV n l
theorem condB_cons {n p : Int} {x : FLit} {l : List FLit} (h : condB n p (x :: l) = true) : p < x.fact ∧ x.fact < n ∧ condB n x.fact l = true := by
  rw [condB, Bool.and_eq_true, Bool.and_eq_true] at h
  exact ⟨of_decide_eq_true h.1.1, of_decide_eq_true h.1.2, h.2⟩
theorem condB_len {n : Int} : ∀ {l : List FLit} {p : Int}, condB n p l = true → l = [] ∨ (l.length : Int) ≤ n - 1 - p
  | [], _, _ => .inl rfl
  | x :: l, p, h => by
    obtain ⟨h1, h2, h3⟩ := condB_cons h
    rcases condB_len h3 with rfl | h4
    · right; simp; omega
    · right; simp; omega
theorem condB_mem {n : Int} : ∀ {l : List FLit} {p : Int}, condB n p l = true → ∀ x ∈ l, p < x.fact ∧ x.fact < n
  | [], _, _, x, hx => by simp at hx
  | y :: l, p, h, x, hx => by
    obtain ⟨h1, h2, h3⟩ := condB_cons h
    rcases List.mem_cons.1 hx with rfl | hx
    · exact ⟨h1, h2⟩
    · have := condB_mem h3 x hx; exact ⟨by omega, this.2⟩
theorem cV.ok {n : Int} (hn : n ≤ 1000000) {l : List FLit} (h : cV n l) : cOk l := by
  refine ⟨?_, fun x hx => ?_⟩
  · rcases condB_len h with rfl | h
    · simp
    · omega
  · have := condB_mem h x hx; exact ⟨by omega, by omega⟩
theorem vF.ok {n : Int} (hn : n ≤ 1000000) {f : List (List FLit)} (h : vF n f) (hl : f.length ≤ 1073741824) : fOk f := ⟨hl, fun l hl => (h l hl).ok hn⟩
theorem redLoop_mem : ∀ (l out : List (List FLit)) x, x ∈ redLoop out l → x ∈ out ∨ x ∈ l
  | [], out, x, h => .inl h
  | y :: l, out, x, h => by
    rw [redLoop] at h
    split at h
    · rcases redLoop_mem l out x h with h | h
      · exact .inl h
      · exact .inr (List.mem_cons_of_mem _ h)
    · rcases redLoop_mem l _ x h with h | h
      · rcases List.mem_append.1 h with h | h
        · exact .inl h
        · rw [List.mem_singleton.1 h]; exact .inr List.mem_cons_self
      · exact .inr (List.mem_cons_of_mem _ h)
theorem reducedL_mem {f : List (List FLit)} {x : List FLit} (h : x ∈ reducedL f) : x ∈ f := by
  rcases redLoop_mem _ _ _ h with h | h
  · simp at h
  · exact (sortO_perm f).mem_iff.1 h
theorem reducedL_V {n : Int} {f : List (List FLit)} (h : vF n f) : vF n (reducedL f) := fun l hl => h l (reducedL_mem hl)
end Go.Proofs.YtocphglkceidhaaGreat
namespace Go.Proofs.YtocphglkceidhaaGreat
open Go.Ahl
/-! ### Negation -/
end Go.Proofs.YtocphglkceidhaaGreat
namespace Go.Proofs.YtocphglkceidhaaGreat
open Go.Ahl
/-- An action of n facts. -/
structure AV_ (n : Int) (a : FAct) : Prop where
  pre : cV n a.pre
  whens : ∀ e ∈ a.effects, cV n e.when_
  many : a.effects.length ≤ 1000
end Go.Proofs.YtocphglkceidhaaGreat
namespace Go.Proofs.YtocphglkceidhaaGreat
open Go.Ahl
end Go.Proofs.YtocphglkceidhaaGreat
namespace Go.Proofs.YtocphglkceidhaaGreat
open Go.Ahl
/-! ### What a valid task and formula are -/
theorem valid_facts {t : FTask} (h : validB t = true) : (t.facts.length : Int) ≤ 200 := by
  rw [validB, Bool.and_eq_true] at h
  have := of_decide_eq_true h.1; omega
theorem valid_act {t : FTask} (h : validB t = true) {a : FAct} (ha : a ∈ t.actions) : AV_ t.facts.length a := by
  simp only [validB, Bool.and_eq_true] at h
  have := List.all_eq_true.1 h.2.2.2.2.2.2 a ha
  simp only [actB, Bool.and_eq_true] at this
  obtain ⟨_, _, h3, h4, h5⟩ := this
  refine ⟨h3, fun e he => ?_, by have := of_decide_eq_true h4; omega⟩
  have := List.all_eq_true.1 h5 e he
  simp only [effB, Bool.and_eq_true] at this
  exact this.1
end Go.Proofs.YtocphglkceidhaaGreat
namespace Go.Proofs.YtocphglkceidhaaGreat
open Go.Ahl
end Go.Proofs.YtocphglkceidhaaGreat
namespace Go.Proofs.YtocphglkceidhaaGreat
open Go.Ahl
theorem dec_cons {α : Type} [DecidableEq α] (x y : α) (l m : List α) : decide (x :: l = y :: m) = (decide (x = y) && decide (l = m)) := by
  by_cases h1 : x = y <;> by_cases h2 : l = m <;> simp [h1, h2]
def d_sameLits_0 : List COp := [⟨some 16, .move (.tmp 0), none, []⟩, ⟨some 17, .move (.tmp 5), none, []⟩, ⟨some 18, .iaddr 2 (.tmp 16) (.tmp 17), none, [0, 1]⟩, ⟨some 19, .load (some 2) (.tmp 18), none, [2]⟩, ⟨some 20, .move (.tmp 1), none, []⟩, ⟨some 21, .move (.tmp 5), none, []⟩, ⟨some 22, .iaddr 2 (.tmp 20) (.tmp 21), none, [4, 5]⟩, ⟨some 23, .load (some 2) (.tmp 22), none, [6]⟩, ⟨some 24, .bin .neq (.flat [1, 0]) (.tmp 19) (.tmp 23), none, [3, 7]⟩]
theorem dr_sameLits_0 (P : Program) (nt n0 : Nat) (Q : Post) (s : Slots) (σ : Store) : wpc P nt n0 (.draw d_sameLits_0) Q s σ = aOpsD P nt [⟨some 16, .move (.tmp 0), none, []⟩, ⟨some 17, .move (.tmp 5), none, []⟩, ⟨some 18, .iaddr 2 (.tmp 16) (.tmp 17), none, [0, 1]⟩, ⟨some 19, .load (some 2) (.tmp 18), none, [2]⟩, ⟨some 20, .move (.tmp 1), none, []⟩, ⟨some 21, .move (.tmp 5), none, []⟩, ⟨some 22, .iaddr 2 (.tmp 20) (.tmp 21), none, [4, 5]⟩, ⟨some 23, .load (some 2) (.tmp 22), none, [6]⟩, ⟨some 24, .bin .neq (.flat [1, 0]) (.tmp 19) (.tmp 23), none, [3, 7]⟩] (Q .normal) s σ := wpc_draw _ (by decide)
def c_sameLits : CCode := .seq (.ops [⟨some 4, .move (.lit (.bool false)), none, []⟩]) (.seq (.seq (.ops [⟨some 6, .move (.tmp 0), none, []⟩, ⟨some 7, .blen 1 (.tmp 6), none, []⟩, ⟨some 8, .move (.tmp 1), none, []⟩, ⟨some 9, .blen 1 (.tmp 8), none, []⟩, ⟨some 10, .bin .neq .none (.tmp 7) (.tmp 9), none, []⟩]) (.cond (.tmp 10) (.seq (.ops [⟨some 4, .move (.lit (.bool false)), none, []⟩]) .ret) .skip)) (.seq (.seq (.ops [⟨some 11, .move (.tmp 0), none, []⟩, ⟨some 12, .blen 1 (.tmp 11), none, []⟩, ⟨some 13, .move (.lit (.int .i64 0)), none, []⟩]) (.block 0 (.loop (.seq (.ops [⟨some 14, .bin .lss .none (.tmp 13) (.tmp 12), none, []⟩]) (.seq (.cond (.tmp 14) .skip (.exit 0)) (.seq (.block 1 (.seq (.ops [⟨some 15, .move (.tmp 13), none, []⟩, ⟨some 5, .move (.tmp 15), none, []⟩]) (.seq (.draw d_sameLits_0) (.cond (.tmp 24) (.seq (.ops [⟨some 4, .move (.lit (.bool false)), none, []⟩]) .ret) .skip)))) (.ops [⟨some 25, .bin .add .none (.tmp 13) (.lit (.int .i64 1)), none, []⟩, ⟨some 13, .move (.tmp 25), none, []⟩]))))))) (.seq (.ops [⟨some 4, .move (.lit (.bool true)), none, []⟩]) .ret)))
set_option maxRecDepth 20000 in
theorem sameLits_spec (l m : List FLit) (tok tok' : Tok) (σ : Store) (hl : l.length ≤ 140737488355328) (hm : m.length ≤ 140737488355328) :
    ACalls Tryz.prog 61 [.slice tok (l.map encLit), .slice tok' (m.map encLit)] σ (isR (.bool (decide (l = m))) σ) := by
  refine ACalls.intro (rs := [(.tmp 4)]) (by kernel_rfl) { own := [], ghosts := [] } Tryz.func61 (c := Tryz.f61.body.getD .skip) (by kernel_rfl) (by decide) (by rw [show Tryz.f61.ntmps = 26 by kernel_rfl]; exact Nat.le_of_ble_eq_true rfl) (by kernel_rfl) ?_
  intro hσ hids
  rw [show comp Tryz.prog { own := [], ghosts := [] } (Tryz.f61.body.getD .skip) = c_sameLits by kernel_rfl, show Tryz.f61.ntmps = 26 by kernel_rfl]
  unfold c_sameLits
  have hil : Ids σ.length (.slice tok (l.map encLit)) := hids _ (by simp)
  have him : Ids σ.length (.slice tok' (m.map encLit)) := hids _ (by simp)
  by_cases hlen : l.length = m.length
  · have h' : ((l.length : Int) != m.length) = false := by rw [hlen]; exact bne_self_eq_false _
    simp only [go_sem, Int.reduceToNat, Int.reduceLE, Int.reduceLT, Nat.reduceBEq, Nat.reduceLT, Nat.reduceAdd, Nat.reduceLeDiff, dr_sameLits_0, h']
    refine wpc_while (fun (i : Nat) => [(0, .slice tok (l.map encLit)), (1, .slice tok' (m.map encLit)), (12, .int .i64 l.length), (13, .int .i64 (i : Nat))]) (fun _ => σ) (fun i => i ≤ l.length ∧ decide (l = m) = decide (l.drop i = m.drop i)) (fun i => l.length - i) 0 ⟨Nat.zero_le _, rfl⟩ (by (try dsimp only); first | exact ghk | exact ghk0) ?_
    rintro i ⟨hi, hv⟩ K hK hE hR
    by_cases h : i < l.length
    · obtain ⟨x, hx⟩ := get_ex h; have hlt : ((i : Int) < (l.length : Int)) := (by omega); have hw : IntKind.i64.wrap ((i : Int) + 1) = ((i + 1 : Nat) : Int) := (by rw [wrap_ok (by omega)]; omega)
      obtain ⟨y, hy⟩ : ∃ y, m[i]? = some y := get_ex (by omega)
      rw [drop_cons hx, drop_cons hy, dec_cons] at hv
      have hf := flat_lit x y
      simp only [encLit] at hf
      by_cases h1 : x = y
      · rw [decide_eq_true h1] at hf
        simp only [go_sem, Int.reduceToNat, Int.reduceLE, Int.reduceLT, Nat.reduceBEq, Nat.reduceLT, Nat.reduceAdd, Nat.reduceLeDiff, dr_sameLits_0, hlt, hx, hy, encLit, hf]
        rw [decide_eq_true h1, Bool.true_and] at hv
        refine hK _ _ (i + 1) (⟨by omega, hv⟩) (by first | omega | (simp only []; omega) | (simp; omega)) ?_; (try dsimp only); (try simp only [ hw]); first | exact ghk | exact ghk0
      · rw [decide_eq_false h1] at hf
        simp only [go_sem, Int.reduceToNat, Int.reduceLE, Int.reduceLT, Nat.reduceBEq, Nat.reduceLT, Nat.reduceAdd, Nat.reduceLeDiff, dr_sameLits_0, hlt, hx, hy, encLit, hf, hR]
        rw [decide_eq_false h1, Bool.false_and] at hv
        first | exact rtk (.bool false) ⟨by rw [hv], rfl⟩ | exact rtk0 (.bool false) ⟨by rw [hv], rfl⟩
    · have hlt : ¬ ((i : Int) < (l.length : Int)) := by omega
      rw [drop_len h, drop_len (by omega : ¬ i < m.length)] at hv
      simp only [go_sem, Int.reduceToNat, Int.reduceLE, Int.reduceLT, Nat.reduceBEq, Nat.reduceLT, Nat.reduceAdd, Nat.reduceLeDiff, dr_sameLits_0, hlt, hE]
      first | exact rtk (.bool true) ⟨by rw [hv]; rfl, rfl⟩ | exact rtk0 (.bool true) ⟨by rw [hv]; rfl, rfl⟩
  · have h' : ((l.length : Int) != m.length) = true := by simp; omega
    simp only [go_sem, Int.reduceToNat, Int.reduceLE, Int.reduceLT, Nat.reduceBEq, Nat.reduceLT, Nat.reduceAdd, Nat.reduceLeDiff, dr_sameLits_0, h']
    first | exact rtk (.bool false) ⟨by rw [decide_eq_false (fun e => hlen (by rw [e]))], rfl⟩ | exact rtk0 (.bool false) ⟨by rw [decide_eq_false (fun e => hlen (by rw [e]))], rfl⟩
def d_same07_0 : List COp := [⟨some 16, .move (.tmp 0), none, []⟩, ⟨some 17, .move (.tmp 5), none, []⟩, ⟨some 18, .iaddr 1 (.tmp 16) (.tmp 17), none, [0, 1]⟩, ⟨some 19, .load none (.tmp 18), none, [2]⟩, ⟨some 20, .move (.tmp 1), none, []⟩, ⟨some 21, .move (.tmp 5), none, []⟩, ⟨some 22, .iaddr 1 (.tmp 20) (.tmp 21), none, [4, 5]⟩, ⟨some 23, .load none (.tmp 22), none, [6]⟩, ⟨some 24, .call (.lit (.func 61 [])) [.tmp 19, .tmp 23], none, [3, 7]⟩, ⟨some 25, .un .not (.tmp 24), none, [8]⟩]
theorem dr_same07_0 (P : Program) (nt n0 : Nat) (Q : Post) (s : Slots) (σ : Store) : wpc P nt n0 (.draw d_same07_0) Q s σ = aOpsD P nt [⟨some 16, .move (.tmp 0), none, []⟩, ⟨some 17, .move (.tmp 5), none, []⟩, ⟨some 18, .iaddr 1 (.tmp 16) (.tmp 17), none, [0, 1]⟩, ⟨some 19, .load none (.tmp 18), none, [2]⟩, ⟨some 20, .move (.tmp 1), none, []⟩, ⟨some 21, .move (.tmp 5), none, []⟩, ⟨some 22, .iaddr 1 (.tmp 20) (.tmp 21), none, [4, 5]⟩, ⟨some 23, .load none (.tmp 22), none, [6]⟩, ⟨some 24, .call (.lit (.func 61 [])) [.tmp 19, .tmp 23], none, [3, 7]⟩, ⟨some 25, .un .not (.tmp 24), none, [8]⟩] (Q .normal) s σ := wpc_draw _ (by decide)
def c_same07 : CCode := .seq (.ops [⟨some 4, .move (.lit (.bool false)), none, []⟩]) (.seq (.seq (.ops [⟨some 6, .move (.tmp 0), none, []⟩, ⟨some 7, .blen 1 (.tmp 6), none, []⟩, ⟨some 8, .move (.tmp 1), none, []⟩, ⟨some 9, .blen 1 (.tmp 8), none, []⟩, ⟨some 10, .bin .neq .none (.tmp 7) (.tmp 9), none, []⟩]) (.cond (.tmp 10) (.seq (.ops [⟨some 4, .move (.lit (.bool false)), none, []⟩]) .ret) .skip)) (.seq (.seq (.ops [⟨some 11, .move (.tmp 0), none, []⟩, ⟨some 12, .blen 1 (.tmp 11), none, []⟩, ⟨some 13, .move (.lit (.int .i64 0)), none, []⟩]) (.block 0 (.loop (.seq (.ops [⟨some 14, .bin .lss .none (.tmp 13) (.tmp 12), none, []⟩]) (.seq (.cond (.tmp 14) .skip (.exit 0)) (.seq (.block 1 (.seq (.ops [⟨some 15, .move (.tmp 13), none, []⟩, ⟨some 5, .move (.tmp 15), none, []⟩]) (.seq (.draw d_same07_0) (.cond (.tmp 25) (.seq (.ops [⟨some 4, .move (.lit (.bool false)), none, []⟩]) .ret) .skip)))) (.ops [⟨some 26, .bin .add .none (.tmp 13) (.lit (.int .i64 1)), none, []⟩, ⟨some 13, .move (.tmp 26), none, []⟩]))))))) (.seq (.ops [⟨some 4, .move (.lit (.bool true)), none, []⟩]) .ret)))
set_option maxRecDepth 20000 in
theorem same07_spec (l m : List (List FLit)) (tok tok' : Tok) (σ : Store) (hl : FB l) (hm : FB m) :
    ACalls Tryz.prog 18 [.slice tok (l.map encC), .slice tok' (m.map encC)] σ (isR (.bool (decide (l = m))) σ) := by
  refine ACalls.intro (rs := [(.tmp 4)]) (by kernel_rfl) { own := [], ghosts := [] } Tryz.func18 (c := Tryz.f18.body.getD .skip) (by kernel_rfl) (by decide) (by rw [show Tryz.f18.ntmps = 27 by kernel_rfl]; exact Nat.le_of_ble_eq_true rfl) (by kernel_rfl) ?_
  intro hσ hids
  rw [show comp Tryz.prog { own := [], ghosts := [] } (Tryz.f18.body.getD .skip) = c_same07 by kernel_rfl, show Tryz.f18.ntmps = 27 by kernel_rfl]
  unfold c_same07
  have hl1 := hl.1
  have hil : Ids σ.length (.slice tok (l.map encC)) := hids _ (by simp)
  have him : Ids σ.length (.slice tok' (m.map encC)) := hids _ (by simp)
  by_cases hlen : l.length = m.length
  · have h' : ((l.length : Int) != m.length) = false := by rw [hlen]; exact bne_self_eq_false _
    simp only [go_sem, Int.reduceToNat, Int.reduceLE, Int.reduceLT, Nat.reduceBEq, Nat.reduceLT, Nat.reduceAdd, Nat.reduceLeDiff, dr_same07_0, h']
    refine wpc_while (fun (i : Nat) => [(0, .slice tok (l.map encC)), (1, .slice tok' (m.map encC)), (12, .int .i64 l.length), (13, .int .i64 (i : Nat))]) (fun _ => σ) (fun i => i ≤ l.length ∧ decide (l = m) = decide (l.drop i = m.drop i)) (fun i => l.length - i) 0 ⟨Nat.zero_le _, rfl⟩ (by (try dsimp only); first | exact ghk | exact ghk0) ?_
    rintro i ⟨hi, hv⟩ K hK hE hR
    by_cases h : i < l.length
    · obtain ⟨x, hx⟩ := get_ex h; have hlt : ((i : Int) < (l.length : Int)) := (by omega); have hw : IntKind.i64.wrap ((i : Int) + 1) = ((i + 1 : Nat) : Int) := (by rw [wrap_ok (by omega)]; omega)
      obtain ⟨y, hy⟩ : ∃ y, m[i]? = some y := get_ex (by omega)
      rw [drop_cons hx, drop_cons hy, dec_cons] at hv
      simp only [go_sem, Int.reduceToNat, Int.reduceLE, Int.reduceLT, Nat.reduceBEq, Nat.reduceLT, Nat.reduceAdd, Nat.reduceLeDiff, dr_same07_0, hlt, hx, hy, encC]
      refine ⟨_, sameLits_spec x y .unk .unk _ (hl.2 x (List.mem_of_getElem? hx)) (hm.2 y (List.mem_of_getElem? hy)), ?_⟩
      cases h1 : decide (x = y)
      · rw [h1, Bool.false_and] at hv
        simp only [go_sem, Int.reduceToNat, Int.reduceLE, Int.reduceLT, Nat.reduceBEq, Nat.reduceLT, Nat.reduceAdd, Nat.reduceLeDiff, dr_same07_0, hR]
        first | exact rtk (.bool false) ⟨by rw [hv], rfl⟩ | exact rtk0 (.bool false) ⟨by rw [hv], rfl⟩
      · rw [h1, Bool.true_and] at hv
        simp only [go_sem, Int.reduceToNat, Int.reduceLE, Int.reduceLT, Nat.reduceBEq, Nat.reduceLT, Nat.reduceAdd, Nat.reduceLeDiff, dr_same07_0]
        refine hK _ _ (i + 1) (⟨by omega, hv⟩) (by first | omega | (simp only []; omega) | (simp; omega)) ?_; (try dsimp only); (try simp only [ hw]); first | exact ghk | exact ghk0
    · have hlt : ¬ ((i : Int) < (l.length : Int)) := by omega
      rw [drop_len h, drop_len (by omega : ¬ i < m.length)] at hv
      simp only [go_sem, Int.reduceToNat, Int.reduceLE, Int.reduceLT, Nat.reduceBEq, Nat.reduceLT, Nat.reduceAdd, Nat.reduceLeDiff, dr_same07_0, hlt, hE]
      first | exact rtk (.bool true) ⟨by rw [hv]; rfl, rfl⟩ | exact rtk0 (.bool true) ⟨by rw [hv]; rfl, rfl⟩
  · have h' : ((l.length : Int) != m.length) = true := by simp; omega
    simp only [go_sem, Int.reduceToNat, Int.reduceLE, Int.reduceLT, Nat.reduceBEq, Nat.reduceLT, Nat.reduceAdd, Nat.reduceLeDiff, dr_same07_0, h']
    first | exact rtk (.bool false) ⟨by rw [decide_eq_false (fun e => hlen (by rw [e]))], rfl⟩ | exact rtk0 (.bool false) ⟨by rw [decide_eq_false (fun e => hlen (by rw [e]))], rfl⟩
def c_copyLits : CCode := .seq (.ops [⟨some 2, .move (.lit (.slice .nil [])), none, []⟩]) (.seq (.ops [⟨some 3, .move (.tmp 0), none, []⟩, ⟨some 4, .bappend 2 16 (.lit (.slice .nil [])) (.tmp 3) false, none, []⟩, ⟨some 2, .move (.tmp 4), none, []⟩]) .ret)
set_option maxRecDepth 20000 in
theorem copyLits_spec (l : List FLit) (tok : Tok) (σ : Store) (hl : l.length ≤ 1073741824) :
    ACalls Tryz.prog 62 [.slice tok (l.map encLit)] σ (isR (.slice .unk (l.map encLit)) σ) := by
  refine ACalls.intro (rs := [(.tmp 2)]) (by kernel_rfl) { own := [], ghosts := [] } Tryz.func62 (c := Tryz.f62.body.getD .skip) (by kernel_rfl) (by decide) (by rw [show Tryz.f62.ntmps = 5 by kernel_rfl]; exact Nat.le_of_ble_eq_true rfl) (by kernel_rfl) ?_
  intro hσ hids
  rw [show comp Tryz.prog { own := [], ghosts := [] } (Tryz.f62.body.getD .skip) = c_copyLits by kernel_rfl, show Tryz.f62.ntmps = 5 by kernel_rfl]
  unfold c_copyLits
  have hbig : bigLen l.length 16 := big_ok (by omega) (by omega)
  have hall : ∀ x ∈ l, (encLit x).length = 2 ∧ (encLit x).all AV.one = true := fun x _ => ⟨rfl, rfl⟩
  simp only [go_sem, Int.reduceToNat, Int.reduceLE, Int.reduceLT, Nat.reduceBEq, Nat.reduceLT, Nat.reduceAdd, Nat.reduceLeDiff, hbig]
  refine ⟨hall, ?_⟩
  first | exact rtk (.slice .unk (l.map encLit)) ⟨rfl, rfl⟩ | exact rtk0 (.slice .unk (l.map encLit)) ⟨rfl, rfl⟩
end Go.Proofs.YtocphglkceidhaaGreat
namespace Go.Proofs.YtocphglkceidhaaGreat
open Go.Ahl
theorem risingB_len {n : Int} : ∀ (s : List Int) (p : Int), risingB n p s = true → s = [] ∨ (s.length : Int) + p < n
  | [], p, h => .inl rfl
  | x :: s, p, h => by
    rw [risingB, Bool.and_eq_true, Bool.and_eq_true, decide_eq_true_eq, decide_eq_true_eq] at h
    right
    rcases risingB_len s x h.2 with rfl | k
    · simp; omega
    · rw [List.length_cons]; omega
/-! ### Assignments with open facts: 0 open, 1 true, -1 false -/
def valAt (w : List Int) (i : Int) : Int := (w[i.toNat]?).getD 0
def litV (w : List Int) (x : FLit) : Int := if x.neg then -valAt w x.fact else valAt w x.fact
def Tri (w : List Int) : Prop := ∀ y ∈ w, y = -1 ∨ y = 0 ∨ y = 1
def opens (w : List Int) : Nat := (w.filter (fun y => y == 0)).length
/-- Is the fact true in every assignment a that completes w? -/
def Comp (w : List Int) (a : Int → Bool) : Prop := ∀ (i : Nat) y, w[i]? = some y → (y = 1 → a i = true) ∧ (y = -1 → a i = false)
def litT (a : Int → Bool) (x : FLit) : Bool := a x.fact != x.neg
def termT (a : Int → Bool) (l : List FLit) : Bool := l.all (litT a)
/-- w' is w with some open facts set. -/
def ExtW (w w' : List Int) : Prop := w'.length = w.length ∧ ∀ (i : Nat) y, w[i]? = some y → y ≠ 0 → w'[i]? = some y
/-- The value that makes a literal true. -/
def sgn (x : FLit) : Int := if x.neg then -1 else 1
def inR (n : Nat) (x : FLit) : Prop := 0 ≤ x.fact ∧ x.fact < n
theorem ExtW.refl (w : List Int) : ExtW w w := ⟨rfl, fun _ _ h _ => h⟩
theorem ExtW.trans {a b c : List Int} (h : ExtW a b) (k : ExtW b c) : ExtW a c := ⟨k.1.trans h.1, fun i y e n => k.2 i y (h.2 i y e n) n⟩
theorem valAt_get {w : List Int} {x : FLit} (h : inR w.length x) : w[x.fact.toNat]? = some (valAt w x.fact) := by
  unfold valAt
  have : x.fact.toNat < w.length := by have := h.1; have := h.2; omega
  rw [List.getElem?_eq_getElem this]; rfl
theorem valAt_tri {w : List Int} (hw : Tri w) (i : Int) : valAt w i = -1 ∨ valAt w i = 0 ∨ valAt w i = 1 := by
  unfold valAt
  cases h : w[i.toNat]? with
  | none => exact .inr (.inl rfl)
  | some y => exact hw y (List.mem_of_getElem? h)
theorem litV_tri {w : List Int} (hw : Tri w) (x : FLit) : litV w x = -1 ∨ litV w x = 0 ∨ litV w x = 1 := by
  unfold litV
  rcases valAt_tri hw x.fact with h | h | h <;> rw [h] <;> split <;> simp
theorem sgn_ne (x : FLit) : sgn x = 1 ∨ sgn x = -1 := by unfold sgn; split <;> simp
theorem litV_set {w : List Int} {x : FLit} (h : inR w.length x) (s : Int) : litV (w.set x.fact.toNat s) x = if x.neg then -s else s := by
  have h2 : x.fact.toNat < w.length := by have := h.1; have := h.2; omega
  unfold litV valAt
  rw [List.getElem?_set_self h2]; rfl
theorem tri_set {w : List Int} (hw : Tri w) (i : Nat) {s : Int} (hs : s = -1 ∨ s = 0 ∨ s = 1) : Tri (w.set i s) := by
  intro y hy
  rcases List.mem_or_eq_of_mem_set hy with h | h
  · exact hw y h
  · subst h; exact hs
theorem opens_set {w : List Int} {i : Nat} (h : w[i]? = some 0) {s : Int} (hs : s ≠ 0) : opens (w.set i s) + 1 = opens w := by
  induction w generalizing i with
  | nil => simp at h
  | cons y w ih =>
    cases i with
    | zero =>
      simp at h; subst h
      have hs' : (s == 0) = false := by simpa using hs
      simp [opens, hs']
    | succ i =>
      simp at h
      have := ih h
      simp only [opens, List.set_cons_succ, List.filter_cons] at this ⊢
      split <;> (try simp only [List.length_cons]) <;> omega
theorem ext_set {w : List Int} {i : Nat} (h : w[i]? = some 0) (s : Int) : ExtW w (w.set i s) := by
  refine ⟨by simp, fun j y e n => ?_⟩
  by_cases hj : i = j
  · subst hj; rw [h] at e; injection e with e; exact absurd e.symm n
  · rw [List.getElem?_set_ne hj]; exact e
theorem comp_set {w : List Int} {a : Int → Bool} {x : FLit} (hx : inR w.length x) (h : Comp w a) (ht : litT a x = true) : Comp (w.set x.fact.toNat (sgn x)) a := by
  intro i y e
  rcases Go.Ahl.get_set e with ⟨rfl, rfl⟩ | ⟨_, e⟩
  · have h3 : ((x.fact.toNat : Nat) : Int) = x.fact := by have := hx.1; omega
    rw [h3]
    unfold litT at ht
    unfold sgn
    cases hn : x.neg <;> rw [hn] at ht <;> simp at ht ⊢ <;> exact ht
  · exact h i y e
theorem comp_neg {w : List Int} {a : Int → Bool} {x : FLit} (hx : inR w.length x) (h : Comp w a) (ht : litT a x = false) : Comp (w.set x.fact.toNat (-sgn x)) a := by
  intro i y e
  rcases Go.Ahl.get_set e with ⟨rfl, rfl⟩ | ⟨_, e⟩
  · have h3 : ((x.fact.toNat : Nat) : Int) = x.fact := by have := hx.1; omega
    rw [h3]
    unfold litT at ht
    unfold sgn
    cases hn : x.neg <;> rw [hn] at ht <;> simp at ht ⊢ <;> exact ht
  · exact h i y e
theorem comp_lit {w : List Int} {a : Int → Bool} {x : FLit} (hx : inR w.length x) (h : Comp w a) : (litV w x = 1 → litT a x = true) ∧ (litV w x = -1 → litT a x = false) := by
  have h3 : ((x.fact.toNat : Nat) : Int) = x.fact := by have := hx.1; omega
  have h4 := h _ _ (valAt_get hx)
  rw [h3] at h4
  unfold litV litT
  cases hn : x.neg
  · simp only [Bool.false_eq_true, if_false, Bool.bne_false]; exact h4
  · simp only [if_true, Bool.bne_true, Bool.not_eq_true', Bool.not_eq_false']
    exact ⟨fun e => h4.2 (by omega), fun e => h4.1 (by omega)⟩
/-- Is a term not false yet? -/
def liveT (w : List Int) (l : List FLit) : Bool := !(l.any fun x => decide (litV w x < 0))
/-- What a search comes back with. -/
structure SPost (g : List (List FLit)) (w : List Int) (left : Int) (b : Bool) (w' : List Int) (left' : Int) : Prop where
  tri : Tri w'
  ext : ExtW w w'
  lo : left - (2 ^ opens w : Nat) ≤ left'
  hi : left' ≤ left
  yes : b = true → ∀ l ∈ g, ∃ x ∈ l, litV w' x < 0
  no : b = false → w' = w ∧ ∀ a, Comp w a → ∃ l ∈ g, termT a l = true
/-- Where the loop over the literals of a term stands: j are through, those of 'set' have been made true. -/
structure SLoop (g : List (List FLit)) (l : List FLit) (w0 : List Int) (left0 : Int) (j : Nat) (set : List Int) (w : List Int) (left : Int) : Prop where
  jl : j ≤ l.length
  tri : Tri w
  ext : ExtW w0 w
  ops : opens w + set.length = opens w0
  lo : left0 - 1 - (2 ^ opens w0 : Nat) + (2 ^ opens w : Nat) ≤ left
  hi : left ≤ left0
  old : ∀ f ∈ set, 0 ≤ f ∧ f < w0.length ∧ w0[f.toNat]? = some 0
  back : ∀ (i : Nat) y, w[i]? = some y → (∀ f ∈ set, f.toNat ≠ i) → w0[i]? = some y
  rest : ∀ x ∈ l.drop j, ∀ f ∈ set, f ≠ x.fact
  all : ∀ a, Comp w0 a → (∀ t ∈ g, termT a t = false) → Comp w a ∧ ∀ x ∈ l.take j, litT a x = true
theorem SLoop.begin {g : List (List FLit)} {l : List FLit} {w : List Int} {left : Int} (ht : Tri w) : SLoop g l w left 0 [] w (left - 1) where
  jl := Nat.zero_le _
  tri := ht
  ext := .refl _
  ops := rfl
  lo := by omega
  hi := by omega
  old := by simp
  back := fun i y e _ => e
  rest := by simp
  all := fun a hc _ => ⟨hc, by simp⟩
theorem liveT_nn {w : List Int} {l : List FLit} (h : liveT w l = true) {x : FLit} (hx : x ∈ l) : 0 ≤ litV w x := by
  unfold liveT at h
  simp only [Bool.not_eq_true', List.any_eq_false, decide_eq_true_eq] at h
  have := h x hx; omega
/-- A literal that is not open is true already. -/
theorem SLoop.skip {g : List (List FLit)} {l : List FLit} {w0 : List Int} {left0 : Int} {j : Nat} {set w : List Int} {left : Int} (h : SLoop g l w0 left0 j set w left) {x : FLit} (hx : l[j]? = some x) (hr : inR w0.length x)
    (hl : liveT w0 l = true) (hv : litV w x ≠ 0) : SLoop g l w0 left0 (j + 1) set w left where
  jl := lt_of_get hx
  tri := h.tri
  ext := h.ext
  ops := h.ops
  lo := h.lo
  hi := h.hi
  old := h.old
  back := h.back
  rest := fun y hy => h.rest y (by rw [drop_cons hx]; exact List.mem_cons_of_mem _ hy)
  all := by
    intro a hc hg
    obtain ⟨h1, h2⟩ := h.all a hc hg
    refine ⟨h1, fun y hy => ?_⟩
    rw [take_succ' hx] at hy
    rcases List.mem_append.1 hy with hy | hy
    · exact h2 y hy
    · rw [List.mem_singleton] at hy; subst hy
      have hr' : inR w.length y := ⟨hr.1, by rw [h.ext.1]; exact hr.2⟩
      have hn := liveT_nn hl (List.mem_of_getElem? hx)
      have hno : ∀ f ∈ set, f.toNat ≠ y.fact.toNat := by
        intro f hf e
        have h3 := h.rest y (by rw [drop_cons hx]; exact List.mem_cons_self) f hf
        have h4 := (h.old f hf).1
        have := hr.1; omega
      have h5 := h.back _ _ (valAt_get hr') hno
      have h6 : valAt w0 y.fact = valAt w y.fact := by unfold valAt at h5 ⊢; rw [h5]; rfl
      have h7 : litV w0 y = litV w y := by unfold litV; rw [h6]
      rcases litV_tri h.tri y with h8 | h8 | h8
      · omega
      · exact absurd h8 hv
      · exact (comp_lit hr' h1).1 h8
/-- The literals of a condition have facts that rise. -/
theorem cond_apart {n : Int} : ∀ {l : List FLit} {p : Int}, condB n p l = true → (∀ x ∈ l, p < x.fact ∧ x.fact < n) ∧ ∀ (j : Nat) x, l[j]? = some x → ∀ y ∈ l.drop (j + 1), x.fact ≠ y.fact
  | [], p, h => ⟨by simp, by simp⟩
  | z :: l, p, h => by
    rw [condB, Bool.and_eq_true, Bool.and_eq_true, decide_eq_true_eq, decide_eq_true_eq] at h
    obtain ⟨⟨h1, h2⟩, h3⟩ := h
    obtain ⟨h4, h5⟩ := cond_apart h3
    refine ⟨fun x hx => ?_, fun j x hx y hy => ?_⟩
    · rcases List.mem_cons.1 hx with rfl | hx
      · exact ⟨h1, h2⟩
      · have := h4 x hx; omega
    · cases j with
      | zero => simp at hx hy; subst hx; have := h4 y hy; omega
      | succ j => simp at hx hy; exact h5 j x hx y hy
/-- An open literal was made false in vain: it is made true. -/
theorem SLoop.step {g : List (List FLit)} {l : List FLit} {w0 : List Int} {left0 : Int} {j : Nat} {set w : List Int} {left : Int} (h : SLoop g l w0 left0 j set w left) {x : FLit} (hx : l[j]? = some x) (hr : inR w0.length x)
    {n : Int} (hc : condB n (-1) l = true) (hv : litV w x = 0) {w' : List Int} {left' : Int} (hp : SPost g (w.set x.fact.toNat (-sgn x)) left false w' left') :
    SLoop g l w0 left0 (j + 1) (set ++ [x.fact]) (w'.set x.fact.toNat (sgn x)) left' := by
  have hr' : inR w.length x := ⟨hr.1, by rw [h.ext.1]; exact hr.2⟩
  have hk : x.fact.toNat < w.length := by have := hr'.1; have := hr'.2; omega
  have h0 : valAt w x.fact = 0 := by unfold litV at hv; split at hv <;> omega
  have hg0 : w[x.fact.toNat]? = some 0 := by rw [valAt_get hr', h0]
  have hs := sgn_ne x
  obtain ⟨rfl, hno⟩ := hp.no rfl
  rw [List.set_set]
  have ho1 := opens_set (s := -sgn x) hg0 (by omega)
  have ho2 := opens_set (s := sgn x) hg0 (by omega)
  have hpow : (2 : Nat) ^ opens w = 2 ^ opens (w.set x.fact.toNat (sgn x)) + 2 ^ opens (w.set x.fact.toNat (sgn x)) := by
    rw [← ho2, Nat.pow_succ]; omega
  have hpe : opens (w.set x.fact.toNat (-sgn x)) = opens (w.set x.fact.toNat (sgn x)) := by omega
  have hlo := hp.lo
  rw [hpe] at hlo
  refine ⟨lt_of_get hx, tri_set h.tri _ (by omega), h.ext.trans (ext_set hg0 _), by rw [List.length_append, List.length_singleton]; have := h.ops; omega, ?_, by have := hp.hi; have := h.hi; omega, ?_, ?_, ?_, ?_⟩
  · have := h.lo; omega
  · intro f hf
    rcases List.mem_append.1 hf with hf | hf
    · exact h.old f hf
    · rw [List.mem_singleton] at hf; subst hf
      refine ⟨hr.1, hr.2, ?_⟩
      refine h.back _ _ hg0 (fun f hf e => ?_)
      have h3 := h.rest x (by rw [drop_cons hx]; exact List.mem_cons_self) f hf
      have h4 := (h.old f hf).1
      have := hr.1; omega
  · intro i y e hf
    rcases Go.Ahl.get_set e with ⟨rfl, _⟩ | ⟨hne, e⟩
    · exact absurd rfl (hf x.fact (by simp))
    · exact h.back i y e (fun f hq => hf f (List.mem_append_left _ hq))
  · intro y hy f hf
    rcases List.mem_append.1 hf with hf | hf
    · exact h.rest y (by rw [drop_cons hx]; exact List.mem_cons_of_mem _ hy) f hf
    · rw [List.mem_singleton] at hf; subst hf
      exact (cond_apart hc).2 j x hx y hy
  · intro a hca hga
    obtain ⟨h1, h2⟩ := h.all a hca hga
    have htx : litT a x = true := by
      cases hq : litT a x with
      | true => rfl
      | false =>
        obtain ⟨t, ht, e⟩ := hno a (comp_neg hr' h1 hq)
        rw [hga t ht] at e; exact absurd e (by simp)
    refine ⟨comp_set hr' h1 htx, fun y hy => ?_⟩
    rw [take_succ' hx] at hy
    rcases List.mem_append.1 hy with hy | hy
    · exact h2 y hy
    · rw [List.mem_singleton] at hy; subst hy; exact htx
/-- What is asked ahead of a search within the loop. -/
theorem SLoop.ahead {g : List (List FLit)} {l : List FLit} {w0 : List Int} {left0 : Int} {j : Nat} {set w : List Int} {left : Int} (h : SLoop g l w0 left0 j set w left) {x : FLit} (hr : inR w0.length x) (hv : litV w x = 0) (h0 : ((2 ^ opens w0 : Nat) : Int) ≤ left0) :
    Tri (w.set x.fact.toNat (-sgn x)) ∧ opens (w.set x.fact.toNat (-sgn x)) < opens w0 ∧ ((2 ^ opens (w.set x.fact.toNat (-sgn x)) : Nat) : Int) ≤ left ∧ (w.set x.fact.toNat (-sgn x)).length = w0.length := by
  have hr' : inR w.length x := ⟨hr.1, by rw [h.ext.1]; exact hr.2⟩
  have hg0 : valAt w x.fact = 0 := by unfold litV at hv; split at hv <;> omega
  have hg0 : w[x.fact.toNat]? = some 0 := by rw [valAt_get hr', hg0]
  have hs := sgn_ne x
  have ho1 := opens_set (s := -sgn x) hg0 (by omega)
  have hpow : (2 : Nat) ^ opens w = 2 ^ opens (w.set x.fact.toNat (-sgn x)) + 2 ^ opens (w.set x.fact.toNat (-sgn x)) := by
    rw [← ho1, Nat.pow_succ]; omega
  have hpp : 0 < 2 ^ opens (w.set x.fact.toNat (-sgn x)) := Nat.pow_pos (by omega)
  refine ⟨tri_set h.tri _ (by omega), by have := h.ops; omega, by have := h.lo; omega, by rw [List.length_set]; exact h.ext.1⟩
/-- All literals are through. -/
theorem SLoop.done {g : List (List FLit)} {l : List FLit} {w0 : List Int} {left0 : Int} {set w : List Int} {left : Int} (h : SLoop g l w0 left0 l.length set w left) (hl : l ∈ g) (ht : Tri w0) : SPost g w0 left0 false w0 left := by
  refine ⟨ht, .refl _, ?_, h.hi, by simp, fun _ => ⟨rfl, fun a hc => ?_⟩⟩
  · have := h.lo
    have hpp : 0 < 2 ^ opens w := Nat.pow_pos (by omega)
    omega
  · by_cases hg : ∀ t ∈ g, termT a t = false
    · refine ⟨l, hl, ?_⟩
      have h2 := (h.all a hc hg).2
      rw [List.take_length] at h2
      exact List.all_eq_true.2 h2
    · have ⟨t, hq⟩ := Classical.not_forall.1 hg
      have ⟨h3, h4⟩ := Classical.not_imp.1 hq
      exact ⟨t, h3, by simpa using h4⟩
end Go.Proofs.YtocphglkceidhaaGreat
/- The abstract layer, part 25: two cells of the store that a family of closures turns: a row of numbers and a number. -/
namespace Go.Ahl
def ai (n : Int) : AV := .int .i64 n
theorem mset (w : List Int) (k : Nat) (y : Int) : (w.map ai).set k (.int .i64 y) = (w.set k y).map ai := by rw [List.map_set]; rfl
section
variable {S : Store} {R L : Nat}
theorem ids_ai {n : Nat} (w : List Int) : IdsO n (.row (w.map ai)) := idsO_row (by intro x hx; obtain ⟨y, _, rfl⟩ := List.mem_map.1 hx; exact .int _ _)
end
section
variable {n0 nt : Nat} {s s' : Slots} {σ : Store}
/-- The end of a function with three results. -/
theorem ret_gh3 {t u x : Nat} {v v1 v2 : AV} {σ' : Store} {R : Cont} {n0 : Nat} (hg : Ghost n0 nt s σ [(t, v), (u, v1), (x, v2)] σ') (h1 : (t == u) = false) (h2 : (t == x) = false) (h3 : (u == x) = false) (hn : n0 ≤ σ'.length) (hσ : IdsS σ'.length σ')
    (hi : Ids σ'.length v) (hj : Ids σ'.length v1) (hk : Ids σ'.length v2) (h : R (.tuple [v, v1, v2]) σ') : bodyK [.tmp t, .tmp u, .tmp x] n0 nt R .ret s σ := by
  refine ⟨_, _, hg, σ'.length, hn, by simpa using hσ, ?_⟩
  simp only [one, Ahl.lk, h1, h2, h3, beq_self_eq_true, cond_true, cond_false, List.take_length]
  exact ⟨.tuple _ (fun j y hy => by match j, hy with | 0, hy => simp at hy; subst hy; exact hi | 1, hy => simp at hy; subst hy; exact hj | 2, hy => simp at hy; subst hy; exact hk), h⟩
end
section -- ghosts
variable {S : Store} {R L : Nat} {nt : Nat} {s s' : Slots} {g : Store} {w w1 : List Int} {n n1 : Int}
end
section
variable {nt t u x : Nat} {s : Slots} {σ S : Store} {R : Cont}
/-- The end of a function with three results whose store begins as it was. -/
theorem ret3 (v v1 v2 : AV) (ht : S.take σ.length = σ) (h : R (.tuple [v, v1, v2]) σ) (hσ : IdsS σ.length σ := by assumption) (h1 : (t == u) = false := by rfl) (h2 : (t == x) = false := by rfl) (h3 : (u == x) = false := by rfl)
    (hw : Wk (lk s t) v := by first | exact Wk.refl _ | exact Wk.unk _ _ | exact Wk.fresh _ _ | exact Wk.fresh0 _ | exact Wk.any _) (hw1 : Wk (lk s u) v1 := by first | exact Wk.refl _ | exact Wk.unk _ _ | exact Wk.fresh _ _ | exact Wk.fresh0 _ | exact Wk.any _) (hw2 : Wk (lk s x) v2 := by first | exact Wk.refl _ | exact Wk.unk _ _ | exact Wk.fresh _ _ | exact Wk.fresh0 _ | exact Wk.any _) (hi : Ids σ.length v := by first | assumption | exact .int _ _ | exact .bool _ | exact .str _ | exact .any | exact .mapnil | exact .ptr _ _ (by omega) | exact .ref _ _ _ _ (by omega) | exact .vec _ _ _ (by omega) | exact .map _ (by omega) | exact ids_mapE _ | exact ids_mapF _ | exact ids_growE (by omega) _ | exact ids_aggE _ | (refine ids_up ?_ (by assumption); omega) | exact ids_func0 _ | exact ids_nil _ (by simp) | (simp only [encLit, encI, encT, encC, encA, encE, encL, encTask, encB]; done)) (hj : Ids σ.length v1 := by first | assumption | exact .int _ _ | exact .bool _ | exact .str _ | exact .any | exact .mapnil | exact .ptr _ _ (by omega) | exact .ref _ _ _ _ (by omega) | exact .vec _ _ _ (by omega) | exact .map _ (by omega) | exact ids_mapE _ | exact ids_mapF _ | exact ids_growE (by omega) _ | exact ids_aggE _ | (refine ids_up ?_ (by assumption); omega) | exact ids_func0 _ | exact ids_nil _ (by simp) | (simp only [encLit, encI, encT, encC, encA, encE, encL, encTask, encB]; done)) (hk : Ids σ.length v2 := by first | assumption | exact .int _ _ | exact .bool _ | exact .str _ | exact .any | exact .mapnil | exact .ptr _ _ (by omega) | exact .ref _ _ _ _ (by omega) | exact .vec _ _ _ (by omega) | exact .map _ (by omega) | exact ids_mapE _ | exact ids_mapF _ | exact ids_growE (by omega) _ | exact ids_aggE _ | (refine ids_up ?_ (by assumption); omega) | exact ids_func0 _ | exact ids_nil _ (by simp) | (simp only [encLit, encI, encT, encC, encA, encE, encL, encTask, encB]; done)) : bodyK [.tmp t, .tmp u, .tmp x] σ.length nt R .ret s S := by
  refine ret_gh3 (v := v) (v1 := v1) (v2 := v2) (σ' := σ) ?_ h1 h2 h3 (Nat.le_refl _) hσ hi hj hk h
  have := Ghost.cut (n0 := σ.length) (nt := nt) (σ := S) (s := s) [(t, v), (u, v1), (x, v2)] σ.length (Nat.le_refl _) ⟨⟨hw, hi⟩, ⟨hw1, hj⟩, ⟨hw2, hk⟩, trivial⟩ (by rw [ht]; exact hσ)
  rwa [ht] at this
end
end Go.Ahl
namespace Go.Proofs.YtocphglkceidhaaGreat
open Go.Ahl
/-- The cells of a search. -/
structure EscE (S : Store) (V R L G H Z n : Nat) (gt : Tok) (g : List (List FLit)) : Prop where
  v : S[V]? = some (.row [.ref R 1 0 n])
  r : R < S.length
  l : L < S.length
  g : S[G]? = some (.row [.slice gt (g.map encC)])
  h : S[H]? = some (.row [.func 139 [.ptr V 0]])
  z : S[Z]? = some (.row [.func 140 [.ptr L 0, .ptr G 0, .ptr H 0, .ptr V 0, .ptr Z 0]])
  rl : R ≠ L
  rv : R ≠ V
  lv : L ≠ V
  rg : R ≠ G
  lg : L ≠ G
  rh : R ≠ H
  lh : L ≠ H
  rz : R ≠ Z
  lz : L ≠ Z
theorem EscE.app {S : Store} {V R L G H Z n : Nat} {gt : Tok} {g : List (List FLit)} (e : EscE S V R L G H Z n gt g) (t : Store) : EscE (S ++ t) V R L G H Z n gt g where
  v := by rw [List.getElem?_append_left (lt_of_get e.v)]; exact e.v
  r := by have := e.r; simp; omega
  l := by have := e.l; simp; omega
  g := by rw [List.getElem?_append_left (lt_of_get e.g)]; exact e.g
  h := by rw [List.getElem?_append_left (lt_of_get e.h)]; exact e.h
  z := by rw [List.getElem?_append_left (lt_of_get e.z)]; exact e.z
  rl := e.rl
  rv := e.rv
  lv := e.lv
  rg := e.rg
  lg := e.lg
  rh := e.rh
  lh := e.lh
  rz := e.rz
  lz := e.lz
end Go.Proofs.YtocphglkceidhaaGreat
namespace Go.Proofs.YtocphglkceidhaaGreat
open Go.Ahl
theorem ids_func {n : Nat} {f : FuncId} {c : List AV} (h : IdsL n c) : Ids n (.func f c) := .func f c fun j x e => h x (List.mem_of_getElem? e)
theorem ExtW.lit {w w' : List Int} (h : ExtW w w') {x : FLit} (hx : inR w.length x) (hv : litV w x = 1) : litV w' x = 1 := by
  have hne : valAt w x.fact ≠ 0 := by intro e; unfold litV at hv; rw [e] at hv; split at hv <;> simp at hv
  have h1 := h.2 _ _ (valAt_get hx) hne
  have h2 : valAt w' x.fact = valAt w x.fact := by rw [valAt, h1]; rfl
  unfold litV at hv ⊢; rw [h2]; exact hv
/-- Where the setting of a term's literals stands. -/
structure SetJ (n : Nat) (l : List FLit) (k : Nat) (w : List Int) : Prop where
  kl : k ≤ l.length
  len : w.length = n
  tri : Tri w
  on : ∀ x ∈ l.take k, litV w x = 1
  comp : ∀ a, (∀ x ∈ l.take k, litT a x = true) → Comp w a
theorem SetJ.begin (n : Nat) (l : List FLit) : SetJ n l 0 (List.replicate n 0) where
  kl := Nat.zero_le _
  len := by simp
  tri := by intro y hy; exact .inr (.inl (List.eq_of_mem_replicate hy))
  on := by simp
  comp := by
    intro a _ i y h
    have := List.eq_of_mem_replicate (List.mem_of_getElem? h)
    subst this; simp
theorem SetJ.step {n : Nat} {l : List FLit} {k : Nat} {w : List Int} (h : SetJ n l k w) {x : FLit} (hx : l[k]? = some x) (hc : condB n (-1) l = true) : SetJ n l (k + 1) (w.set x.fact.toNat (sgn x)) := by
  have hr := (cond_apart hc).1 x (List.mem_of_getElem? hx)
  have hxr : inR w.length x := ⟨by omega, by rw [h.len]; exact hr.2⟩
  have hs := sgn_ne x
  refine ⟨lt_of_get hx, by simpa using h.len, tri_set h.tri _ (by omega), ?_, ?_⟩
  · intro y hy
    rw [take_succ' hx] at hy
    rcases List.mem_append.1 hy with hy | hy
    · obtain ⟨j, hj, e⟩ := List.mem_iff_getElem.1 hy
      rw [List.length_take] at hj
      have hyg : l[j]? = some y := by
        rw [List.getElem_take] at e
        rw [List.getElem?_eq_getElem (by omega), e]
      have hne := (cond_apart hc).2 j y hyg x (by
        refine List.mem_of_getElem? (i := k - (j + 1)) ?_
        rw [List.getElem?_drop, show j + 1 + (k - (j + 1)) = k by omega]; exact hx)
      have hyr := (cond_apart hc).1 y (List.mem_of_getElem? hyg)
      have h1 : litV (w.set x.fact.toNat (sgn x)) y = litV w y := by
        have : valAt (w.set x.fact.toNat (sgn x)) y.fact = valAt w y.fact := by
          unfold valAt; rw [List.getElem?_set_ne (by omega)]
        unfold litV; rw [this]
      rw [h1]; exact h.on y hy
    · rw [List.mem_singleton] at hy; subst hy
      rw [litV_set hxr]; unfold sgn; split <;> rfl
  · intro a ha
    rw [take_succ' hx] at ha
    exact comp_set hxr (h.comp a (fun y hy => ha y (List.mem_append_left _ hy))) (ha x (by simp))
end Go.Proofs.YtocphglkceidhaaGreat
namespace Go.Proofs.YtocphglkceidhaaGreat
open Go.Ahl
/-- Does a condition precede another one? -/
def befL : List FLit → List FLit → Bool
  | x :: l, y :: m => if x.fact = y.fact then (if x.neg = y.neg then befL l m else !x.neg) else decide (x.fact < y.fact)
  | _, _ => false
def befB (l m : List FLit) : Bool := if l.length = m.length then befL l m else decide (l.length < m.length)
end Go.Proofs.YtocphglkceidhaaGreat
namespace Go.Proofs.YtocphglkceidhaaGreat
open Go.Ahl
def insB (l : List FLit) : List (List FLit) → List (List FLit)
  | [] => [l]
  | y :: r => if befB y l then y :: insB l r else l :: y :: r
/-- Is no term that is stronger in f, from number k on? -/
def keepAt (i : Nat) (l : List FLit) : Nat → List (List FLit) → Bool
  | _, [] => true
  | k, m :: r => !(withinB m l && (decide (m.length < l.length) || (decide (k < i) && decide (m.length = l.length)))) && keepAt i l (k + 1) r
def refFrom (f : List (List FLit)) : Nat → List (List FLit) → List (List FLit) → List (List FLit)
  | _, out, [] => out
  | i, out, l :: r => refFrom f (i + 1) (if keepAt i l 0 f then insB l out else out) r
/-- The reference's reduced form. -/
def refRed (f : List (List FLit)) : List (List FLit) := refFrom f 0 [] f
end Go.Proofs.YtocphglkceidhaaGreat
namespace Go.Proofs.YtocphglkceidhaaGreat
open Go.Ahl
/-! ### The two reduced forms are one -/
/-- On conditions the reference's order is the program's. -/
theorem befL_eq : ∀ {l m : List FLit}, l.length = m.length → befL l m = decide (cmpLits l m < 0)
  | [], [], _ => by simp [befL, cmpLits]
  | x :: l, y :: m, h => by
    have ih := befL_eq (l := l) (m := m) (by simpa using h)
    rw [befL, cmpLits]
    by_cases h1 : x.fact = y.fact
    · rw [if_pos h1]
      by_cases h2 : x.neg = y.neg
      · rw [if_pos h2, if_pos (by unfold lessI; rw [if_pos h1, if_pos h2]), ih]
      · rw [if_neg h2]
        have : lessI x y = if y.neg then -1 else 1 := by unfold lessI; rw [if_pos h1, if_neg h2]
        rw [this]
        cases hx : x.neg <;> cases hy : y.neg <;> rw [hx, hy] at h2 <;> simp at h2 ⊢
    · rw [if_neg h1]
      have : lessI x y = x.fact - y.fact := by unfold lessI; rw [if_neg h1]
      rw [this, if_neg (by omega)]
      apply decide_eq_decide.2; omega
  | [], _ :: _, h => by simp at h
  | _ :: _, [], h => by simp at h
theorem befB_eq (l m : List FLit) : befB l m = decide (orderI l m < 0) := by
  unfold befB orderI
  by_cases h : l.length = m.length
  · rw [if_pos h, if_pos h]; exact befL_eq h
  · rw [if_neg h, if_neg h]; apply decide_eq_decide.2; omega
theorem withinB_iff {a b : List FLit} : withinB a b = true ↔ ∀ x ∈ a, x ∈ b := by
  unfold withinB
  rw [any_not, List.all_eq_true]
  simp
/-- Of two conditions of one length the one that is within the other is the other. -/
theorem within_eq {n : Int} : ∀ {p q : Int} {a b : List FLit}, condB n p a = true → condB n q b = true → (∀ x ∈ a, x ∈ b) → b.length ≤ a.length → a = b
  | p, q, [], [], _, _, _, _ => rfl
  | p, q, [], _ :: _, _, _, _, h => by simp at h
  | p, q, x :: a, [], _, _, h, _ => by have := h x List.mem_cons_self; simp at this
  | p, q, x :: a, y :: b, ha, hb, h, hl => by
    obtain ⟨a1, a2, a3⟩ := condB_cons ha
    obtain ⟨b1, b2, b3⟩ := condB_cons hb
    rcases List.mem_cons.1 (h x List.mem_cons_self) with hxy | hxb
    · subst hxy
      rw [within_eq a3 b3 (fun z hz => by
        rcases List.mem_cons.1 (h z (List.mem_cons_of_mem _ hz)) with e | e
        · subst e; have := (condB_mem a3 z hz).1; omega
        · exact e) (by simpa using hl)]
    · -- x is behind y: then all of a is behind y
      exfalso
      have hsub : ∀ z ∈ x :: a, z ∈ b := by
        intro z hz
        rcases List.mem_cons.1 (h z hz) with e | e
        · subst e
          have hx := (condB_mem b3 x hxb).1
          rcases List.mem_cons.1 hz with e | e
          · subst e; omega
          · have := (condB_mem a3 z e).1; omega
        · exact e
      have key : ∀ {r : Int} {c d : List FLit}, condB n r c = true → (∀ z ∈ c, z ∈ d) → c.length ≤ d.length := by
        intro r c
        induction c generalizing r with
        | nil => intro d _ _; simp
        | cons z c ih =>
          intro d hc hd
          obtain ⟨c1, c2, c3⟩ := condB_cons hc
          have hz := hd z List.mem_cons_self
          have := ih (d := d.erase z) c3 (fun w hw => by
            have hne : w ≠ z := fun e => by subst e; have := (condB_mem c3 w hw).1; omega
            exact (List.mem_erase_of_ne hne).2 (hd w (List.mem_cons_of_mem _ hw)))
          rw [List.length_erase_of_mem hz] at this
          have := List.length_pos_of_mem hz
          simp; omega
      have := key ha hsub
      simp at this hl; omega
end Go.Proofs.YtocphglkceidhaaGreat
namespace Go.Proofs.YtocphglkceidhaaGreat
open Go.Ahl
theorem within_refl (a : List FLit) : withinB a a = true := withinB_iff.2 fun _ h => h
theorem within_trans {a b c : List FLit} (h : withinB a b = true) (k : withinB b c = true) : withinB a c = true :=
  withinB_iff.2 fun x hx => withinB_iff.1 k x (withinB_iff.1 h x hx)
theorem within_len {n : Int} : ∀ {r : Int} {c d : List FLit}, condB n r c = true → (∀ z ∈ c, z ∈ d) → c.length ≤ d.length := by
  intro r c
  induction c generalizing r with
  | nil => intro d _ _; simp
  | cons z c ih =>
    intro d hc hd
    obtain ⟨c1, c2, c3⟩ := condB_cons hc
    have hz := hd z List.mem_cons_self
    have := ih (d := d.erase z) c3 (fun w hw => by
      have hne : w ≠ z := fun e => by subst e; have := (condB_mem c3 w hw).1; omega
      exact (List.mem_erase_of_ne hne).2 (hd w (List.mem_cons_of_mem _ hw)))
    rw [List.length_erase_of_mem hz] at this
    have := List.length_pos_of_mem hz
    simp; omega
/-- A term that no shorter one of f is within. -/
def minimal (f : List (List FLit)) (l : List FLit) : Prop := l ∈ f ∧ ∀ m ∈ f, withinB m l = true → ¬ m.length < l.length
theorem order_len {a b : List FLit} (h : orderI a b ≤ 0) : a.length ≤ b.length := by
  unfold orderI at h
  by_cases hl : a.length = b.length
  · omega
  · rw [if_neg hl] at h; omega
def apart (a b : List FLit) : Prop := orderI a b ≤ 0 ∧ ¬ withinB a b = true
theorem redLoop_cover : ∀ (l out : List (List FLit)) x, (x ∈ out ∨ x ∈ l) → ∃ y ∈ redLoop out l, withinB y x = true
  | [], out, x, h => by
    rcases h with h | h
    · exact ⟨x, h, within_refl x⟩
    · simp at h
  | z :: l, out, x, h => by
    rw [redLoop]
    split
    · rename_i hz
      rcases h with h | h
      · exact redLoop_cover l out x (.inl h)
      · rcases List.mem_cons.1 h with rfl | h
        · obtain ⟨y, hy, hw⟩ := List.any_eq_true.1 hz
          obtain ⟨u, hu, hw'⟩ := redLoop_cover l out y (.inl hy)
          exact ⟨u, hu, within_trans hw' hw⟩
        · exact redLoop_cover l out x (.inr h)
    · rcases h with h | h
      · exact redLoop_cover l _ x (.inl (List.mem_append_left _ h))
      · rcases List.mem_cons.1 h with rfl | h
        · exact redLoop_cover l _ x (.inl (List.mem_append_right _ (List.mem_singleton.2 rfl)))
        · exact redLoop_cover l _ x (.inr h)
theorem redLoop_apart : ∀ (l out : List (List FLit)), out.Pairwise apart → (out ++ l).Pairwise leO → (redLoop out l).Pairwise apart
  | [], out, h, _ => h
  | z :: l, out, h, hs => by
    rw [redLoop]
    have hs' : (out ++ [z] ++ l).Pairwise leO := by rw [List.append_assoc]; exact hs
    split
    · refine redLoop_apart l out h ?_
      exact hs.sublist (List.Sublist.append_left (List.sublist_cons_self z l) out)
    · rename_i hz
      refine redLoop_apart l _ ?_ hs'
      rw [List.pairwise_append]
      refine ⟨h, by simp, fun a ha b hb => ?_⟩
      rw [List.mem_singleton.1 hb]
      refine ⟨(List.pairwise_append.1 hs).2.2 a ha z List.mem_cons_self, fun hw => hz (List.any_eq_true.2 ⟨a, ha, hw⟩)⟩
theorem reducedL_apart (f : List (List FLit)) : (reducedL f).Pairwise apart := redLoop_apart _ [] .nil (by simpa using sortO_sorted f)
theorem pair_cases {α : Type} {R : α → α → Prop} : ∀ {l : List α}, l.Pairwise R → ∀ x ∈ l, ∀ y ∈ l, x = y ∨ R x y ∨ R y x
  | [], _, x, hx, _, _ => by simp at hx
  | z :: l, h, x, hx, y, hy => by
    rw [List.pairwise_cons] at h
    rcases List.mem_cons.1 hx with e | hx'
    · rcases List.mem_cons.1 hy with e' | hy'
      · exact .inl (e.trans e'.symm)
      · rw [e]; exact .inr (.inl (h.1 y hy'))
    · rcases List.mem_cons.1 hy with e' | hy'
      · rw [e']; exact .inr (.inr (h.1 x hx'))
      · exact pair_cases h.2 x hx' y hy'
theorem reducedL_minimal {n : Int} {f : List (List FLit)} (hf : vF n f) (x : List FLit) : x ∈ reducedL f ↔ minimal f x := by
  have hcov : ∀ z ∈ f, ∃ y ∈ reducedL f, withinB y z = true := fun z hz => redLoop_cover _ [] z (.inr ((sortO_perm f).mem_iff.2 hz))
  constructor
  · intro hx
    refine ⟨reducedL_mem hx, fun m hm hw hlt => ?_⟩
    obtain ⟨y, hy, hym⟩ := hcov m hm
    have h1 := within_len (hf y (reducedL_mem hy)) (withinB_iff.1 hym)
    have hyx := within_trans hym hw
    rcases pair_cases (reducedL_apart f) x hx y hy with e | e | e
    · subst e; omega
    · have := order_len e.1; omega
    · exact e.2 hyx
  · rintro ⟨hx, hmin⟩
    obtain ⟨y, hy, hyx⟩ := hcov x hx
    have hyf := reducedL_mem hy
    have h1 := hmin y hyf hyx
    rw [← within_eq (hf y hyf) (hf x hx) (withinB_iff.1 hyx) (by omega)]
    exact hy
def ltO (a b : List FLit) : Prop := orderI a b < 0
theorem reducedL_strict (f : List (List FLit)) : (reducedL f).Pairwise ltO := (reducedL_apart f).imp fun {a b} h => by
  rcases Int.lt_or_eq_of_le h.1 with q | q
  · exact q
  · exact absurd (by rw [order_anti q]; exact within_refl b) h.2
theorem ltO_irrefl (a : List FLit) : ¬ ltO a a := by unfold ltO; rw [order_refl]; omega
theorem strict_unique : ∀ {a b : List (List FLit)}, a.Pairwise ltO → b.Pairwise ltO → (∀ x, x ∈ a ↔ x ∈ b) → a = b
  | [], [], _, _, _ => rfl
  | [], y :: b, _, _, h => by have := (h y).2 List.mem_cons_self; simp at this
  | x :: a, [], _, _, h => by have := (h x).1 List.mem_cons_self; simp at this
  | x :: a, y :: b, ha, hb, h => by
    rw [List.pairwise_cons] at ha hb
    have hxy : x = y := by
      rcases List.mem_cons.1 ((h x).1 List.mem_cons_self) with e | e
      · exact e
      · rcases List.mem_cons.1 ((h y).2 List.mem_cons_self) with e' | e'
        · exact e'.symm
        · exact absurd (order_trans (hb.1 x e) (ha.1 y e')) (ltO_irrefl y)
    subst hxy
    rw [strict_unique ha.2 hb.2 fun z => by
      constructor
      · intro hz
        rcases List.mem_cons.1 ((h z).1 (List.mem_cons_of_mem _ hz)) with e | e
        · subst e; exact absurd (ha.1 z hz) (ltO_irrefl z)
        · exact e
      · intro hz
        rcases List.mem_cons.1 ((h z).2 (List.mem_cons_of_mem _ hz)) with e | e
        · subst e; exact absurd (hb.1 z hz) (ltO_irrefl z)
        · exact e]
end Go.Proofs.YtocphglkceidhaaGreat
namespace Go.Proofs.YtocphglkceidhaaGreat
open Go.Ahl
theorem keepAt_iff (i : Nat) (l : List FLit) : ∀ (r : List (List FLit)) (k : Nat), keepAt i l k r = true ↔ ∀ (j : Nat) m, r[j]? = some m → withinB m l = true → ¬ m.length < l.length ∧ ¬ (k + j < i ∧ m.length = l.length)
  | [], k => by simp [keepAt]
  | m :: r, k => by
    rw [keepAt, Bool.and_eq_true, keepAt_iff i l r (k + 1)]
    constructor
    · rintro ⟨h1, h2⟩ j u hu hw
      cases j with
      | zero =>
        simp at hu; subst hu
        rw [hw, Bool.true_and] at h1
        simp at h1
        exact ⟨by omega, fun q => h1.2.elim (fun e => by omega) (fun e => e q.2)⟩
      | succ j =>
        simp at hu
        have := h2 j u hu hw
        exact ⟨this.1, fun q => this.2 ⟨by omega, q.2⟩⟩
    · intro h
      refine ⟨?_, fun j u hu hw => ?_⟩
      · cases hw : withinB m l
        · rfl
        · have := h 0 m rfl hw
          rw [decide_eq_false this.1]
          by_cases hk : k < i
          · rw [decide_eq_true hk, decide_eq_false (fun q => this.2 ⟨by omega, q⟩)]; rfl
          · rw [decide_eq_false hk]; rfl
      · have := h (j + 1) u (by simpa using hu) hw
        exact ⟨this.1, fun q => this.2 ⟨by omega, q.2⟩⟩
theorem insB_iff (l : List FLit) : ∀ r x, x ∈ insB l r ↔ x = l ∨ x ∈ r
  | [], x => by simp [insB]
  | y :: r, x => by
    rw [insB]
    split
    · rw [List.mem_cons, insB_iff l r x, List.mem_cons]
      constructor
      · rintro (h | h | h)
        · exact .inr (.inl h)
        · exact .inl h
        · exact .inr (.inr h)
      · rintro (h | h | h)
        · exact .inr (.inl h)
        · exact .inl h
        · exact .inr (.inr h)
    · rw [List.mem_cons]
theorem insB_strict (l : List FLit) : ∀ {r}, r.Pairwise ltO → l ∉ r → (insB l r).Pairwise ltO
  | [], _, _ => by simp [insB]
  | y :: r, h, hl => by
    rw [insB, befB_eq]
    rw [List.pairwise_cons] at h
    have hne : y ≠ l := fun e => hl (by rw [e]; exact List.mem_cons_self)
    split
    · rename_i hb
      have hb := of_decide_eq_true hb
      refine List.pairwise_cons.2 ⟨fun z hz => ?_, insB_strict l h.2 (fun q => hl (List.mem_cons_of_mem _ q))⟩
      rcases (insB_iff l r z).1 hz with e | hz
      · rw [e]; exact hb
      · exact h.1 z hz
    · rename_i hb
      have hly : ltO l y := by
        have h0 : ¬ orderI y l < 0 := fun q => hb (decide_eq_true q)
        rcases Int.lt_trichotomy (orderI l y) 0 with q | q | q
        · exact q
        · exact absurd (order_anti q).symm hne
        · exact absurd (order_swap.2 q) h0
      refine List.pairwise_cons.2 ⟨fun z hz => ?_, List.pairwise_cons.2 h⟩
      rcases List.mem_cons.1 hz with e | hz
      · rw [e]; exact hly
      · exact order_trans hly (h.1 z hz)
/-- The first occurrence of a term that no stronger one of f is within, among the first i. -/
theorem refFrom_spec {n : Int} {f : List (List FLit)} (hf : vF n f) : ∀ (r : List (List FLit)) (i : Nat) (out : List (List FLit)), r = f.drop i → i ≤ f.length → out.Pairwise ltO → (∀ x, x ∈ out ↔ minimal f x ∧ x ∈ f.take i) →
    (refFrom f i out r).Pairwise ltO ∧ ∀ x, x ∈ refFrom f i out r ↔ minimal f x
  | [], i, out, hr, hi, hp, hm => by
    have hlen : f.length ≤ i := List.drop_eq_nil_iff.1 hr.symm
    refine ⟨hp, fun x => ?_⟩
    rw [refFrom, hm x, List.take_of_length_le hlen]
    exact ⟨fun h => h.1, fun h => ⟨h, h.1⟩⟩
  | l :: r, i, out, hr, hi, hp, hm => by
    have hlt : i < f.length := by
      rcases Nat.lt_or_ge i f.length with q | q
      · exact q
      · rw [List.drop_eq_nil_iff.2 q] at hr; simp at hr
    have hx : f[i]? = some l := by
      have := congrArg (·[0]?) hr
      simp at this; exact this.symm
    have hr' : r = f.drop (i + 1) := by
      rw [drop_cons hx] at hr; injection hr
    have hlf : l ∈ f := List.mem_of_getElem? hx
    have hts := take_succ' hx
    rw [refFrom]
    by_cases hk : keepAt i l 0 f = true
    · rw [if_pos hk]
      have hk' := (keepAt_iff i l f 0).1 hk
      have hmin : minimal f l := ⟨hlf, fun m hm' hw => by
        obtain ⟨j, hj, rfl⟩ := List.mem_iff_getElem.1 hm'
        exact (hk' j _ (List.getElem?_eq_getElem hj) hw).1⟩
      have hnot : l ∉ out := by
        intro hl
        have := ((hm l).1 hl).2
        obtain ⟨j, hj, he⟩ := List.mem_iff_getElem.1 this
        have hji : j < i := by rw [List.length_take] at hj; omega
        rw [List.getElem_take] at he
        exact (hk' j l (by rw [List.getElem?_eq_getElem (by omega), he]) (within_refl l)).2 ⟨by omega, rfl⟩
      refine refFrom_spec hf r (i + 1) _ hr' (by omega) (insB_strict l hp hnot) fun x => ?_
      rw [insB_iff, hm x, hts, List.mem_append, List.mem_singleton]
      constructor
      · rintro (h | h)
        · subst h; exact ⟨hmin, .inr rfl⟩
        · exact ⟨h.1, .inl h.2⟩
      · rintro ⟨h, h' | h'⟩
        · exact .inr ⟨h, h'⟩
        · exact .inl h'
    · rw [if_neg hk]
      refine refFrom_spec hf r (i + 1) _ hr' (by omega) hp fun x => ?_
      rw [hm x, hts, List.mem_append, List.mem_singleton]
      constructor
      · rintro ⟨h, h'⟩; exact ⟨h, .inl h'⟩
      · rintro ⟨h, h' | h'⟩
        · exact ⟨h, h'⟩
        · subst h'
          refine ⟨h, ?_⟩
          -- it is minimal, yet not kept: an equal one stands ahead
          refine Classical.byContradiction fun hno => hk ((keepAt_iff i x f 0).2 fun j m hj hw => ⟨h.2 m (List.mem_of_getElem? hj) hw, fun q => hno ?_⟩)
          have he := within_eq (hf m (List.mem_of_getElem? hj)) (hf x hlf) (withinB_iff.1 hw) (by omega)
          subst he
          exact List.mem_iff_getElem?.2 ⟨j, by rw [List.getElem?_take, if_pos (by omega)]; exact hj⟩
theorem refRed_eq {n : Int} {f : List (List FLit)} (hf : vF n f) : refRed f = reducedL f := by
  have h := refFrom_spec hf f 0 [] (by simp) (Nat.zero_le _) .nil (by simp)
  exact strict_unique h.1 (reducedL_strict f) fun x => by
    rw [reducedL_minimal hf x]; exact h.2 x
end Go.Proofs.YtocphglkceidhaaGreat
namespace Go.Proofs.YtocphglkceidhaaGreat
open Go.Ahl
theorem FB.of {f : List (List FLit)} (h : f.length ≤ 1073741824 ∧ ∀ l ∈ f, l.length ≤ 1073741824) : FB f := ⟨by have := h.1; omega, fun l hl => by have := h.2 l hl; omega⟩
def goodB (n : Int) (f : List (List FLit)) : Bool := isForm n f && decide (f = refRed f)
end Go.Proofs.YtocphglkceidhaaGreat
