/- Contracts of the given program's functions, and an abstract layer over the model; no condition. -/
import Derived.Ground.SlsfProg
import Derived.Ground.SlgnProg
import Derived.Test.YtocphglkceidhaaGreatBase3
set_option linter.unusedVariables false
set_option linter.unusedSimpArgs false
/- The abstract layer, part 31: rows that grow in their place, in cells. -/
namespace Go.Ahl
section
variable {m : Mem} {loc : List Loc} {σ : Store} {w : World}
/-- What a cell holds, told in another way. -/
theorem SRel.recell (h : SRel m loc σ w) (id : Nat) {x y : AV} (hs : σ[id]? = some (.row [x])) (hw : ∀ v, Rel m loc x v → Rel m loc y v) : SRel m loc (σ.set id (.row [y])) w where
  len := by simp [h.len]
  im := h.im
  bs := h.bs
  obj := by
    intro i l o h1 h2
    rcases get_set h2 with ⟨rfl, rfl⟩ | ⟨_, h2⟩
    · have := h.obj _ l _ h1 hs
      cases l with
      | nowhere => simp [ObjRel] at this
      | tok sz f => exact this.elim
      | blk b =>
        obtain ⟨arr, t, h1, h2, h3, h4, h5⟩ := this
        refine ⟨arr, t, h1, h2, h3, fun j z v e1 e2 => ?_, h5⟩
        cases j with
        | zero => simp at e1; subst e1; exact hw v (h4 0 x v rfl e2)
        | succ j => simp at e1
    · exact h.obj i l o h1 h2
  inj := by
    intro i j l l' o o' b h1 h2 h3 h4 w1 w2
    have fix : ∀ {i : Nat} {l : Loc} {o : AObj}, (σ.set id (.row [y]))[i]? = some o → own l o = some b → ∃ o2, σ[i]? = some o2 ∧ own l o2 = some b := by
      intro i l o h3 w1
      rcases get_set h3 with ⟨rfl, rfl⟩ | ⟨_, h3⟩
      · exact ⟨_, hs, by rw [own_row l [x] [y]]; exact w1⟩
      · exact ⟨_, h3, w1⟩
    obtain ⟨o2, q1, q2⟩ := fix h3 w1
    obtain ⟨o3, q3, q4⟩ := fix h4 w2
    exact h.inj i j l l' o2 o3 b h1 h2 q1 q3 q2 q4
  lt := h.lt
  mp := h.mp
  mpo := by
    intro i l o b h1 h2 w1
    rcases get_set h2 with ⟨rfl, rfl⟩ | ⟨_, h2⟩
    · exact h.mpo _ l _ b h1 hs (by rw [own_row l [x] [y]]; exact w1)
    · exact h.mpo i l o b h1 h2 w1
  ok := h.ok
/-- One more place for what is there already. -/
theorem SRel.place (h : SRel m loc σ w) (n0 : Nat) (l : Loc) (o : AObj) (hnm : ∀ b, (l = .blk b ∨ ∃ sz g k, l = .tok sz g ∧ g k = some (some b)) → Names loc b)
    (ho : ObjRel m (loc ++ [l]) w l o) (hno : ∀ b, own l o = some b → (∀ (i : Nat) l' o', loc[i]? = some l' → σ[i]? = some o' → own l' o' ≠ some b) ∧ m.mp b = none) :
    SRel m (loc ++ [l]) (σ ++ [o]) w ∧ Ext n0 m loc w m (loc ++ [l]) w := by
  have hnam : ∀ b, Names (loc ++ [l]) b → Names loc b := by
    intro b e
    rcases e.app with e | e | e
    · exact e
    · exact hnm b (.inl e)
    · exact hnm b (.inr e)
  refine ⟨⟨by simp [h.len], h.im, h.bs, ?_, ?_, fun b' e => h.lt b' (hnam b' e), h.mp, ?_, h.ok.names hnam⟩, ⟨rfl, rfl, rfl, Nat.le_refl _, Nat.le_refl _, .refl m, .app _ _ _, fun b' e => .inl (hnam b' e), fun _ _ _ _ => rfl, fun _ _ _ e => .inl e⟩⟩
  · intro i l' o' e1 e2
    rcases get_app e1 with f1 | ⟨hi, f1⟩
    · rcases get_app e2 with f2 | ⟨hi2, f2⟩
      · exact (h.obj i l' o' f1 f2).mono (.refl m) (.app _ _ _) (fun _ _ => rfl) (fun _ _ _ => rfl)
      · have := lt_of_get f1; have := h.len; omega
    · rcases get_app e2 with f2 | ⟨hi2, f2⟩
      · have := lt_of_get f2; have := h.len; omega
      · subst f1; subst f2; exact ho
  · intro i j l1 l2 o1 o2 b e1 e2 e3 e4 w1 w2
    have hl := h.len
    rcases get_app e1 with f1 | ⟨hi, f1⟩ <;> rcases get_app e2 with f2 | ⟨hj, f2⟩ <;> rcases get_app e3 with f3 | ⟨hi3, f3⟩ <;> rcases get_app e4 with f4 | ⟨hi4, f4⟩
    · exact h.inj i j l1 l2 o1 o2 b f1 f2 f3 f4 w1 w2
    · have := lt_of_get f2; omega
    · have := lt_of_get f1; omega
    · have := lt_of_get f1; omega
    · have := lt_of_get f4; omega
    · subst f2; subst f4; exact absurd w1 ((hno b w2).1 i l1 o1 f1 f3)
    · have := lt_of_get f1; omega
    · have := lt_of_get f1; omega
    · have := lt_of_get f3; omega
    · have := lt_of_get f2; omega
    · subst f1; subst f3; exact absurd w2 ((hno b w1).1 j l2 o2 f2 f4)
    · have := lt_of_get f2; omega
    · omega
    · omega
    · omega
    · omega
  · intro i l' o' b e1 e2 w1
    rcases get_app e1 with f1 | ⟨hi, f1⟩
    · rcases get_app e2 with f2 | ⟨hi2, f2⟩
      · exact h.mpo i l' o' b f1 f2 w1
      · have := lt_of_get f1; have := h.len; omega
    · rcases get_app e2 with f2 | ⟨hi2, f2⟩
      · have := lt_of_get f2; have := h.len; omega
      · subst f1; subst f2; exact (hno b w1).2
theorem SRel.vec0 (h : SRel m loc σ w) (n0 sz : Nat) : SRel m (loc ++ [.tok sz Ahl.tok0]) (σ ++ [.vec sz 0 []]) w ∧ Ext n0 m loc w m (loc ++ [.tok sz Ahl.tok0]) w := by
  refine h.ghost n0 _ _ ?_ ?_ ⟨rfl, by simp, fun k hk => by simp only [Ahl.tok0]; rw [if_neg (by omega)], .inl ⟨by simp [Ahl.tok0], rfl⟩⟩
  · rintro b (e | ⟨sz', g, k, e, hk⟩)
    · simp at e
    · injection e with e1 e2; subst e2; unfold Ahl.tok0 at hk; split at hk <;> simp at hk
  · intro b; simp [own, Ahl.tok0]
end
/-- The nil in a cell becomes a row that grows in its place. -/
theorem Ghost.vecCell {n0 nt : Nat} {s : Slots} {σ : Store} (id sz : Nat) (hs : σ[id]? = some (.row [.slice .nil []])) :
    Ghost n0 nt s σ s ((σ ++ [AObj.vec sz 0 []]).set id (AObj.row [AV.vec σ.length sz 0])) := by
  intro m loc w tm hl hS hr
  obtain ⟨g1, g2⟩ := hS.vec0 n0 sz
  have g3 := g1.recell id (y := .vec σ.length sz 0) (by rw [List.getElem?_append_left (lt_of_get hs)]; exact hs) (fun v hv => by
    cases hv with
    | slice _ _ ad cap sz' bb o f hcap htok =>
      obtain ⟨h1, h2⟩ := htok
      subst h1; subst h2
      exact .vec _ _ _ _ tok0 _ (by rw [← hS.len]; simp) (Nat.le_refl _) (.inl ⟨by simp [tok0], rfl⟩))
  exact ⟨m, _, g3, ⟨hr.size, fun i => (hr.rel i).mono (.refl m) (.app _ _ _)⟩, g2⟩
/-- A row that grew in its place, held by a cell, becomes a row of one's own. -/
theorem Ghost.vecRef {n0 nt : Nat} {s : Slots} {σ : Store} (id G : Nat) {sz len : Nat} {cells : List AV} (hs : σ[id]? = some (.row [.vec G sz len])) (hG : σ[G]? = some (.vec sz len cells)) :
    Ghost n0 nt s σ s ((σ.set G .dead ++ [AObj.row cells]).set id (AObj.row [AV.ref σ.length sz 0 len])) := by
  intro m loc w tm hl hS hr
  have hne : G ≠ id := by intro e; subst e; rw [hs] at hG; simp at hG
  have hGl : G < loc.length := by rw [hS.len]; exact lt_of_get hG
  have hloc : loc[G]? = some (loc[G]) := List.getElem?_eq_getElem hGl
  have hobj := hS.obj G _ _ hloc hG
  generalize loc[G] = l at hloc hobj
  cases l with
  | blk b => exact hobj.elim
  | nowhere => exact hobj.elim
  | tok sz' f =>
    obtain ⟨rfl, hcl, hff, hcur⟩ := hobj
    have hd := hS.die G
    have hids : (σ.set G .dead)[id]? = some (.row [.vec G sz' len]) := by rw [List.getElem?_set_ne hne]; exact hs
    have fin : ∀ (l : Loc), SRel m (loc ++ [l]) (σ.set G .dead ++ [AObj.row cells]) w → Ext n0 m loc w m (loc ++ [l]) w → (∀ v, Rel m (loc ++ [l]) (.vec G sz' len) v → Rel m (loc ++ [l]) (.ref σ.length sz' 0 len) v) →
        ∃ m' loc', SRel m' loc' ((σ.set G .dead ++ [AObj.row cells]).set id (AObj.row [AV.ref σ.length sz' 0 len])) w ∧ SlotRel m' loc' nt s tm ∧ Ext n0 m loc w m' loc' w := by
      intro l q1 q2 q3
      exact ⟨m, _, q1.recell id (by rw [List.getElem?_append_left (by simpa using lt_of_get hs)]; exact hids) q3, ⟨hr.size, fun i => (hr.rel i).mono (.refl m) (.app _ _ _)⟩, q2⟩
    rcases hcur with ⟨f0, l0⟩ | ⟨b, arr, t, f1, e1, e2, e3, e4, e5⟩
    · subst l0
      have hc0 : cells = [] := List.eq_nil_of_length_eq_zero (by simpa using hcl)
      subst hc0
      obtain ⟨q1, q2⟩ := hd.row0 n0
      refine fin .nowhere q1 q2 fun v hv => ?_
      cases hv with
      | vec _ _ _ cap f' a h1 h2 h3 =>
        rw [List.getElem?_append_left hGl, hloc] at h1
        injection h1 with h1; injection h1 with _ h1; subst h1
        rcases h3 with ⟨_, rfl⟩ | ⟨b, n, h3, _⟩
        · exact .ref0 _ _ _ a (by rw [List.length_append, ← hS.len]; simp)
        · rw [f0] at h3; simp at h3
    · obtain ⟨q1, q2⟩ := hd.place n0 (.blk b) (.row cells) (by
        rintro b' (e | ⟨_, _, _, e, _⟩)
        · injection e with e; subst e; exact ⟨G, .inr ⟨_, f, _, hloc, f1⟩⟩
        · simp at e) ⟨arr, t, e1, e2, e3, fun j x v a1 a2 => (e4 j x v a1 a2).mono (.refl m) (.app _ _ _), e5⟩ (by
        intro b' hb'
        simp [own] at hb'; subst hb'
        refine ⟨fun i l' o' a1 a2 a3 => ?_, hS.mpo G _ _ b hloc hG (by simp [own, f1])⟩
        rcases get_set a2 with ⟨rfl, rfl⟩ | ⟨hne2, a2⟩
        · cases l' <;> simp [own] at a3
        · exact hne2 (hS.inj G i _ l' _ o' b hloc a1 hG a2 (by simp [own, f1]) a3))
      refine fin (.blk b) q1 q2 fun v hv => ?_
      cases hv with
      | vec _ _ _ cap f' a h1 h2 h3 =>
        rw [List.getElem?_append_left hGl, hloc] at h1
        injection h1 with h1; injection h1 with _ h1; subst h1
        rcases h3 with ⟨h3, _⟩ | ⟨b', n, h3, h4, h5, h6⟩
        · rw [f1] at h3; simp at h3
        · rw [f1] at h3; injection h3 with h3; injection h3 with h3; subst h3
          subst h4
          exact .ref _ _ _ _ cap b n (by rw [← hS.len]; simp) h2 h5 (by omega)
end Go.Ahl
/- The abstract layer, part 32: new memory that is told as what may be written to at any time. -/
namespace Go.Ahl
def kindV : Value → Option Kind
  | .int k _ => some (.int k)
  | .string _ => some .str
  | .bool _ => some .bool
  | _ => none
theorem kindV_is {v : Value} {K : Kind} (h : kindV v = some K) : K.is v := by
  cases v <;> simp [kindV] at h <;> subst h <;> exact ⟨_, rfl⟩
/-- A cell's value, told as one that anyone may have written to. -/
inductive Wkn : AV → AV → Prop where
  | int (k : IntKind) (n : Int) : Wkn (.int k n) (.cell (.int k))
  | str (s : ByteArray) : Wkn (.str s) (.cell .str)
  | bool (b : Bool) : Wkn (.bool b) (.cell .bool)
  | nil : Wkn (.slice .nil []) (.wslice [])
  | slice (es es' : List (List AV)) (hl : es.length = es'.length) (hle : ∀ (i : Nat) e e', es[i]? = some e → es'[i]? = some e' → e.length = e'.length)
      (h : ∀ (i : Nat) e e', es[i]? = some e → es'[i]? = some e' → ∀ (j : Nat) x y, e[j]? = some x → e'[j]? = some y → Wkn x y) : Wkn (.slice .fresh es) (.wslice es')
/-- What was known in m1 of blocks from n on, told as what may be written to; of the others what m knows. -/
def Mem.weaken (m m1 : Mem) (n : Nat) : Mem where
  im b o := if b < n then m.im b o else (m1.im b o).bind fun v => if (kindV v).isSome then none else some v
  bs := m.bs
  mp := m.mp
  base := m.base
  wk b o := if b < n then m.wk b o else (m1.im b o).bind kindV
theorem get_both {α β : Type} {l : List α} {l' : List β} {i : Nat} {y : β} (h : l.length = l'.length) (e : l'[i]? = some y) : ∃ x, l[i]? = some x :=
  ⟨l[i]'(by rw [h]; exact lt_of_get e), List.getElem?_eq_getElem _⟩
theorem Wkn.rel {m m1 : Mem} {loc loc1 : List Loc} {n : Nat} (hb : m1.base = n) (hl0 : 0 < loc.length) {a b : AV} (h : Wkn a b) : ∀ {v : Value}, Rel m1 loc1 a v →
    Rel (m.weaken m1 n) loc b v ∧ (∀ K, b = .cell K → kindV v = some K) ∧ (b.isCell = false → kindV v = none) := by
  induction h with
  | int k i => intro v hr; cases hr; exact ⟨.cell _ _ ⟨_, rfl⟩, by rintro K e; injection e with e; subst e; rfl, by simp [AV.isCell]⟩
  | str s => intro v hr; cases hr; exact ⟨.cell _ _ ⟨_, rfl⟩, by rintro K e; injection e with e; subst e; rfl, by simp [AV.isCell]⟩
  | bool b => intro v hr; cases hr; exact ⟨.cell _ _ ⟨_, rfl⟩, by rintro K e; injection e with e; subst e; rfl, by simp [AV.isCell]⟩
  | nil =>
    intro v hr
    cases hr with
    | slice _ _ a cap sz b o f hcap htok hsz ha hc hr =>
      exact ⟨.wslice [] a cap 0 0 0 (fun _ _ => undef) hl0 hcap (by simp) (fun h => absurd rfl h) (by simp) (by simp) (by simp), by simp, fun _ => rfl⟩
  | slice es es' hl hle h ih =>
    intro v hr
    cases hr with
    | slice _ _ a cap sz b o f hcap htok hsz ha hc hr =>
      refine ⟨?_, by simp, fun _ => rfl⟩
      rw [hl]
      have hne : es' ≠ [] → es ≠ [] := fun q q' => by subst q'; exact q (List.length_eq_zero_iff.1 hl.symm)
      have hn : ∀ (i : Nat) e', es'[i]? = some e' → ¬ b < n := fun i e' he => by
        have hi := lt_of_get he
        have hq : es ≠ [] := by intro q; subst q; simp at hl; omega
        have := htok (by omega) b o (ha hq)
        omega
      have hcell : ∀ (i : Nat) e', es'[i]? = some e' → ∀ (j : Nat) y, e'[j]? = some y → ∃ x e, es[i]? = some e ∧ e[j]? = some x ∧ m1.im b (o + (i * sz + j)) = some (f i j) := fun i e' he j y hy => by
        obtain ⟨e, he1⟩ := get_both hl he
        obtain ⟨x, hx⟩ := get_both (hle i e e' he1 he) hy
        exact ⟨x, e, he1, hx, hc i (lt_of_get he1) j (by rw [← hsz e (List.mem_of_getElem? he1)]; exact lt_of_get hx)⟩
      refine .wslice es' a cap sz b o f hl0 (by omega) (fun e' he' => ?_) (fun q => ha (hne q)) (fun i e' he j K hK => ?_) (fun i e' he j y hy hyc => ?_) (fun i e' he j y hy hyc => ?_)
      · obtain ⟨i, hi, rfl⟩ := List.mem_iff_getElem.1 he'
        obtain ⟨e, he1⟩ := get_both hl (List.getElem?_eq_getElem hi)
        rw [← hle i e _ he1 (List.getElem?_eq_getElem hi)]; exact hsz e (List.mem_of_getElem? he1)
      · obtain ⟨x, e, h1, h2, h3⟩ := hcell i e' he j _ hK
        obtain ⟨_, q, _⟩ := ih i e e' h1 he j x _ h2 hK (hr i e h1 j x h2)
        simp only [Mem.weaken]; rw [if_neg (hn i e' he), h3]; exact q K rfl
      · obtain ⟨x, e, h1, h2, h3⟩ := hcell i e' he j _ hy
        obtain ⟨_, _, q⟩ := ih i e e' h1 he j x _ h2 hy (hr i e h1 j x h2)
        simp only [Mem.weaken]; rw [if_neg (hn i e' he), h3]; simp [q hyc]
      · obtain ⟨x, e, h1, h2, h3⟩ := hcell i e' he j _ hy
        exact (ih i e e' h1 he j x _ h2 hy (hr i e h1 j x h2)).1
/-- A value in which nothing is said of new memory. -/
def Unf (a : AV) : Prop := ∀ m v n, Rel m [] a v → Rel { m with base := n } [] a v
def UnfL (l : List AV) : Prop := ∀ x ∈ l, Unf x
theorem Unf.int (k : IntKind) (n : Int) : Unf (.int k n) := fun m v n h => by cases h; exact .int _ _
theorem Unf.str (s : ByteArray) : Unf (.str s) := fun m v n h => by cases h; exact .str _
theorem Unf.bool (b : Bool) : Unf (.bool b) := fun m v n h => by cases h; exact .bool _
theorem Unf.slice {t : Tok} (ht : t = .unk ∨ t = .nil ∨ t = .zero) {es : List (List AV)} (h : ∀ e ∈ es, UnfL e) : Unf (.slice t es) := fun m v n hr => by
  cases hr with
  | slice _ _ a cap sz b o f hcap htok hsz ha hc hr =>
    refine .slice t es a cap sz b o f hcap ?_ hsz ha hc (fun i e he j x hx => h e (List.mem_of_getElem? he) x (List.mem_of_getElem? hx) m _ n (hr i e he j x hx))
    rcases ht with rfl | rfl | rfl <;> exact htok
theorem Unf.map {α : Type} {enc : α → List AV} (h : ∀ x, UnfL (enc x)) (l : List α) : Unf (.slice .unk (l.map enc)) :=
  .slice (.inl rfl) fun e he => by obtain ⟨x, _, rfl⟩ := List.mem_map.1 he; exact h x
theorem Unf.nil : Unf (.slice .nil []) := .slice (.inr (.inl rfl)) (by simp)
theorem Unf.agg {l : List AV} (h : UnfL l) : Unf (.agg l) := fun m v n hr => by
  cases hr with
  | agg _ vs hlen hr => exact .agg _ vs hlen fun j x v e1 e2 => h x (List.mem_of_getElem? e1) m v n (hr j x v e1 e2)
theorem UnfL.nil : UnfL [] := fun x h => by simp at h
theorem UnfL.cons {x : AV} {l : List AV} (h : Unf x) (k : UnfL l) : UnfL (x :: l) := fun y hy => by
  rcases List.mem_cons.1 hy with rfl | hy
  · exact h
  · exact k y hy
theorem UnfL.app {l k : List AV} (h : UnfL l) (h' : UnfL k) : UnfL (l ++ k) := fun y hy => by
  rcases List.mem_append.1 hy with hy | hy
  · exact h y hy
  · exact h' y hy
def AV.flat : AV → Bool
  | .int .. | .bool _ | .str _ => true
  | _ => false
def Wkn1 (x y : AV) : Prop := Wkn x y ∨ (x = y ∧ x.flat = true)
def WknT (a b : AV) : Prop := Wkn1 a b ∨ ∃ xs ys, a = .tuple xs ∧ b = .tuple ys ∧ xs.length = ys.length ∧ ∀ (j : Nat) x y, xs[j]? = some x → ys[j]? = some y → Wkn1 x y
theorem Wkn1.rel {m m1 : Mem} {loc loc1 : List Loc} {n : Nat} (hb : m1.base = n) (hl0 : 0 < loc.length) {a b : AV} (h : Wkn1 a b) {v : Value} (hr : Rel m1 loc1 a v) : Rel (m.weaken m1 n) loc b v := by
  rcases h with h | ⟨rfl, h⟩
  · exact (h.rel hb hl0 hr).1
  · cases hr <;> simp [AV.flat] at h <;> constructor
theorem WknT.rel {m m1 : Mem} {loc loc1 : List Loc} {n : Nat} (hb : m1.base = n) (hl0 : 0 < loc.length) {a b : AV} (h : WknT a b) {v : Value} (hr : Rel m1 loc1 a v) : Rel (m.weaken m1 n) loc b v := by
  rcases h with h | ⟨xs, ys, rfl, rfl, hl, h⟩
  · exact h.rel hb hl0 hr
  · cases hr with
    | tuple _ vs hlen hr =>
      refine .tuple ys vs (by omega) fun j y v e1 e2 => ?_
      obtain ⟨x, hx⟩ := get_both hl e1
      exact (h j x y hx e1).rel hb hl0 (hr j x v hx e2)
/-- A call, whose result is new memory: this may be written to from now on. -/
theorem ACalls.weak {P : Program} {f : FuncId} {args : List AV} {R : Cont} {Q : AV → Prop} (h : ACalls P f args [] R) (hab : ∀ r σ', R r σ' → ∃ b, WknT r b ∧ Q b) (hi : ∀ x ∈ args, Ids 0 x) (hu : UnfL args) (σ : Store) :
    ACalls P f args σ (fun r σ' => Q r ∧ σ' = σ ++ [.dead]) := by
  intro m loc w vs hs ha
  let m0 : Mem := { m.strip with base := w.heap.size }
  have hS0 : SRel m0 [] [] w := by
    have h1 := (srel_base hs).strip fun _ _ q => q.strip
    exact ⟨h1.len, h1.im, h1.bs, by intro i l o e; simp at e, by intro i j l l' o o' b e; simp at e, h1.lt, h1.mp, by intro i l o b e; simp at e,
      ⟨Nat.le_refl _, by rintro b ⟨i, e | ⟨_, _, _, e, _⟩⟩ <;> simp at e, fun b o K e => by simp [m0, Mem.strip] at e, fun b o v q e => by
        have := hs.im_lt (b := b) (o := o) (v := v) e
        have q : w.heap.size ≤ b := q
        omega⟩⟩
  have hA : ArgsRel m0 [] args vs := by
    refine ⟨ha.1, fun j x v e1 e2 => ?_⟩
    have h1 := (ha.2 j x v e1 e2).take (n := 0) (hi x (List.mem_of_getElem? e1))
    rw [List.take_zero] at h1
    exact hu x (List.mem_of_getElem? e1) _ _ _ h1.strip
  have key : ∀ v w', ARet [] m0 w R v w' → ARet loc m w (fun r σ' => Q r ∧ σ' = σ ++ [.dead]) v w' := by
    rintro v w' ⟨r, σ', m1, loc1, hR, hrel, hsr, hext⟩
    obtain ⟨b, hb1, hb2⟩ := hab r σ' hR
    have hbase : m1.base = w.heap.size := hext.mem.base
    have hfr : ∀ k, k < w.heap.size → w'.heap[k]? = w.heap[k]? := fun k hk => hext.frame k hk (by rintro ⟨i, e | ⟨_, _, _, e, _⟩⟩ <;> simp at e) (fun _ => rfl)
    let m2 := m.weaken m1 w.heap.size
    have him : ∀ k o, k < w.heap.size → m2.im k o = m.im k o := fun k o hk => if_pos hk
    have hwk : ∀ k o, k < w.heap.size → m2.wk k o = m.wk k o := fun k o hk => if_pos hk
    have hwlt : ∀ k o K, m.wk k o = some K → k < w.heap.size := fun k o K e => by
      obtain ⟨_, _, arr, t, fz, v, h3, _⟩ := hs.ok.wk k o K e
      exact lt_of_heap h3
    have hle : m.le m2 := ⟨fun k o v e => by rw [him k o (hs.im_lt e)]; exact e, fun _ _ e => e, fun _ _ e => e, fun k o K e => by rw [hwk k o (hwlt k o K e)]; exact e, rfl⟩
    have hnew : ∀ k o v, ¬ k < w.heap.size → m2.im k o = some v → m1.im k o = some v := fun k o v hk e => by
      simp only [m2, Mem.weaken] at e
      rw [if_neg hk] at e
      cases e1 : m1.im k o with
      | none => rw [e1] at e; simp at e
      | some u =>
        rw [e1] at e; simp only [Option.bind_some] at e
        split at e
        · simp at e
        · exact e
    have hS2 : SRel m2 loc σ w' := by
      refine ⟨hs.len, ?_, ?_, ?_, hs.inj, fun b e => Nat.lt_of_lt_of_le (hs.lt b e) hext.size, ?_, hs.mpo, ?_⟩
      · intro k o v e
        by_cases hk : k < w.heap.size
        · rw [him k o hk] at e
          have := hs.im k o v e
          simpa [World.cell?, hfr k hk] using this
        · exact hsr.im k o v (hnew k o v hk e)
      · intro k n e
        rw [hfr k (hs.bs_lt (b := k) (n := n) e)]; exact hs.bs k n e
      · intro i l o e1 e2
        exact (hs.obj i l o e1 e2).mono hle (.refl _ _) (fun k e => hfr k (hs.lt k (own_names e1 e))) (fun k off e => him k off (hs.lt k (own_names e1 e)))
      · intro k e q
        rw [hfr k (hs.mp_lt (b := k) (e := e) q)]; exact hs.mp k e q
      · refine ⟨Nat.le_trans hs.ok.low hext.size, hs.ok.own, fun k o K e => ?_, fun k o v q e => ?_⟩
        · by_cases hk : k < w.heap.size
          · rw [hwk k o hk] at e
            obtain ⟨h1, h2, arr, t, fz, v, h3, h4, h5, h6⟩ := hs.ok.wk k o K e
            exact ⟨h1, by rw [him k o hk]; exact h2, arr, t, fz, v, by rw [hfr k hk]; exact h3, h4, h5, by rw [frozen_same (hfr k hk)]; exact h6⟩
          · simp only [m2, Mem.weaken] at e
            rw [if_neg hk] at e
            cases e1 : m1.im k o with
            | none => rw [e1] at e; simp at e
            | some u =>
              rw [e1] at e; simp only [Option.bind_some] at e
              have hc := hsr.im k o u e1
              refine ⟨fun q => hk (hs.lt k q), ?_, ?_⟩
              · simp only [m2, Mem.weaken]; rw [if_neg hk, e1]; simp [e]
              · have hz := hsr.ok.fz k o u (by rw [hbase]; omega) e1
                unfold World.cell? at hc
                split at hc
                · rename_i arr t fz hh
                  simp at hc
                  exact ⟨arr, t, fz, u, hh, hc, kindV_is e, hz⟩
                · simp at hc
        · by_cases hk : k < w.heap.size
          · rw [him k o hk] at e
            rw [frozen_same (hfr k hk)]; exact hs.ok.fz k o v q e
          · exact hsr.ok.fz k o v (by rw [hbase]; omega) (hnew k o v hk e)
    have hE2 : Ext loc.length m loc w m2 loc w' := ⟨hext.os, hext.tape, hext.output, hext.drawn, hext.size, hle, .refl _ _, fun _ e => .inl e, fun k hk _ _ => hfr k hk, fun k o K e => by
      by_cases hk : k < w.heap.size
      · rw [hwk k o hk] at e; exact .inl e
      · exact .inr (by omega)⟩
    obtain ⟨g1, g2⟩ := hS2.ghost loc.length .nowhere .dead (by rintro b (e | ⟨_, _, _, e, _⟩) <;> simp at e) (by intro b; simp [own]) trivial
    exact ⟨b, _, m2, _, ⟨hb2, rfl⟩, hb1.rel hbase (by simp) hrel, g1, hE2.trans g2⟩
  rcases h m0 [] w vs hS0 hA with ⟨fn, h1, h2, h3, h4⟩ | ⟨v, w', h1, h2⟩
  · exact .inl ⟨fn, h1, h2, h3, h4.mono fun e w' ⟨v, e1, e2⟩ => ⟨v, e1, key _ _ e2⟩⟩
  · exact .inr ⟨v, w', h1, key _ _ h2⟩
theorem Wkn.map {α : Type} {enc enc' : α → List AV} (hl : ∀ x, (enc x).length = (enc' x).length) (h : ∀ x (j : Nat) a b, (enc x)[j]? = some a → (enc' x)[j]? = some b → Wkn a b) (l : List α) :
    Wkn (.slice .fresh (l.map enc)) (.wslice (l.map enc')) := by
  have hx : ∀ (i : Nat) e e', (l.map enc)[i]? = some e → (l.map enc')[i]? = some e' → ∃ x, e = enc x ∧ e' = enc' x := by
    intro i e e' h1 h2
    rw [List.getElem?_map] at h1 h2
    cases q : l[i]? with
    | none => rw [q] at h1; simp at h1
    | some x => rw [q] at h1 h2; simp at h1 h2; exact ⟨x, h1.symm, h2.symm⟩
  refine .slice _ _ (by simp) (fun i e e' h1 h2 => ?_) (fun i e e' h1 h2 j x y h3 h4 => ?_)
  · obtain ⟨x, rfl, rfl⟩ := hx i e e' h1 h2; exact hl x
  · obtain ⟨z, rfl, rfl⟩ := hx i e e' h1 h2; exact h z j x y h3 h4
theorem WknT.of {a b : AV} (h : Wkn a b) : WknT a b := .inl (.inl h)
theorem WknT.tuple {xs ys : List AV} (hl : xs.length = ys.length) (h : ∀ (j : Nat) x y, xs[j]? = some x → ys[j]? = some y → Wkn1 x y) : WknT (.tuple xs) (.tuple ys) := .inr ⟨xs, ys, rfl, rfl, hl, h⟩
theorem WknT.two {a b c d : AV} (h : Wkn1 a c) (k : Wkn1 b d) : WknT (.tuple [a, b]) (.tuple [c, d]) := .tuple rfl fun j x y h1 h2 => by
  match j with
  | 0 => simp at h1 h2; subst h1; subst h2; exact h
  | 1 => simp at h1 h2; subst h1; subst h2; exact k
  | j + 2 => simp at h1
theorem Wkn1.flat {a : AV} (h : a.flat = true) : Wkn1 a a := .inr ⟨rfl, h⟩
end Go.Ahl
/- The abstract layer, part 33: what a row's cells hold, told in another way; nothing in a cell, as the right to append. -/
namespace Go.Ahl
theorem SRel.rewk {m : Mem} {loc : List Loc} {σ : Store} {w : World} (h : SRel m loc σ w) (id : Nat) {xs ys : List AV} (hs : σ[id]? = some (.row xs)) (hw : WkL xs ys) : SRel m loc (σ.set id (.row ys)) w where
  len := by simp [h.len]
  im := h.im
  bs := h.bs
  obj := by
    intro i l o h1 h2
    rcases get_set h2 with ⟨rfl, rfl⟩ | ⟨_, h2⟩
    · have := h.obj _ l _ h1 hs
      cases l with
      | nowhere =>
        have e : xs = [] := this
        subst e
        cases hw
        exact rfl
      | tok sz f => exact this.elim
      | blk b =>
        obtain ⟨arr, t, h1, h2, h3, h4, h5⟩ := this
        refine ⟨arr, t, h1, h2, by rw [← hw.len]; exact h3, fun j z v e1 e2 => ?_, h5⟩
        obtain ⟨x, q1, q2⟩ := hw.get j z e1
        exact q2 _ _ _ (h4 j x v q1 e2)
    · exact h.obj i l o h1 h2
  inj := by
    intro i j l l' o o' b h1 h2 h3 h4 w1 w2
    have fix : ∀ {i : Nat} {l : Loc} {o : AObj}, (σ.set id (.row ys))[i]? = some o → own l o = some b → ∃ o2, σ[i]? = some o2 ∧ own l o2 = some b := by
      intro i l o h3 w1
      rcases get_set h3 with ⟨rfl, rfl⟩ | ⟨_, h3⟩
      · exact ⟨_, hs, by rw [own_row l xs ys]; exact w1⟩
      · exact ⟨_, h3, w1⟩
    obtain ⟨o2, q1, q2⟩ := fix h3 w1
    obtain ⟨o3, q3, q4⟩ := fix h4 w2
    exact h.inj i j l l' o2 o3 b h1 h2 q1 q3 q2 q4
  lt := h.lt
  mp := h.mp
  mpo := by
    intro i l o b h1 h2 w1
    rcases get_set h2 with ⟨rfl, rfl⟩ | ⟨_, h2⟩
    · exact h.mpo _ l _ b h1 hs (by rw [own_row l xs ys]; exact w1)
    · exact h.mpo i l o b h1 h2 w1
  ok := h.ok
theorem Ghost.rewk {n0 nt : Nat} {s : Slots} {σ : Store} (id : Nat) {xs ys : List AV} (hs : σ[id]? = some (.row xs)) (hw : WkL xs ys) : Ghost n0 nt s σ s (σ.set id (.row ys)) :=
  fun m loc w t _ h1 h2 => ⟨m, loc, h1.rewk id hs hw, h2, .refl _ _ _ _⟩
end Go.Ahl
/- The abstract layer, part 34: ranges over functions, as they are run by rewriting. -/
namespace Go.Ahl
theorem AYld.is {P : Program} {id : Nat} {args : List AV} {σ σ' : Store} {v : AV} {K : Cont} (h : AYld P id args σ (isR v σ')) (k : K v σ') : AYld P id args σ K :=
  h.mono fun _ _ e => by rw [e.1, e.2]; exact k
def yldC (P : Program) (args : List AV) (σ : Store) (K : Cont) : AV → Prop
  | .yld id => AYld P id args σ K
  | _ => False
theorem i_callY (P : Program) (s : Slots) (σ : Store) (K : Cont) (f : Opd) (args : List Opd) : aI P (.callY f args) s σ K = yldC P (evs s args) σ K (aev s f) := by
  simp only [aI]; cases aev s f <;> rfl
theorem yldC_yld (P : Program) (args : List AV) (σ : Store) (K : Cont) (id : Nat) : yldC P args σ K (.yld id) = AYld P id args σ K := rfl
theorem putAll_cons (s : Slots) (p : Nat) (ps : List Nat) (x : AV) (xs : List AV) : putAll s (p :: ps) (x :: xs) = putAll ((p, x) :: s) ps xs := rfl
theorem putAll_nil (s : Slots) (xs : List AV) : putAll s [] xs = s := by cases xs <;> rfl
attribute [go_sem] i_callY yldC_yld putAll_cons putAll_nil
section
variable {P : Program} {nt n0 : Nat} {Q : Post} {s : Slots} {σ : Store}
/-- A range over a function; its codes are known by what they compile to. -/
theorem wpc_rangeF {g : Opd} {ps : List Nat} {A B : CCode} (h : ∀ (H : Hints) (asg body : Code), comp P H asg = A → comp P H body = B → rangeC P nt ps asg body Q s σ (aev s g)) : wpc P nt n0 (.rangeF g ps A B) Q s σ := h
theorem rangeC_intro {ps : List Nat} {asg body : Code} {it : FuncId} {cap : List AV} (hf : ∃ fn, P.funcs[it]? = some fn ∧ fn.body.isSome = true ∧ fn.name ≠ "runtime.NumGoroutine")
    (h : ∀ L : LoopA, L = ⟨nt, s, ps, asg, body, .ready, none⟩ → ACalls P it (.yld σ.length :: cap) (σ ++ [.loop L]) (rangeK σ.length Q s)) : rangeC P nt ps asg body Q s σ (.func it cap) := ⟨hf, h _ rfl⟩
theorem rangeK_intro {k : Nat} {v : AV} {L : LoopA} (h : σ[k]? = some (.loop L)) (h1 : L.st = .ready) (h2 : L.pend = none) (h3 : Q .normal s (σ.set k .dead)) : rangeK k Q s v σ :=
  ⟨L, h, by rw [h1]; simp, by rw [h2]; exact h3⟩
/-- A round's normal end. -/
theorem round_end {id : Nat} {K : Cont} {L : LoopA} {S : Store} (g : Store) (hS : IdsS S.length S) (hL : S[id]? = some (.loop L)) (k : K (.bool true) (S.set id (.loop { L with st := .ready, pend := none }))) (hn : n0 = S.length) :
    roundK id n0 nt K .normal s (S ++ g) := by
  subst hn
  refine Gh.cut [] S.length (Nat.le_refl _) trivial ?_ ?_
  · rw [take_app]; exact hS
  · rw [take_app]; exact ⟨L, hL, k⟩
theorem round_end0 {id : Nat} {K : Cont} {L : LoopA} {S : Store} (hS : IdsS S.length S) (hL : S[id]? = some (.loop L)) (k : K (.bool true) (S.set id (.loop { L with st := .ready, pend := none }))) (hn : n0 = S.length) :
    roundK id n0 nt K .normal s S := by
  have := round_end (nt := nt) (s := s) [] hS hL k hn
  rwa [List.append_nil] at this
/-- What the slots of a record name. -/
theorem idsO_loop {n : Nat} {L : LoopA} (h : ∀ e ∈ L.s, Ids n e.2) : IdsO n (.loop L) := by
  intro j
  generalize L.s = l at h
  induction l with
  | nil => exact .any
  | cons e l ih =>
    obtain ⟨i, v⟩ := e
    simp only [Ahl.lk]
    cases i == j with
    | true => exact h _ List.mem_cons_self
    | false => exact ih fun e he => h e (List.mem_cons_of_mem _ he)
end
end Go.Ahl
namespace Go.Ahl
section
variable {P : Program} {nt n0 : Nat} {Q : Post} {s : Slots} {σ : Store}
/-- Behind the assignment of a round. -/
def asgK (P : Program) (id n nt : Nat) (B : CCode) (K : Cont) : Slots → Store → Prop := fun s σ1 =>
  ∃ L1, σ1[id]? = some (.loop L1) ∧ L1.st = .ready ∧ wpc P nt n B (roundK id n nt K) s (σ1.set id (.loop { L1 with st := .busy }))
theorem yld_as (hm : P.follows .mixedOrders = true) {H : Hints} {id : Nat} {args : List AV} {K : Cont} {L : LoopA} (hL : σ[id]? = some (.loop L)) (hst : L.st = .ready) (hps : L.ps.length = args.length) (hpn : ∀ p ∈ L.ps, p < L.nt) {A B : CCode}
    (hA : comp P H L.asg = A) (hB : comp P H L.body = B) (hn : noRange A = true) (hn2 : noRange B = true)
    (h : wpc P L.nt σ.length A (seqK (asgK P id σ.length L.nt B K) (fun _ _ _ => False)) (putAll L.s L.ps args) σ) : AYld P id args σ K :=
  yld_of hm H hL hst hps hpn (by rw [hA]; exact hn) (by rw [hB]; exact hn2) (by rw [hA, hB]; exact h)
end
end Go.Ahl
namespace Go.Ahl
/-- The end of a function whose first result is an aggregate in cells, told in another way. -/
theorem ret_cN2 {nt t u id n : Nat} {s : Slots} {σ S : Store} {R : Cont} {c0 cells : List AV} {x : AV} (h1 : lk s t = .ptr id 0) (h2 : S[id]? = some (.row c0)) (hid : σ.length ≤ id) (hw : WkL c0 cells) (hn : cells.length = n) (h3 : lk s u = x)
    (ht : S.take σ.length = σ) (hσ : IdsS σ.length σ) (iv : Ids σ.length (.agg cells)) (ix : Ids σ.length x) (h : R (.tuple [.agg cells, x]) σ) : bodyK [.cell (some n) t, .tmp u] σ.length nt R .ret s S := by
  refine ⟨s, S.set id (.row cells), Ghost.rewk id h2 hw, ?_⟩
  simp only [aRes, h1, h3]
  rw [e_loadN_ptr, List.getElem?_set_self (lt_of_get h2), rowK_some]
  refine ⟨by omega, ?_⟩
  rw [List.drop_zero, ← hn, List.take_length]
  refine ⟨σ.length, Nat.le_refl _, ?_⟩
  rw [List.take_set_of_le hid, ht]
  exact ⟨hσ, .tuple _ (fun j y hy => by match j, hy with | 0, hy => simp at hy; subst hy; exact iv | 1, hy => simp at hy; subst hy; exact ix), h⟩
theorem ret_cN3 {nt t u w id n : Nat} {s : Slots} {σ S : Store} {R : Cont} {c0 cells : List AV} {x y : AV} (h1 : lk s t = .ptr id 0) (h2 : S[id]? = some (.row c0)) (hid : σ.length ≤ id) (hw : WkL c0 cells) (hn : cells.length = n) (h3 : lk s u = x) (h4 : lk s w = y)
    (ht : S.take σ.length = σ) (hσ : IdsS σ.length σ) (iv : Ids σ.length (.agg cells)) (ix : Ids σ.length x) (iy : Ids σ.length y) (h : R (.tuple [.agg cells, x, y]) σ) : bodyK [.cell (some n) t, .tmp u, .tmp w] σ.length nt R .ret s S := by
  refine ⟨s, S.set id (.row cells), Ghost.rewk id h2 hw, ?_⟩
  simp only [aRes, h1, h3, h4]
  rw [e_loadN_ptr, List.getElem?_set_self (lt_of_get h2), rowK_some]
  refine ⟨by omega, ?_⟩
  rw [List.drop_zero, ← hn, List.take_length]
  refine ⟨σ.length, Nat.le_refl _, ?_⟩
  rw [List.take_set_of_le hid, ht]
  exact ⟨hσ, .tuple _ (fun j y hy => by match j, hy with | 0, hy => simp at hy; subst hy; exact iv | 1, hy => simp at hy; subst hy; exact ix | 2, hy => simp at hy; subst hy; exact iy), h⟩
end Go.Ahl
namespace Go.Proofs.YtocphglkceidhaaGreat
open Go.Ahl
def c_cloneL : CCode := .seq (.ops [⟨some 2, .move (.lit (.slice .nil [])), none, []⟩]) (.seq (.seq (.ops [⟨some 3, .move (.tmp 0), none, []⟩, ⟨some 4, .bin .eql .slice (.tmp 3) (.lit (.slice .nil [])), none, []⟩]) (.cond (.tmp 4) (.seq (.ops [⟨some 2, .move (.lit (.slice .nil [])), none, []⟩]) .ret) .skip)) (.seq (.ops [⟨some 5, .bslice 2 [] false, none, []⟩, ⟨some 6, .move (.tmp 0), none, []⟩, ⟨some 7, .bappend 2 16 (.tmp 5) (.tmp 6) false, none, []⟩, ⟨some 2, .move (.tmp 7), none, []⟩]) .ret))
set_option maxRecDepth 20000 in
theorem cloneL_specF (l : List FLit) (tok : Tok) (σ : Store) (hl : l.length ≤ 1073741824) :
    ACalls Tryz.prog 96 [.slice tok (l.map encLit)] σ (isR (.slice .fresh (l.map encLit)) σ) := by
  refine ACalls.intro (rs := [(.tmp 2)]) (by kernel_rfl) { own := [], ghosts := [] } Tryz.func96 (c := Tryz.f96.body.getD .skip) (by kernel_rfl) (by decide) (by rw [show Tryz.f96.ntmps = 8 by kernel_rfl]; exact Nat.le_of_ble_eq_true rfl) (by kernel_rfl) ?_
  intro hσ hids
  rw [show comp Tryz.prog { own := [], ghosts := [] } (Tryz.f96.body.getD .skip) = c_cloneL by kernel_rfl, show Tryz.f96.ntmps = 8 by kernel_rfl]
  unfold c_cloneL
  have hbig : bigLen l.length 16 := big_ok (by omega) (by omega)
  simp only [go_sem, Int.reduceToNat, Int.reduceLE, Int.reduceLT, Nat.reduceBEq, Nat.reduceLT, Nat.reduceAdd, Nat.reduceLeDiff]
  intro b hb
  cases b
  · have hall : ∀ x ∈ l, (encLit x).length = 2 ∧ (encLit x).all AV.one = true := fun x _ => ⟨rfl, rfl⟩
    simp only [go_sem, Int.reduceToNat, Int.reduceLE, Int.reduceLT, Nat.reduceBEq, Nat.reduceLT, Nat.reduceAdd, Nat.reduceLeDiff, hbig]
    refine ⟨hall, ?_⟩
    first | exact rtk (.slice .fresh (l.map encLit)) ⟨rfl, rfl⟩ | exact rtk0 (.slice .fresh (l.map encLit)) ⟨rfl, rfl⟩
  · have hl0 : l = [] := by
      cases l with
      | nil => rfl
      | cons x l => exact absurd (hb (by simp)) (by simp)
    subst hl0
    simp only [go_sem, Int.reduceToNat, Int.reduceLE, Int.reduceLT, Nat.reduceBEq, Nat.reduceLT, Nat.reduceAdd, Nat.reduceLeDiff]
    first | exact rtk (.slice .fresh []) ⟨rfl, rfl⟩ | exact rtk0 (.slice .fresh []) ⟨rfl, rfl⟩
end Go.Proofs.YtocphglkceidhaaGreat
namespace Go.Proofs.YtocphglkceidhaaGreat
open Go.Ahl
/-! ### The order of conditions is total -/
def keyL (x : FLit) : Int := 2 * x.fact + (if x.neg then 1 else 0)
theorem lessI_neg (a b : FLit) : (lessI a b < 0) = (keyL a < keyL b) := by
  unfold lessI keyL
  apply propext
  by_cases h : a.fact = b.fact
  · rw [if_pos h, h]; cases a.neg <;> cases b.neg <;> simp <;> omega
  · rw [if_neg h]; cases a.neg <;> cases b.neg <;> simp <;> omega
theorem lessI_zero (a b : FLit) : (lessI a b = 0) = (keyL a = keyL b) := by
  unfold lessI keyL
  apply propext
  by_cases h : a.fact = b.fact
  · rw [if_pos h, h]; cases a.neg <;> cases b.neg <;> simp <;> omega
  · rw [if_neg h]; cases a.neg <;> cases b.neg <;> simp <;> omega
theorem keyL_inj {a b : FLit} (h : keyL a = keyL b) : a = b := by
  obtain ⟨f, n⟩ := a; obtain ⟨g, k⟩ := b
  unfold keyL at h
  cases n <;> cases k <;> simp at h <;> first | (have : f = g := by omega); subst this; rfl | omega
theorem cmp_refl : ∀ a : List FLit, cmpLits a a = 0
  | [] => rfl
  | x :: l => by rw [cmpLits, if_pos (by rw [lessI_zero]), cmp_refl l]
theorem cmp_anti : ∀ {a b : List FLit}, cmpLits a b = 0 → a = b
  | [], [], _ => rfl
  | [], _ :: _, h => by simp [cmpLits] at h
  | _ :: _, [], h => by simp [cmpLits] at h
  | x :: a, y :: b, h => by
    rw [cmpLits] at h
    by_cases h0 : lessI x y = 0
    · rw [if_pos h0] at h
      rw [lessI_zero] at h0
      rw [keyL_inj h0, cmp_anti h]
    · rw [if_neg h0] at h; exact absurd h h0
theorem cmp_swap : ∀ {a b : List FLit}, cmpLits a b < 0 ↔ 0 < cmpLits b a
  | [], [] => by simp [cmpLits]
  | [], _ :: _ => by simp [cmpLits]
  | _ :: _, [] => by simp [cmpLits]
  | x :: a, y :: b => by
    rw [cmpLits, cmpLits]
    by_cases h0 : lessI x y = 0
    · have h1 : lessI y x = 0 := by rw [lessI_zero] at h0 ⊢; exact h0.symm
      rw [if_pos h0, if_pos h1]; exact cmp_swap
    · have h1 : ¬ lessI y x = 0 := by rw [lessI_zero] at h0 ⊢; exact fun e => h0 e.symm
      rw [if_neg h0, if_neg h1]
      have e1 := lessI_neg x y
      have e2 := lessI_neg y x
      rw [lessI_zero] at h0
      rw [e1]
      constructor
      · intro h
        rcases Int.lt_trichotomy (lessI y x) 0 with q | q | q
        · rw [e2] at q; omega
        · exact absurd q h1
        · exact q
      · intro h
        have : ¬ keyL y < keyL x := fun q => by rw [← e2] at q; omega
        omega
theorem cmp_trans : ∀ {a b c : List FLit}, cmpLits a b < 0 → cmpLits b c < 0 → cmpLits a c < 0
  | [], [], _, h, _ => by simp [cmpLits] at h
  | _ :: _, [], _, h, _ => by simp [cmpLits] at h
  | _, _ :: _, [], _, h => by simp [cmpLits] at h
  | [], _ :: _, _ :: _, _, _ => by simp [cmpLits]
  | x :: a, y :: b, z :: c, h, k => by
    rw [cmpLits] at h k ⊢
    by_cases h0 : lessI x y = 0
    · rw [if_pos h0] at h
      rw [lessI_zero] at h0
      have hxy := keyL_inj h0; subst hxy
      by_cases k0 : lessI x z = 0
      · rw [if_pos k0] at k ⊢; exact cmp_trans h k
      · rw [if_neg k0] at k ⊢; exact k
    · rw [if_neg h0, lessI_neg] at h
      by_cases k0 : lessI y z = 0
      · rw [lessI_zero] at k0
        have hyz := keyL_inj k0; subst hyz
        rw [if_neg h0, lessI_neg]; exact h
      · rw [if_neg k0, lessI_neg] at k
        rw [if_neg (by rw [lessI_zero]; omega), lessI_neg]; omega
theorem order_refl (a : List FLit) : orderI a a = 0 := by rw [orderI, if_pos rfl, cmp_refl]
theorem order_anti {a b : List FLit} (h : orderI a b = 0) : a = b := by
  unfold orderI at h
  by_cases hl : a.length = b.length
  · rw [if_pos hl] at h; exact cmp_anti h
  · rw [if_neg hl] at h; omega
theorem order_swap {a b : List FLit} : orderI a b < 0 ↔ 0 < orderI b a := by
  unfold orderI
  by_cases hl : a.length = b.length
  · rw [if_pos hl, if_pos hl.symm]; exact cmp_swap
  · rw [if_neg hl, if_neg (fun e => hl e.symm)]; omega
theorem order_trans {a b c : List FLit} (h : orderI a b < 0) (k : orderI b c < 0) : orderI a c < 0 := by
  unfold orderI at h k ⊢
  by_cases hl : a.length = b.length
  · rw [if_pos hl] at h
    by_cases kl : b.length = c.length
    · rw [if_pos kl] at k; rw [if_pos (hl.trans kl)]; exact cmp_trans h k
    · rw [if_neg kl] at k; rw [if_neg (by omega)]; omega
  · rw [if_neg hl] at h
    by_cases kl : b.length = c.length
    · rw [if_neg (by omega)]; omega
    · rw [if_neg kl] at k; rw [if_neg (by omega)]; omega
theorem order_le_total (a b : List FLit) : orderI a b ≤ 0 ∨ orderI b a ≤ 0 := by
  rcases Int.lt_trichotomy (orderI a b) 0 with h | h | h
  · exact .inl (by omega)
  · exact .inl (by omega)
  · have := (order_swap (a := b) (b := a)).2 h; exact .inr (by omega)
theorem order_le_trans {a b c : List FLit} (h : orderI a b ≤ 0) (k : orderI b c ≤ 0) : orderI a c ≤ 0 := by
  rcases Int.lt_or_eq_of_le h with h | h
  · rcases Int.lt_or_eq_of_le k with k | k
    · exact Int.le_of_lt (order_trans h k)
    · rw [← order_anti k]; exact Int.le_of_lt h
  · rw [order_anti h]; exact k
def insO (x : List FLit) : List (List FLit) → List (List FLit)
  | [] => [x]
  | y :: l => if orderI x y ≤ 0 then x :: y :: l else y :: insO x l
/-- The terms in order. -/
def sortO : List (List FLit) → List (List FLit)
  | [] => []
  | x :: l => insO x (sortO l)
theorem insO_perm (x : List FLit) : ∀ l, (insO x l).Perm (x :: l)
  | [] => .refl _
  | y :: l => by
    rw [insO]
    split
    · exact .refl _
    · exact ((insO_perm x l).cons y).trans (.swap x y l)
theorem sortO_perm : ∀ l, (sortO l).Perm l
  | [] => .refl _
  | x :: l => (insO_perm x (sortO l)).trans ((sortO_perm l).cons x)
def leO (a b : List FLit) : Prop := orderI a b ≤ 0
theorem insO_sorted (x : List FLit) : ∀ {l}, l.Pairwise leO → (insO x l).Pairwise leO
  | [], _ => by simp [insO]
  | y :: l, h => by
    rw [insO]
    rw [List.pairwise_cons] at h
    split
    · rename_i hxy
      refine List.pairwise_cons.2 ⟨fun z hz => ?_, List.pairwise_cons.2 h⟩
      rcases List.mem_cons.1 hz with rfl | hz
      · exact hxy
      · exact order_le_trans hxy (h.1 z hz)
    · rename_i hxy
      refine List.pairwise_cons.2 ⟨fun z hz => ?_, insO_sorted x h.2⟩
      rcases List.mem_cons.1 ((insO_perm x l).mem_iff.1 hz) with rfl | hz
      · rcases order_le_total z y with q | q
        · exact absurd q hxy
        · exact q
      · exact h.1 z hz
theorem sortO_sorted : ∀ l, (sortO l).Pairwise leO
  | [] => .nil
  | x :: l => insO_sorted x (sortO_sorted l)
/-! ### Reduced formulas -/
def redLoop : List (List FLit) → List (List FLit) → List (List FLit)
  | out, [] => out
  | out, x :: l => if out.any (fun y => withinB y x) then redLoop out l else redLoop (out ++ [x]) l
/-- The reduced form of a formula. -/
def reducedL (f : List (List FLit)) : List (List FLit) := redLoop [] (sortO f)
end Go.Proofs.YtocphglkceidhaaGreat
namespace Go.Proofs
open Go.Shelf Go.RowKit Go.Lib Go.Sort
end Go.Proofs
namespace Go.Proofs.YtocphglkceidhaaGreat
open Go.Ahl
/-- A condition of facts that are numbers, not too long. -/
def cOk (l : List FLit) : Prop := l.length ≤ 1073741824 ∧ ∀ x ∈ l, litOk x
/-- A formula of such, not too long. -/
def fOk (f : List (List FLit)) : Prop := f.length ≤ 1073741824 ∧ ∀ l ∈ f, cOk l
end Go.Proofs.YtocphglkceidhaaGreat
namespace Go.Proofs.YtocphglkceidhaaGreat
open Go.Ahl
/-! ### Conditions of n facts -/
def cV (n : Int) (l : List FLit) : Prop := condB n (-1) l = true
def vF (n : Int) (f : List (List FLit)) : Prop := ∀ l ∈ f, cV n l
theorem condB_cons {n p : Int} {x : FLit} {l : List FLit} (h : condB n p (x :: l) = true) : p < x.fact ∧ x.fact < n ∧ condB n x.fact l = true := by
  rw [condB, Bool.and_eq_true, Bool.and_eq_true] at h
  exact ⟨of_decide_eq_true h.1.1, of_decide_eq_true h.1.2, h.2⟩
theorem condB_len {n : Int} : ∀ {l : List FLit} {p : Int}, condB n p l = true → l = [] ∨ (l.length : Int) ≤ n - 1 - p
  | [], _, _ => .inl rfl
  | x :: l, p, h => by
    obtain ⟨h1, h2, h3⟩ := condB_cons h
    rcases condB_len h3 with rfl | h4
    · right; simp; omega
    · right; simp; omega
theorem condB_mem {n : Int} : ∀ {l : List FLit} {p : Int}, condB n p l = true → ∀ x ∈ l, p < x.fact ∧ x.fact < n
  | [], _, _, x, hx => by simp at hx
  | y :: l, p, h, x, hx => by
    obtain ⟨h1, h2, h3⟩ := condB_cons h
    rcases List.mem_cons.1 hx with rfl | hx
    · exact ⟨h1, h2⟩
    · have := condB_mem h3 x hx; exact ⟨by omega, this.2⟩
theorem cV.ok {n : Int} (hn : n ≤ 1000000) {l : List FLit} (h : cV n l) : cOk l := by
  refine ⟨?_, fun x hx => ?_⟩
  · rcases condB_len h with rfl | h
    · simp
    · omega
  · have := condB_mem h x hx; exact ⟨by omega, by omega⟩
theorem vF.ok {n : Int} (hn : n ≤ 1000000) {f : List (List FLit)} (h : vF n f) (hl : f.length ≤ 1073741824) : fOk f := ⟨hl, fun l hl => (h l hl).ok hn⟩
theorem redLoop_mem : ∀ (l out : List (List FLit)) x, x ∈ redLoop out l → x ∈ out ∨ x ∈ l
  | [], out, x, h => .inl h
  | y :: l, out, x, h => by
    rw [redLoop] at h
    split at h
    · rcases redLoop_mem l out x h with h | h
      · exact .inl h
      · exact .inr (List.mem_cons_of_mem _ h)
    · rcases redLoop_mem l _ x h with h | h
      · rcases List.mem_append.1 h with h | h
        · exact .inl h
        · rw [List.mem_singleton.1 h]; exact .inr List.mem_cons_self
      · exact .inr (List.mem_cons_of_mem _ h)
theorem reducedL_mem {f : List (List FLit)} {x : List FLit} (h : x ∈ reducedL f) : x ∈ f := by
  rcases redLoop_mem _ _ _ h with h | h
  · simp at h
  · exact (sortO_perm f).mem_iff.1 h
theorem reducedL_V {n : Int} {f : List (List FLit)} (h : vF n f) : vF n (reducedL f) := fun l hl => h l (reducedL_mem hl)
end Go.Proofs.YtocphglkceidhaaGreat
namespace Go.Proofs.YtocphglkceidhaaGreat
open Go.Ahl
/-! ### Negation -/
end Go.Proofs.YtocphglkceidhaaGreat
namespace Go.Proofs.YtocphglkceidhaaGreat
open Go.Ahl
/-- An action of n facts. -/
structure AV_ (n : Int) (a : FAct) : Prop where
  pre : cV n a.pre
  whens : ∀ e ∈ a.effects, cV n e.when_
  many : a.effects.length ≤ 1000
end Go.Proofs.YtocphglkceidhaaGreat
namespace Go.Proofs.YtocphglkceidhaaGreat
open Go.Ahl
end Go.Proofs.YtocphglkceidhaaGreat
namespace Go.Proofs.YtocphglkceidhaaGreat
open Go.Ahl
/-! ### What a valid task and formula are -/
theorem valid_facts {t : FTask} (h : validB t = true) : (t.facts.length : Int) ≤ 200 := by
  rw [validB, Bool.and_eq_true] at h
  have := of_decide_eq_true h.1; omega
theorem valid_act {t : FTask} (h : validB t = true) {a : FAct} (ha : a ∈ t.actions) : AV_ t.facts.length a := by
  simp only [validB, Bool.and_eq_true] at h
  have := List.all_eq_true.1 h.2.2.2.2.2.2 a ha
  simp only [actB, Bool.and_eq_true] at this
  obtain ⟨_, _, h3, h4, h5⟩ := this
  refine ⟨h3, fun e he => ?_, by have := of_decide_eq_true h4; omega⟩
  have := List.all_eq_true.1 h5 e he
  simp only [effB, Bool.and_eq_true] at this
  exact this.1
end Go.Proofs.YtocphglkceidhaaGreat
namespace Go.Proofs.YtocphglkceidhaaGreat
open Go.Ahl
theorem wk_two (t1 t2 t3 : Tok) (f g : List (List FLit)) : Wk (.slice t3 [[.slice t1 (f.map encC)], [.slice t2 (g.map encC)]]) (.slice .unk ([f, g].map encF)) :=
  Wk.sl _ (.cons (WkL.one (Wk.unk _ _)) (WkLL.one (WkL.one (Wk.unk _ _))))
end Go.Proofs.YtocphglkceidhaaGreat
namespace Go.Proofs.YtocphglkceidhaaGreat
open Go.Ahl
theorem dec_cons {α : Type} [DecidableEq α] (x y : α) (l m : List α) : decide (x :: l = y :: m) = (decide (x = y) && decide (l = m)) := by
  by_cases h1 : x = y <;> by_cases h2 : l = m <;> simp [h1, h2]
def d_sameLits_0 : List COp := [⟨some 16, .move (.tmp 0), none, []⟩, ⟨some 17, .move (.tmp 5), none, []⟩, ⟨some 18, .iaddr 2 (.tmp 16) (.tmp 17), none, [0, 1]⟩, ⟨some 19, .load (some 2) (.tmp 18), none, [2]⟩, ⟨some 20, .move (.tmp 1), none, []⟩, ⟨some 21, .move (.tmp 5), none, []⟩, ⟨some 22, .iaddr 2 (.tmp 20) (.tmp 21), none, [4, 5]⟩, ⟨some 23, .load (some 2) (.tmp 22), none, [6]⟩, ⟨some 24, .bin .neq (.flat [1, 0]) (.tmp 19) (.tmp 23), none, [3, 7]⟩]
theorem dr_sameLits_0 (P : Program) (nt n0 : Nat) (Q : Post) (s : Slots) (σ : Store) : wpc P nt n0 (.draw d_sameLits_0) Q s σ = aOpsD P nt [⟨some 16, .move (.tmp 0), none, []⟩, ⟨some 17, .move (.tmp 5), none, []⟩, ⟨some 18, .iaddr 2 (.tmp 16) (.tmp 17), none, [0, 1]⟩, ⟨some 19, .load (some 2) (.tmp 18), none, [2]⟩, ⟨some 20, .move (.tmp 1), none, []⟩, ⟨some 21, .move (.tmp 5), none, []⟩, ⟨some 22, .iaddr 2 (.tmp 20) (.tmp 21), none, [4, 5]⟩, ⟨some 23, .load (some 2) (.tmp 22), none, [6]⟩, ⟨some 24, .bin .neq (.flat [1, 0]) (.tmp 19) (.tmp 23), none, [3, 7]⟩] (Q .normal) s σ := wpc_draw _ (by decide)
def c_sameLits : CCode := .seq (.ops [⟨some 4, .move (.lit (.bool false)), none, []⟩]) (.seq (.seq (.ops [⟨some 6, .move (.tmp 0), none, []⟩, ⟨some 7, .blen 1 (.tmp 6), none, []⟩, ⟨some 8, .move (.tmp 1), none, []⟩, ⟨some 9, .blen 1 (.tmp 8), none, []⟩, ⟨some 10, .bin .neq .none (.tmp 7) (.tmp 9), none, []⟩]) (.cond (.tmp 10) (.seq (.ops [⟨some 4, .move (.lit (.bool false)), none, []⟩]) .ret) .skip)) (.seq (.seq (.ops [⟨some 11, .move (.tmp 0), none, []⟩, ⟨some 12, .blen 1 (.tmp 11), none, []⟩, ⟨some 13, .move (.lit (.int .i64 0)), none, []⟩]) (.block 0 (.loop (.seq (.ops [⟨some 14, .bin .lss .none (.tmp 13) (.tmp 12), none, []⟩]) (.seq (.cond (.tmp 14) .skip (.exit 0)) (.seq (.block 1 (.seq (.ops [⟨some 15, .move (.tmp 13), none, []⟩, ⟨some 5, .move (.tmp 15), none, []⟩]) (.seq (.draw d_sameLits_0) (.cond (.tmp 24) (.seq (.ops [⟨some 4, .move (.lit (.bool false)), none, []⟩]) .ret) .skip)))) (.ops [⟨some 25, .bin .add .none (.tmp 13) (.lit (.int .i64 1)), none, []⟩, ⟨some 13, .move (.tmp 25), none, []⟩]))))))) (.seq (.ops [⟨some 4, .move (.lit (.bool true)), none, []⟩]) .ret)))
set_option maxRecDepth 20000 in
theorem sameLits_spec (l m : List FLit) (tok tok' : Tok) (σ : Store) (hl : l.length ≤ 140737488355328) (hm : m.length ≤ 140737488355328) :
    ACalls Tryz.prog 61 [.slice tok (l.map encLit), .slice tok' (m.map encLit)] σ (isR (.bool (decide (l = m))) σ) := by
  refine ACalls.intro (rs := [(.tmp 4)]) (by kernel_rfl) { own := [], ghosts := [] } Tryz.func61 (c := Tryz.f61.body.getD .skip) (by kernel_rfl) (by decide) (by rw [show Tryz.f61.ntmps = 26 by kernel_rfl]; exact Nat.le_of_ble_eq_true rfl) (by kernel_rfl) ?_
  intro hσ hids
  rw [show comp Tryz.prog { own := [], ghosts := [] } (Tryz.f61.body.getD .skip) = c_sameLits by kernel_rfl, show Tryz.f61.ntmps = 26 by kernel_rfl]
  unfold c_sameLits
  have hil : Ids σ.length (.slice tok (l.map encLit)) := hids _ (by simp)
  have him : Ids σ.length (.slice tok' (m.map encLit)) := hids _ (by simp)
  by_cases hlen : l.length = m.length
  · have h' : ((l.length : Int) != m.length) = false := by rw [hlen]; exact bne_self_eq_false _
    simp only [go_sem, Int.reduceToNat, Int.reduceLE, Int.reduceLT, Nat.reduceBEq, Nat.reduceLT, Nat.reduceAdd, Nat.reduceLeDiff, dr_sameLits_0, h']
    refine wpc_while (fun (i : Nat) => [(0, .slice tok (l.map encLit)), (1, .slice tok' (m.map encLit)), (12, .int .i64 l.length), (13, .int .i64 (i : Nat))]) (fun _ => σ) (fun i => i ≤ l.length ∧ decide (l = m) = decide (l.drop i = m.drop i)) (fun i => l.length - i) 0 ⟨Nat.zero_le _, rfl⟩ (by (try dsimp only); first | exact ghk | exact ghk0) ?_
    rintro i ⟨hi, hv⟩ K hK hE hR
    by_cases h : i < l.length
    · obtain ⟨x, hx⟩ := get_ex h; have hlt : ((i : Int) < (l.length : Int)) := (by omega); have hw : IntKind.i64.wrap ((i : Int) + 1) = ((i + 1 : Nat) : Int) := (by rw [wrap_ok (by omega)]; omega)
      obtain ⟨y, hy⟩ : ∃ y, m[i]? = some y := get_ex (by omega)
      rw [drop_cons hx, drop_cons hy, dec_cons] at hv
      have hf := flat_lit x y
      simp only [encLit] at hf
      by_cases h1 : x = y
      · rw [decide_eq_true h1] at hf
        simp only [go_sem, Int.reduceToNat, Int.reduceLE, Int.reduceLT, Nat.reduceBEq, Nat.reduceLT, Nat.reduceAdd, Nat.reduceLeDiff, dr_sameLits_0, hlt, hx, hy, encLit, hf]
        rw [decide_eq_true h1, Bool.true_and] at hv
        refine hK _ _ (i + 1) (⟨by omega, hv⟩) (by first | omega | (simp only []; omega) | (simp; omega)) ?_; (try dsimp only); (try simp only [ hw]); first | exact ghk | exact ghk0
      · rw [decide_eq_false h1] at hf
        simp only [go_sem, Int.reduceToNat, Int.reduceLE, Int.reduceLT, Nat.reduceBEq, Nat.reduceLT, Nat.reduceAdd, Nat.reduceLeDiff, dr_sameLits_0, hlt, hx, hy, encLit, hf, hR]
        rw [decide_eq_false h1, Bool.false_and] at hv
        first | exact rtk (.bool false) ⟨by rw [hv], rfl⟩ | exact rtk0 (.bool false) ⟨by rw [hv], rfl⟩
    · have hlt : ¬ ((i : Int) < (l.length : Int)) := by omega
      rw [drop_len h, drop_len (by omega : ¬ i < m.length)] at hv
      simp only [go_sem, Int.reduceToNat, Int.reduceLE, Int.reduceLT, Nat.reduceBEq, Nat.reduceLT, Nat.reduceAdd, Nat.reduceLeDiff, dr_sameLits_0, hlt, hE]
      first | exact rtk (.bool true) ⟨by rw [hv]; rfl, rfl⟩ | exact rtk0 (.bool true) ⟨by rw [hv]; rfl, rfl⟩
  · have h' : ((l.length : Int) != m.length) = true := by simp; omega
    simp only [go_sem, Int.reduceToNat, Int.reduceLE, Int.reduceLT, Nat.reduceBEq, Nat.reduceLT, Nat.reduceAdd, Nat.reduceLeDiff, dr_sameLits_0, h']
    first | exact rtk (.bool false) ⟨by rw [decide_eq_false (fun e => hlen (by rw [e]))], rfl⟩ | exact rtk0 (.bool false) ⟨by rw [decide_eq_false (fun e => hlen (by rw [e]))], rfl⟩
end Go.Proofs.YtocphglkceidhaaGreat
namespace Go.Proofs.YtocphglkceidhaaGreat
open Go.Ahl
theorem risingB_len {n : Int} : ∀ (s : List Int) (p : Int), risingB n p s = true → s = [] ∨ (s.length : Int) + p < n
  | [], p, h => .inl rfl
  | x :: s, p, h => by
    rw [risingB, Bool.and_eq_true, Bool.and_eq_true, decide_eq_true_eq, decide_eq_true_eq] at h
    right
    rcases risingB_len s x h.2 with rfl | k
    · simp; omega
    · rw [List.length_cons]; omega
/-! ### Assignments with open facts: 0 open, 1 true, -1 false -/
def valAt (w : List Int) (i : Int) : Int := (w[i.toNat]?).getD 0
def litV (w : List Int) (x : FLit) : Int := if x.neg then -valAt w x.fact else valAt w x.fact
def Tri (w : List Int) : Prop := ∀ y ∈ w, y = -1 ∨ y = 0 ∨ y = 1
def opens (w : List Int) : Nat := (w.filter (fun y => y == 0)).length
/-- Is the fact true in every assignment a that completes w? -/
def Comp (w : List Int) (a : Int → Bool) : Prop := ∀ (i : Nat) y, w[i]? = some y → (y = 1 → a i = true) ∧ (y = -1 → a i = false)
def litT (a : Int → Bool) (x : FLit) : Bool := a x.fact != x.neg
def termT (a : Int → Bool) (l : List FLit) : Bool := l.all (litT a)
/-- w' is w with some open facts set. -/
def ExtW (w w' : List Int) : Prop := w'.length = w.length ∧ ∀ (i : Nat) y, w[i]? = some y → y ≠ 0 → w'[i]? = some y
/-- The value that makes a literal true. -/
def sgn (x : FLit) : Int := if x.neg then -1 else 1
def inR (n : Nat) (x : FLit) : Prop := 0 ≤ x.fact ∧ x.fact < n
theorem ExtW.refl (w : List Int) : ExtW w w := ⟨rfl, fun _ _ h _ => h⟩
theorem ExtW.trans {a b c : List Int} (h : ExtW a b) (k : ExtW b c) : ExtW a c := ⟨k.1.trans h.1, fun i y e n => k.2 i y (h.2 i y e n) n⟩
theorem valAt_get {w : List Int} {x : FLit} (h : inR w.length x) : w[x.fact.toNat]? = some (valAt w x.fact) := by
  unfold valAt
  have : x.fact.toNat < w.length := by have := h.1; have := h.2; omega
  rw [List.getElem?_eq_getElem this]; rfl
theorem valAt_tri {w : List Int} (hw : Tri w) (i : Int) : valAt w i = -1 ∨ valAt w i = 0 ∨ valAt w i = 1 := by
  unfold valAt
  cases h : w[i.toNat]? with
  | none => exact .inr (.inl rfl)
  | some y => exact hw y (List.mem_of_getElem? h)
theorem litV_tri {w : List Int} (hw : Tri w) (x : FLit) : litV w x = -1 ∨ litV w x = 0 ∨ litV w x = 1 := by
  unfold litV
  rcases valAt_tri hw x.fact with h | h | h <;> rw [h] <;> split <;> simp
theorem sgn_ne (x : FLit) : sgn x = 1 ∨ sgn x = -1 := by unfold sgn; split <;> simp
theorem litV_set {w : List Int} {x : FLit} (h : inR w.length x) (s : Int) : litV (w.set x.fact.toNat s) x = if x.neg then -s else s := by
  have h2 : x.fact.toNat < w.length := by have := h.1; have := h.2; omega
  unfold litV valAt
  rw [List.getElem?_set_self h2]; rfl
theorem tri_set {w : List Int} (hw : Tri w) (i : Nat) {s : Int} (hs : s = -1 ∨ s = 0 ∨ s = 1) : Tri (w.set i s) := by
  intro y hy
  rcases List.mem_or_eq_of_mem_set hy with h | h
  · exact hw y h
  · subst h; exact hs
theorem opens_set {w : List Int} {i : Nat} (h : w[i]? = some 0) {s : Int} (hs : s ≠ 0) : opens (w.set i s) + 1 = opens w := by
  induction w generalizing i with
  | nil => simp at h
  | cons y w ih =>
    cases i with
    | zero =>
      simp at h; subst h
      have hs' : (s == 0) = false := by simpa using hs
      simp [opens, hs']
    | succ i =>
      simp at h
      have := ih h
      simp only [opens, List.set_cons_succ, List.filter_cons] at this ⊢
      split <;> (try simp only [List.length_cons]) <;> omega
theorem ext_set {w : List Int} {i : Nat} (h : w[i]? = some 0) (s : Int) : ExtW w (w.set i s) := by
  refine ⟨by simp, fun j y e n => ?_⟩
  by_cases hj : i = j
  · subst hj; rw [h] at e; injection e with e; exact absurd e.symm n
  · rw [List.getElem?_set_ne hj]; exact e
theorem comp_set {w : List Int} {a : Int → Bool} {x : FLit} (hx : inR w.length x) (h : Comp w a) (ht : litT a x = true) : Comp (w.set x.fact.toNat (sgn x)) a := by
  intro i y e
  rcases Go.Ahl.get_set e with ⟨rfl, rfl⟩ | ⟨_, e⟩
  · have h3 : ((x.fact.toNat : Nat) : Int) = x.fact := by have := hx.1; omega
    rw [h3]
    unfold litT at ht
    unfold sgn
    cases hn : x.neg <;> rw [hn] at ht <;> simp at ht ⊢ <;> exact ht
  · exact h i y e
theorem comp_neg {w : List Int} {a : Int → Bool} {x : FLit} (hx : inR w.length x) (h : Comp w a) (ht : litT a x = false) : Comp (w.set x.fact.toNat (-sgn x)) a := by
  intro i y e
  rcases Go.Ahl.get_set e with ⟨rfl, rfl⟩ | ⟨_, e⟩
  · have h3 : ((x.fact.toNat : Nat) : Int) = x.fact := by have := hx.1; omega
    rw [h3]
    unfold litT at ht
    unfold sgn
    cases hn : x.neg <;> rw [hn] at ht <;> simp at ht ⊢ <;> exact ht
  · exact h i y e
theorem comp_lit {w : List Int} {a : Int → Bool} {x : FLit} (hx : inR w.length x) (h : Comp w a) : (litV w x = 1 → litT a x = true) ∧ (litV w x = -1 → litT a x = false) := by
  have h3 : ((x.fact.toNat : Nat) : Int) = x.fact := by have := hx.1; omega
  have h4 := h _ _ (valAt_get hx)
  rw [h3] at h4
  unfold litV litT
  cases hn : x.neg
  · simp only [Bool.false_eq_true, if_false, Bool.bne_false]; exact h4
  · simp only [if_true, Bool.bne_true, Bool.not_eq_true', Bool.not_eq_false']
    exact ⟨fun e => h4.2 (by omega), fun e => h4.1 (by omega)⟩
/-- Is a term not false yet? -/
def liveT (w : List Int) (l : List FLit) : Bool := !(l.any fun x => decide (litV w x < 0))
/-- What a search comes back with. -/
structure SPost (g : List (List FLit)) (w : List Int) (left : Int) (b : Bool) (w' : List Int) (left' : Int) : Prop where
  tri : Tri w'
  ext : ExtW w w'
  lo : left - (2 ^ opens w : Nat) ≤ left'
  hi : left' ≤ left
  yes : b = true → ∀ l ∈ g, ∃ x ∈ l, litV w' x < 0
  no : b = false → w' = w ∧ ∀ a, Comp w a → ∃ l ∈ g, termT a l = true
/-- Where the loop over the literals of a term stands: j are through, those of 'set' have been made true. -/
structure SLoop (g : List (List FLit)) (l : List FLit) (w0 : List Int) (left0 : Int) (j : Nat) (set : List Int) (w : List Int) (left : Int) : Prop where
  jl : j ≤ l.length
  tri : Tri w
  ext : ExtW w0 w
  ops : opens w + set.length = opens w0
  lo : left0 - 1 - (2 ^ opens w0 : Nat) + (2 ^ opens w : Nat) ≤ left
  hi : left ≤ left0
  old : ∀ f ∈ set, 0 ≤ f ∧ f < w0.length ∧ w0[f.toNat]? = some 0
  back : ∀ (i : Nat) y, w[i]? = some y → (∀ f ∈ set, f.toNat ≠ i) → w0[i]? = some y
  rest : ∀ x ∈ l.drop j, ∀ f ∈ set, f ≠ x.fact
  all : ∀ a, Comp w0 a → (∀ t ∈ g, termT a t = false) → Comp w a ∧ ∀ x ∈ l.take j, litT a x = true
theorem SLoop.begin {g : List (List FLit)} {l : List FLit} {w : List Int} {left : Int} (ht : Tri w) : SLoop g l w left 0 [] w (left - 1) where
  jl := Nat.zero_le _
  tri := ht
  ext := .refl _
  ops := rfl
  lo := by omega
  hi := by omega
  old := by simp
  back := fun i y e _ => e
  rest := by simp
  all := fun a hc _ => ⟨hc, by simp⟩
theorem liveT_nn {w : List Int} {l : List FLit} (h : liveT w l = true) {x : FLit} (hx : x ∈ l) : 0 ≤ litV w x := by
  unfold liveT at h
  simp only [Bool.not_eq_true', List.any_eq_false, decide_eq_true_eq] at h
  have := h x hx; omega
/-- A literal that is not open is true already. -/
theorem SLoop.skip {g : List (List FLit)} {l : List FLit} {w0 : List Int} {left0 : Int} {j : Nat} {set w : List Int} {left : Int} (h : SLoop g l w0 left0 j set w left) {x : FLit} (hx : l[j]? = some x) (hr : inR w0.length x)
    (hl : liveT w0 l = true) (hv : litV w x ≠ 0) : SLoop g l w0 left0 (j + 1) set w left where
  jl := lt_of_get hx
  tri := h.tri
  ext := h.ext
  ops := h.ops
  lo := h.lo
  hi := h.hi
  old := h.old
  back := h.back
  rest := fun y hy => h.rest y (by rw [drop_cons hx]; exact List.mem_cons_of_mem _ hy)
  all := by
    intro a hc hg
    obtain ⟨h1, h2⟩ := h.all a hc hg
    refine ⟨h1, fun y hy => ?_⟩
    rw [take_succ' hx] at hy
    rcases List.mem_append.1 hy with hy | hy
    · exact h2 y hy
    · rw [List.mem_singleton] at hy; subst hy
      have hr' : inR w.length y := ⟨hr.1, by rw [h.ext.1]; exact hr.2⟩
      have hn := liveT_nn hl (List.mem_of_getElem? hx)
      have hno : ∀ f ∈ set, f.toNat ≠ y.fact.toNat := by
        intro f hf e
        have h3 := h.rest y (by rw [drop_cons hx]; exact List.mem_cons_self) f hf
        have h4 := (h.old f hf).1
        have := hr.1; omega
      have h5 := h.back _ _ (valAt_get hr') hno
      have h6 : valAt w0 y.fact = valAt w y.fact := by unfold valAt at h5 ⊢; rw [h5]; rfl
      have h7 : litV w0 y = litV w y := by unfold litV; rw [h6]
      rcases litV_tri h.tri y with h8 | h8 | h8
      · omega
      · exact absurd h8 hv
      · exact (comp_lit hr' h1).1 h8
/-- The literals of a condition have facts that rise. -/
theorem cond_apart {n : Int} : ∀ {l : List FLit} {p : Int}, condB n p l = true → (∀ x ∈ l, p < x.fact ∧ x.fact < n) ∧ ∀ (j : Nat) x, l[j]? = some x → ∀ y ∈ l.drop (j + 1), x.fact ≠ y.fact
  | [], p, h => ⟨by simp, by simp⟩
  | z :: l, p, h => by
    rw [condB, Bool.and_eq_true, Bool.and_eq_true, decide_eq_true_eq, decide_eq_true_eq] at h
    obtain ⟨⟨h1, h2⟩, h3⟩ := h
    obtain ⟨h4, h5⟩ := cond_apart h3
    refine ⟨fun x hx => ?_, fun j x hx y hy => ?_⟩
    · rcases List.mem_cons.1 hx with rfl | hx
      · exact ⟨h1, h2⟩
      · have := h4 x hx; omega
    · cases j with
      | zero => simp at hx hy; subst hx; have := h4 y hy; omega
      | succ j => simp at hx hy; exact h5 j x hx y hy
/-- An open literal was made false in vain: it is made true. -/
theorem SLoop.step {g : List (List FLit)} {l : List FLit} {w0 : List Int} {left0 : Int} {j : Nat} {set w : List Int} {left : Int} (h : SLoop g l w0 left0 j set w left) {x : FLit} (hx : l[j]? = some x) (hr : inR w0.length x)
    {n : Int} (hc : condB n (-1) l = true) (hv : litV w x = 0) {w' : List Int} {left' : Int} (hp : SPost g (w.set x.fact.toNat (-sgn x)) left false w' left') :
    SLoop g l w0 left0 (j + 1) (set ++ [x.fact]) (w'.set x.fact.toNat (sgn x)) left' := by
  have hr' : inR w.length x := ⟨hr.1, by rw [h.ext.1]; exact hr.2⟩
  have hk : x.fact.toNat < w.length := by have := hr'.1; have := hr'.2; omega
  have h0 : valAt w x.fact = 0 := by unfold litV at hv; split at hv <;> omega
  have hg0 : w[x.fact.toNat]? = some 0 := by rw [valAt_get hr', h0]
  have hs := sgn_ne x
  obtain ⟨rfl, hno⟩ := hp.no rfl
  rw [List.set_set]
  have ho1 := opens_set (s := -sgn x) hg0 (by omega)
  have ho2 := opens_set (s := sgn x) hg0 (by omega)
  have hpow : (2 : Nat) ^ opens w = 2 ^ opens (w.set x.fact.toNat (sgn x)) + 2 ^ opens (w.set x.fact.toNat (sgn x)) := by
    rw [← ho2, Nat.pow_succ]; omega
  have hpe : opens (w.set x.fact.toNat (-sgn x)) = opens (w.set x.fact.toNat (sgn x)) := by omega
  have hlo := hp.lo
  rw [hpe] at hlo
  refine ⟨lt_of_get hx, tri_set h.tri _ (by omega), h.ext.trans (ext_set hg0 _), by rw [List.length_append, List.length_singleton]; have := h.ops; omega, ?_, by have := hp.hi; have := h.hi; omega, ?_, ?_, ?_, ?_⟩
  · have := h.lo; omega
  · intro f hf
    rcases List.mem_append.1 hf with hf | hf
    · exact h.old f hf
    · rw [List.mem_singleton] at hf; subst hf
      refine ⟨hr.1, hr.2, ?_⟩
      refine h.back _ _ hg0 (fun f hf e => ?_)
      have h3 := h.rest x (by rw [drop_cons hx]; exact List.mem_cons_self) f hf
      have h4 := (h.old f hf).1
      have := hr.1; omega
  · intro i y e hf
    rcases Go.Ahl.get_set e with ⟨rfl, _⟩ | ⟨hne, e⟩
    · exact absurd rfl (hf x.fact (by simp))
    · exact h.back i y e (fun f hq => hf f (List.mem_append_left _ hq))
  · intro y hy f hf
    rcases List.mem_append.1 hf with hf | hf
    · exact h.rest y (by rw [drop_cons hx]; exact List.mem_cons_of_mem _ hy) f hf
    · rw [List.mem_singleton] at hf; subst hf
      exact (cond_apart hc).2 j x hx y hy
  · intro a hca hga
    obtain ⟨h1, h2⟩ := h.all a hca hga
    have htx : litT a x = true := by
      cases hq : litT a x with
      | true => rfl
      | false =>
        obtain ⟨t, ht, e⟩ := hno a (comp_neg hr' h1 hq)
        rw [hga t ht] at e; exact absurd e (by simp)
    refine ⟨comp_set hr' h1 htx, fun y hy => ?_⟩
    rw [take_succ' hx] at hy
    rcases List.mem_append.1 hy with hy | hy
    · exact h2 y hy
    · rw [List.mem_singleton] at hy; subst hy; exact htx
/-- What is asked ahead of a search within the loop. -/
theorem SLoop.ahead {g : List (List FLit)} {l : List FLit} {w0 : List Int} {left0 : Int} {j : Nat} {set w : List Int} {left : Int} (h : SLoop g l w0 left0 j set w left) {x : FLit} (hr : inR w0.length x) (hv : litV w x = 0) (h0 : ((2 ^ opens w0 : Nat) : Int) ≤ left0) :
    Tri (w.set x.fact.toNat (-sgn x)) ∧ opens (w.set x.fact.toNat (-sgn x)) < opens w0 ∧ ((2 ^ opens (w.set x.fact.toNat (-sgn x)) : Nat) : Int) ≤ left ∧ (w.set x.fact.toNat (-sgn x)).length = w0.length := by
  have hr' : inR w.length x := ⟨hr.1, by rw [h.ext.1]; exact hr.2⟩
  have hg0 : valAt w x.fact = 0 := by unfold litV at hv; split at hv <;> omega
  have hg0 : w[x.fact.toNat]? = some 0 := by rw [valAt_get hr', hg0]
  have hs := sgn_ne x
  have ho1 := opens_set (s := -sgn x) hg0 (by omega)
  have hpow : (2 : Nat) ^ opens w = 2 ^ opens (w.set x.fact.toNat (-sgn x)) + 2 ^ opens (w.set x.fact.toNat (-sgn x)) := by
    rw [← ho1, Nat.pow_succ]; omega
  have hpp : 0 < 2 ^ opens (w.set x.fact.toNat (-sgn x)) := Nat.pow_pos (by omega)
  refine ⟨tri_set h.tri _ (by omega), by have := h.ops; omega, by have := h.lo; omega, by rw [List.length_set]; exact h.ext.1⟩
/-- All literals are through. -/
theorem SLoop.done {g : List (List FLit)} {l : List FLit} {w0 : List Int} {left0 : Int} {set w : List Int} {left : Int} (h : SLoop g l w0 left0 l.length set w left) (hl : l ∈ g) (ht : Tri w0) : SPost g w0 left0 false w0 left := by
  refine ⟨ht, .refl _, ?_, h.hi, by simp, fun _ => ⟨rfl, fun a hc => ?_⟩⟩
  · have := h.lo
    have hpp : 0 < 2 ^ opens w := Nat.pow_pos (by omega)
    omega
  · by_cases hg : ∀ t ∈ g, termT a t = false
    · refine ⟨l, hl, ?_⟩
      have h2 := (h.all a hc hg).2
      rw [List.take_length] at h2
      exact List.all_eq_true.2 h2
    · have ⟨t, hq⟩ := Classical.not_forall.1 hg
      have ⟨h3, h4⟩ := Classical.not_imp.1 hq
      exact ⟨t, h3, by simpa using h4⟩
end Go.Proofs.YtocphglkceidhaaGreat
namespace Go.Proofs.YtocphglkceidhaaGreat
open Go.Ahl
/-- The cells of a search. -/
structure EscE (S : Store) (V R L G H Z n : Nat) (gt : Tok) (g : List (List FLit)) : Prop where
  v : S[V]? = some (.row [.ref R 1 0 n])
  r : R < S.length
  l : L < S.length
  g : S[G]? = some (.row [.slice gt (g.map encC)])
  h : S[H]? = some (.row [.func 139 [.ptr V 0]])
  z : S[Z]? = some (.row [.func 140 [.ptr L 0, .ptr G 0, .ptr H 0, .ptr V 0, .ptr Z 0]])
  rl : R ≠ L
  rv : R ≠ V
  lv : L ≠ V
  rg : R ≠ G
  lg : L ≠ G
  rh : R ≠ H
  lh : L ≠ H
  rz : R ≠ Z
  lz : L ≠ Z
theorem EscE.app {S : Store} {V R L G H Z n : Nat} {gt : Tok} {g : List (List FLit)} (e : EscE S V R L G H Z n gt g) (t : Store) : EscE (S ++ t) V R L G H Z n gt g where
  v := by rw [List.getElem?_append_left (lt_of_get e.v)]; exact e.v
  r := by have := e.r; simp; omega
  l := by have := e.l; simp; omega
  g := by rw [List.getElem?_append_left (lt_of_get e.g)]; exact e.g
  h := by rw [List.getElem?_append_left (lt_of_get e.h)]; exact e.h
  z := by rw [List.getElem?_append_left (lt_of_get e.z)]; exact e.z
  rl := e.rl
  rv := e.rv
  lv := e.lv
  rg := e.rg
  lg := e.lg
  rh := e.rh
  lh := e.lh
  rz := e.rz
  lz := e.lz
end Go.Proofs.YtocphglkceidhaaGreat
namespace Go.Proofs.YtocphglkceidhaaGreat
open Go.Ahl
theorem ExtW.lit {w w' : List Int} (h : ExtW w w') {x : FLit} (hx : inR w.length x) (hv : litV w x = 1) : litV w' x = 1 := by
  have hne : valAt w x.fact ≠ 0 := by intro e; unfold litV at hv; rw [e] at hv; split at hv <;> simp at hv
  have h1 := h.2 _ _ (valAt_get hx) hne
  have h2 : valAt w' x.fact = valAt w x.fact := by rw [valAt, h1]; rfl
  unfold litV at hv ⊢; rw [h2]; exact hv
/-- Where the setting of a term's literals stands. -/
structure SetJ (n : Nat) (l : List FLit) (k : Nat) (w : List Int) : Prop where
  kl : k ≤ l.length
  len : w.length = n
  tri : Tri w
  on : ∀ x ∈ l.take k, litV w x = 1
  comp : ∀ a, (∀ x ∈ l.take k, litT a x = true) → Comp w a
theorem SetJ.begin (n : Nat) (l : List FLit) : SetJ n l 0 (List.replicate n 0) where
  kl := Nat.zero_le _
  len := by simp
  tri := by intro y hy; exact .inr (.inl (List.eq_of_mem_replicate hy))
  on := by simp
  comp := by
    intro a _ i y h
    have := List.eq_of_mem_replicate (List.mem_of_getElem? h)
    subst this; simp
theorem SetJ.step {n : Nat} {l : List FLit} {k : Nat} {w : List Int} (h : SetJ n l k w) {x : FLit} (hx : l[k]? = some x) (hc : condB n (-1) l = true) : SetJ n l (k + 1) (w.set x.fact.toNat (sgn x)) := by
  have hr := (cond_apart hc).1 x (List.mem_of_getElem? hx)
  have hxr : inR w.length x := ⟨by omega, by rw [h.len]; exact hr.2⟩
  have hs := sgn_ne x
  refine ⟨lt_of_get hx, by simpa using h.len, tri_set h.tri _ (by omega), ?_, ?_⟩
  · intro y hy
    rw [take_succ' hx] at hy
    rcases List.mem_append.1 hy with hy | hy
    · obtain ⟨j, hj, e⟩ := List.mem_iff_getElem.1 hy
      rw [List.length_take] at hj
      have hyg : l[j]? = some y := by
        rw [List.getElem_take] at e
        rw [List.getElem?_eq_getElem (by omega), e]
      have hne := (cond_apart hc).2 j y hyg x (by
        refine List.mem_of_getElem? (i := k - (j + 1)) ?_
        rw [List.getElem?_drop, show j + 1 + (k - (j + 1)) = k by omega]; exact hx)
      have hyr := (cond_apart hc).1 y (List.mem_of_getElem? hyg)
      have h1 : litV (w.set x.fact.toNat (sgn x)) y = litV w y := by
        have : valAt (w.set x.fact.toNat (sgn x)) y.fact = valAt w y.fact := by
          unfold valAt; rw [List.getElem?_set_ne (by omega)]
        unfold litV; rw [this]
      rw [h1]; exact h.on y hy
    · rw [List.mem_singleton] at hy; subst hy
      rw [litV_set hxr]; unfold sgn; split <;> rfl
  · intro a ha
    rw [take_succ' hx] at ha
    exact comp_set hxr (h.comp a (fun y hy => ha y (List.mem_append_left _ hy))) (ha x (by simp))
end Go.Proofs.YtocphglkceidhaaGreat
namespace Go.Proofs.YtocphglkceidhaaGreat
open Go.Ahl
/-- Does a condition precede another one? -/
def befL : List FLit → List FLit → Bool
  | x :: l, y :: m => if x.fact = y.fact then (if x.neg = y.neg then befL l m else !x.neg) else decide (x.fact < y.fact)
  | _, _ => false
def befB (l m : List FLit) : Bool := if l.length = m.length then befL l m else decide (l.length < m.length)
end Go.Proofs.YtocphglkceidhaaGreat
namespace Go.Proofs.YtocphglkceidhaaGreat
open Go.Ahl
def insB (l : List FLit) : List (List FLit) → List (List FLit)
  | [] => [l]
  | y :: r => if befB y l then y :: insB l r else l :: y :: r
/-- Is no term that is stronger in f, from number k on? -/
def keepAt (i : Nat) (l : List FLit) : Nat → List (List FLit) → Bool
  | _, [] => true
  | k, m :: r => !(withinB m l && (decide (m.length < l.length) || (decide (k < i) && decide (m.length = l.length)))) && keepAt i l (k + 1) r
def refFrom (f : List (List FLit)) : Nat → List (List FLit) → List (List FLit) → List (List FLit)
  | _, out, [] => out
  | i, out, l :: r => refFrom f (i + 1) (if keepAt i l 0 f then insB l out else out) r
/-- The reference's reduced form. -/
def refRed (f : List (List FLit)) : List (List FLit) := refFrom f 0 [] f
end Go.Proofs.YtocphglkceidhaaGreat
namespace Go.Proofs.YtocphglkceidhaaGreat
open Go.Ahl
/-! ### The two reduced forms are one -/
/-- On conditions the reference's order is the program's. -/
theorem befL_eq : ∀ {l m : List FLit}, l.length = m.length → befL l m = decide (cmpLits l m < 0)
  | [], [], _ => by simp [befL, cmpLits]
  | x :: l, y :: m, h => by
    have ih := befL_eq (l := l) (m := m) (by simpa using h)
    rw [befL, cmpLits]
    by_cases h1 : x.fact = y.fact
    · rw [if_pos h1]
      by_cases h2 : x.neg = y.neg
      · rw [if_pos h2, if_pos (by unfold lessI; rw [if_pos h1, if_pos h2]), ih]
      · rw [if_neg h2]
        have : lessI x y = if y.neg then -1 else 1 := by unfold lessI; rw [if_pos h1, if_neg h2]
        rw [this]
        cases hx : x.neg <;> cases hy : y.neg <;> rw [hx, hy] at h2 <;> simp at h2 ⊢
    · rw [if_neg h1]
      have : lessI x y = x.fact - y.fact := by unfold lessI; rw [if_neg h1]
      rw [this, if_neg (by omega)]
      apply decide_eq_decide.2; omega
  | [], _ :: _, h => by simp at h
  | _ :: _, [], h => by simp at h
theorem befB_eq (l m : List FLit) : befB l m = decide (orderI l m < 0) := by
  unfold befB orderI
  by_cases h : l.length = m.length
  · rw [if_pos h, if_pos h]; exact befL_eq h
  · rw [if_neg h, if_neg h]; apply decide_eq_decide.2; omega
theorem withinB_iff {a b : List FLit} : withinB a b = true ↔ ∀ x ∈ a, x ∈ b := by
  unfold withinB
  rw [any_not, List.all_eq_true]
  simp
/-- Of two conditions of one length the one that is within the other is the other. -/
theorem within_eq {n : Int} : ∀ {p q : Int} {a b : List FLit}, condB n p a = true → condB n q b = true → (∀ x ∈ a, x ∈ b) → b.length ≤ a.length → a = b
  | p, q, [], [], _, _, _, _ => rfl
  | p, q, [], _ :: _, _, _, _, h => by simp at h
  | p, q, x :: a, [], _, _, h, _ => by have := h x List.mem_cons_self; simp at this
  | p, q, x :: a, y :: b, ha, hb, h, hl => by
    obtain ⟨a1, a2, a3⟩ := condB_cons ha
    obtain ⟨b1, b2, b3⟩ := condB_cons hb
    rcases List.mem_cons.1 (h x List.mem_cons_self) with hxy | hxb
    · subst hxy
      rw [within_eq a3 b3 (fun z hz => by
        rcases List.mem_cons.1 (h z (List.mem_cons_of_mem _ hz)) with e | e
        · subst e; have := (condB_mem a3 z hz).1; omega
        · exact e) (by simpa using hl)]
    · -- x is behind y: then all of a is behind y
      exfalso
      have hsub : ∀ z ∈ x :: a, z ∈ b := by
        intro z hz
        rcases List.mem_cons.1 (h z hz) with e | e
        · subst e
          have hx := (condB_mem b3 x hxb).1
          rcases List.mem_cons.1 hz with e | e
          · subst e; omega
          · have := (condB_mem a3 z e).1; omega
        · exact e
      have key : ∀ {r : Int} {c d : List FLit}, condB n r c = true → (∀ z ∈ c, z ∈ d) → c.length ≤ d.length := by
        intro r c
        induction c generalizing r with
        | nil => intro d _ _; simp
        | cons z c ih =>
          intro d hc hd
          obtain ⟨c1, c2, c3⟩ := condB_cons hc
          have hz := hd z List.mem_cons_self
          have := ih (d := d.erase z) c3 (fun w hw => by
            have hne : w ≠ z := fun e => by subst e; have := (condB_mem c3 w hw).1; omega
            exact (List.mem_erase_of_ne hne).2 (hd w (List.mem_cons_of_mem _ hw)))
          rw [List.length_erase_of_mem hz] at this
          have := List.length_pos_of_mem hz
          simp; omega
      have := key ha hsub
      simp at this hl; omega
end Go.Proofs.YtocphglkceidhaaGreat
namespace Go.Proofs.YtocphglkceidhaaGreat
open Go.Ahl
theorem within_refl (a : List FLit) : withinB a a = true := withinB_iff.2 fun _ h => h
theorem within_trans {a b c : List FLit} (h : withinB a b = true) (k : withinB b c = true) : withinB a c = true :=
  withinB_iff.2 fun x hx => withinB_iff.1 k x (withinB_iff.1 h x hx)
theorem within_len {n : Int} : ∀ {r : Int} {c d : List FLit}, condB n r c = true → (∀ z ∈ c, z ∈ d) → c.length ≤ d.length := by
  intro r c
  induction c generalizing r with
  | nil => intro d _ _; simp
  | cons z c ih =>
    intro d hc hd
    obtain ⟨c1, c2, c3⟩ := condB_cons hc
    have hz := hd z List.mem_cons_self
    have := ih (d := d.erase z) c3 (fun w hw => by
      have hne : w ≠ z := fun e => by subst e; have := (condB_mem c3 w hw).1; omega
      exact (List.mem_erase_of_ne hne).2 (hd w (List.mem_cons_of_mem _ hw)))
    rw [List.length_erase_of_mem hz] at this
    have := List.length_pos_of_mem hz
    simp; omega
/-- A term that no shorter one of f is within. -/
def minimal (f : List (List FLit)) (l : List FLit) : Prop := l ∈ f ∧ ∀ m ∈ f, withinB m l = true → ¬ m.length < l.length
theorem order_len {a b : List FLit} (h : orderI a b ≤ 0) : a.length ≤ b.length := by
  unfold orderI at h
  by_cases hl : a.length = b.length
  · omega
  · rw [if_neg hl] at h; omega
def apart (a b : List FLit) : Prop := orderI a b ≤ 0 ∧ ¬ withinB a b = true
theorem redLoop_cover : ∀ (l out : List (List FLit)) x, (x ∈ out ∨ x ∈ l) → ∃ y ∈ redLoop out l, withinB y x = true
  | [], out, x, h => by
    rcases h with h | h
    · exact ⟨x, h, within_refl x⟩
    · simp at h
  | z :: l, out, x, h => by
    rw [redLoop]
    split
    · rename_i hz
      rcases h with h | h
      · exact redLoop_cover l out x (.inl h)
      · rcases List.mem_cons.1 h with rfl | h
        · obtain ⟨y, hy, hw⟩ := List.any_eq_true.1 hz
          obtain ⟨u, hu, hw'⟩ := redLoop_cover l out y (.inl hy)
          exact ⟨u, hu, within_trans hw' hw⟩
        · exact redLoop_cover l out x (.inr h)
    · rcases h with h | h
      · exact redLoop_cover l _ x (.inl (List.mem_append_left _ h))
      · rcases List.mem_cons.1 h with rfl | h
        · exact redLoop_cover l _ x (.inl (List.mem_append_right _ (List.mem_singleton.2 rfl)))
        · exact redLoop_cover l _ x (.inr h)
theorem redLoop_apart : ∀ (l out : List (List FLit)), out.Pairwise apart → (out ++ l).Pairwise leO → (redLoop out l).Pairwise apart
  | [], out, h, _ => h
  | z :: l, out, h, hs => by
    rw [redLoop]
    have hs' : (out ++ [z] ++ l).Pairwise leO := by rw [List.append_assoc]; exact hs
    split
    · refine redLoop_apart l out h ?_
      exact hs.sublist (List.Sublist.append_left (List.sublist_cons_self z l) out)
    · rename_i hz
      refine redLoop_apart l _ ?_ hs'
      rw [List.pairwise_append]
      refine ⟨h, by simp, fun a ha b hb => ?_⟩
      rw [List.mem_singleton.1 hb]
      refine ⟨(List.pairwise_append.1 hs).2.2 a ha z List.mem_cons_self, fun hw => hz (List.any_eq_true.2 ⟨a, ha, hw⟩)⟩
theorem reducedL_apart (f : List (List FLit)) : (reducedL f).Pairwise apart := redLoop_apart _ [] .nil (by simpa using sortO_sorted f)
theorem pair_cases {α : Type} {R : α → α → Prop} : ∀ {l : List α}, l.Pairwise R → ∀ x ∈ l, ∀ y ∈ l, x = y ∨ R x y ∨ R y x
  | [], _, x, hx, _, _ => by simp at hx
  | z :: l, h, x, hx, y, hy => by
    rw [List.pairwise_cons] at h
    rcases List.mem_cons.1 hx with e | hx'
    · rcases List.mem_cons.1 hy with e' | hy'
      · exact .inl (e.trans e'.symm)
      · rw [e]; exact .inr (.inl (h.1 y hy'))
    · rcases List.mem_cons.1 hy with e' | hy'
      · rw [e']; exact .inr (.inr (h.1 x hx'))
      · exact pair_cases h.2 x hx' y hy'
theorem reducedL_minimal {n : Int} {f : List (List FLit)} (hf : vF n f) (x : List FLit) : x ∈ reducedL f ↔ minimal f x := by
  have hcov : ∀ z ∈ f, ∃ y ∈ reducedL f, withinB y z = true := fun z hz => redLoop_cover _ [] z (.inr ((sortO_perm f).mem_iff.2 hz))
  constructor
  · intro hx
    refine ⟨reducedL_mem hx, fun m hm hw hlt => ?_⟩
    obtain ⟨y, hy, hym⟩ := hcov m hm
    have h1 := within_len (hf y (reducedL_mem hy)) (withinB_iff.1 hym)
    have hyx := within_trans hym hw
    rcases pair_cases (reducedL_apart f) x hx y hy with e | e | e
    · subst e; omega
    · have := order_len e.1; omega
    · exact e.2 hyx
  · rintro ⟨hx, hmin⟩
    obtain ⟨y, hy, hyx⟩ := hcov x hx
    have hyf := reducedL_mem hy
    have h1 := hmin y hyf hyx
    rw [← within_eq (hf y hyf) (hf x hx) (withinB_iff.1 hyx) (by omega)]
    exact hy
def ltO (a b : List FLit) : Prop := orderI a b < 0
theorem reducedL_strict (f : List (List FLit)) : (reducedL f).Pairwise ltO := (reducedL_apart f).imp fun {a b} h => by
  rcases Int.lt_or_eq_of_le h.1 with q | q
  · exact q
  · exact absurd (by rw [order_anti q]; exact within_refl b) h.2
theorem ltO_irrefl (a : List FLit) : ¬ ltO a a := by unfold ltO; rw [order_refl]; omega
theorem strict_unique : ∀ {a b : List (List FLit)}, a.Pairwise ltO → b.Pairwise ltO → (∀ x, x ∈ a ↔ x ∈ b) → a = b
  | [], [], _, _, _ => rfl
  | [], y :: b, _, _, h => by have := (h y).2 List.mem_cons_self; simp at this
  | x :: a, [], _, _, h => by have := (h x).1 List.mem_cons_self; simp at this
  | x :: a, y :: b, ha, hb, h => by
    rw [List.pairwise_cons] at ha hb
    have hxy : x = y := by
      rcases List.mem_cons.1 ((h x).1 List.mem_cons_self) with e | e
      · exact e
      · rcases List.mem_cons.1 ((h y).2 List.mem_cons_self) with e' | e'
        · exact e'.symm
        · exact absurd (order_trans (hb.1 x e) (ha.1 y e')) (ltO_irrefl y)
    subst hxy
    rw [strict_unique ha.2 hb.2 fun z => by
      constructor
      · intro hz
        rcases List.mem_cons.1 ((h z).1 (List.mem_cons_of_mem _ hz)) with e | e
        · subst e; exact absurd (ha.1 z hz) (ltO_irrefl z)
        · exact e
      · intro hz
        rcases List.mem_cons.1 ((h z).2 (List.mem_cons_of_mem _ hz)) with e | e
        · subst e; exact absurd (hb.1 z hz) (ltO_irrefl z)
        · exact e]
end Go.Proofs.YtocphglkceidhaaGreat
namespace Go.Proofs.YtocphglkceidhaaGreat
open Go.Ahl
theorem keepAt_iff (i : Nat) (l : List FLit) : ∀ (r : List (List FLit)) (k : Nat), keepAt i l k r = true ↔ ∀ (j : Nat) m, r[j]? = some m → withinB m l = true → ¬ m.length < l.length ∧ ¬ (k + j < i ∧ m.length = l.length)
  | [], k => by simp [keepAt]
  | m :: r, k => by
    rw [keepAt, Bool.and_eq_true, keepAt_iff i l r (k + 1)]
    constructor
    · rintro ⟨h1, h2⟩ j u hu hw
      cases j with
      | zero =>
        simp at hu; subst hu
        rw [hw, Bool.true_and] at h1
        simp at h1
        exact ⟨by omega, fun q => h1.2.elim (fun e => by omega) (fun e => e q.2)⟩
      | succ j =>
        simp at hu
        have := h2 j u hu hw
        exact ⟨this.1, fun q => this.2 ⟨by omega, q.2⟩⟩
    · intro h
      refine ⟨?_, fun j u hu hw => ?_⟩
      · cases hw : withinB m l
        · rfl
        · have := h 0 m rfl hw
          rw [decide_eq_false this.1]
          by_cases hk : k < i
          · rw [decide_eq_true hk, decide_eq_false (fun q => this.2 ⟨by omega, q⟩)]; rfl
          · rw [decide_eq_false hk]; rfl
      · have := h (j + 1) u (by simpa using hu) hw
        exact ⟨this.1, fun q => this.2 ⟨by omega, q.2⟩⟩
theorem insB_iff (l : List FLit) : ∀ r x, x ∈ insB l r ↔ x = l ∨ x ∈ r
  | [], x => by simp [insB]
  | y :: r, x => by
    rw [insB]
    split
    · rw [List.mem_cons, insB_iff l r x, List.mem_cons]
      constructor
      · rintro (h | h | h)
        · exact .inr (.inl h)
        · exact .inl h
        · exact .inr (.inr h)
      · rintro (h | h | h)
        · exact .inr (.inl h)
        · exact .inl h
        · exact .inr (.inr h)
    · rw [List.mem_cons]
theorem insB_strict (l : List FLit) : ∀ {r}, r.Pairwise ltO → l ∉ r → (insB l r).Pairwise ltO
  | [], _, _ => by simp [insB]
  | y :: r, h, hl => by
    rw [insB, befB_eq]
    rw [List.pairwise_cons] at h
    have hne : y ≠ l := fun e => hl (by rw [e]; exact List.mem_cons_self)
    split
    · rename_i hb
      have hb := of_decide_eq_true hb
      refine List.pairwise_cons.2 ⟨fun z hz => ?_, insB_strict l h.2 (fun q => hl (List.mem_cons_of_mem _ q))⟩
      rcases (insB_iff l r z).1 hz with e | hz
      · rw [e]; exact hb
      · exact h.1 z hz
    · rename_i hb
      have hly : ltO l y := by
        have h0 : ¬ orderI y l < 0 := fun q => hb (decide_eq_true q)
        rcases Int.lt_trichotomy (orderI l y) 0 with q | q | q
        · exact q
        · exact absurd (order_anti q).symm hne
        · exact absurd (order_swap.2 q) h0
      refine List.pairwise_cons.2 ⟨fun z hz => ?_, List.pairwise_cons.2 h⟩
      rcases List.mem_cons.1 hz with e | hz
      · rw [e]; exact hly
      · exact order_trans hly (h.1 z hz)
/-- The first occurrence of a term that no stronger one of f is within, among the first i. -/
theorem refFrom_spec {n : Int} {f : List (List FLit)} (hf : vF n f) : ∀ (r : List (List FLit)) (i : Nat) (out : List (List FLit)), r = f.drop i → i ≤ f.length → out.Pairwise ltO → (∀ x, x ∈ out ↔ minimal f x ∧ x ∈ f.take i) →
    (refFrom f i out r).Pairwise ltO ∧ ∀ x, x ∈ refFrom f i out r ↔ minimal f x
  | [], i, out, hr, hi, hp, hm => by
    have hlen : f.length ≤ i := List.drop_eq_nil_iff.1 hr.symm
    refine ⟨hp, fun x => ?_⟩
    rw [refFrom, hm x, List.take_of_length_le hlen]
    exact ⟨fun h => h.1, fun h => ⟨h, h.1⟩⟩
  | l :: r, i, out, hr, hi, hp, hm => by
    have hlt : i < f.length := by
      rcases Nat.lt_or_ge i f.length with q | q
      · exact q
      · rw [List.drop_eq_nil_iff.2 q] at hr; simp at hr
    have hx : f[i]? = some l := by
      have := congrArg (·[0]?) hr
      simp at this; exact this.symm
    have hr' : r = f.drop (i + 1) := by
      rw [drop_cons hx] at hr; injection hr
    have hlf : l ∈ f := List.mem_of_getElem? hx
    have hts := take_succ' hx
    rw [refFrom]
    by_cases hk : keepAt i l 0 f = true
    · rw [if_pos hk]
      have hk' := (keepAt_iff i l f 0).1 hk
      have hmin : minimal f l := ⟨hlf, fun m hm' hw => by
        obtain ⟨j, hj, rfl⟩ := List.mem_iff_getElem.1 hm'
        exact (hk' j _ (List.getElem?_eq_getElem hj) hw).1⟩
      have hnot : l ∉ out := by
        intro hl
        have := ((hm l).1 hl).2
        obtain ⟨j, hj, he⟩ := List.mem_iff_getElem.1 this
        have hji : j < i := by rw [List.length_take] at hj; omega
        rw [List.getElem_take] at he
        exact (hk' j l (by rw [List.getElem?_eq_getElem (by omega), he]) (within_refl l)).2 ⟨by omega, rfl⟩
      refine refFrom_spec hf r (i + 1) _ hr' (by omega) (insB_strict l hp hnot) fun x => ?_
      rw [insB_iff, hm x, hts, List.mem_append, List.mem_singleton]
      constructor
      · rintro (h | h)
        · subst h; exact ⟨hmin, .inr rfl⟩
        · exact ⟨h.1, .inl h.2⟩
      · rintro ⟨h, h' | h'⟩
        · exact .inr ⟨h, h'⟩
        · exact .inl h'
    · rw [if_neg hk]
      refine refFrom_spec hf r (i + 1) _ hr' (by omega) hp fun x => ?_
      rw [hm x, hts, List.mem_append, List.mem_singleton]
      constructor
      · rintro ⟨h, h'⟩; exact ⟨h, .inl h'⟩
      · rintro ⟨h, h' | h'⟩
        · exact ⟨h, h'⟩
        · subst h'
          refine ⟨h, ?_⟩
          -- it is minimal, yet not kept: an equal one stands ahead
          refine Classical.byContradiction fun hno => hk ((keepAt_iff i x f 0).2 fun j m hj hw => ⟨h.2 m (List.mem_of_getElem? hj) hw, fun q => hno ?_⟩)
          have he := within_eq (hf m (List.mem_of_getElem? hj)) (hf x hlf) (withinB_iff.1 hw) (by omega)
          subst he
          exact List.mem_iff_getElem?.2 ⟨j, by rw [List.getElem?_take, if_pos (by omega)]; exact hj⟩
theorem refRed_eq {n : Int} {f : List (List FLit)} (hf : vF n f) : refRed f = reducedL f := by
  have h := refFrom_spec hf f 0 [] (by simp) (Nat.zero_le _) .nil (by simp)
  exact strict_unique h.1 (reducedL_strict f) fun x => by
    rw [reducedL_minimal hf x]; exact h.2 x
end Go.Proofs.YtocphglkceidhaaGreat
namespace Go.Proofs.YtocphglkceidhaaGreat
open Go.Ahl
theorem FB.of {f : List (List FLit)} (h : f.length ≤ 1073741824 ∧ ∀ l ∈ f, l.length ≤ 1073741824) : FB f := ⟨by have := h.1; omega, fun l hl => by have := h.2 l hl; omega⟩
def goodB (n : Int) (f : List (List FLit)) : Bool := isForm n f && decide (f = refRed f)
end Go.Proofs.YtocphglkceidhaaGreat
namespace Go.Proofs.YtocphglkceidhaaGreat
open Go.Ahl
def whenSize (es : List FEff) : Nat := (es.map fun e => e.when_.length).sum
def actSize (a : FAct) : Nat := a.pre.length + a.effects.length + whenSize a.effects
def taskSize (t : FTask) : Nat := t.facts.length + t.init.length + t.goal.length + t.actions.length + (t.actions.map actSize).sum
/-- At most n parts, and names of at most n bytes. -/
def fewT (n : Nat) (t : FTask) : Bool := decide (taskSize t ≤ n) && (t.facts.all (fun s => decide (s.data.toList.length ≤ n)) && t.actions.all (fun a => decide (a.name.data.toList.length ≤ n)))
theorem actSum_cons (a : FAct) (l : List FAct) : ((a :: l).map actSize).sum = actSize a + (l.map actSize).sum := by simp
theorem whenSize_cons (e : FEff) (l : List FEff) : whenSize (e :: l) = e.when_.length + whenSize l := by simp [whenSize]
theorem fewT_big {n : Nat} {t : FTask} (h : n < taskSize t) : fewT n t = false := by unfold fewT; rw [decide_eq_false (by omega)]; rfl
def c_few01 : CCode := .seq (.ops [⟨some 2, .box (.tmp 0), none, []⟩, ⟨some 4, .move (.lit (.bool false)), none, []⟩]) (.seq (.ops [⟨some 12, .faddr 0 (.tmp 2), none, []⟩, ⟨some 13, .load none (.tmp 12), none, []⟩, ⟨some 14, .blen 1 (.tmp 13), none, []⟩, ⟨some 15, .faddr 1 (.tmp 2), none, []⟩, ⟨some 16, .load none (.tmp 15), none, []⟩, ⟨some 17, .blen 1 (.tmp 16), none, []⟩, ⟨some 18, .bin .add .none (.tmp 14) (.tmp 17), none, []⟩, ⟨some 19, .faddr 2 (.tmp 2), none, []⟩, ⟨some 20, .load none (.tmp 19), none, []⟩, ⟨some 21, .blen 1 (.tmp 20), none, []⟩, ⟨some 22, .bin .add .none (.tmp 18) (.tmp 21), none, []⟩, ⟨some 23, .faddr 3 (.tmp 2), none, []⟩, ⟨some 24, .load none (.tmp 23), none, []⟩, ⟨some 25, .blen 1 (.tmp 24), none, []⟩, ⟨some 26, .bin .add .none (.tmp 22) (.tmp 25), none, []⟩, ⟨some 5, .move (.tmp 26), none, []⟩]) (.seq (.seq (.ops [⟨some 27, .move (.tmp 5), none, []⟩, ⟨some 28, .move (.tmp 1), none, []⟩, ⟨some 29, .bin .gtr .none (.tmp 27) (.tmp 28), none, []⟩]) (.cond (.tmp 29) (.seq (.ops [⟨some 4, .move (.lit (.bool false)), none, []⟩]) .ret) .skip)) (.seq (.seq (.ops [⟨some 30, .faddr 0 (.tmp 2), none, []⟩, ⟨some 31, .load none (.tmp 30), none, []⟩, ⟨some 32, .blen 1 (.tmp 31), none, []⟩, ⟨some 33, .move (.lit (.int .i64 0)), none, []⟩]) (.block 0 (.loop (.seq (.ops [⟨some 34, .bin .lss .none (.tmp 33) (.tmp 32), none, []⟩]) (.seq (.cond (.tmp 34) .skip (.exit 0)) (.seq (.block 1 (.seq (.ops [⟨some 35, .iaddr 1 (.tmp 31) (.tmp 33), none, []⟩, ⟨some 36, .load none (.tmp 35), none, []⟩, ⟨some 7, .move (.tmp 36), none, []⟩]) (.seq (.ops [⟨some 37, .move (.tmp 7), none, []⟩, ⟨some 38, .blen 0 (.tmp 37), none, []⟩, ⟨some 39, .move (.tmp 1), none, []⟩, ⟨some 40, .bin .gtr .none (.tmp 38) (.tmp 39), none, []⟩]) (.cond (.tmp 40) (.seq (.ops [⟨some 4, .move (.lit (.bool false)), none, []⟩]) .ret) .skip)))) (.ops [⟨some 41, .bin .add .none (.tmp 33) (.lit (.int .i64 1)), none, []⟩, ⟨some 33, .move (.tmp 41), none, []⟩]))))))) (.seq (.seq (.ops [⟨some 42, .faddr 3 (.tmp 2), none, []⟩, ⟨some 43, .load none (.tmp 42), none, []⟩, ⟨some 44, .blen 1 (.tmp 43), none, []⟩, ⟨some 45, .move (.lit (.int .i64 0)), none, []⟩]) (.block 2 (.loop (.seq (.ops [⟨some 46, .bin .lss .none (.tmp 45) (.tmp 44), none, []⟩]) (.seq (.cond (.tmp 46) .skip (.exit 2)) (.seq (.block 3 (.seq (.ops [⟨some 47, .iaddr 4 (.tmp 43) (.tmp 45), none, []⟩, ⟨some 48, .load (some 4) (.tmp 47), none, []⟩, ⟨some 9, .alloc (.agg [.str (bys []), .int .i64 0, .slice .nil [], .slice .nil []]), none, []⟩, ⟨none, .store 4 (.tmp 9) (.tmp 48), none, []⟩]) (.seq (.ops [⟨some 49, .move (.tmp 5), none, []⟩, ⟨some 50, .faddr 2 (.tmp 9), none, []⟩, ⟨some 51, .load none (.tmp 50), none, []⟩, ⟨some 52, .blen 1 (.tmp 51), none, []⟩, ⟨some 53, .faddr 3 (.tmp 9), none, []⟩, ⟨some 54, .load none (.tmp 53), none, []⟩, ⟨some 55, .blen 1 (.tmp 54), none, []⟩, ⟨some 56, .bin .add .none (.tmp 52) (.tmp 55), none, []⟩, ⟨some 57, .bin .add .none (.tmp 49) (.tmp 56), none, []⟩, ⟨some 5, .move (.tmp 57), none, []⟩]) (.seq (.seq (.ops [⟨some 58, .move (.tmp 5), none, []⟩, ⟨some 59, .move (.tmp 1), none, []⟩, ⟨some 60, .bin .gtr .none (.tmp 58) (.tmp 59), none, []⟩, ⟨some 61, .move (.tmp 60), none, []⟩, ⟨some 62, .faddr 0 (.tmp 9), some (some 61, false), []⟩, ⟨some 63, .load none (.tmp 62), some (some 61, false), []⟩, ⟨some 64, .blen 0 (.tmp 63), some (some 61, false), []⟩, ⟨some 65, .move (.tmp 1), some (some 61, false), []⟩, ⟨some 66, .bin .gtr .none (.tmp 64) (.tmp 65), some (some 61, false), []⟩, ⟨some 67, .pick (.tmp 61) (.lit (.bool true)) (.tmp 66), none, []⟩]) (.cond (.tmp 67) (.seq (.ops [⟨some 4, .move (.lit (.bool false)), none, []⟩]) .ret) .skip)) (.seq (.ops [⟨some 68, .faddr 3 (.tmp 9), none, []⟩, ⟨some 69, .load none (.tmp 68), none, []⟩, ⟨some 70, .blen 1 (.tmp 69), none, []⟩, ⟨some 71, .move (.lit (.int .i64 0)), none, []⟩]) (.block 4 (.loop (.seq (.ops [⟨some 72, .bin .lss .none (.tmp 71) (.tmp 70), none, []⟩]) (.seq (.cond (.tmp 72) .skip (.exit 4)) (.seq (.block 5 (.seq (.ops [⟨some 73, .iaddr 3 (.tmp 69) (.tmp 71), none, []⟩, ⟨some 74, .load (some 3) (.tmp 73), none, []⟩, ⟨some 11, .alloc (.agg [.slice .nil [], .int .i64 0, .bool false]), none, []⟩, ⟨none, .store 3 (.tmp 11) (.tmp 74), none, []⟩]) (.ops [⟨some 75, .move (.tmp 5), none, []⟩, ⟨some 76, .faddr 0 (.tmp 11), none, []⟩, ⟨some 77, .load none (.tmp 76), none, []⟩, ⟨some 78, .blen 1 (.tmp 77), none, []⟩, ⟨some 79, .bin .add .none (.tmp 75) (.tmp 78), none, []⟩, ⟨some 5, .move (.tmp 79), none, []⟩]))) (.ops [⟨some 80, .bin .add .none (.tmp 71) (.lit (.int .i64 1)), none, []⟩, ⟨some 71, .move (.tmp 80), none, []⟩]))))))))))) (.ops [⟨some 81, .bin .add .none (.tmp 45) (.lit (.int .i64 1)), none, []⟩, ⟨some 45, .move (.tmp 81), none, []⟩]))))))) (.seq (.ops [⟨some 82, .move (.tmp 5), none, []⟩, ⟨some 83, .move (.tmp 1), none, []⟩, ⟨some 84, .bin .leq .none (.tmp 82) (.tmp 83), none, []⟩, ⟨some 4, .move (.tmp 84), none, []⟩]) .ret)))))
set_option maxRecDepth 20000 in
set_option maxHeartbeats 1000000 in
theorem few01_spec (t : FTask) (n : Nat) (σ : Store) (ht : TB t) (hn : n ≤ 4096) :
    ACalls Tryz.prog 33 [.agg (encTask t), .int .i64 n] σ (isR (.bool (fewT n t)) σ) := by
  refine ACalls.intro (rs := [(.tmp 4)]) (by kernel_rfl) { own := [], ghosts := [] } Tryz.func33 (c := Tryz.f33.body.getD .skip) (by kernel_rfl) (by decide) (by rw [show Tryz.f33.ntmps = 85 by kernel_rfl]; exact Nat.le_of_ble_eq_true rfl) (by kernel_rfl) ?_
  intro hσ hids
  rw [show comp Tryz.prog { own := [], ghosts := [] } (Tryz.f33.body.getD .skip) = c_few01 by kernel_rfl, show Tryz.f33.ntmps = 85 by kernel_rfl]
  unfold c_few01
  have hσ1 := ids_grow hσ (ids_encTask t)
  obtain ⟨T, hT⟩ : ∃ T : Nat, T = 140737488355328 := ⟨_, rfl⟩
  have hnT := mulTop (T := T) hn
  have b1 := ht.facts; have b2 := ht.init; have b3 := ht.goal; have b4 := ht.actions
  have hsz : taskSize t = t.facts.length + t.init.length + t.goal.length + t.actions.length + (t.actions.map actSize).sum := rfl
  have w1 : IntKind.i64.wrap ((t.facts.length : Int) + t.init.length) = ((t.facts.length + t.init.length : Nat) : Int) := by rw [wrap_ok (by omega)]; omega
  have w2 : IntKind.i64.wrap (((t.facts.length + t.init.length : Nat) : Int) + t.goal.length) = ((t.facts.length + t.init.length + t.goal.length : Nat) : Int) := by rw [wrap_ok (by omega)]; omega
  have w3 : IntKind.i64.wrap (((t.facts.length + t.init.length + t.goal.length : Nat) : Int) + t.actions.length) = ((t.facts.length + t.init.length + t.goal.length + t.actions.length : Nat) : Int) := by rw [wrap_ok (by omega)]; omega
  by_cases h1 : ((t.facts.length + t.init.length + t.goal.length + t.actions.length : Nat) : Int) > n
  · simp only [go_sem, Int.reduceToNat, Int.reduceLE, Int.reduceLT, Nat.reduceBEq, Nat.reduceLT, Nat.reduceAdd, Nat.reduceLeDiff, encTask, w1, w2, w3, h1]
    first | exact rtk (.bool false) ⟨by rw [fewT_big (by omega)], rfl⟩ | exact rtk0 (.bool false) ⟨by rw [fewT_big (by omega)], rfl⟩
  simp only [go_sem, Int.reduceToNat, Int.reduceLE, Int.reduceLT, Nat.reduceBEq, Nat.reduceLT, Nat.reduceAdd, Nat.reduceLeDiff, encTask, w1, w2, w3, h1]
  generalize hs0 : t.facts.length + t.init.length + t.goal.length + t.actions.length = s0 at *
  refine wpc_while (fun i => [(1, .int .i64 n), (2, .ptr σ.length 0), (5, .int .i64 s0), (31, .slice .unk (t.facts.map encT)), (32, .int .i64 t.facts.length), (33, .int .i64 (i : Nat))]) (fun _ => σ ++ [.row (encTask t)])
    (fun i => i ≤ t.facts.length ∧ t.facts.all (fun s => decide (s.data.toList.length ≤ n)) = (t.facts.drop i).all (fun s => decide (s.data.toList.length ≤ n))) (fun i => t.facts.length - i) 0 ⟨Nat.zero_le _, rfl⟩ (by (try dsimp only); exact ghk1) ?_
  rintro i ⟨hi, hv⟩ K hK hE hR
  by_cases h : i < t.facts.length
  · obtain ⟨y, hx⟩ := get_ex h; have hlt : ((i : Int) < (t.facts.length : Int)) := (by omega); have hw : IntKind.i64.wrap ((i : Int) + 1) = ((i + 1 : Nat) : Int) := (by rw [wrap_ok (by omega)]; omega)
    have hb : y.size = y.data.toList.length := rfl
    have hyb := ht.names y (List.mem_of_getElem? hx)
    rw [drop_cons hx, List.all_cons] at hv
    by_cases h2 : ((y.data.toList.length : Nat) : Int) > n
    · simp only [go_sem, Int.reduceToNat, Int.reduceLE, Int.reduceLT, Nat.reduceBEq, Nat.reduceLT, Nat.reduceAdd, Nat.reduceLeDiff, hlt, hx, encT, hb, h2, hR]
      rw [decide_eq_false (by omega), Bool.false_and] at hv
      first | exact rtk (.bool false) ⟨by rw [fewT, hv, Bool.false_and, Bool.and_false], rfl⟩ | exact rtk0 (.bool false) ⟨by rw [fewT, hv, Bool.false_and, Bool.and_false], rfl⟩
    · simp only [go_sem, Int.reduceToNat, Int.reduceLE, Int.reduceLT, Nat.reduceBEq, Nat.reduceLT, Nat.reduceAdd, Nat.reduceLeDiff, hlt, hx, encT, hb, h2]
      rw [decide_eq_true (by omega), Bool.true_and] at hv
      refine hK _ _ (i + 1) (⟨by omega, hv⟩) (by first | omega | (simp only []; omega) | (simp; omega)) ?_; (try dsimp only); (try simp only [ hw]); exact ghk1
  · have hlt : ¬ ((i : Int) < (t.facts.length : Int)) := by omega
    rw [drop_len h, List.all_nil] at hv
    simp only [go_sem, Int.reduceToNat, Int.reduceLE, Int.reduceLT, Nat.reduceBEq, Nat.reduceLT, Nat.reduceAdd, Nat.reduceLeDiff, hlt, hE, encTask]
    have hfv : fewT n t = (decide (taskSize t ≤ n) && t.actions.all (fun a => decide (a.name.data.toList.length ≤ n))) := by rw [fewT, hv, Bool.true_and]
    clear hK hE hR hv
    refine wpc_while (fun (q : Nat × Nat) => [(1, .int .i64 n), (5, .int .i64 q.2), (43, .slice .unk (t.actions.map encA)), (44, .int .i64 t.actions.length), (45, .int .i64 q.1)]) (fun _ => σ)
      (fun q => q.1 ≤ t.actions.length ∧ q.2 ≤ n + n * T ∧ taskSize t = q.2 + ((t.actions.drop q.1).map actSize).sum ∧ t.actions.all (fun a => decide (a.name.data.toList.length ≤ n)) = (t.actions.drop q.1).all (fun a => decide (a.name.data.toList.length ≤ n))) (fun q => t.actions.length - q.1) (0, s0) ⟨Nat.zero_le _, by simp only []; omega, by rw [hsz]; rfl, rfl⟩ (by (try dsimp only); first | exact ghk | exact ghk0) ?_
    rintro ⟨j, a⟩ ⟨hj', haa, hva, hvn⟩ K hK hE hR
    dsimp only at hj' haa hva hvn ⊢
    by_cases hj : j < t.actions.length
    · obtain ⟨x, hxj⟩ := get_ex hj; have hltj : ((j : Int) < (t.actions.length : Int)) := (by omega); have hwj : IntKind.i64.wrap ((j : Int) + 1) = ((j + 1 : Nat) : Int) := (by rw [wrap_ok (by omega)]; omega)
      have hb : x.name.size = x.name.data.toList.length := rfl
      have hxm := List.mem_of_getElem? hxj
      have c1 := ht.pre x hxm; have c2 := ht.effects x hxm; have c3 := ht.whens x hxm; have c4 := ht.name x hxm
      rw [drop_cons hxj, actSum_cons, actSize] at hva
      rw [drop_cons hxj, List.all_cons] at hvn
      have w4 : IntKind.i64.wrap ((x.pre.length : Int) + x.effects.length) = ((x.pre.length + x.effects.length : Nat) : Int) := by rw [wrap_ok (by omega)]; omega
      have w5 : IntKind.i64.wrap ((a : Int) + ((x.pre.length + x.effects.length : Nat) : Int)) = ((a + (x.pre.length + x.effects.length) : Nat) : Int) := by rw [wrap_ok (by omega)]; omega
      by_cases h3 : ((a + (x.pre.length + x.effects.length) : Nat) : Int) > n
      · simp only [go_sem, Int.reduceToNat, Int.reduceLE, Int.reduceLT, Nat.reduceBEq, Nat.reduceLT, Nat.reduceAdd, Nat.reduceLeDiff, hltj, hxj, encA, w4, w5, h3, hR]
        first | exact rtk (.bool false) ⟨by rw [fewT_big (by omega)], rfl⟩ | exact rtk0 (.bool false) ⟨by rw [fewT_big (by omega)], rfl⟩
      by_cases h4 : ((x.name.data.toList.length : Nat) : Int) > n
      · simp only [go_sem, Int.reduceToNat, Int.reduceLE, Int.reduceLT, Nat.reduceBEq, Nat.reduceLT, Nat.reduceAdd, Nat.reduceLeDiff, hltj, hxj, encA, w4, w5, h3, hb, h4, hR]
        rw [decide_eq_false (by omega), Bool.false_and] at hvn
        first | exact rtk (.bool false) ⟨by rw [hfv, hvn, Bool.and_false], rfl⟩ | exact rtk0 (.bool false) ⟨by rw [hfv, hvn, Bool.and_false], rfl⟩
      rw [decide_eq_true (by omega), Bool.true_and] at hvn
      simp only [go_sem, Int.reduceToNat, Int.reduceLE, Int.reduceLT, Nat.reduceBEq, Nat.reduceLT, Nat.reduceAdd, Nat.reduceLeDiff, hltj, hxj, encA, w4, w5, h3, hb, h4]
      refine wpc_while (fun (q : Nat × Nat) => [(1, .int .i64 n), (5, .int .i64 q.2), (43, .slice .unk (t.actions.map encA)), (44, .int .i64 t.actions.length), (45, .int .i64 j), (69, .slice .unk (x.effects.map encE)), (70, .int .i64 x.effects.length), (71, .int .i64 q.1)]) (fun _ => σ)
        (fun q => q.1 ≤ x.effects.length ∧ q.2 ≤ n + q.1 * T ∧ taskSize t = q.2 + whenSize (x.effects.drop q.1) + ((t.actions.drop (j + 1)).map actSize).sum) (fun q => x.effects.length - q.1) (0, a + (x.pre.length + x.effects.length)) ⟨Nat.zero_le _, by simp only []; omega, by rw [List.drop_zero]; omega⟩ (by (try dsimp only); first | exact ghk | exact ghk0) ?_
      rintro ⟨k, b⟩ ⟨hk', hbb, hvb⟩ K' hK' hE' hR'
      dsimp only at hk' hbb hvb ⊢
      have hfn : x.effects.length ≤ n := by omega
      have hjm := mulTop (T := T) (Nat.le_trans hk' hfn)
      by_cases hk : k < x.effects.length
      · obtain ⟨e, hxk⟩ := get_ex hk; have hltk : ((k : Int) < (x.effects.length : Int)) := (by omega); have hwk : IntKind.i64.wrap ((k : Int) + 1) = ((k + 1 : Nat) : Int) := (by rw [wrap_ok (by omega)]; omega)
        have c5 := c3 e (List.mem_of_getElem? hxk)
        rw [drop_cons hxk, whenSize_cons] at hvb
        have w6 : IntKind.i64.wrap ((b : Int) + e.when_.length) = ((b + e.when_.length : Nat) : Int) := by rw [wrap_ok (by omega)]; omega
        simp only [go_sem, Int.reduceToNat, Int.reduceLE, Int.reduceLT, Nat.reduceBEq, Nat.reduceLT, Nat.reduceAdd, Nat.reduceLeDiff, hltk, hxk, encE, w6]
        refine hK' _ _ (k + 1, b + e.when_.length) ⟨by simp only []; omega, by simp only [Nat.add_mul]; omega, by simp only []; omega⟩ (by simp only []; omega) ?_
        exact (by (try dsimp only); (try simp only [hwk]); first | exact ghk | exact ghk0)
      · have hltk : ¬ ((k : Int) < (x.effects.length : Int)) := by omega
        rw [drop_len hk] at hvb
        simp only [go_sem, Int.reduceToNat, Int.reduceLE, Int.reduceLT, Nat.reduceBEq, Nat.reduceLT, Nat.reduceAdd, Nat.reduceLeDiff, hltk, hE']
        refine hK _ _ ((j + 1, b)) (⟨by simp only []; omega, by simp only []; omega, by simpa [whenSize] using hvb, hvn⟩) (by first | omega | (simp only []; omega) | (simp; omega)) ?_; (try dsimp only); (try simp only [ hwj]); first | exact ghk | exact ghk0
    · have hltj : ¬ ((j : Int) < (t.actions.length : Int)) := by omega
      rw [drop_len hj, List.map_nil, List.sum_nil] at hva
      rw [drop_len hj, List.all_nil] at hvn
      simp only [go_sem, Int.reduceToNat, Int.reduceLE, Int.reduceLT, Nat.reduceBEq, Nat.reduceLT, Nat.reduceAdd, Nat.reduceLeDiff, hltj, hE]
      first | exact rtk (.bool (decide ((a : Int) ≤ n))) ⟨by rw [hfv, hvn, Bool.and_true]; congr 1; apply decide_eq_decide.2; omega, rfl⟩ | exact rtk0 (.bool (decide ((a : Int) ≤ n))) ⟨by rw [hfv, hvn, Bool.and_true]; congr 1; apply decide_eq_decide.2; omega, rfl⟩
end Go.Proofs.YtocphglkceidhaaGreat
namespace Go.Proofs.YtocphglkceidhaaGreat
open Go.Ahl
/-- All lists of facts below n. -/
def statesL : Nat → List (List Int)
  | 0 => [[]]
  | n + 1 => statesL n ++ (statesL n).map (· ++ [(n : Int)])
theorem statesL_len : ∀ n, (statesL n).length = 2 ^ n
  | 0 => rfl
  | n + 1 => by rw [statesL, List.length_append, List.length_map, statesL_len n, Nat.pow_succ]; omega
theorem risingB_snoc (n m : Int) (hnm : m + 1 ≤ n) : ∀ (s : List Int) (p : Int), risingB m p s = true → p < m → risingB n p (s ++ [m]) = true
  | [], p, h, hp => by simp [risingB, hp]; omega
  | x :: s, p, h, hp => by
    rw [risingB, Bool.and_eq_true, Bool.and_eq_true, decide_eq_true_eq, decide_eq_true_eq] at h
    rw [List.cons_append, risingB, Bool.and_eq_true, Bool.and_eq_true, decide_eq_true_eq, decide_eq_true_eq]
    exact ⟨⟨h.1.1, by omega⟩, risingB_snoc n m hnm s x h.2 h.1.2⟩
theorem risingB_up {m n : Int} (h : m ≤ n) : ∀ (s : List Int) (p : Int), risingB m p s = true → risingB n p s = true
  | [], p, _ => rfl
  | x :: s, p, k => by
    rw [risingB, Bool.and_eq_true, Bool.and_eq_true, decide_eq_true_eq, decide_eq_true_eq] at k ⊢
    exact ⟨⟨k.1.1, by omega⟩, risingB_up h s x k.2⟩
theorem statesL_mem : ∀ (n : Nat) (s : List Int), s ∈ statesL n → s.length ≤ n ∧ risingB n (-1) s = true
  | 0, s, h => by simp [statesL] at h; subst h; exact ⟨by simp, rfl⟩
  | n + 1, s, h => by
    rw [statesL, List.mem_append, List.mem_map] at h
    rcases h with h | ⟨r, h, rfl⟩
    · have := statesL_mem n s h
      exact ⟨by omega, risingB_up (by omega) s _ this.2⟩
    · have := statesL_mem n r h
      exact ⟨by simp; omega, risingB_snoc _ _ (by omega) r _ this.2 (by omega)⟩
end Go.Proofs.YtocphglkceidhaaGreat
namespace Go.Proofs.YtocphglkceidhaaGreat
open Go.Ahl
def c_cNaN : CCode := .seq (.ops [⟨some 2, .move (.lit (.bool false)), none, []⟩]) (.seq (.ops [⟨some 3, .move (.tmp 0), none, []⟩, ⟨some 4, .move (.tmp 0), none, []⟩, ⟨some 5, .bin .neq .none (.tmp 3) (.tmp 4), none, []⟩, ⟨some 2, .move (.tmp 5), none, []⟩]) .ret)
theorem cNaN_spec (x : Int) (σ : Store) : ACalls Tryz.prog 129 [.int .i64 x] σ (isR (.bool false) σ) := by
  refine ACalls.intro (rs := [(.tmp 2)]) (by kernel_rfl) { own := [], ghosts := [] } Tryz.func129 (c := Tryz.f129.body.getD .skip) (by kernel_rfl) (by decide) (by rw [show Tryz.f129.ntmps = 6 by kernel_rfl]; exact Nat.le_of_ble_eq_true rfl) (by kernel_rfl) ?_
  intro hσ hids
  rw [show comp Tryz.prog { own := [], ghosts := [] } (Tryz.f129.body.getD .skip) = c_cNaN by kernel_rfl, show Tryz.f129.ntmps = 6 by kernel_rfl]
  unfold c_cNaN
  have hx : (x != x) = false := by simp
  simp only [go_sem, Int.reduceToNat, Int.reduceLE, Int.reduceLT, Nat.reduceBEq, Nat.reduceLT, Nat.reduceAdd, Nat.reduceLeDiff, hx]
  first | exact rtk (.bool false) ⟨rfl, rfl⟩ | exact rtk0 (.bool false) ⟨rfl, rfl⟩
def c_sNaN : CCode := .seq (.ops [⟨some 2, .move (.lit (.bool false)), none, []⟩]) (.seq (.ops [⟨some 3, .move (.tmp 0), none, []⟩, ⟨some 4, .move (.tmp 0), none, []⟩, ⟨some 5, .bin .neq .none (.tmp 3) (.tmp 4), none, []⟩, ⟨some 2, .move (.tmp 5), none, []⟩]) .ret)
theorem sNaN_spec (x : Int) (σ : Store) : ACalls Tryz.prog 178 [.int .i64 x] σ (isR (.bool false) σ) := by
  refine ACalls.intro (rs := [(.tmp 2)]) (by kernel_rfl) { own := [], ghosts := [] } Tryz.func178 (c := Tryz.f178.body.getD .skip) (by kernel_rfl) (by decide) (by rw [show Tryz.f178.ntmps = 6 by kernel_rfl]; exact Nat.le_of_ble_eq_true rfl) (by kernel_rfl) ?_
  intro hσ hids
  rw [show comp Tryz.prog { own := [], ghosts := [] } (Tryz.f178.body.getD .skip) = c_sNaN by kernel_rfl, show Tryz.f178.ntmps = 6 by kernel_rfl]
  unfold c_sNaN
  have hx : (x != x) = false := by simp
  simp only [go_sem, Int.reduceToNat, Int.reduceLE, Int.reduceLT, Nat.reduceBEq, Nat.reduceLT, Nat.reduceAdd, Nat.reduceLeDiff, hx]
  first | exact rtk (.bool false) ⟨rfl, rfl⟩ | exact rtk0 (.bool false) ⟨rfl, rfl⟩
def c_cLess : CCode := .seq (.ops [⟨some 4, .move (.lit (.bool false)), none, []⟩]) (.seq (.ops [⟨some 5, .move (.tmp 0), none, []⟩, ⟨some 6, .call (.lit (.func 129 [])) [.tmp 5], none, []⟩, ⟨some 7, .move (.tmp 6), none, []⟩, ⟨some 8, .move (.tmp 1), some (some 7, true), []⟩, ⟨some 9, .call (.lit (.func 129 [])) [.tmp 8], some (some 7, true), []⟩, ⟨some 10, .un .not (.tmp 9), some (some 7, true), []⟩, ⟨some 11, .pick (.tmp 7) (.tmp 10) (.lit (.bool false)), none, []⟩, ⟨some 12, .move (.tmp 11), none, []⟩, ⟨some 13, .move (.tmp 0), some (some 12, false), []⟩, ⟨some 14, .move (.tmp 1), some (some 12, false), []⟩, ⟨some 15, .bin .lss .none (.tmp 13) (.tmp 14), some (some 12, false), []⟩, ⟨some 16, .pick (.tmp 12) (.lit (.bool true)) (.tmp 15), none, []⟩, ⟨some 4, .move (.tmp 16), none, []⟩]) .ret)
theorem cLess_spec (x y : Int) (σ : Store) : ACalls Tryz.prog 116 [.int .i64 x, .int .i64 y] σ (isR (.bool (decide (x < y))) σ) := by
  refine ACalls.intro (rs := [(.tmp 4)]) (by kernel_rfl) { own := [], ghosts := [] } Tryz.func116 (c := Tryz.f116.body.getD .skip) (by kernel_rfl) (by decide) (by rw [show Tryz.f116.ntmps = 17 by kernel_rfl]; exact Nat.le_of_ble_eq_true rfl) (by kernel_rfl) ?_
  intro hσ hids
  rw [show comp Tryz.prog { own := [], ghosts := [] } (Tryz.f116.body.getD .skip) = c_cLess by kernel_rfl, show Tryz.f116.ntmps = 17 by kernel_rfl]
  unfold c_cLess
  simp only [go_sem, Int.reduceToNat, Int.reduceLE, Int.reduceLT, Nat.reduceBEq, Nat.reduceLT, Nat.reduceAdd, Nat.reduceLeDiff]
  refine (cNaN_spec x σ).is ?_
  simp only [go_sem, Int.reduceToNat, Int.reduceLE, Int.reduceLT, Nat.reduceBEq, Nat.reduceLT, Nat.reduceAdd, Nat.reduceLeDiff]
  first | exact rtw (v := .bool _) wkS ⟨rfl, rfl⟩ | exact rtw0 (v := .bool _) wkS ⟨rfl, rfl⟩
theorem wrap_u64 {x : Int} (h : 0 ≤ x) (h2 : x < 18446744073709551616) : IntKind.u64.wrap x = x := by
  unfold IntKind.wrap
  simp only [IntKind.bits, IntKind.signed, Bool.false_and, Bool.false_eq_true, if_false]
  exact Int.emod_eq_of_lt h h2
/-- The two ends of a search among rising numbers. -/
def BsInv (l : List Int) (x : Int) (p : Nat × Nat) : Prop :=
  p.1 ≤ p.2 ∧ p.2 ≤ l.length ∧ (∀ k, k < p.1 → ∀ y, l[k]? = some y → y < x) ∧ (∀ k, p.2 ≤ k → ∀ y, l[k]? = some y → x ≤ y)
theorem pw_get {l : List Int} (h : l.Pairwise (· < ·)) {i j : Nat} {a b : Int} (hi : l[i]? = some a) (hj : l[j]? = some b) (hij : i < j) : a < b := by
  obtain ⟨h1, rfl⟩ := List.getElem?_eq_some_iff.1 hi
  obtain ⟨h2, rfl⟩ := List.getElem?_eq_some_iff.1 hj
  exact List.pairwise_iff_getElem.1 h i j h1 h2 hij
theorem bs_lo {l : List Int} {x y : Int} {a b m : Nat} (hs : l.Pairwise (· < ·)) (h : BsInv l x (a, b)) (hm : l[m]? = some y) (hma : a ≤ m) (hmb : m < b) (hy : y < x) : BsInv l x (m + 1, b) := by
  obtain ⟨h1, h2, h3, h4⟩ := h
  refine ⟨by simp only; omega, h2, fun k hk z hz => ?_, h4⟩
  by_cases hkm : k = m
  · subst hkm; rw [hm] at hz; injection hz with hz; omega
  · have := pw_get hs hz hm (by simp only at hk; omega); omega
theorem bs_hi {l : List Int} {x y : Int} {a b m : Nat} (hs : l.Pairwise (· < ·)) (h : BsInv l x (a, b)) (hm : l[m]? = some y) (hma : a ≤ m) (hmb : m < b) (hy : ¬ y < x) : BsInv l x (a, m) := by
  obtain ⟨h1, h2, h3, h4⟩ := h
  refine ⟨hma, by have := lt_of_get hm; simp only; omega, h3, fun k hk z hz => ?_⟩
  by_cases hkm : k = m
  · subst hkm; rw [hm] at hz; injection hz with hz; omega
  · have := pw_get hs hm hz (by simp only at hk; omega); omega
theorem bs_end {l : List Int} {x y : Int} {a : Nat} (hs : l.Pairwise (· < ·)) (h : BsInv l x (a, a)) (hy : l[a]? = some y) : l.contains x = decide (y = x) := by
  obtain ⟨h1, h2, h3, h4⟩ := h
  by_cases hyx : y = x
  · subst hyx; rw [decide_eq_true rfl]; exact List.contains_iff_mem.2 (List.mem_of_getElem? hy)
  · rw [decide_eq_false hyx]
    cases hc : l.contains x with
    | false => rfl
    | true =>
      obtain ⟨k, hk⟩ := List.mem_iff_getElem?.1 (List.contains_iff_mem.1 hc)
      have hxy := h4 a (Nat.le_refl _) y hy
      rcases Nat.lt_trichotomy k a with hka | hka | hka
      · have := h3 k hka x hk; omega
      · subst hka; rw [hy] at hk; injection hk with hk; omega
      · have := pw_get hs hy hk hka; omega
theorem bs_out {l : List Int} {x : Int} (h : BsInv l x (l.length, l.length)) : l.contains x = false := by
  obtain ⟨h1, h2, h3, h4⟩ := h
  cases hc : l.contains x with
  | false => rfl
  | true =>
    obtain ⟨k, hk⟩ := List.mem_iff_getElem?.1 (List.contains_iff_mem.1 hc)
    have := h3 k (lt_of_get hk) x hk; omega
theorem rising_pw {n : Int} : ∀ {s : List Int} {p : Int}, risingB n p s = true → s.Pairwise (· < ·) ∧ ∀ x ∈ s, p < x ∧ x < n
  | [], _, _ => ⟨.nil, by simp⟩
  | x :: s, p, h => by
    simp only [risingB, Bool.and_eq_true, decide_eq_true_eq] at h
    obtain ⟨h1, h2⟩ := rising_pw (s := s) (p := x) (by simpa using h.2)
    refine ⟨List.pairwise_cons.2 ⟨fun y hy => (h2 y hy).1, h1⟩, ?_⟩
    intro y hy
    rcases List.mem_cons.1 hy with rfl | hy
    · omega
    · have := h2 y hy; omega
def c_bsearch : CCode := .seq (.ops [⟨some 4, .move (.lit (.int .i64 0)), none, []⟩, ⟨some 5, .move (.lit (.bool false)), none, []⟩]) (.seq (.ops [⟨some 10, .move (.tmp 0), none, []⟩, ⟨some 11, .blen 1 (.tmp 10), none, []⟩, ⟨some 6, .move (.tmp 11), none, []⟩]) (.seq (.ops [⟨some 12, .move (.tmp 6), none, []⟩, ⟨some 7, .move (.lit (.int .i64 0)), none, []⟩, ⟨some 8, .move (.tmp 12), none, []⟩]) (.seq (.block 0 (.loop (.seq (.seq (.ops [⟨some 13, .move (.tmp 7), none, []⟩, ⟨some 14, .move (.tmp 8), none, []⟩, ⟨some 15, .bin .lss .none (.tmp 13) (.tmp 14), none, []⟩]) (.cond (.tmp 15) .skip (.exit 0))) (.block 1 (.seq (.ops [⟨some 16, .move (.tmp 7), none, []⟩, ⟨some 17, .move (.tmp 8), none, []⟩, ⟨some 18, .bin .add .none (.tmp 16) (.tmp 17), none, []⟩, ⟨some 19, .conv .u64 (.tmp 18), none, []⟩, ⟨some 20, .bin .shr .none (.tmp 19) (.lit (.int .u64 1)), none, []⟩, ⟨some 21, .conv .i64 (.tmp 20), none, []⟩, ⟨some 9, .move (.tmp 21), none, []⟩]) (.seq (.ops [⟨some 22, .move (.tmp 0), none, []⟩, ⟨some 23, .move (.tmp 9), none, []⟩, ⟨some 24, .iaddr 1 (.tmp 22) (.tmp 23), none, []⟩, ⟨some 25, .load none (.tmp 24), none, []⟩, ⟨some 26, .move (.tmp 1), none, []⟩, ⟨some 27, .call (.lit (.func 116 [])) [.tmp 25, .tmp 26], none, []⟩]) (.cond (.tmp 27) (.ops [⟨some 28, .move (.tmp 9), none, []⟩, ⟨some 29, .bin .add .none (.tmp 28) (.lit (.int .i64 1)), none, []⟩, ⟨some 7, .move (.tmp 29), none, []⟩]) (.ops [⟨some 30, .move (.tmp 9), none, []⟩, ⟨some 8, .move (.tmp 30), none, []⟩])))))))) (.seq (.ops [⟨some 31, .move (.tmp 7), none, []⟩, ⟨some 32, .move (.tmp 7), none, []⟩, ⟨some 33, .move (.tmp 6), none, []⟩, ⟨some 34, .bin .lss .none (.tmp 32) (.tmp 33), none, []⟩, ⟨some 35, .move (.tmp 34), none, []⟩, ⟨some 36, .move (.tmp 0), some (some 35, true), []⟩, ⟨some 37, .move (.tmp 7), some (some 35, true), []⟩, ⟨some 38, .iaddr 1 (.tmp 36) (.tmp 37), some (some 35, true), []⟩, ⟨some 39, .load none (.tmp 38), some (some 35, true), []⟩, ⟨some 40, .move (.tmp 1), some (some 35, true), []⟩, ⟨some 41, .bin .eql .none (.tmp 39) (.tmp 40), some (some 35, true), []⟩, ⟨some 42, .move (.tmp 41), some (some 35, true), []⟩, ⟨some 43, .move (.tmp 0), some (some 42, false), []⟩, ⟨some 44, .move (.tmp 7), some (some 42, false), []⟩, ⟨some 45, .iaddr 1 (.tmp 43) (.tmp 44), some (some 42, false), []⟩, ⟨some 46, .load none (.tmp 45), some (some 42, false), []⟩, ⟨some 47, .call (.lit (.func 178 [])) [.tmp 46], some (some 42, false), []⟩, ⟨some 48, .move (.tmp 47), some (some 42, false), []⟩, ⟨some 49, .move (.tmp 1), some (some 48, true), []⟩, ⟨some 50, .call (.lit (.func 178 [])) [.tmp 49], some (some 48, true), []⟩, ⟨some 51, .pick (.tmp 48) (.tmp 50) (.lit (.bool false)), some (some 42, false), []⟩, ⟨some 52, .pick (.tmp 42) (.lit (.bool true)) (.tmp 51), some (some 35, true), []⟩, ⟨some 53, .pick (.tmp 35) (.tmp 52) (.lit (.bool false)), none, []⟩, ⟨some 4, .move (.tmp 31), none, []⟩, ⟨some 5, .move (.tmp 53), none, []⟩]) .ret))))
set_option maxRecDepth 20000 in
set_option maxHeartbeats 1000000 in
theorem bsearch_spec (l : List Int) (x : Int) (tok : Tok) (σ : Store) (hl : l.length ≤ 140737488355328) (hs : l.Pairwise (· < ·)) :
    ACalls Tryz.prog 166 [.slice tok (l.map Ahl.encI), .int .i64 x] σ (isR (.tuple [.any, .bool (l.contains x)]) σ) := by
  refine ACalls.intro (rs := [(.tmp 4), (.tmp 5)]) (by kernel_rfl) { own := [], ghosts := [] } Tryz.func166 (c := Tryz.f166.body.getD .skip) (by kernel_rfl) (by decide) (by rw [show Tryz.f166.ntmps = 54 by kernel_rfl]; exact Nat.le_of_ble_eq_true rfl) (by kernel_rfl) ?_
  intro hσ hids
  rw [show comp Tryz.prog { own := [], ghosts := [] } (Tryz.f166.body.getD .skip) = c_bsearch by kernel_rfl, show Tryz.f166.ntmps = 54 by kernel_rfl]
  unfold c_bsearch
  have hil : Ids σ.length (.slice tok (l.map Ahl.encI)) := hids _ (by simp)
  simp only [go_sem, Int.reduceToNat, Int.reduceLE, Int.reduceLT, Nat.reduceBEq, Nat.reduceLT, Nat.reduceAdd, Nat.reduceLeDiff]
  refine wpc_while (fun p => [(0, .slice tok (l.map Ahl.encI)), (1, .int .i64 x), (6, .int .i64 l.length), (7, .int .i64 (p.1 : Nat)), (8, .int .i64 (p.2 : Nat))]) (fun _ => σ) (BsInv l x) (fun p => p.2 - p.1) (0, l.length) ⟨Nat.zero_le _, Nat.le_refl _, fun k hk => absurd hk (Nat.not_lt_zero _), fun k hk y hy => by have := lt_of_get hy; simp only at hk; omega⟩ (by (try dsimp only); first | exact ghk | exact ghk0) ?_
  rintro ⟨a, b⟩ hv K hK hE hR
  have hab := hv.1
  have hbl := hv.2.1
  simp only at hab hbl
  by_cases h : a < b
  · obtain ⟨y, hx⟩ := get_ex (show (a + b) / 2 < l.length by omega)
    have hlt : ((a : Int) < (b : Int)) := by omega
    have hm : IntKind.i64.wrap ((IntKind.u64.wrap (IntKind.i64.wrap ((a : Int) + b))).fdiv (2 ^ min 1 64)) = (((a + b) / 2 : Nat) : Int) := by
      have h1 : IntKind.i64.wrap ((a : Int) + b) = ((a + b : Nat) : Int) := by rw [wrap_ok (by omega)]; omega
      rw [h1, wrap_u64 (by omega) (by omega), show (2 : Int) ^ min 1 64 = 2 from rfl, show ((a + b : Nat) : Int).fdiv 2 = (((a + b) / 2 : Nat) : Int) by rw [Int.fdiv_eq_ediv_of_nonneg _ (by omega)]; omega, wrap_ok (by omega)]
    have hw : IntKind.i64.wrap ((((a + b) / 2 : Nat) : Int) + 1) = (((a + b) / 2 + 1 : Nat) : Int) := by rw [wrap_ok (by omega)]; omega
    simp only [go_sem, Int.reduceToNat, Int.reduceLE, Int.reduceLT, Nat.reduceBEq, Nat.reduceLT, Nat.reduceAdd, Nat.reduceLeDiff, hlt, hm, hx, Ahl.encI]
    refine (cLess_spec y x σ).is ?_
    by_cases hy : y < x
    · simp only [go_sem, Int.reduceToNat, Int.reduceLE, Int.reduceLT, Nat.reduceBEq, Nat.reduceLT, Nat.reduceAdd, Nat.reduceLeDiff, hy]
      refine hK _ _ (((a + b) / 2 + 1, b)) (bs_lo hs hv hx (by omega) (by omega) hy) (by first | omega | (simp only []; omega) | (simp; omega)) ?_; (try dsimp only); (try simp only [ hw]); first | exact ghk | exact ghk0
    · simp only [go_sem, Int.reduceToNat, Int.reduceLE, Int.reduceLT, Nat.reduceBEq, Nat.reduceLT, Nat.reduceAdd, Nat.reduceLeDiff, hy]
      refine hK _ _ ((a, (a + b) / 2)) (bs_hi hs hv hx (by omega) (by omega) hy) (by first | omega | (simp only []; omega) | (simp; omega)) ?_; (try dsimp only); (try simp only [ hw]); first | exact ghk | exact ghk0
  · have hlt : ¬ ((a : Int) < (b : Int)) := by omega
    obtain rfl : a = b := by omega
    by_cases hb : a < l.length
    · obtain ⟨y, hx⟩ := get_ex hb
      have hb' : ((a : Int) < (l.length : Int)) := by omega
      have hc := bs_end hs hv hx
      by_cases hy : y = x
      · have hy' : (y == x) = true := by simpa using hy
        simp only [go_sem, Int.reduceToNat, Int.reduceLE, Int.reduceLT, Nat.reduceBEq, Nat.reduceLT, Nat.reduceAdd, Nat.reduceLeDiff, hlt, hE, hb', hx, Ahl.encI, hy']
        first | exact rtl (.any) (.bool true) ⟨by rw [hc, decide_eq_true hy], rfl⟩ | exact rtl0 (.any) (.bool true) ⟨by rw [hc, decide_eq_true hy], rfl⟩
      · have hy' : (y == x) = false := by simpa using hy
        simp only [go_sem, Int.reduceToNat, Int.reduceLE, Int.reduceLT, Nat.reduceBEq, Nat.reduceLT, Nat.reduceAdd, Nat.reduceLeDiff, hlt, hE, hb', hx, Ahl.encI, hy']
        refine (sNaN_spec y σ).is ?_
        simp only [go_sem, Int.reduceToNat, Int.reduceLE, Int.reduceLT, Nat.reduceBEq, Nat.reduceLT, Nat.reduceAdd, Nat.reduceLeDiff]
        first | exact rtl (.any) (.bool false) ⟨by rw [hc, decide_eq_false hy], rfl⟩ | exact rtl0 (.any) (.bool false) ⟨by rw [hc, decide_eq_false hy], rfl⟩
    · obtain rfl : a = l.length := by omega
      simp only [go_sem, Int.reduceToNat, Int.reduceLE, Int.reduceLT, Nat.reduceBEq, Nat.reduceLT, Nat.reduceAdd, Nat.reduceLeDiff, hlt, hE]
      first | exact rtl (.any) (.bool false) ⟨by rw [bs_out hv], rfl⟩ | exact rtl0 (.any) (.bool false) ⟨by rw [bs_out hv], rfl⟩
def c_shas : CCode := .seq (.ops [⟨some 4, .move (.lit (.bool false)), none, []⟩]) (.seq (.ops [⟨some 8, .move (.tmp 0), none, []⟩, ⟨some 9, .move (.tmp 1), none, []⟩, ⟨some 10, .call (.lit (.func 166 [])) [.tmp 8, .tmp 9], none, []⟩, ⟨some 7, .move (.tmp 10), none, []⟩, ⟨some 11, .extract (.tmp 7) 0, none, []⟩, ⟨some 12, .extract (.tmp 7) 1, none, []⟩, ⟨some 5, .move (.tmp 11), none, []⟩, ⟨some 6, .move (.tmp 12), none, []⟩]) (.seq (.ops [⟨some 13, .move (.tmp 6), none, []⟩, ⟨some 4, .move (.tmp 13), none, []⟩]) .ret))
set_option maxRecDepth 20000 in
theorem shas_spec (l : List Int) (x : Int) (tok : Tok) (σ : Store) (hl : l.length ≤ 140737488355328) (hs : l.Pairwise (· < ·)) :
    ACalls Tryz.prog 145 [.slice tok (l.map Ahl.encI), .int .i64 x] σ (isR (.bool (l.contains x)) σ) := by
  refine ACalls.intro (rs := [(.tmp 4)]) (by kernel_rfl) { own := [], ghosts := [] } Tryz.func145 (c := Tryz.f145.body.getD .skip) (by kernel_rfl) (by decide) (by rw [show Tryz.f145.ntmps = 14 by kernel_rfl]; exact Nat.le_of_ble_eq_true rfl) (by kernel_rfl) ?_
  intro hσ hids
  rw [show comp Tryz.prog { own := [], ghosts := [] } (Tryz.f145.body.getD .skip) = c_shas by kernel_rfl, show Tryz.f145.ntmps = 14 by kernel_rfl]
  unfold c_shas
  simp only [go_sem, Int.reduceToNat, Int.reduceLE, Int.reduceLT, Nat.reduceBEq, Nat.reduceLT, Nat.reduceAdd, Nat.reduceLeDiff]
  refine (bsearch_spec l x tok σ hl hs).is ?_
  simp only [go_sem, Int.reduceToNat, Int.reduceLE, Int.reduceLT, Nat.reduceBEq, Nat.reduceLT, Nat.reduceAdd, Nat.reduceLeDiff]
  first | exact rtw (v := .bool _) wkS ⟨rfl, rfl⟩ | exact rtw0 (v := .bool _) wkS ⟨rfl, rfl⟩
def d_sTrue1_0 : List COp := [⟨some 4, .load none (.tmp 1), none, []⟩, ⟨some 5, .faddr 0 (.tmp 2), none, []⟩, ⟨some 6, .load none (.tmp 5), none, [1]⟩, ⟨some 7, .call (.lit (.func 145 [])) [.tmp 4, .tmp 6], none, [0, 2]⟩, ⟨some 8, .faddr 1 (.tmp 2), none, []⟩, ⟨some 9, .load none (.tmp 8), none, [4]⟩, ⟨some 10, .bin .eql .bool (.tmp 7) (.tmp 9), none, [3, 5]⟩, ⟨some 3, .move (.tmp 10), none, [6, 3, 0, 1, 2, 3, 4, 5, 6]⟩]
theorem dr_sTrue1_0 (P : Program) (nt n0 : Nat) (Q : Post) (s : Slots) (σ : Store) : wpc P nt n0 (.draw d_sTrue1_0) Q s σ = aOpsD P nt [⟨some 4, .load none (.tmp 1), none, []⟩, ⟨some 5, .faddr 0 (.tmp 2), none, []⟩, ⟨some 6, .load none (.tmp 5), none, [1]⟩, ⟨some 7, .call (.lit (.func 145 [])) [.tmp 4, .tmp 6], none, [0, 2]⟩, ⟨some 8, .faddr 1 (.tmp 2), none, []⟩, ⟨some 9, .load none (.tmp 8), none, [4]⟩, ⟨some 10, .bin .eql .bool (.tmp 7) (.tmp 9), none, [3, 5]⟩, ⟨some 3, .move (.tmp 10), none, [6, 3, 0, 1, 2, 3, 4, 5, 6]⟩] (Q .normal) s σ := wpc_draw _ (by decide)
def c_sTrue1 : CCode := .seq (.ops [⟨some 2, .box (.tmp 0), none, []⟩, ⟨some 3, .move (.lit (.bool false)), none, []⟩]) (.seq (.draw d_sTrue1_0) .ret)
set_option maxRecDepth 20000 in
theorem sTrue1_spec (s : List Int) (x : FLit) (tok : Tok) (V : Nat) (σ : Store) (hl : s.length ≤ 140737488355328) (hs : s.Pairwise (· < ·)) (hV : σ[V]? = some (.row [.slice tok (s.map Ahl.encI)])) :
    ACalls Tryz.prog 144 [.agg (encLit x), .ptr V 0] σ (isR (.bool (s.contains x.fact == x.neg)) σ) := by
  refine ACalls.intro (rs := [(.tmp 3)]) (by kernel_rfl) { own := [], ghosts := [] } Tryz.func144 (c := Tryz.f144.body.getD .skip) (by kernel_rfl) (by decide) (by rw [show Tryz.f144.ntmps = 11 by kernel_rfl]; exact Nat.le_of_ble_eq_true rfl) (by kernel_rfl) ?_
  intro hσ hids
  rw [show comp Tryz.prog { own := [], ghosts := [] } (Tryz.f144.body.getD .skip) = c_sTrue1 by kernel_rfl, show Tryz.f144.ntmps = 11 by kernel_rfl]
  unfold c_sTrue1
  have hV' : ∀ l, (σ ++ l)[V]? = some (.row [.slice tok (s.map Ahl.encI)]) := fun l => by rw [List.getElem?_append_left (lt_of_get hV)]; exact hV
  simp only [go_sem, Int.reduceToNat, Int.reduceLE, Int.reduceLT, Nat.reduceBEq, Nat.reduceLT, Nat.reduceAdd, Nat.reduceLeDiff, dr_sTrue1_0, encLit, hV']
  refine ⟨_, shas_spec s x.fact tok _ hl hs, ?_⟩
  simp only [go_sem, Int.reduceToNat, Int.reduceLE, Int.reduceLT, Nat.reduceBEq, Nat.reduceLT, Nat.reduceAdd, Nat.reduceLeDiff, dr_sTrue1_0, encLit]
  first | exact rtw (v := .bool _) wkS ⟨rfl, rfl⟩ | exact rtw0 (v := .bool _) wkS ⟨rfl, rfl⟩
theorem condHolds_any (s : List Int) (l : List FLit) : (!(l.any fun x => s.contains x.fact == x.neg)) = condHolds s l := by
  unfold condHolds
  induction l with
  | nil => rfl
  | cons x l ih => rw [List.any_cons, List.all_cons, ← ih, Bool.not_or]; rfl
def c_sTrue : CCode := .seq (.ops [⟨some 2, .box (.tmp 0), none, []⟩, ⟨some 4, .move (.lit (.bool false)), none, []⟩]) (.seq (.ops [⟨some 5, .move (.tmp 1), none, []⟩, ⟨some 6, .mkfunc 144 [.tmp 2], none, []⟩, ⟨some 7, .call (.lit (.func 132 [])) [.tmp 5, .tmp 6], none, []⟩, ⟨some 8, .un .not (.tmp 7), none, []⟩, ⟨some 4, .move (.tmp 8), none, []⟩]) .ret)
set_option maxRecDepth 20000 in
theorem sTrue_spec (s : List Int) (l : List FLit) (tok tok' : Tok) (σ : Store) (hl : s.length ≤ 140737488355328) (hs : s.Pairwise (· < ·)) (hll : l.length ≤ 140737488355328) :
    ACalls Tryz.prog 108 [.slice tok (s.map Ahl.encI), .slice tok' (l.map encLit)] σ (isR (.bool (condHolds s l)) σ) := by
  refine ACalls.intro (rs := [(.tmp 4)]) (by kernel_rfl) { own := [], ghosts := [] } Tryz.func108 (c := Tryz.f108.body.getD .skip) (by kernel_rfl) (by decide) (by rw [show Tryz.f108.ntmps = 9 by kernel_rfl]; exact Nat.le_of_ble_eq_true rfl) (by kernel_rfl) ?_
  intro hσ hids
  rw [show comp Tryz.prog { own := [], ghosts := [] } (Tryz.f108.body.getD .skip) = c_sTrue by kernel_rfl, show Tryz.f108.ntmps = 9 by kernel_rfl]
  unfold c_sTrue
  simp only [go_sem, Int.reduceToNat, Int.reduceLE, Int.reduceLT, Nat.reduceBEq, Nat.reduceLT, Nat.reduceAdd, Nat.reduceLeDiff]
  refine (containsFuncL_spec l _ _ (fun x => s.contains x.fact == x.neg) tok' _ hll (fun x _ => sTrue1_spec s x tok _ _ hl hs (by simp))).is ?_
  simp only [go_sem, Int.reduceToNat, Int.reduceLE, Int.reduceLT, Nat.reduceBEq, Nat.reduceLT, Nat.reduceAdd, Nat.reduceLeDiff]
  first | exact rtw (v := .bool _) wkS ⟨by rw [condHolds_any], rfl⟩ | exact rtw0 (v := .bool _) wkS ⟨by rw [condHolds_any], rfl⟩
/-- The error of a task and a state. -/
def stE (t : FTask) (s : List Int) : Int := if validB t then (if risingB t.facts.length (-1) s then 0 else 20) else 10
def c_sFine : CCode := .seq (.ops [⟨some 2, .box (.tmp 0), none, []⟩, ⟨some 4, .move (.lit (.int .i64 0)), none, []⟩]) (.seq (.seq (.ops [⟨some 5, .load (some 4) (.tmp 2), none, []⟩, ⟨some 6, .call (.lit (.func 53 [])) [.tmp 5], none, []⟩, ⟨some 7, .un .not (.tmp 6), none, []⟩]) (.cond (.tmp 7) (.seq (.ops [⟨some 4, .move (.lit (.int .i64 10)), none, []⟩]) .ret) .skip)) (.seq (.seq (.ops [⟨some 8, .faddr 0 (.tmp 2), none, []⟩, ⟨some 9, .load none (.tmp 8), none, []⟩, ⟨some 10, .blen 1 (.tmp 9), none, []⟩, ⟨some 11, .move (.tmp 1), none, []⟩, ⟨some 12, .call (.lit (.func 87 [])) [.tmp 10, .tmp 11], none, []⟩, ⟨some 13, .un .not (.tmp 12), none, []⟩]) (.cond (.tmp 13) (.seq (.ops [⟨some 4, .move (.lit (.int .i64 20)), none, []⟩]) .ret) .skip)) (.seq (.ops [⟨some 4, .move (.lit (.int .i64 0)), none, []⟩]) .ret)))
set_option maxRecDepth 20000 in
theorem sFine_spec (t : FTask) (s : List Int) (tok : Tok) (σ : Store) (ht : TB t) (hl : s.length ≤ 140737488355328) :
    ACalls Tryz.prog 68 [.agg (encTask t), .slice tok (s.map Ahl.encI)] σ (isR (.int .i64 (stE t s)) σ) := by
  refine ACalls.intro (rs := [(.tmp 4)]) (by kernel_rfl) { own := [], ghosts := [] } Tryz.func68 (c := Tryz.f68.body.getD .skip) (by kernel_rfl) (by decide) (by rw [show Tryz.f68.ntmps = 14 by kernel_rfl]; exact Nat.le_of_ble_eq_true rfl) (by kernel_rfl) ?_
  intro hσ hids
  rw [show comp Tryz.prog { own := [], ghosts := [] } (Tryz.f68.body.getD .skip) = c_sFine by kernel_rfl, show Tryz.f68.ntmps = 14 by kernel_rfl]
  unfold c_sFine
  simp only [go_sem, Int.reduceToNat, Int.reduceLE, Int.reduceLT, Nat.reduceBEq, Nat.reduceLT, Nat.reduceAdd, Nat.reduceLeDiff, encTask]
  refine (valid_spec t _ ht).is ?_
  cases h1 : validB t
  · simp only [go_sem, Int.reduceToNat, Int.reduceLE, Int.reduceLT, Nat.reduceBEq, Nat.reduceLT, Nat.reduceAdd, Nat.reduceLeDiff]
    first | exact rtk (.int .i64 10) ⟨by rw [stE, h1]; rfl, rfl⟩ | exact rtk0 (.int .i64 10) ⟨by rw [stE, h1]; rfl, rfl⟩
  simp only [go_sem, Int.reduceToNat, Int.reduceLE, Int.reduceLT, Nat.reduceBEq, Nat.reduceLT, Nat.reduceAdd, Nat.reduceLeDiff, encTask]
  refine (rising_spec s t.facts.length tok _ hl).is ?_
  cases h2 : risingB t.facts.length (-1) s
  · simp only [go_sem, Int.reduceToNat, Int.reduceLE, Int.reduceLT, Nat.reduceBEq, Nat.reduceLT, Nat.reduceAdd, Nat.reduceLeDiff]
    first | exact rtk (.int .i64 20) ⟨by rw [stE, h1, h2]; rfl, rfl⟩ | exact rtk0 (.int .i64 20) ⟨by rw [stE, h1, h2]; rfl, rfl⟩
  simp only [go_sem, Int.reduceToNat, Int.reduceLE, Int.reduceLT, Nat.reduceBEq, Nat.reduceLT, Nat.reduceAdd, Nat.reduceLeDiff]
  first | exact rtk (.int .i64 0) ⟨by rw [stE, h1, h2]; rfl, rfl⟩ | exact rtk0 (.int .i64 0) ⟨by rw [stE, h1, h2]; rfl, rfl⟩
end Go.Proofs.YtocphglkceidhaaGreat
namespace Go.Proofs
open Go.Shelf Go.RowKit Go.Lib Go.Sort
def YtocphglkceidhaaGreat.laysSI_ren : Go.Shelf.Ren := ⟨fun | 53 => 41 | 64 => 80 | 63 => 79 | 78 => 119 | 79 => 120 | 70 => 110 | 71 => 111 | 72 => 112 | 73 => 113 | 74 => 114 | 75 => 115 | 59 => 116 | 76 => 117 | 77 => 118 | 88 => 149 | 89 => 150 | 90 => 151 | 91 => 152 | 92 => 153 | 68 => 129 | 96 => 167 | n => n, fun | 22 => 23 | 23 => 3 | 3 => 3 | 51 => 113 | 0 => 0 | 67 => 144 | 69 => 146 | 4 => 4 | 61 => 136 | 60 => 135 | 44 => 141 | 5 => 5 | 9 => 9 | 75 => 161 | 79 => 165 | 83 => 177 | 84 => 178 | n => n, fun | n => n⟩
theorem YtocphglkceidhaaGreat.laysSI : Go.Proofs.SlLaysN.n53 Tryz.prog YtocphglkceidhaaGreat.laysSI_ren := {
  mixed := by kernel_rfl
  f53 := ⟨Tryz.f41.name, by decide, Tryz.func41.trans (congrArg some (by kernel_rfl))⟩
  f59 := ⟨Tryz.f116.name, by decide, Tryz.func116.trans (congrArg some (by kernel_rfl))⟩
  f63 := ⟨Tryz.f79.name, by decide, Tryz.func79.trans (congrArg some (by kernel_rfl))⟩
  f64 := Tryz.func80.trans (congrArg some (by kernel_rfl))
  f68 := ⟨Tryz.f129.name, by decide, Tryz.func129.trans (congrArg some (by kernel_rfl))⟩
  f70 := ⟨Tryz.f110.name, by decide, Tryz.func110.trans (congrArg some (by kernel_rfl))⟩
  f71 := ⟨Tryz.f111.name, by decide, Tryz.func111.trans (congrArg some (by kernel_rfl))⟩
  f72 := ⟨Tryz.f112.name, by decide, Tryz.func112.trans (congrArg some (by kernel_rfl))⟩
  f73 := ⟨Tryz.f113.name, by decide, Tryz.func113.trans (congrArg some (by kernel_rfl))⟩
  f74 := ⟨Tryz.f114.name, by decide, Tryz.func114.trans (congrArg some (by kernel_rfl))⟩
  f75 := ⟨Tryz.f115.name, by decide, Tryz.func115.trans (congrArg some (by kernel_rfl))⟩
  f76 := ⟨Tryz.f117.name, by decide, Tryz.func117.trans (congrArg some (by kernel_rfl))⟩
  f77 := ⟨Tryz.f118.name, by decide, Tryz.func118.trans (congrArg some (by kernel_rfl))⟩
  f78 := Tryz.func119.trans (congrArg some (by kernel_rfl))
  f79 := Tryz.func120.trans (congrArg some (by kernel_rfl))
  f88 := ⟨Tryz.f149.name, by decide, Tryz.func149.trans (congrArg some (by kernel_rfl))⟩
  f89 := Tryz.func150.trans (congrArg some (by kernel_rfl))
  f90 := Tryz.func151.trans (congrArg some (by kernel_rfl))
  f91 := ⟨Tryz.f152.name, by decide, Tryz.func152.trans (congrArg some (by kernel_rfl))⟩
  f92 := ⟨Tryz.f153.name, by decide, Tryz.func153.trans (congrArg some (by kernel_rfl))⟩
  f96 := ⟨Tryz.f167.name, by decide, Tryz.func167.trans (congrArg some (by kernel_rfl))⟩
  t0 := Tryz.underlying0
  a0 := Tryz.isAgg0
  z0 := Tryz.sizeOf0
  v0 := Tryz.zeroValue0
  t3 := Tryz.underlying3
  a3 := Tryz.isAgg3
  z3 := Tryz.sizeOf3
  v3 := Tryz.zeroValue3
  t4 := Tryz.underlying4
  a4 := Tryz.isAgg4
  z4 := Tryz.sizeOf4
  v4 := Tryz.zeroValue4
  t5 := Tryz.underlying5
  a5 := Tryz.isAgg5
  z5 := Tryz.sizeOf5
  v5 := Tryz.zeroValue5
  t9 := Tryz.underlying9
  a9 := Tryz.isAgg9
  z9 := Tryz.sizeOf9
  v9 := Tryz.zeroValue9
  t22 := Tryz.underlying23
  a22 := Tryz.isAgg23
  z22 := Tryz.sizeOf23
  v22 := Tryz.zeroValue23
  t23 := Tryz.underlying3
  a23 := Tryz.isAgg3
  z23 := Tryz.sizeOf3
  v23 := Tryz.zeroValue3
  t44 := Tryz.underlying141
  a44 := Tryz.isAgg141
  z44 := Tryz.sizeOf141
  v44 := Tryz.zeroValue141
  t51 := Tryz.underlying113
  a51 := Tryz.isAgg113
  z51 := Tryz.sizeOf113
  v51 := Tryz.zeroValue113
  t60 := Tryz.underlying135
  a60 := Tryz.isAgg135
  z60 := Tryz.sizeOf135
  v60 := Tryz.zeroValue135
  t61 := Tryz.underlying136
  a61 := Tryz.isAgg136
  z61 := Tryz.sizeOf136
  v61 := Tryz.zeroValue136
  t67 := Tryz.underlying144
  a67 := Tryz.isAgg144
  z67 := Tryz.sizeOf144
  v67 := Tryz.zeroValue144
  t69 := Tryz.underlying146
  a69 := Tryz.isAgg146
  z69 := Tryz.sizeOf146
  v69 := Tryz.zeroValue146
  t75 := Tryz.underlying161
  a75 := Tryz.isAgg161
  z75 := Tryz.sizeOf161
  v75 := Tryz.zeroValue161
  t79 := Tryz.underlying165
  a79 := Tryz.isAgg165
  z79 := Tryz.sizeOf165
  v79 := Tryz.zeroValue165
  t83 := Tryz.underlying177
  a83 := Tryz.isAgg177
  z83 := Tryz.sizeOf177
  v83 := Tryz.zeroValue177
  t84 := Tryz.underlying178
  a84 := Tryz.isAgg178
  z84 := Tryz.sizeOf178
  v84 := Tryz.zeroValue178 }
end Go.Proofs
namespace Go.Proofs.YtocphglkceidhaaGreat
open Go.Ahl
set_option maxRecDepth 20000 in
theorem sortI_spec (id : Nat) (l : List Int) (σ : Store) (hσ : σ[id]? = some (.row (l.map ai))) (hlen : l.length < 4611686018427387904) :
    ACalls Tryz.prog 41 [.ref id 1 0 l.length] σ fun r σ' => r = .tuple [] ∧ σ' = σ.set id (.row ((Ahl.sortI l).map ai)) :=
  sortInts laysSI (fn := Tryz.f41) Tryz.func41 (by kernel_rfl) (by decide) id l σ hσ hlen
/-- The facts that effects make true, each once; and those that they make false. -/
def addOf (s : List Int) (es : List FEff) : List Int := es.foldl (fun l e => if condHolds s e.when_ && !e.lit.neg then insI l e.lit.fact else l) []
def dropOf (s : List Int) (es : List FEff) : List Int := es.foldl (fun l e => if condHolds s e.when_ && e.lit.neg then insI l e.lit.fact else l) []
theorem addOf_app (s : List Int) (es : List FEff) (e : FEff) : addOf s (es ++ [e]) = if condHolds s e.when_ && !e.lit.neg then insI (addOf s es) e.lit.fact else addOf s es := by unfold addOf; rw [List.foldl_append]; rfl
theorem dropOf_app (s : List Int) (es : List FEff) (e : FEff) : dropOf s (es ++ [e]) = if condHolds s e.when_ && e.lit.neg then insI (dropOf s es) e.lit.fact else dropOf s es := by unfold dropOf; rw [List.foldl_append]; rfl
/-- What stays of a state. -/
def stayS (s : List Int) (es : List FEff) (x : Int) : Bool := !((dropOf s es).contains x) || (addOf s es).contains x
def afterS (s : List Int) (es : List FEff) : List Int := Ahl.sortI (s.filter (stayS s es) ++ (addOf s es).filter fun x => !(s.contains x))
theorem addOf_len (s : List Int) : ∀ es : List FEff, (addOf s es).length ≤ es.length := by
  intro es
  suffices h : ∀ (es : List FEff) (l : List Int), (es.foldl (fun l e => if condHolds s e.when_ && !e.lit.neg then insI l e.lit.fact else l) l).length ≤ l.length + es.length by
    have := h es []; simpa [addOf] using this
  intro es
  induction es with
  | nil => intro l; simp
  | cons e es ih =>
    intro l
    rw [List.foldl_cons]
    refine Nat.le_trans (ih _) ?_
    split
    · unfold insI; split
      · simp
      · simp only [List.length_append, List.length_cons, List.length_nil]; omega
    · simp
theorem map_ai (l : List Int) : (l.map Ahl.encI).flatten = l.map ai := by
  induction l with
  | nil => rfl
  | cons x l ih => rw [List.map_cons, List.flatten_cons, ih]; rfl
def c_sAfter : CCode := .seq (.ops [⟨some 3, .box (.tmp 1), none, []⟩, ⟨some 4, .move (.lit (.slice .nil [])), none, []⟩]) (.seq (.ops [⟨some 13, .mkmap, none, []⟩, ⟨some 14, .mkmap, none, []⟩, ⟨some 5, .move (.tmp 13), none, []⟩, ⟨some 6, .move (.tmp 14), none, []⟩]) (.seq (.seq (.ops [⟨some 15, .faddr 3 (.tmp 3), none, []⟩, ⟨some 16, .load none (.tmp 15), none, []⟩, ⟨some 17, .blen 1 (.tmp 16), none, []⟩, ⟨some 18, .move (.lit (.int .i64 0)), none, []⟩]) (.block 0 (.loop (.seq (.ops [⟨some 19, .bin .lss .none (.tmp 18) (.tmp 17), none, []⟩]) (.seq (.cond (.tmp 19) .skip (.exit 0)) (.seq (.block 1 (.seq (.ops [⟨some 20, .iaddr 3 (.tmp 16) (.tmp 18), none, []⟩, ⟨some 21, .load (some 3) (.tmp 20), none, []⟩, ⟨some 8, .alloc (.agg [.slice .nil [], .int .i64 0, .bool false]), none, []⟩, ⟨none, .store 3 (.tmp 8) (.tmp 21), none, []⟩]) (.seq (.ops [⟨some 22, .move (.tmp 0), none, []⟩, ⟨some 23, .faddr 0 (.tmp 8), none, []⟩, ⟨some 24, .load none (.tmp 23), none, []⟩, ⟨some 25, .call (.lit (.func 108 [])) [.tmp 22, .tmp 24], none, []⟩]) (.cond (.tmp 25) (.seq (.ops [⟨some 26, .faddr 1 (.tmp 8), none, []⟩, ⟨some 27, .faddr 1 (.tmp 26), none, []⟩, ⟨some 28, .load none (.tmp 27), none, []⟩]) (.cond (.tmp 28) (.ops [⟨some 29, .move (.tmp 6), none, []⟩, ⟨some 30, .faddr 1 (.tmp 8), none, []⟩, ⟨some 31, .faddr 0 (.tmp 30), none, []⟩, ⟨some 32, .load none (.tmp 31), none, []⟩, ⟨none, .mapup false (.tmp 29) (.tmp 32) (.lit (.bool true)), none, []⟩]) (.ops [⟨some 33, .move (.tmp 5), none, []⟩, ⟨some 34, .faddr 1 (.tmp 8), none, []⟩, ⟨some 35, .faddr 0 (.tmp 34), none, []⟩, ⟨some 36, .load none (.tmp 35), none, []⟩, ⟨none, .mapup false (.tmp 33) (.tmp 36) (.lit (.bool true)), none, []⟩]))) .skip)))) (.ops [⟨some 37, .bin .add .none (.tmp 18) (.lit (.int .i64 1)), none, []⟩, ⟨some 18, .move (.tmp 37), none, []⟩]))))))) (.seq (.ops [⟨some 9, .move (.lit (.slice .nil [])), none, []⟩]) (.seq (.seq (.ops [⟨some 38, .move (.tmp 0), none, []⟩, ⟨some 39, .blen 1 (.tmp 38), none, []⟩, ⟨some 40, .move (.lit (.int .i64 0)), none, []⟩]) (.block 2 (.loop (.seq (.ops [⟨some 41, .bin .lss .none (.tmp 40) (.tmp 39), none, []⟩]) (.seq (.cond (.tmp 41) .skip (.exit 2)) (.seq (.block 3 (.seq (.ops [⟨some 42, .iaddr 1 (.tmp 38) (.tmp 40), none, []⟩, ⟨some 43, .load none (.tmp 42), none, []⟩, ⟨some 11, .move (.tmp 43), none, []⟩]) (.seq (.ops [⟨some 44, .move (.tmp 6), none, []⟩, ⟨some 45, .move (.tmp 11), none, []⟩, ⟨some 46, .lookup false (.bool false) (.tmp 44) (.tmp 45) false, none, []⟩, ⟨some 47, .un .not (.tmp 46), none, []⟩, ⟨some 48, .move (.tmp 47), none, []⟩, ⟨some 49, .move (.tmp 5), some (some 48, false), []⟩, ⟨some 50, .move (.tmp 11), some (some 48, false), []⟩, ⟨some 51, .lookup false (.bool false) (.tmp 49) (.tmp 50) false, some (some 48, false), []⟩, ⟨some 52, .pick (.tmp 48) (.lit (.bool true)) (.tmp 51), none, []⟩]) (.cond (.tmp 52) (.ops [⟨some 53, .move (.tmp 9), none, []⟩, ⟨some 54, .move (.tmp 11), none, []⟩, ⟨some 55, .bslice 1 [.tmp 54] false, none, []⟩, ⟨some 56, .bappend 1 8 (.tmp 53) (.tmp 55) false, none, []⟩, ⟨some 9, .move (.tmp 56), none, []⟩]) .skip)))) (.ops [⟨some 57, .bin .add .none (.tmp 40) (.lit (.int .i64 1)), none, []⟩, ⟨some 40, .move (.tmp 57), none, []⟩]))))))) (.seq (.seq (.ops [⟨some 58, .move (.tmp 5), none, []⟩, ⟨some 59, .rng (.tmp 58), none, []⟩]) (.block 4 (.loop (.seq (.ops [⟨some 60, .nxt (.tmp 59), none, []⟩, ⟨some 61, .extract (.tmp 60) 0, none, []⟩]) (.seq (.cond (.tmp 61) .skip (.exit 4)) (.block 5 (.seq (.ops [⟨some 62, .ent (.tmp 59), none, []⟩, ⟨some 63, .extract (.tmp 62) 0, none, []⟩, ⟨some 12, .move (.tmp 63), none, []⟩]) (.seq (.ops [⟨some 64, .move (.tmp 0), none, []⟩, ⟨some 65, .move (.tmp 12), none, []⟩, ⟨some 66, .call (.lit (.func 145 [])) [.tmp 64, .tmp 65], none, []⟩, ⟨some 67, .un .not (.tmp 66), none, []⟩]) (.cond (.tmp 67) (.ops [⟨some 68, .move (.tmp 9), none, []⟩, ⟨some 69, .move (.tmp 12), none, []⟩, ⟨some 70, .bslice 1 [.tmp 69] false, none, []⟩, ⟨some 71, .bappend 1 8 (.tmp 68) (.tmp 70) false, none, []⟩, ⟨some 9, .move (.tmp 71), none, []⟩]) .skip))))))))) (.seq (.ops [⟨some 72, .move (.tmp 9), none, []⟩, ⟨some 73, .call (.lit (.func 41 [])) [.tmp 72], none, []⟩]) (.seq (.ops [⟨some 74, .move (.tmp 9), none, []⟩, ⟨some 4, .move (.tmp 74), none, []⟩]) .ret)))))))
set_option maxRecDepth 20000 in
set_option maxHeartbeats 2000000 in
theorem sAfter_spec (s : List Int) (a : FAct) (tok : Tok) (σ : Store) (hl : s.length ≤ 1000000) (hs : s.Pairwise (· < ·)) (he : a.effects.length ≤ 1000000) (hwh : ∀ e ∈ a.effects, e.when_.length ≤ 140737488355328) :
    ACalls Tryz.prog 135 [.slice tok (s.map Ahl.encI), .agg (encA a)] σ (isR (.slice .unk ((afterS s a.effects).map Ahl.encI)) σ) := by
  refine ACalls.intro (rs := [(.tmp 4)]) (by kernel_rfl) { own := [], ghosts := [] } Tryz.func135 (c := Tryz.f135.body.getD .skip) (by kernel_rfl) (by decide) (by rw [show Tryz.f135.ntmps = 75 by kernel_rfl]; exact Nat.le_of_ble_eq_true rfl) (by kernel_rfl) ?_
  intro hσ hids
  rw [show comp Tryz.prog { own := [], ghosts := [] } (Tryz.f135.body.getD .skip) = c_sAfter by kernel_rfl, show Tryz.f135.ntmps = 75 by kernel_rfl]
  unfold c_sAfter
  have hil : Ids σ.length (.slice tok (s.map Ahl.encI)) := hids _ (by simp)
  have hS1 : ∀ x y, IdsS (σ ++ [AObj.row (encA a), .map (encSI x), .map (encSI y)]).length (σ ++ [AObj.row (encA a), .map (encSI x), .map (encSI y)]) := fun x y => idsS_app _ hσ (all_cons' (idsO_row (ids_encA a)) (all_cons' (ids_encSI _) (all_cons' (ids_encSI _) all_nil')))
  simp only [go_sem, Int.reduceToNat, Int.reduceLE, Int.reduceLT, Nat.reduceBEq, Nat.reduceLT, Nat.reduceAdd, Nat.reduceLeDiff, encA]
  refine wpc_while (fun i => [(0, .slice tok (s.map Ahl.encI)), (5, .map (σ.length + 1)), (6, .map (σ.length + 2)), (16, .slice .unk (a.effects.map encE)), (17, .int .i64 a.effects.length), (18, .int .i64 (i : Nat))])
    (fun i => σ ++ [.row (encA a), .map (encSI (addOf s (a.effects.take i))), .map (encSI (dropOf s (a.effects.take i)))])
    (fun i => i ≤ a.effects.length) (fun i => a.effects.length - i) 0 (Nat.zero_le _) (by (try dsimp only); first | exact ghL (hS1 [] []) | exact ghL0 (hS1 [] [])) ?_
  rintro i hi K hK hE hR
  by_cases h : i < a.effects.length
  · obtain ⟨y, hx⟩ := get_ex h; have hlt : ((i : Int) < (a.effects.length : Int)) := (by omega); have hw : IntKind.i64.wrap ((i : Int) + 1) = ((i + 1 : Nat) : Int) := (by rw [wrap_ok (by omega)]; omega)
    simp only [go_sem, Int.reduceToNat, Int.reduceLE, Int.reduceLT, Nat.reduceBEq, Nat.reduceLT, Nat.reduceAdd, Nat.reduceLeDiff, hlt, hx, encE]
    refine (sTrue_spec s y.when_ tok .unk _ (by omega) hs (hwh y (List.mem_of_getElem? hx))).is ?_
    cases h1 : condHolds s y.when_
    · simp only [go_sem, Int.reduceToNat, Int.reduceLE, Int.reduceLT, Nat.reduceBEq, Nat.reduceLT, Nat.reduceAdd, Nat.reduceLeDiff]
      have e1 : addOf s (a.effects.take (i + 1)) = addOf s (a.effects.take i) := by rw [take_succ' hx, addOf_app, h1]; rfl
      have e2 : dropOf s (a.effects.take (i + 1)) = dropOf s (a.effects.take i) := by rw [take_succ' hx, dropOf_app, h1]; rfl
      rw [← e1, ← e2]
      refine hK _ _ (i + 1) (by omega) (by first | omega | (simp only []; omega) | (simp; omega)) ?_; (try dsimp only); (try simp only [ hw]); first | exact ghL (hS1 _ _) | exact ghL0 (hS1 _ _)
    · have h1t := h1
      cases hn : y.lit.neg
      · have e2 : dropOf s (a.effects.take (i + 1)) = dropOf s (a.effects.take i) := by rw [take_succ' hx, dropOf_app, h1, hn]; rfl
        rw [← e2]
        cases hc : (addOf s (a.effects.take i)).contains y.lit.fact
        · have hj := findI_out _ _ 0 hc
          have e1 : addOf s (a.effects.take (i + 1)) = addOf s (a.effects.take i) ++ [y.lit.fact] := by rw [take_succ' hx, addOf_app, h1, hn]; simp only [Bool.not_false, Bool.and_self, if_true, insI, hc, Bool.false_eq_true, if_false]
          simp only [go_sem, Int.reduceToNat, Int.reduceLE, Int.reduceLT, Nat.reduceBEq, Nat.reduceLT, Nat.reduceAdd, Nat.reduceLeDiff, encE, hn, hj, encSI_app, ← e1]
          refine hK _ _ (i + 1) (by omega) (by first | omega | (simp only []; omega) | (simp; omega)) ?_; (try dsimp only); (try simp only [ hw]); first | exact ghL (hS1 _ _) | exact ghL0 (hS1 _ _)
        · obtain ⟨j, hj, hjx⟩ := findI_in _ _ 0 hc
          have e1 : addOf s (a.effects.take (i + 1)) = addOf s (a.effects.take i) := by rw [take_succ' hx, addOf_app, h1, hn]; simp only [Bool.not_false, Bool.and_self, if_true, insI, hc]
          simp only [go_sem, Int.reduceToNat, Int.reduceLE, Int.reduceLT, Nat.reduceBEq, Nat.reduceLT, Nat.reduceAdd, Nat.reduceLeDiff, encE, hn, hj, Nat.zero_add, encSI_set hjx]
          rw [← e1]
          refine hK _ _ (i + 1) (by omega) (by first | omega | (simp only []; omega) | (simp; omega)) ?_; (try dsimp only); (try simp only [ hw]); first | exact ghL (hS1 _ _) | exact ghL0 (hS1 _ _)
      · have e1 : addOf s (a.effects.take (i + 1)) = addOf s (a.effects.take i) := by rw [take_succ' hx, addOf_app, h1, hn]; rfl
        rw [← e1]
        cases hc : (dropOf s (a.effects.take i)).contains y.lit.fact
        · have hj := findI_out _ _ 0 hc
          have e2 : dropOf s (a.effects.take (i + 1)) = dropOf s (a.effects.take i) ++ [y.lit.fact] := by rw [take_succ' hx, dropOf_app, h1, hn]; simp only [Bool.and_self, if_true, insI, hc, Bool.false_eq_true, if_false]
          simp only [go_sem, Int.reduceToNat, Int.reduceLE, Int.reduceLT, Nat.reduceBEq, Nat.reduceLT, Nat.reduceAdd, Nat.reduceLeDiff, encE, hn, hj, encSI_app, ← e2]
          refine hK _ _ (i + 1) (by omega) (by first | omega | (simp only []; omega) | (simp; omega)) ?_; (try dsimp only); (try simp only [ hw]); first | exact ghL (hS1 _ _) | exact ghL0 (hS1 _ _)
        · obtain ⟨j, hj, hjx⟩ := findI_in _ _ 0 hc
          have e2 : dropOf s (a.effects.take (i + 1)) = dropOf s (a.effects.take i) := by rw [take_succ' hx, dropOf_app, h1, hn]; simp only [Bool.and_self, if_true, insI, hc]
          simp only [go_sem, Int.reduceToNat, Int.reduceLE, Int.reduceLT, Nat.reduceBEq, Nat.reduceLT, Nat.reduceAdd, Nat.reduceLeDiff, encE, hn, hj, Nat.zero_add, encSI_set hjx]
          rw [← e2]
          refine hK _ _ (i + 1) (by omega) (by first | omega | (simp only []; omega) | (simp; omega)) ?_; (try dsimp only); (try simp only [ hw]); first | exact ghL (hS1 _ _) | exact ghL0 (hS1 _ _)
  · have hlt : ¬ ((i : Int) < (a.effects.length : Int)) := by omega
    rw [List.take_of_length_le (by omega : a.effects.length ≤ i)]
    simp only [go_sem, Int.reduceToNat, Int.reduceLE, Int.reduceLT, Nat.reduceBEq, Nat.reduceLT, Nat.reduceAdd, Nat.reduceLeDiff, hlt, hE]
    clear hK hE hR
    obtain ⟨S, hS⟩ : ∃ S, S = σ ++ [.row (encA a), .map (encSI (addOf s a.effects)), .map (encSI (dropOf s a.effects))] := ⟨_, rfl⟩
    have hSs : IdsS S.length S := by rw [hS]; exact hS1 _ _
    have hA : ∀ t, (S ++ t)[σ.length + 1]? = some (.map (encSI (addOf s a.effects))) := fun t => by rw [hS, List.append_assoc, List.getElem?_append_right (by omega), Nat.add_sub_cancel_left]; rfl
    have hD : ∀ t, (S ++ t)[σ.length + 2]? = some (.map (encSI (dropOf s a.effects))) := fun t => by rw [hS, List.append_assoc, List.getElem?_append_right (by omega), Nat.add_sub_cancel_left]; rfl
    have hSl : S.length = σ.length + 3 := by rw [hS]; simp
    have htk : S.take σ.length = σ := by rw [hS]; simp
    rw [← hS]
    have hS2 : ∀ w : List Int, IdsS (S ++ [AObj.row (w.map ai)]).length (S ++ [AObj.row (w.map ai)]) := fun w => idsS_push hSs (ids_ai w)
    refine wpc_while (fun i => [(0, .slice tok (s.map Ahl.encI)), (5, .map (σ.length + 1)), (6, .map (σ.length + 2)), (9, .ref S.length 1 0 ((s.take i).filter (stayS s a.effects)).length), (38, .slice tok (s.map Ahl.encI)), (39, .int .i64 s.length), (40, .int .i64 (i : Nat))])
      (fun i => S ++ [.row (((s.take i).filter (stayS s a.effects)).map ai)]) (fun i => i ≤ s.length) (fun i => s.length - i) 0 (Nat.zero_le _) (by
        refine Ghost.trans (Ghost.row0 9 1 0 (.inl rfl)) ?_
        exact ghP0 (hS2 [])) ?_
    rintro i hi K hK hE hR
    by_cases h : i < s.length
    · obtain ⟨x, hx⟩ := get_ex h; have hlt : ((i : Int) < (s.length : Int)) := (by omega); have hw : IntKind.i64.wrap ((i : Int) + 1) = ((i + 1 : Nat) : Int) := (by rw [wrap_ok (by omega)]; omega)
      have hst : stayS s a.effects x = (!((dropOf s a.effects).contains x) || (addOf s a.effects).contains x) := rfl
      have hle : ((s.take i).filter (stayS s a.effects)).length ≤ i := Nat.le_trans (List.length_filter_le _ _) (by simp; omega)
      have hbig : bigLen (((s.take i).filter (stayS s a.effects)).length + 1) 8 := big_ok (by omega) (by omega)
      have e0 : stayS s a.effects x = false → (s.take (i + 1)).filter (stayS s a.effects) = (s.take i).filter (stayS s a.effects) := fun q => by rw [take_succ' hx, List.filter_append, List.filter_cons, q]; simp
      have e1 : stayS s a.effects x = true → (s.take (i + 1)).filter (stayS s a.effects) = (s.take i).filter (stayS s a.effects) ++ [x] := fun q => by rw [take_succ' hx, List.filter_append, List.filter_cons, q]; simp
      cases hd : (dropOf s a.effects).contains x
      · have hj := findI_out _ _ 0 hd
        have e1 := e1 (by rw [hst, hd]; rfl)
        simp only [go_sem, Int.reduceToNat, Int.reduceLE, Int.reduceLT, Nat.reduceBEq, Nat.reduceLT, Nat.reduceAdd, Nat.reduceLeDiff, hlt, hx, Ahl.encI, hD, hj, hbig]
        have hf : ((s.take i).filter (stayS s a.effects)).map ai ++ [[AV.int .i64 x]].flatten = ((s.take (i + 1)).filter (stayS s a.effects)).map ai := by rw [e1, List.map_append]; rfl
        have hn : ((s.take i).filter (stayS s a.effects)).length + 1 = ((s.take (i + 1)).filter (stayS s a.effects)).length := by rw [e1]; simp
        rw [hf, hn, hw]
        refine hK _ _ (i + 1) (by omega) (by omega) ?_
        (try dsimp only)
        exact ghPM 2 (hio := ids_ai _)
      · obtain ⟨j, hj, _⟩ := findI_in _ _ 0 hd
        cases hc : (addOf s a.effects).contains x
        · have hk := findI_out _ _ 0 hc
          have e0 := e0 (by rw [hst, hd, hc]; rfl)
          simp only [go_sem, Int.reduceToNat, Int.reduceLE, Int.reduceLT, Nat.reduceBEq, Nat.reduceLT, Nat.reduceAdd, Nat.reduceLeDiff, hlt, hx, Ahl.encI, hD, hj, hA, hk]
          refine hK _ _ (i + 1) (by omega) (by omega) ?_
          (try dsimp only)
          rw [hw, e0]
          exact ghP0 (hS2 _)
        · obtain ⟨k, hk, _⟩ := findI_in _ _ 0 hc
          have e1 := e1 (by rw [hst, hd, hc]; rfl)
          simp only [go_sem, Int.reduceToNat, Int.reduceLE, Int.reduceLT, Nat.reduceBEq, Nat.reduceLT, Nat.reduceAdd, Nat.reduceLeDiff, hlt, hx, Ahl.encI, hD, hj, hA, hk, hbig]
          have hf : ((s.take i).filter (stayS s a.effects)).map ai ++ [[AV.int .i64 x]].flatten = ((s.take (i + 1)).filter (stayS s a.effects)).map ai := by rw [e1, List.map_append]; rfl
          have hn : ((s.take i).filter (stayS s a.effects)).length + 1 = ((s.take (i + 1)).filter (stayS s a.effects)).length := by rw [e1]; simp
          rw [hf, hn, hw]
          refine hK _ _ (i + 1) (by omega) (by omega) ?_
          (try dsimp only)
          exact ghPM 2 (hio := ids_ai _)
    · have hlt : ¬ ((i : Int) < (s.length : Int)) := by omega
      rw [List.take_of_length_le (by omega : s.length ≤ i)]
      have hset : ∀ t, (S ++ t).set (σ.length + 1) .dead = S.set (σ.length + 1) .dead ++ t := fun t => List.set_append_left _ _ (by omega)
      simp only [go_sem, Int.reduceToNat, Int.reduceLE, Int.reduceLT, Nat.reduceBEq, Nat.reduceLT, Nat.reduceAdd, Nat.reduceLeDiff, hlt, hE, hA, hset]
      clear hK hE hR
      obtain ⟨S', hS'⟩ : ∃ S', S' = S.set (σ.length + 1) .dead := ⟨_, rfl⟩
      have hl' : S'.length = S.length := by rw [hS', List.length_set]
      have htk' : S'.take σ.length = σ := by rw [hS', List.take_set_of_le (by omega), htk]
      have hSs' : IdsS S'.length S' := by rw [hl', hS']; exact idsS_dead hSs _
      rw [← hS']
      clear hset hS' hA hD hS2
      obtain ⟨A, hAe⟩ : ∃ A, A = addOf s a.effects := ⟨_, rfl⟩
      have hAl : A.length ≤ 1000000 := by rw [hAe]; exact Nat.le_trans (addOf_len s _) he
      rw [← hAe]
      obtain ⟨T, hT⟩ : ∃ T : List Nat → Store, ∀ l, T l = S' ++ [.dead, .iter (encSI A) l] := ⟨_, fun _ => rfl⟩
      have hTl : ∀ l, (T l).length = S.length + 2 := fun l => by rw [hT, List.length_append, hl']; rfl
      have hTi : ∀ l t, (T l ++ t)[S.length + 1]? = some (.iter (encSI A) l) := fun l t => by rw [hT, List.append_assoc, List.getElem?_append_right (by omega), hl', Nat.add_sub_cancel_left]; rfl
      have hTs : ∀ l t k, (T l ++ t).set (S.length + 1) (.iter (encSI A) k) = T k ++ t := fun l t k => by rw [hT, hT, List.append_assoc, List.set_append_right _ _ (by omega), hl', Nat.add_sub_cancel_left]; simp
      have hTe : ∀ l x t, (T l ++ x :: t)[S.length + 2]? = some x := fun l x t => by rw [List.getElem?_append_right (by rw [hTl]; omega), hTl, Nat.sub_self]; rfl
      have hTu : ∀ l x t y, (T l ++ x :: t).set (S.length + 2) y = T l ++ y :: t := fun l x t y => by rw [List.set_append_right _ _ (by rw [hTl]; omega), hTl, Nat.sub_self]; rfl
      have hTd : ∀ l, IdsS (T l).length (T l) := fun l => by rw [hT]; exact idsS_app _ hSs' (all_cons' (by trivial) (all_cons' (ids_encSI A) all_nil'))
      have hTr : ∀ l (w : List Int), IdsS (T l ++ [AObj.row (w.map ai)]).length (T l ++ [AObj.row (w.map ai)]) := fun l w => idsS_push (hTd l) (ids_ai w)
      have hTl0 := hTl []
      obtain ⟨out, hout⟩ : ∃ out : List Nat → List Int, ∀ l, out l = s.filter (stayS s a.effects) ++ (l.filterMap fun i => A[i]?).filter fun x => !(s.contains x) := ⟨_, fun _ => rfl⟩
      have hout0 : out [] = s.filter (stayS s a.effects) := by simp [hout]
      refine wpc_while (fun l => [(0, .slice tok (s.map Ahl.encI)), (9, .ref (S.length + 2) 1 0 (out l).length), (59, .ptr (S.length + 1) 0)]) (fun l => T l ++ [.row ((out l).map ai)]) (fun l => l.Nodup ∧ ∀ i ∈ l, i < A.length) (unseen A.length) [] ⟨.nil, by simp⟩ (by
        refine Ghost.trans (Ghost.reown 9 (cells := (s.filter (stayS s a.effects)).map ai) rfl (by rw [← hl', List.getElem?_append_right (Nat.le_refl _), Nat.sub_self]; rfl)) ?_
        rw [show (S' ++ [AObj.row (List.map ai (List.filter (stayS s a.effects) s)), AObj.iter (encSI A) []]).set (List.length S) AObj.dead ++ [AObj.row (List.map ai (List.filter (stayS s a.effects) s))] = T [] ++ [.row ((out []).map ai)] by
          rw [hT, hout0, ← hl', List.set_append_right _ _ (Nat.le_refl _), Nat.sub_self]; simp, show (S' ++ [AObj.row (List.map ai (List.filter (stayS s a.effects) s)), AObj.iter (encSI A) []]).length = S.length + 2 by rw [List.length_append, hl']; rfl, ← hout0]
        exact ghP0 (hTr _ _)) ?_
      rintro l ⟨hnd, hlt⟩ K hK hE hR
      simp only [go_sem, Int.reduceToNat, Int.reduceLE, Int.reduceLT, Nat.reduceBEq, Nat.reduceLT, Nat.reduceAdd, Nat.reduceLeDiff, hTi]
      refine ⟨?_, ?_⟩
      · intro i k v hik hns
        obtain ⟨x, hx, rfl, rfl⟩ : ∃ x, A[i]? = some x ∧ k = .int .i64 x ∧ v = .bool true := by
          simp only [encSI, List.getElem?_map, Option.map_eq_some_iff] at hik
          obtain ⟨x, hx, e⟩ := hik
          injection e with e1 e2
          exact ⟨x, hx, e1.symm, e2.symm⟩
        have hiA := lt_of_get hx
        have hTl1 := hTl (l ++ [i])
        have hJ : (l ++ [i]).Nodup ∧ ∀ j ∈ l ++ [i], j < A.length := by
          refine ⟨?_, fun j hj => ?_⟩
          · rw [List.nodup_append]
            refine ⟨hnd, by simp, fun p hp q hq => ?_⟩
            simp only [List.mem_singleton] at hq; subst hq
            rintro rfl; exact hns hp
          · rcases List.mem_append.1 hj with hj | hj
            · exact hlt j hj
            · simp only [List.mem_singleton] at hj; subst hj; exact hiA
        simp only [go_sem, Int.reduceToNat, Int.reduceLE, Int.reduceLT, Nat.reduceBEq, Nat.reduceLT, Nat.reduceAdd, Nat.reduceLeDiff, hTs, hTi]
        refine ⟨l, i, rfl, ?_⟩
        rw [encSI_get hx]
        simp only [go_sem, Int.reduceToNat, Int.reduceLE, Int.reduceLT, Nat.reduceBEq, Nat.reduceLT, Nat.reduceAdd, Nat.reduceLeDiff]
        refine (shas_spec s x tok _ (by omega) hs).is ?_
        have hfm : (l ++ [i]).filterMap (fun i => A[i]?) = l.filterMap (fun i => A[i]?) ++ [x] := by rw [List.filterMap_append]; simp [hx]
        cases hc : s.contains x
        · have ho : out (l ++ [i]) = out l ++ [x] := by simp only [hout, hfm, List.filter_append, List.filter_cons, hc, Bool.not_false, if_true, List.filter_nil, List.append_assoc]
          have hol : (out l).length ≤ 2000000 := by
            have h1 := List.length_filter_le (stayS s a.effects) s
            have h2 := List.length_filter_le (fun x => !(s.contains x)) (l.filterMap fun i => A[i]?)
            have h3 := List.length_filterMap_le (fun i => A[i]?) l
            have h4 := nodup_below hnd hlt
            rw [hout, List.length_append]; omega
          have hbig : bigLen ((out l).length + 1) 8 := big_ok (by omega) (by omega)
          simp only [go_sem, Int.reduceToNat, Int.reduceLE, Int.reduceLT, Nat.reduceBEq, Nat.reduceLT, Nat.reduceAdd, Nat.reduceLeDiff, hTe, hTu, hTl, hbig]
          have hf : (out l).map ai ++ [[AV.int .i64 x]].flatten = (out (l ++ [i])).map ai := by rw [ho, List.map_append]; rfl
          have hn : (out l).length + 1 = (out (l ++ [i])).length := by rw [ho]; simp
          rw [hf, hn]
          refine hK _ _ (l ++ [i]) hJ (unseen_snoc hiA hns) ?_
          rw [← hTl1]
          exact ghPM 2 (hi := hTd _) (hio := ids_ai _)
        · have ho : out (l ++ [i]) = out l := by simp only [hout, hfm, List.filter_append, List.filter_cons, hc, Bool.not_true, Bool.false_eq_true, if_false, List.filter_nil, List.append_nil]
          simp only [go_sem, Int.reduceToNat, Int.reduceLE, Int.reduceLT, Nat.reduceBEq, Nat.reduceLT, Nat.reduceAdd, Nat.reduceLeDiff]
          refine hK _ _ (l ++ [i]) hJ (unseen_snoc hiA hns) ?_
          (try dsimp only)
          rw [ho]
          exact ghP0 (hTr _ _)
      · intro hall
        have hol : (out l).length < 4611686018427387904 := by
          have h1 := List.length_filter_le (stayS s a.effects) s
          have h2 := List.length_filter_le (fun x => !(s.contains x)) (l.filterMap fun i => A[i]?)
          have h3 := List.length_filterMap_le (fun i => A[i]?) l
          have h4 := nodup_below hnd hlt
          rw [hout, List.length_append]; omega
        have hp : (out l).Perm (s.filter (stayS s a.effects) ++ (addOf s a.effects).filter fun x => !(s.contains x)) := by
          rw [← hAe, hout]
          exact List.Perm.append_left _ ((perm_places A l hnd hlt (fun i hi => hall i (by simpa [encSI] using hi))).filter _)
        simp only [go_sem, Int.reduceToNat, Int.reduceLE, Int.reduceLT, Nat.reduceBEq, Nat.reduceLT, Nat.reduceAdd, Nat.reduceLeDiff, hE]
        refine (sortI_spec (S.length + 2) (out l) _ (hTe _ _ _) hol).mono ?_
        rintro _ _ ⟨rfl, rfl⟩
        simp only [go_sem, Int.reduceToNat, Int.reduceLE, Int.reduceLT, Nat.reduceBEq, Nat.reduceLT, Nat.reduceAdd, Nat.reduceLeDiff, hTu]
        have hTl1 := hTl l
        refine retRow (id := S.length + 2) (len := (out l).length) (l := Ahl.sortI (out l)) ?_ ?_ ?_ ?_ ?_ ?_
        · rw [hT, List.append_assoc, List.take_append_of_le_length (by omega), htk']
        · rfl
        · exact hTe _ _ _
        · exact sortI_len _
        · omega
        · exact ⟨by rw [afterS, sortI_perm_eq hp], rfl⟩
end Go.Proofs.YtocphglkceidhaaGreat
namespace Go.Proofs.YtocphglkceidhaaGreat
open Go.Ahl
/-- The state behind the first k actions of a list. -/
def stk (t : FTask) (s : List Int) (p : List Int) : Nat → List Int
  | 0 => s
  | k + 1 => match (p[k]?).bind fun n => t.actions[n.toNat]? with
    | some a => afterS (stk t s p k) a.effects
    | none => stk t s p k
/-- May the action behind the first k ones be executed? -/
def canB (t : FTask) (s : List Int) (p : List Int) (k : Nat) : Bool := match (p[k]?).bind fun n => t.actions[n.toNat]? with
  | some a => condHolds (stk t s p k) a.pre
  | none => false
/-- How many actions are executed. -/
def stopN (t : FTask) (s : List Int) (p : List Int) : Nat := ((List.range p.length).takeWhile (canB t s p)).length
theorem takeWhile_range {q : Nat → Bool} {n : Nat} : ∀ k, k < ((List.range n).takeWhile q).length ↔ k < n ∧ ∀ j, j ≤ k → q j = true := by
  intro k
  have key : ∀ (l : List Nat) (k : Nat), k < (l.takeWhile q).length ↔ k < l.length ∧ ∀ (j : Nat) x, j ≤ k → l[j]? = some x → q x = true := by
    intro l
    induction l with
    | nil => intro k; simp
    | cons y l ih =>
      intro k
      rw [List.takeWhile_cons]
      cases hq : q y with
      | false =>
        rw [if_neg (by simp)]
        simp only [List.length_nil, Nat.not_lt_zero, false_iff]
        rintro ⟨_, h⟩
        have := h 0 y (Nat.zero_le _) rfl
        rw [hq] at this; simp at this
      | true =>
        rw [if_pos rfl]
        cases k with
        | zero =>
          simp only [List.length_cons, Nat.zero_lt_succ, true_iff, true_and]
          intro j x hj hx
          have : j = 0 := by omega
          subst this; simp at hx; subst hx; exact hq
        | succ k =>
          simp only [List.length_cons, Nat.succ_lt_succ_iff]
          rw [ih k]
          constructor
          · rintro ⟨h1, h2⟩
            refine ⟨h1, fun j x hj hx => ?_⟩
            cases j with
            | zero => simp at hx; subst hx; exact hq
            | succ j => exact h2 j x (by omega) (by simpa using hx)
          · rintro ⟨h1, h2⟩
            exact ⟨h1, fun j x hj hx => h2 (j + 1) x (by omega) (by simpa using hx)⟩
  rw [key]
  simp only [List.length_range]
  constructor
  · rintro ⟨h1, h2⟩
    exact ⟨h1, fun j hj => h2 j j hj (by rw [List.getElem?_range (by omega)])⟩
  · rintro ⟨h1, h2⟩
    refine ⟨h1, fun j x hj hx => ?_⟩
    rw [List.getElem?_range (by omega)] at hx
    injection hx with hx; subst hx; exact h2 _ hj
theorem stopN_lt {t : FTask} {s p : List Int} {k : Nat} : k < stopN t s p ↔ k < p.length ∧ ∀ j, j ≤ k → canB t s p j = true := takeWhile_range k
theorem stopN_le (t : FTask) (s p : List Int) : stopN t s p ≤ p.length := by
  unfold stopN
  have := (List.takeWhile_sublist (l := List.range p.length) (canB t s p)).length_le
  simpa using this
theorem stopN_no {t : FTask} {s p : List Int} {k : Nat} (h : k ≤ stopN t s p) (hk : k < p.length) (hc : canB t s p k = false) : k = stopN t s p := by
  rcases Nat.lt_or_ge k (stopN t s p) with q | q
  · have := (stopN_lt.1 q).2 k (Nat.le_refl _)
    rw [hc] at this; simp at this
  · omega
theorem stopN_yes {t : FTask} {s p : List Int} {k : Nat} (h : k ≤ stopN t s p) (hk : k < p.length) (hc : canB t s p k = true) : k < stopN t s p := by
  refine stopN_lt.2 ⟨hk, fun j hj => ?_⟩
  rcases Nat.lt_or_ge j k with q | q
  · exact (stopN_lt.1 (by omega : j < stopN t s p)).2 j (Nat.le_refl _)
  · have : j = k := by omega
    subst this; exact hc
/-- A task of small actions. -/
structure SB (t : FTask) : Prop where
  acts : t.actions.length ≤ 1000000
  pre : ∀ a ∈ t.actions, a.pre.length ≤ 140737488355328
  effs : ∀ a ∈ t.actions, a.effects.length ≤ 1000000
  whens : ∀ a ∈ t.actions, ∀ e ∈ a.effects, e.when_.length ≤ 140737488355328
def d_walk1_0 : List COp := [⟨some 14, .load none (.tmp 2), none, []⟩, ⟨some 15, .faddr 3 (.tmp 3), none, []⟩, ⟨some 16, .load none (.tmp 15), none, [1]⟩, ⟨some 17, .move (.tmp 6), none, []⟩, ⟨some 18, .iaddr 4 (.tmp 16) (.tmp 17), none, [2, 3]⟩, ⟨some 19, .faddr 2 (.tmp 18), none, [4]⟩, ⟨some 20, .load none (.tmp 19), none, [5]⟩, ⟨some 21, .call (.lit (.func 108 [])) [.tmp 14, .tmp 20], none, [0, 6]⟩, ⟨some 22, .un .not (.tmp 21), none, [7]⟩]
theorem dr_walk1_0 (P : Program) (nt n0 : Nat) (Q : Post) (s : Slots) (σ : Store) : wpc P nt n0 (.draw d_walk1_0) Q s σ = aOpsD P nt [⟨some 14, .load none (.tmp 2), none, []⟩, ⟨some 15, .faddr 3 (.tmp 3), none, []⟩, ⟨some 16, .load none (.tmp 15), none, [1]⟩, ⟨some 17, .move (.tmp 6), none, []⟩, ⟨some 18, .iaddr 4 (.tmp 16) (.tmp 17), none, [2, 3]⟩, ⟨some 19, .faddr 2 (.tmp 18), none, [4]⟩, ⟨some 20, .load none (.tmp 19), none, [5]⟩, ⟨some 21, .call (.lit (.func 108 [])) [.tmp 14, .tmp 20], none, [0, 6]⟩, ⟨some 22, .un .not (.tmp 21), none, [7]⟩] (Q .normal) s σ := wpc_draw _ (by decide)
def d_walk1_1 : List COp := [⟨some 23, .load none (.tmp 2), none, []⟩, ⟨some 24, .faddr 3 (.tmp 3), none, []⟩, ⟨some 25, .load none (.tmp 24), none, [1]⟩, ⟨some 26, .move (.tmp 6), none, []⟩, ⟨some 27, .iaddr 4 (.tmp 25) (.tmp 26), none, [2, 3]⟩, ⟨some 28, .load (some 4) (.tmp 27), none, [4]⟩, ⟨some 29, .call (.lit (.func 135 [])) [.tmp 23, .tmp 28], none, [0, 5]⟩, ⟨none, .store 1 (.tmp 2) (.tmp 29), none, [6, 6, 0, 1, 2, 3, 4, 5, 6]⟩]
theorem dr_walk1_1 (P : Program) (nt n0 : Nat) (Q : Post) (s : Slots) (σ : Store) : wpc P nt n0 (.draw d_walk1_1) Q s σ = aOpsD P nt [⟨some 23, .load none (.tmp 2), none, []⟩, ⟨some 24, .faddr 3 (.tmp 3), none, []⟩, ⟨some 25, .load none (.tmp 24), none, [1]⟩, ⟨some 26, .move (.tmp 6), none, []⟩, ⟨some 27, .iaddr 4 (.tmp 25) (.tmp 26), none, [2, 3]⟩, ⟨some 28, .load (some 4) (.tmp 27), none, [4]⟩, ⟨some 29, .call (.lit (.func 135 [])) [.tmp 23, .tmp 28], none, [0, 5]⟩, ⟨none, .store 1 (.tmp 2) (.tmp 29), none, [6, 6, 0, 1, 2, 3, 4, 5, 6]⟩] (Q .normal) s σ := wpc_draw _ (by decide)
def c_walk1 : CCode := .seq (.ops [⟨some 7, .load none (.tmp 1), none, []⟩, ⟨some 8, .blen 1 (.tmp 7), none, []⟩, ⟨some 9, .move (.lit (.int .i64 0)), none, []⟩]) (.block 0 (.loop (.seq (.ops [⟨some 10, .bin .lss .none (.tmp 9) (.tmp 8), none, []⟩]) (.seq (.cond (.tmp 10) .skip (.exit 0)) (.seq (.block 1 (.seq (.ops [⟨some 11, .move (.tmp 9), none, []⟩, ⟨some 12, .iaddr 1 (.tmp 7) (.tmp 9), none, []⟩, ⟨some 13, .load none (.tmp 12), none, []⟩, ⟨some 5, .move (.tmp 11), none, []⟩, ⟨some 6, .move (.tmp 13), none, []⟩]) (.seq (.seq (.draw d_walk1_0) (.cond (.tmp 22) .ret .skip)) (.seq (.draw d_walk1_1) (.seq (.ops [⟨some 30, .move (.tmp 0), none, []⟩, ⟨some 31, .move (.tmp 5), none, []⟩, ⟨some 32, .load none (.tmp 2), none, []⟩, ⟨some 33, .callY (.tmp 30) [.tmp 31, .tmp 32], none, []⟩, ⟨some 34, .un .not (.tmp 33), none, []⟩]) (.cond (.tmp 34) .ret .skip)))))) (.ops [⟨some 35, .bin .add .none (.tmp 9) (.lit (.int .i64 1)), none, []⟩, ⟨some 9, .move (.tmp 35), none, []⟩]))))))
set_option maxRecDepth 20000 in
set_option maxHeartbeats 2000000 in
theorem walk1_spec (t : FTask) (s p : List Int) (hb : SB t) (hp : ∀ n ∈ p, 0 ≤ n ∧ n < t.actions.length) (hpl : p.length ≤ 1000000) (hs : ∀ k, (stk t s p k).length ≤ 1000000 ∧ (stk t s p k).Pairwise (· < ·))
    (Y T V W : Nat) (A : Nat → Store) (hA : ∀ k, k ≤ stopN t s p → (A k).length = (A 0).length ∧ IdsS (A k).length (A k) ∧ (A k)[T]? = some (.row (encTask t)) ∧ (A k)[V]? = some (.row [.slice .unk ((stk t s p k).map Ahl.encI)]) ∧ (A k)[W]? = some (.row [.slice .unk (p.map Ahl.encI)]))
    (hY : ∀ k, k < stopN t s p → AYld Tryz.prog Y [.int .i64 (k : Nat), .slice .unk ((stk t s p (k + 1)).map Ahl.encI)] ((A k).set V (.row [.slice .unk ((stk t s p (k + 1)).map Ahl.encI)])) (isR (.bool true) (A (k + 1)))) :
    ACalls Tryz.prog 143 [.yld Y, .ptr W 0, .ptr V 0, .ptr T 0] (A 0) (isR (.tuple []) (A (stopN t s p))) := by
  obtain ⟨σ, hAσ⟩ : ∃ σ, σ = A 0 := ⟨_, rfl⟩
  obtain ⟨h01, h02, h03, h04, h05⟩ := hA 0 (Nat.zero_le _)
  rw [← hAσ]
  rw [← hAσ] at h02 h03 h04 h05
  refine ACalls.intro (rs := []) (by kernel_rfl) { own := [], ghosts := [], yields := [(5, 3)] } Tryz.func143 (c := Tryz.f143.body.getD .skip) (by kernel_rfl) (by decide) (by rw [show Tryz.f143.ntmps = 36 by kernel_rfl]; exact Nat.le_of_ble_eq_true rfl) (by kernel_rfl) ?_
  intro hσ hids
  rw [show comp Tryz.prog { own := [], ghosts := [], yields := [(5, 3)] } (Tryz.f143.body.getD .skip) = c_walk1 by kernel_rfl, show Tryz.f143.ntmps = 36 by kernel_rfl]
  unfold c_walk1
  have ht : T < σ.length := lt_of_get h03
  have hv : V < σ.length := lt_of_get h04
  have hw' : W < σ.length := lt_of_get h05
  have hy : Ids σ.length (.yld Y) := hids _ (by simp)
  simp only [go_sem, Int.reduceToNat, Int.reduceLE, Int.reduceLT, Nat.reduceBEq, Nat.reduceLT, Nat.reduceAdd, Nat.reduceLeDiff, dr_walk1_0, dr_walk1_1, h05]
  refine wpc_while (fun (i : Nat) => [(0, .yld Y), (2, .ptr V 0), (3, .ptr T 0), (7, .slice .unk (p.map Ahl.encI)), (8, .int .i64 p.length), (9, .int .i64 (i : Nat))]) (fun i => A i) (fun i => i ≤ stopN t s p) (fun i => p.length - i) 0 (Nat.zero_le _) ?_ ?_
  · rw [← hAσ]; exact (by (try dsimp only); first | exact ghk | exact ghk0)
  intro i hi K hK hE hR
  have hle := stopN_le t s p
  obtain ⟨g1, g2, g3, g4, g5⟩ := hA i hi
  rw [← hAσ] at g1
  by_cases h : i < p.length
  · obtain ⟨n, hx⟩ := get_ex h; have hlt : ((i : Int) < (p.length : Int)) := (by omega); have hw : IntKind.i64.wrap ((i : Int) + 1) = ((i + 1 : Nat) : Int) := (by rw [wrap_ok (by omega)]; omega)
    obtain ⟨hn1, hn2⟩ := hp n (List.mem_of_getElem? hx)
    obtain ⟨a, ha⟩ : ∃ a, t.actions[n.toNat]? = some a := ⟨_, List.getElem?_eq_getElem (by omega)⟩
    have ham := List.mem_of_getElem? ha
    obtain ⟨hs1, hs2⟩ := hs i
    have hcb : canB t s p i = condHolds (stk t s p i) a.pre := by unfold canB; rw [hx, Option.bind_some, ha]
    simp only [go_sem, Int.reduceToNat, Int.reduceLE, Int.reduceLT, Nat.reduceBEq, Nat.reduceLT, Nat.reduceAdd, Nat.reduceLeDiff, dr_walk1_0, dr_walk1_1, hlt, hx, g3, g4, ha, encTask, encA, Ahl.encI, hn1]
    refine ⟨_, sTrue_spec (stk t s p i) a.pre .unk .unk _ (by omega) hs2 (hb.pre a ham), ?_⟩
    cases hc : condHolds (stk t s p i) a.pre
    · simp only [go_sem, Int.reduceToNat, Int.reduceLE, Int.reduceLT, Nat.reduceBEq, Nat.reduceLT, Nat.reduceAdd, Nat.reduceLeDiff, dr_walk1_0, dr_walk1_1]
      rw [hR]
      have := stopN_no hi h (hcb.trans hc)
      rw [← this]
      exact ret_gh0 (Ghost.keep0 (s' := []) (by omega) trivial g2) (by omega) g2 ⟨rfl, rfl⟩
    · have hlt2 := stopN_yes hi h (hcb.trans hc)
      have hst : stk t s p (i + 1) = afterS (stk t s p i) a.effects := by rw [stk, hx, Option.bind_some, ha]
      simp only [go_sem, Int.reduceToNat, Int.reduceLE, Int.reduceLT, Nat.reduceBEq, Nat.reduceLT, Nat.reduceAdd, Nat.reduceLeDiff, dr_walk1_0, dr_walk1_1, g3, g4, hx, ha, encTask, encA, Ahl.encI, hn1]
      refine ⟨_, sAfter_spec (stk t s p i) a .unk _ hs1 hs2 (hb.effs a ham) (hb.whens a ham), ?_⟩
      rw [← hst]
      simp only [go_sem, Int.reduceToNat, Int.reduceLE, Int.reduceLT, Nat.reduceBEq, Nat.reduceLT, Nat.reduceAdd, Nat.reduceLeDiff, dr_walk1_0, dr_walk1_1, g4]
      have hset : ((A i).set V (AObj.row [AV.slice Tok.unk ((stk t s p (i + 1)).map Ahl.encI)]))[V]? = some (.row [.slice .unk ((stk t s p (i + 1)).map Ahl.encI)]) := by
        rw [List.getElem?_set_self (by omega)]
      simp only [go_sem, Int.reduceToNat, Int.reduceLE, Int.reduceLT, Nat.reduceBEq, Nat.reduceLT, Nat.reduceAdd, Nat.reduceLeDiff, dr_walk1_0, dr_walk1_1, hset]
      refine (hY i hlt2).is ?_
      obtain ⟨f1, f2, f3, f4, f5⟩ := hA (i + 1) (by omega)
      rw [← hAσ] at f1
      simp only [go_sem, Int.reduceToNat, Int.reduceLE, Int.reduceLT, Nat.reduceBEq, Nat.reduceLT, Nat.reduceAdd, Nat.reduceLeDiff, dr_walk1_0, dr_walk1_1, hw]
      refine hK _ _ (i + 1) (by omega) (by omega) ?_
      rw [← f1] at ht hv hy
      exact Ghost.keep0 (by omega) tellT f2
  · have hlt : ¬ ((i : Int) < (p.length : Int)) := by omega
    have : i = stopN t s p := by omega
    subst this
    simp only [go_sem, Int.reduceToNat, Int.reduceLE, Int.reduceLT, Nat.reduceBEq, Nat.reduceLT, Nat.reduceAdd, Nat.reduceLeDiff, dr_walk1_0, dr_walk1_1, hlt, hE]
    exact ret_gh0 (Ghost.keep0 (s' := []) (by omega) trivial g2) (by omega) g2 ⟨rfl, rfl⟩
end Go.Proofs.YtocphglkceidhaaGreat
namespace Go.Proofs.YtocphglkceidhaaGreat
open Go.Ahl
def c_walk : CCode := .seq (.ops [⟨some 3, .box (.tmp 0), none, []⟩, ⟨some 4, .box (.tmp 1), none, []⟩, ⟨some 5, .box (.tmp 2), none, []⟩, ⟨some 6, .move (.lit (.conc Value.nilFunc)), none, []⟩]) (.seq (.ops [⟨some 7, .mkfunc 143 [.tmp 5, .tmp 4, .tmp 3], none, []⟩, ⟨some 6, .move (.tmp 7), none, []⟩]) .ret)
set_option maxRecDepth 20000 in
theorem walk_spec (t : FTask) (s p : List Int) (σ : Store) :
    ACalls Tryz.prog 107 [.agg (encTask t), .slice .unk (s.map Ahl.encI), .slice .unk (p.map Ahl.encI)] σ (isR (.func 143 [.ptr (σ.length + 2) 0, .ptr (σ.length + 1) 0, .ptr σ.length 0]) (σ ++ [.row (encTask t), .row [.slice .unk (s.map Ahl.encI)], .row [.slice .unk (p.map Ahl.encI)]])) := by
  refine ACalls.intro (rs := [(.tmp 6)]) (by kernel_rfl) { own := [], ghosts := [] } Tryz.func107 (c := Tryz.f107.body.getD .skip) (by kernel_rfl) (by decide) (by rw [show Tryz.f107.ntmps = 8 by kernel_rfl]; exact Nat.le_of_ble_eq_true rfl) (by kernel_rfl) ?_
  intro hσ hids
  rw [show comp Tryz.prog { own := [], ghosts := [] } (Tryz.f107.body.getD .skip) = c_walk by kernel_rfl, show Tryz.f107.ntmps = 8 by kernel_rfl]
  unfold c_walk
  simp only [go_sem, Int.reduceToNat, Int.reduceLE, Int.reduceLT, Nat.reduceBEq, Nat.reduceLT, Nat.reduceAdd, Nat.reduceLeDiff, encTask]
  have h1 : IdsS (σ ++ [AObj.row (encTask t), .row [.slice .unk (s.map Ahl.encI)], .row [.slice .unk (p.map Ahl.encI)]]).length (σ ++ [AObj.row (encTask t), .row [.slice .unk (s.map Ahl.encI)], .row [.slice .unk (p.map Ahl.encI)]]) := idsS_app _ hσ (all_cons' (idsO_row (ids_encTask t)) (all_cons' (idsO_row (by intro x hx; simp at hx; subst hx; exact ids_map ids_encI s)) (all_cons' (idsO_row (by intro x hx; simp at hx; subst hx; exact ids_map ids_encI p)) all_nil')))
  have hif : Ids (σ ++ [AObj.row (encTask t), .row [.slice .unk (s.map Ahl.encI)], .row [.slice .unk (p.map Ahl.encI)]]).length (.func 143 [.ptr (σ.length + 2) 0, .ptr (σ.length + 1) 0, .ptr σ.length 0]) :=
    .func _ _ (by intro j x hx; match j, hx with | 0, hx => simp at hx; subst hx; exact .ptr _ _ (by simp) | 1, hx => simp at hx; subst hx; exact .ptr _ _ (by simp) | 2, hx => simp at hx; subst hx; exact .ptr _ _ (by simp))
  exact ret_gh (v := .func 143 [.ptr (σ.length + 2) 0, .ptr (σ.length + 1) 0, .ptr σ.length 0]) (σ' := σ ++ [.row (encTask t), .row [.slice .unk (s.map Ahl.encI)], .row [.slice .unk (p.map Ahl.encI)]]) (Ghost.keep0 (s' := [(6, .func 143 [.ptr (σ.length + 2) 0, .ptr (σ.length + 1) 0, .ptr σ.length 0])]) (by simp) ⟨⟨.refl _, hif⟩, trivial⟩ h1) (by simp) h1 hif ⟨rfl, rfl⟩
def c_cloneI : CCode := .seq (.ops [⟨some 2, .move (.lit (.slice .nil [])), none, []⟩]) (.seq (.seq (.ops [⟨some 3, .move (.tmp 0), none, []⟩, ⟨some 4, .bin .eql .slice (.tmp 3) (.lit (.slice .nil [])), none, []⟩]) (.cond (.tmp 4) (.seq (.ops [⟨some 2, .move (.lit (.slice .nil [])), none, []⟩]) .ret) .skip)) (.seq (.ops [⟨some 5, .bslice 1 [] false, none, []⟩, ⟨some 6, .move (.tmp 0), none, []⟩, ⟨some 7, .bappend 1 8 (.tmp 5) (.tmp 6) false, none, []⟩, ⟨some 2, .move (.tmp 7), none, []⟩]) .ret))
set_option maxRecDepth 20000 in
theorem cloneI_specF (f : List Int) (tok : Tok) (σ : Store) (hf : f.length ≤ 1073741824) :
    ACalls Tryz.prog 40 [.slice tok (f.map Ahl.encI)] σ (isR (.slice .fresh (f.map Ahl.encI)) σ) := by
  refine ACalls.intro (rs := [(.tmp 2)]) (by kernel_rfl) { own := [], ghosts := [] } Tryz.func40 (c := Tryz.f40.body.getD .skip) (by kernel_rfl) (by decide) (by rw [show Tryz.f40.ntmps = 8 by kernel_rfl]; exact Nat.le_of_ble_eq_true rfl) (by kernel_rfl) ?_
  intro hσ hids
  rw [show comp Tryz.prog { own := [], ghosts := [] } (Tryz.f40.body.getD .skip) = c_cloneI by kernel_rfl, show Tryz.f40.ntmps = 8 by kernel_rfl]
  unfold c_cloneI
  have hbig : bigLen f.length 8 := big_ok (by omega) (by omega)
  simp only [go_sem, Int.reduceToNat, Int.reduceLE, Int.reduceLT, Nat.reduceBEq, Nat.reduceLT, Nat.reduceAdd, Nat.reduceLeDiff]
  intro b hb
  cases b
  · have hall : ∀ x ∈ f, (Ahl.encI x).length = 1 ∧ (Ahl.encI x).all AV.one = true := fun x _ => ⟨rfl, rfl⟩
    simp only [go_sem, Int.reduceToNat, Int.reduceLE, Int.reduceLT, Nat.reduceBEq, Nat.reduceLT, Nat.reduceAdd, Nat.reduceLeDiff, hbig]
    refine ⟨hall, ?_⟩
    first | exact rtk (.slice .fresh (f.map Ahl.encI)) ⟨rfl, rfl⟩ | exact rtk0 (.slice .fresh (f.map Ahl.encI)) ⟨rfl, rfl⟩
  · have hl0 : f = [] := by
      cases f with
      | nil => rfl
      | cons x l => exact absurd (hb (by simp)) (by simp)
    subst hl0
    simp only [go_sem, Int.reduceToNat, Int.reduceLE, Int.reduceLT, Nat.reduceBEq, Nat.reduceLT, Nat.reduceAdd, Nat.reduceLeDiff]
    first | exact rtk (.slice .fresh []) ⟨rfl, rfl⟩ | exact rtk0 (.slice .fresh []) ⟨rfl, rfl⟩
theorem cloneI_spec (f : List Int) (tok : Tok) (σ : Store) (hf : f.length ≤ 1073741824) :
    ACalls Tryz.prog 40 [.slice tok (f.map Ahl.encI)] σ (isR (.slice .unk (f.map Ahl.encI)) σ) := (cloneI_specF f tok σ hf).wkR (.unk _ _)
/-- The cost of the first k actions. -/
def costK (t : FTask) (p : List Int) : Nat → Int
  | 0 => 0
  | k + 1 => match (p[k]?).bind fun n => t.actions[n.toNat]? with
    | some a => IntKind.i64.wrap (costK t p k + a.cost)
    | none => costK t p k
/-- The states behind the first k actions, with the first one. -/
def statesK (t : FTask) (s p : List Int) (k : Nat) : List (List Int) := (List.range (k + 1)).map (stk t s p)
def doneR (t : FTask) (s p : List Int) : AV :=
  .tuple [.agg [.slice .unk ((statesK t s p (stopN t s p)).map encL), .int .i64 (costK t p (stopN t s p)), .bool (condHolds (stk t s p (stopN t s p)) t.goal)], .int .i64 (if stopN t s p = p.length then -1 else (stopN t s p : Nat))]
/-- The store in a round. -/
def roundS (t : FTask) (s p : List Int) (σ : Store) (L : LoopA) (k : Nat) : Store :=
  σ ++ [.row (encTask t), .row [.slice .unk (p.map Ahl.encI)], .row [.slice .nil [], .int .i64 0, .bool false], .grow 1 (k + 1), .row [.slice (.grow (σ.length + 3)) ((statesK t s p k).map encL), .int .i64 (costK t p k), .bool false], .row [.int .i64 (k : Nat)],
    .row (encTask t), .row [.slice .unk ((stk t s p k).map Ahl.encI)], .row [.slice .unk (p.map Ahl.encI)], .loop L]
def d_done_0 : List COp := [⟨some 22, .faddr 0 (.tmp 8), none, []⟩, ⟨some 23, .load none (.tmp 22), none, [0]⟩, ⟨some 24, .move (.tmp 11), none, []⟩, ⟨some 25, .call (.lit (.func 40 [])) [.tmp 24], none, [2]⟩, ⟨some 26, .bsliceC 1 [.tmp 25], none, [3]⟩, ⟨some 27, .bappend 1 24 (.tmp 23) (.tmp 26) false, none, [1, 4, 3]⟩, ⟨some 28, .faddr 0 (.tmp 8), none, [0, 1, 2, 3, 4, 5]⟩, ⟨none, .store 1 (.tmp 28) (.tmp 27), none, [6, 5, 5, 0, 1, 2, 3, 4, 5]⟩]
theorem dr_done_0 (P : Program) (nt n0 : Nat) (Q : Post) (s : Slots) (σ : Store) : wpc P nt n0 (.draw d_done_0) Q s σ = aOpsD P nt [⟨some 22, .faddr 0 (.tmp 8), none, []⟩, ⟨some 23, .load none (.tmp 22), none, [0]⟩, ⟨some 24, .move (.tmp 11), none, []⟩, ⟨some 25, .call (.lit (.func 40 [])) [.tmp 24], none, [2]⟩, ⟨some 26, .bsliceC 1 [.tmp 25], none, [3]⟩, ⟨some 27, .bappend 1 24 (.tmp 23) (.tmp 26) false, none, [1, 4, 3]⟩, ⟨some 28, .faddr 0 (.tmp 8), none, [0, 1, 2, 3, 4, 5]⟩, ⟨none, .store 1 (.tmp 28) (.tmp 27), none, [6, 5, 5, 0, 1, 2, 3, 4, 5]⟩] (Q .normal) s σ := wpc_draw _ (by decide)
def d_done_1 : List COp := [⟨some 29, .faddr 1 (.tmp 8), none, []⟩, ⟨some 30, .load none (.tmp 29), none, [0]⟩, ⟨some 31, .faddr 3 (.tmp 3), none, []⟩, ⟨some 32, .load none (.tmp 31), none, [2]⟩, ⟨some 33, .load none (.tmp 5), none, []⟩, ⟨some 34, .move (.tmp 10), none, []⟩, ⟨some 35, .iaddr 1 (.tmp 33) (.tmp 34), none, [4, 5]⟩, ⟨some 36, .load none (.tmp 35), none, [6]⟩, ⟨some 37, .iaddr 4 (.tmp 32) (.tmp 36), none, [3, 7]⟩, ⟨some 38, .faddr 1 (.tmp 37), none, [8]⟩, ⟨some 39, .load none (.tmp 38), none, [9]⟩, ⟨some 40, .bin .add .none (.tmp 30) (.tmp 39), none, [1, 10]⟩, ⟨some 41, .faddr 1 (.tmp 8), none, [0, 1, 2, 3, 4, 5, 6, 7, 8, 9, 10, 11]⟩, ⟨none, .store 1 (.tmp 41) (.tmp 40), none, [12, 11, 0, 1, 2, 3, 4, 5, 6, 7, 8, 9, 10, 11]⟩]
theorem dr_done_1 (P : Program) (nt n0 : Nat) (Q : Post) (s : Slots) (σ : Store) : wpc P nt n0 (.draw d_done_1) Q s σ = aOpsD P nt [⟨some 29, .faddr 1 (.tmp 8), none, []⟩, ⟨some 30, .load none (.tmp 29), none, [0]⟩, ⟨some 31, .faddr 3 (.tmp 3), none, []⟩, ⟨some 32, .load none (.tmp 31), none, [2]⟩, ⟨some 33, .load none (.tmp 5), none, []⟩, ⟨some 34, .move (.tmp 10), none, []⟩, ⟨some 35, .iaddr 1 (.tmp 33) (.tmp 34), none, [4, 5]⟩, ⟨some 36, .load none (.tmp 35), none, [6]⟩, ⟨some 37, .iaddr 4 (.tmp 32) (.tmp 36), none, [3, 7]⟩, ⟨some 38, .faddr 1 (.tmp 37), none, [8]⟩, ⟨some 39, .load none (.tmp 38), none, [9]⟩, ⟨some 40, .bin .add .none (.tmp 30) (.tmp 39), none, [1, 10]⟩, ⟨some 41, .faddr 1 (.tmp 8), none, [0, 1, 2, 3, 4, 5, 6, 7, 8, 9, 10, 11]⟩, ⟨none, .store 1 (.tmp 41) (.tmp 40), none, [12, 11, 0, 1, 2, 3, 4, 5, 6, 7, 8, 9, 10, 11]⟩] (Q .normal) s σ := wpc_draw _ (by decide)
def d_done_2 : List COp := [⟨some 44, .faddr 0 (.tmp 8), none, []⟩, ⟨some 45, .load none (.tmp 44), none, [0]⟩, ⟨some 46, .faddr 0 (.tmp 8), none, []⟩, ⟨some 47, .load none (.tmp 46), none, [2]⟩, ⟨some 48, .blen 1 (.tmp 47), none, [3]⟩, ⟨some 49, .bin .sub .none (.tmp 48) (.lit (.int .i64 1)), none, [4]⟩, ⟨some 50, .iaddr 1 (.tmp 45) (.tmp 49), none, [1, 5]⟩, ⟨some 51, .load none (.tmp 50), none, [6]⟩, ⟨some 52, .faddr 2 (.tmp 3), none, []⟩, ⟨some 53, .load none (.tmp 52), none, [8]⟩, ⟨some 54, .call (.lit (.func 108 [])) [.tmp 51, .tmp 53], none, [7, 9]⟩, ⟨some 55, .faddr 2 (.tmp 8), none, [0, 1, 2, 3, 4, 5, 6, 7, 8, 9, 10]⟩, ⟨none, .store 1 (.tmp 55) (.tmp 54), none, [11, 10, 10, 0, 1, 2, 3, 4, 5, 6, 7, 8, 9, 10]⟩]
theorem dr_done_2 (P : Program) (nt n0 : Nat) (Q : Post) (s : Slots) (σ : Store) : wpc P nt n0 (.draw d_done_2) Q s σ = aOpsD P nt [⟨some 44, .faddr 0 (.tmp 8), none, []⟩, ⟨some 45, .load none (.tmp 44), none, [0]⟩, ⟨some 46, .faddr 0 (.tmp 8), none, []⟩, ⟨some 47, .load none (.tmp 46), none, [2]⟩, ⟨some 48, .blen 1 (.tmp 47), none, [3]⟩, ⟨some 49, .bin .sub .none (.tmp 48) (.lit (.int .i64 1)), none, [4]⟩, ⟨some 50, .iaddr 1 (.tmp 45) (.tmp 49), none, [1, 5]⟩, ⟨some 51, .load none (.tmp 50), none, [6]⟩, ⟨some 52, .faddr 2 (.tmp 3), none, []⟩, ⟨some 53, .load none (.tmp 52), none, [8]⟩, ⟨some 54, .call (.lit (.func 108 [])) [.tmp 51, .tmp 53], none, [7, 9]⟩, ⟨some 55, .faddr 2 (.tmp 8), none, [0, 1, 2, 3, 4, 5, 6, 7, 8, 9, 10]⟩, ⟨none, .store 1 (.tmp 55) (.tmp 54), none, [11, 10, 10, 0, 1, 2, 3, 4, 5, 6, 7, 8, 9, 10]⟩] (Q .normal) s σ := wpc_draw _ (by decide)
def d_done_3 : List COp := [⟨some 60, .load (some 3) (.tmp 8), none, []⟩, ⟨some 61, .load none (.tmp 9), none, []⟩, ⟨none, .store 3 (.tmp 6) (.tmp 60), none, [0, 0]⟩, ⟨some 7, .move (.tmp 61), none, [1, 2, 0, 1, 2]⟩]
theorem dr_done_3 (P : Program) (nt n0 : Nat) (Q : Post) (s : Slots) (σ : Store) : wpc P nt n0 (.drawU d_done_3 [[], [2], [1], []]) Q s σ = aOpsU P nt [⟨some 60, .load (some 3) (.tmp 8), none, []⟩, ⟨some 61, .load none (.tmp 9), none, []⟩, ⟨none, .store 3 (.tmp 6) (.tmp 60), none, [0, 0]⟩, ⟨some 7, .move (.tmp 61), none, [1, 2, 0, 1, 2]⟩] [[], [2], [1], []] 0 [] [] (Q .normal) s σ := wpc_drawU _ _ (by decide)
def c_done : CCode := .seq (.ops [⟨some 3, .box (.tmp 0), none, []⟩, ⟨some 5, .box (.tmp 2), none, []⟩, ⟨some 6, .alloc (.agg [.slice .nil [], .int .i64 0, .bool false]), none, []⟩, ⟨some 7, .move (.lit (.int .i64 0)), none, []⟩]) (.seq (.ops [⟨some 12, .move (.tmp 1), none, []⟩, ⟨some 13, .call (.lit (.func 40 [])) [.tmp 12], none, []⟩, ⟨some 14, .bslice 1 [.tmp 13] false, none, []⟩, ⟨some 15, .build [.slice .nil [], .int .i64 0, .bool false] [(0, 1, .tmp 14)], none, []⟩, ⟨some 8, .alloc (.agg [.slice .nil [], .int .i64 0, .bool false]), none, []⟩, ⟨none, .store 3 (.tmp 8) (.tmp 15), none, []⟩]) (.seq (.ops [⟨some 9, .alloc (.int .i64 0), none, []⟩, ⟨none, .store 1 (.tmp 9) (.lit (.int .i64 0)), none, []⟩]) (.seq (.seq (.ops [⟨some 16, .load (some 4) (.tmp 3), none, []⟩, ⟨some 17, .move (.tmp 1), none, []⟩, ⟨some 18, .load none (.tmp 5), none, []⟩, ⟨some 19, .call (.lit (.func 107 [])) [.tmp 16, .tmp 17, .tmp 18], none, []⟩]) (.block 0 (.rangeF (.tmp 19) [20, 21] (.seq (.ops [⟨some 10, .move (.tmp 20), none, []⟩]) (.ops [⟨some 11, .move (.tmp 21), none, []⟩])) (.block 1 (.seq (.draw d_done_0) (.seq (.draw d_done_1) (.ops [⟨some 42, .move (.tmp 10), none, []⟩, ⟨some 43, .bin .add .none (.tmp 42) (.lit (.int .i64 1)), none, []⟩, ⟨none, .store 1 (.tmp 9) (.tmp 43), none, []⟩]))))))) (.seq (.draw d_done_2) (.seq (.seq (.ops [⟨some 56, .load none (.tmp 9), none, []⟩, ⟨some 57, .load none (.tmp 5), none, []⟩, ⟨some 58, .blen 1 (.tmp 57), none, []⟩, ⟨some 59, .bin .eql .none (.tmp 56) (.tmp 58), none, []⟩]) (.cond (.tmp 59) (.ops [⟨none, .store 1 (.tmp 9) (.lit (.int .i64 (-1))), none, []⟩]) .skip)) (.seq (.drawU d_done_3 [[], [2], [1], []]) .ret))))))
set_option maxRecDepth 20000 in
set_option maxHeartbeats 2000000 in
theorem done_spec (t : FTask) (s p : List Int) (σ : Store) (hb : SB t) (hg : t.goal.length ≤ 140737488355328) (hp : ∀ n ∈ p, 0 ≤ n ∧ n < t.actions.length) (hpl : p.length ≤ 1000000) (hs : ∀ k, (stk t s p k).length ≤ 1000000 ∧ (stk t s p k).Pairwise (· < ·)) :
    ACalls Tryz.prog 75 [.agg (encTask t), .slice .unk (s.map Ahl.encI), .slice .unk (p.map Ahl.encI)] σ (isR (doneR t s p) σ) := by
  refine ACalls.intro (rs := [(.cell (some 3) 6), (.tmp 7)]) (by kernel_rfl) { own := [], ghosts := [], cold := [(6, 4)], free := [(12, [[], [2], [1], []])] } Tryz.func75 (c := Tryz.f75.body.getD .skip) (by kernel_rfl) (by decide) (by rw [show Tryz.f75.ntmps = 62 by kernel_rfl]; exact Nat.le_of_ble_eq_true rfl) (by kernel_rfl) ?_
  intro hσ hids
  rw [show comp Tryz.prog { own := [], ghosts := [], cold := [(6, 4)], free := [(12, [[], [2], [1], []])] } (Tryz.f75.body.getD .skip) = c_done by kernel_rfl, show Tryz.f75.ntmps = 62 by kernel_rfl]
  unfold c_done
  simp only [go_sem, Int.reduceToNat, Int.reduceLE, Int.reduceLT, Nat.reduceBEq, Nat.reduceLT, Nat.reduceAdd, Nat.reduceLeDiff, dr_done_0, dr_done_1, dr_done_2, dr_done_3, encTask]
  refine (cloneI_spec s .unk _ (by have := (hs 0).1; simp only [stk] at this; omega)).is ?_
  simp only [go_sem, Int.reduceToNat, Int.reduceLE, Int.reduceLT, Nat.reduceBEq, Nat.reduceLT, Nat.reduceAdd, Nat.reduceLeDiff, dr_done_0, dr_done_1, dr_done_2, dr_done_3, encTask]
  have hw := fun σ => walk_spec t s p σ
  simp only [encTask] at hw
  refine (hw _).to ?_
  simp only [go_sem, Int.reduceToNat, Int.reduceLE, Int.reduceLT, Nat.reduceBEq, Nat.reduceLT, Nat.reduceAdd, Nat.reduceLeDiff, dr_done_0, dr_done_1, dr_done_2, dr_done_3]
  refine wpc_rangeF ?_
  intro H asg body hA hB
  simp only [go_sem, Int.reduceToNat, Int.reduceLE, Int.reduceLT, Nat.reduceBEq, Nat.reduceLT, Nat.reduceAdd, Nat.reduceLeDiff, dr_done_0, dr_done_1, dr_done_2, dr_done_3, encTask]
  refine rangeC_intro ⟨_, Tryz.func143, by kernel_rfl, by decide⟩ fun L hL => ?_
  simp only [go_sem, Int.reduceToNat, Int.reduceLE, Int.reduceLT, Nat.reduceBEq, Nat.reduceLT, Nat.reduceAdd, Nat.reduceLeDiff, dr_done_0, dr_done_1, dr_done_2, dr_done_3]
  have hLs : Ids (σ.length + 10) (.yld (σ.length + 9)) := .yld _ (by omega)
  have e0 : roundS t s p σ L 0 = σ ++ [.row (encTask t), .row [.slice .unk (p.map Ahl.encI)], .row [.slice .nil [], .int .i64 0, .bool false], .grow 1 1, .row [.slice (.grow (σ.length + 3)) [[.slice .unk (s.map Ahl.encI)]], .int .i64 0, .bool false], .row [.int .i64 0],
    .row (encTask t), .row [.slice .unk (s.map Ahl.encI)], .row [.slice .unk (p.map Ahl.encI)], .loop L] := by
    simp [roundS, statesK, stk, costK, encL]
  have hin : ∀ k (L' : LoopA), L'.s = L.s → IdsS (roundS t s p σ L' k).length (roundS t s p σ L' k) := by
    intro k L' hL'
    have hr1 : ∀ (n : Nat) (l : List Int), IdsO n (.row [.slice .unk (l.map Ahl.encI)]) := fun n l => idsO_row (by intro x hx; simp at hx; subst hx; exact ids_map ids_encI l)
    have hT : ∀ n, IdsO n (.row (encTask t)) := fun n => idsO_row (ids_encTask t)
    refine idsS_app _ hσ (all_cons' (hT _) (all_cons' (hr1 _ _) (all_cons' (idsO_row ?_) (all_cons' trivial (all_cons' (idsO_row ?_) (all_cons' (idsO_row ?_) (all_cons' (hT _) (all_cons' (hr1 _ _) (all_cons' (hr1 _ _) (all_cons' (idsO_loop ?_) all_nil'))))))))))
    · intro x hx
      simp at hx
      rcases hx with rfl | rfl | rfl <;> first | exact .int _ _ | exact .bool _ | exact ids_nil _ (by simp)
    · intro x hx
      simp at hx
      rcases hx with rfl | rfl | rfl <;> first | exact .int _ _ | exact .bool _ | exact ids_grow_map ids_encL (by simp)
    · intro x hx
      simp at hx; subst hx; exact .int _ _
    · rw [hL', congrArg LoopA.s hL]
      intro e he
      simp only [List.mem_cons, List.not_mem_nil, or_false] at he
      have hT' : ∀ n, Ids n (.agg (encTask t)) := fun n => ids_agg (ids_encTask t)
      simp only [encTask] at hT'
      have hgr : ∀ n, σ.length + 3 < n → Ids n (.slice (.grow (σ.length + 3)) [[.slice .unk (s.map Ahl.encI)]]) := fun n hn => .slice _ _ (by intro id h; cases h; exact hn) (by
        intro i e he j x hx
        match i, he with
        | 0, he => simp at he; subst he; match j, hx with | 0, hx => simp at hx; subst hx; exact ids_map ids_encI _)
      rcases he with rfl | rfl | rfl | rfl | rfl | rfl | rfl | rfl | rfl | rfl | rfl | rfl | rfl | rfl | rfl | rfl | rfl <;> first
        | exact .ptr _ _ (by simp) | exact .int _ _ | exact ids_map ids_encI _ | exact hT' _ | exact hgr _ (by simp)
        | exact .agg _ (fun j x hx => by match j, hx with | 0, hx => simp at hx; subst hx; exact hgr _ (by simp) | 1, hx => simp at hx; subst hx; exact .int _ _ | 2, hx => simp at hx; subst hx; exact .bool _)
        | exact .func _ _ (by intro j x hx; match j, hx with | 0, hx => simp at hx; subst hx; exact .ptr _ _ (by simp) | 1, hx => simp at hx; subst hx; exact .ptr _ _ (by simp) | 2, hx => simp at hx; subst hx; exact .ptr _ _ (by simp))
  have hwalk := walk1_spec t s p hb hp hpl hs (σ.length + 9) (σ.length + 6) (σ.length + 7) (σ.length + 8) (roundS t s p σ L) (fun k hk => ⟨by simp [roundS], hin k L rfl, by simp [roundS], by simp [roundS], by simp [roundS]⟩) ?_
  · rw [e0] at hwalk
    simp only [encTask] at hwalk
    refine hwalk.to ?_
    refine rangeK_intro (L := L) (by simp [roundS]) (by rw [hL]) (by rw [hL]) ?_
    have hq := stopN_le t s p
    generalize hst : stopN t s p = q at hq
    have hlq : (statesK t s p q).length = q + 1 := by simp [statesK]
    have hxq : (statesK t s p q)[q]? = some (stk t s p q) := by simp [statesK]
    have hwr : IntKind.i64.wrap (((q + 1 : Nat) : Int) - 1) = (q : Nat) := by rw [wrap_ok (by omega)]; omega
    simp only [roundS]
    simp only [go_sem, Int.reduceToNat, Int.reduceLE, Int.reduceLT, Nat.reduceBEq, Nat.reduceLT, Nat.reduceAdd, Nat.reduceLeDiff, dr_done_0, dr_done_1, dr_done_2, dr_done_3, encTask, hlq, hwr, hxq, encL]
    refine ⟨_, sTrue_spec (stk t s p q) t.goal .unk .unk _ (by have := (hs q).1; omega) (hs q).2 hg, ?_⟩
    have hend : ∀ (S : Slots) (x : Store) (at_ : Int), lk S 6 = .ptr (σ.length + 2) 0 → lk S 7 = .int .i64 at_ → x = σ ++ [.row (encTask t), .row [.slice .unk (p.map Ahl.encI)], .row [.slice (.grow (σ.length + 3)) ((statesK t s p q).map encL), .int .i64 (costK t p q), .bool (condHolds (stk t s p q) t.goal)], .grow 1 (q + 1),
        .row [.slice (.grow (σ.length + 3)) ((statesK t s p q).map encL), .int .i64 (costK t p q), .bool (condHolds (stk t s p q) t.goal)], .row [.int .i64 at_], .row (encTask t), .row [.slice .unk ((stk t s p q).map Ahl.encI)], .row [.slice .unk (p.map Ahl.encI)], .dead] → at_ = (if q = p.length then -1 else (q : Int)) →
        bodyK [.cell (some 3) 6, .tmp 7] σ.length 62 (isR (doneR t s p) σ) .ret S x := by
      rintro S _ at_ h1 h2 rfl rfl
      have hiu : Ids σ.length (.slice .unk ((statesK t s p q).map encL)) := ids_map ids_encL _
      refine ret_cN2 (c0 := [.slice (.grow (σ.length + 3)) ((statesK t s p q).map encL), .int .i64 (costK t p q), .bool (condHolds (stk t s p q) t.goal)]) (cells := [.slice .unk ((statesK t s p q).map encL), .int .i64 (costK t p q), .bool (condHolds (stk t s p q) t.goal)]) h1 (by simp) (by omega) (.cons (Wk.unk _ _) (.refl _)) rfl h2 (by simp) hσ
        (.agg _ fun j x hx => by match j, hx with | 0, hx => simp at hx; subst hx; exact hiu | 1, hx => simp at hx; subst hx; exact .int _ _ | 2, hx => simp at hx; subst hx; exact .bool _) (.int _ _) ⟨?_, rfl⟩
      simp only [doneR, hst]
    by_cases hqp : q = p.length
    · have hbq : ((q : Int) == (p.length : Int)) = true := by simp [hqp]
      simp only [go_sem, Int.reduceToNat, Int.reduceLE, Int.reduceLT, Nat.reduceBEq, Nat.reduceLT, Nat.reduceAdd, Nat.reduceLeDiff, dr_done_0, dr_done_1, dr_done_2, dr_done_3, encTask, hbq]
      exact hend _ _ (-1) rfl rfl (by simp [encTask]) (by rw [if_pos hqp])
    · have hbq : ((q : Int) == (p.length : Int)) = false := by simp; omega
      simp only [go_sem, Int.reduceToNat, Int.reduceLE, Int.reduceLT, Nat.reduceBEq, Nat.reduceLT, Nat.reduceAdd, Nat.reduceLeDiff, dr_done_0, dr_done_1, dr_done_2, dr_done_3, encTask, hbq]
      exact hend _ _ (q : Int) rfl rfl (by simp [encTask]) (by rw [if_neg hqp])
  · intro k hk
    obtain ⟨hk1, hk2⟩ := stopN_lt.1 hk
    obtain ⟨n, hx⟩ := get_ex hk1
    obtain ⟨hn1, hn2⟩ := hp n (List.mem_of_getElem? hx)
    obtain ⟨a, ha⟩ : ∃ a, t.actions[n.toNat]? = some a := ⟨_, List.getElem?_eq_getElem (by omega)⟩
    rw [← show L.asg = asg by rw [hL]] at hA
    rw [← show L.body = body by rw [hL]] at hB
    refine yld_as (by kernel_rfl) (L := L) (by simp [roundS]) (by rw [hL]) (by rw [hL]; rfl) (by rw [hL]; show ∀ x ∈ [20, 21], x < 62; decide) hA hB rfl rfl ?_
    rw [show L.nt = 62 by rw [hL], show L.ps = [20, 21] by rw [hL]]
    have hlen : (((roundS t s p σ L k).set (σ.length + 7) (AObj.row [AV.slice Tok.unk ((stk t s p (k + 1)).map Ahl.encI)]))).length = σ.length + 10 := by simp [roundS]
    rw [hlen]
    rw [congrArg LoopA.s hL]
    simp only [roundS]
    simp only [go_sem, Int.reduceToNat, Int.reduceLE, Int.reduceLT, Nat.reduceBEq, Nat.reduceLT, Nat.reduceAdd, Nat.reduceLeDiff, dr_done_0, dr_done_1, dr_done_2, dr_done_3, encTask]
    refine ⟨L, by simp, by rw [hL], ?_⟩
    have hsp : statesK t s p (k + 1) = statesK t s p k ++ [stk t s p (k + 1)] := by unfold statesK; rw [List.range_succ, List.map_append]; rfl
    have hco : costK t p (k + 1) = IntKind.i64.wrap (costK t p k + a.cost) := by rw [costK, hx, Option.bind_some, ha]
    have hlk : (statesK t s p k).length = k + 1 := by simp [statesK]
    simp only [go_sem, Int.reduceToNat, Int.reduceLE, Int.reduceLT, Nat.reduceBEq, Nat.reduceLT, Nat.reduceAdd, Nat.reduceLeDiff, dr_done_0, dr_done_1, dr_done_2, dr_done_3, encTask]
    refine ⟨_, cloneI_spec (stk t s p (k + 1)) .unk _ (by have := (hs (k + 1)).1; omega), ?_⟩
    simp only [go_sem, Int.reduceToNat, Int.reduceLE, Int.reduceLT, Nat.reduceBEq, Nat.reduceLT, Nat.reduceAdd, Nat.reduceLeDiff, dr_done_0, dr_done_1, dr_done_2, dr_done_3, encTask]
    have hbig : bigLen (k + 1 + 1) 24 := big_ok (by omega) (by omega)
    have hwk : IntKind.i64.wrap ((k : Int) + 1) = ((k + 1 : Nat) : Int) := by rw [wrap_ok (by omega)]; omega
    simp only [go_sem, Int.reduceToNat, Int.reduceLE, Int.reduceLT, Nat.reduceBEq, Nat.reduceLT, Nat.reduceAdd, Nat.reduceLeDiff, dr_done_0, dr_done_1, dr_done_2, dr_done_3, encTask, hlk, hbig, hx, ha, Ahl.encI, encA, hn1, hwk]
    have hsp2 : (statesK t s p k).map encL ++ [[.slice .unk ((stk t s p (k + 1)).map Ahl.encI)]] = (statesK t s p (k + 1)).map encL := by rw [hsp, List.map_append]; rfl
    rw [hsp2, ← hco]
    have hfin := hin (k + 1) { L with st := .busy } rfl
    simp only [roundS, encTask] at hfin
    refine round_end0 (L := { L with st := .busy }) hfin (by simp) ?_ (by simp)
    refine ⟨rfl, ?_⟩
    have hLL : ({ { L with st := .busy } with st := .ready, pend := none } : LoopA) = L := by rw [hL]
    simp [hLL]
end Go.Proofs.YtocphglkceidhaaGreat
namespace Go.Proofs.YtocphglkceidhaaGreat
open Go.Ahl
def c_idxS : CCode := .seq (.ops [⟨some 4, .move (.lit (.int .i64 0)), none, []⟩]) (.seq (.seq (.ops [⟨some 6, .move (.tmp 0), none, []⟩, ⟨some 7, .blen 1 (.tmp 6), none, []⟩, ⟨some 8, .move (.lit (.int .i64 0)), none, []⟩]) (.block 0 (.loop (.seq (.ops [⟨some 9, .bin .lss .none (.tmp 8) (.tmp 7), none, []⟩]) (.seq (.cond (.tmp 9) .skip (.exit 0)) (.seq (.block 1 (.seq (.ops [⟨some 10, .move (.tmp 8), none, []⟩, ⟨some 5, .move (.tmp 10), none, []⟩]) (.seq (.ops [⟨some 11, .move (.tmp 1), none, []⟩, ⟨some 12, .move (.tmp 0), none, []⟩, ⟨some 13, .move (.tmp 5), none, []⟩, ⟨some 14, .iaddr 1 (.tmp 12) (.tmp 13), none, []⟩, ⟨some 15, .load none (.tmp 14), none, []⟩, ⟨some 16, .call (.tmp 11) [.tmp 15], none, []⟩]) (.cond (.tmp 16) (.seq (.ops [⟨some 17, .move (.tmp 5), none, []⟩, ⟨some 4, .move (.tmp 17), none, []⟩]) .ret) .skip)))) (.ops [⟨some 18, .bin .add .none (.tmp 8) (.lit (.int .i64 1)), none, []⟩, ⟨some 8, .move (.tmp 18), none, []⟩]))))))) (.seq (.ops [⟨some 4, .move (.lit (.int .i64 (-1))), none, []⟩]) .ret))
set_option maxRecDepth 20000 in
theorem idxS_spec (l : List Int) (g : FuncId) (cap : List AV) (p : Int → Bool) (tok : Tok) (σ : Store) (hl : l.length ≤ 140737488355328)
    (hp : ∀ x ∈ l, ACalls Tryz.prog g (.int .i64 x :: cap) σ (isR (.bool (p x)) σ)) :
    ACalls Tryz.prog 81 [.slice tok (l.map Ahl.encI), .func g cap] σ (isR (.int .i64 (idxFrom p 0 l)) σ) := by
  refine ACalls.intro (rs := [(.tmp 4)]) (by kernel_rfl) { own := [], ghosts := [] } Tryz.func81 (c := Tryz.f81.body.getD .skip) (by kernel_rfl) (by decide) (by rw [show Tryz.f81.ntmps = 19 by kernel_rfl]; exact Nat.le_of_ble_eq_true rfl) (by kernel_rfl) ?_
  intro hσ hids
  rw [show comp Tryz.prog { own := [], ghosts := [] } (Tryz.f81.body.getD .skip) = c_idxS by kernel_rfl, show Tryz.f81.ntmps = 19 by kernel_rfl]
  unfold c_idxS
  have hil : Ids σ.length (.slice tok (l.map Ahl.encI)) := hids _ (by simp)
  have hif : Ids σ.length (.func g cap) := hids _ (by simp)
  simp only [go_sem, Int.reduceToNat, Int.reduceLE, Int.reduceLT, Nat.reduceBEq, Nat.reduceLT, Nat.reduceAdd, Nat.reduceLeDiff]
  refine wpc_while (fun i => [(0, .slice tok (l.map Ahl.encI)), (1, .func g cap), (7, .int .i64 l.length), (8, .int .i64 (i : Nat))]) (fun _ => σ) (fun i => i ≤ l.length ∧ idxFrom p 0 l = idxFrom p i (l.drop i)) (fun i => l.length - i) 0 ⟨Nat.zero_le _, rfl⟩ (by (try dsimp only); first | exact ghk | exact ghk0) ?_
  rintro i ⟨hi, hv⟩ K hK hE hR
  by_cases h : i < l.length
  · obtain ⟨y, hx⟩ := get_ex h; have hlt : ((i : Int) < (l.length : Int)) := (by omega); have hw : IntKind.i64.wrap ((i : Int) + 1) = ((i + 1 : Nat) : Int) := (by rw [wrap_ok (by omega)]; omega)
    rw [drop_cons hx, idxFrom] at hv
    simp only [go_sem, Int.reduceToNat, Int.reduceLE, Int.reduceLT, Nat.reduceBEq, Nat.reduceLT, Nat.reduceAdd, Nat.reduceLeDiff, hlt, hx, Ahl.encI]
    refine (hp y (List.mem_of_getElem? hx)).is ?_
    cases h1 : p y
    · simp only [go_sem, Int.reduceToNat, Int.reduceLE, Int.reduceLT, Nat.reduceBEq, Nat.reduceLT, Nat.reduceAdd, Nat.reduceLeDiff]
      rw [h1, if_neg (by simp)] at hv
      refine hK _ _ (i + 1) (⟨by omega, by rw [hv]; norm_cast⟩) (by first | omega | (simp only []; omega) | (simp; omega)) ?_; (try dsimp only); (try simp only [ hw]); first | exact ghk | exact ghk0
    · rw [h1, if_pos rfl] at hv
      simp only [go_sem, Int.reduceToNat, Int.reduceLE, Int.reduceLT, Nat.reduceBEq, Nat.reduceLT, Nat.reduceAdd, Nat.reduceLeDiff, hR]
      first | exact rtk (.int .i64 i) ⟨by rw [hv], rfl⟩ | exact rtk0 (.int .i64 i) ⟨by rw [hv], rfl⟩
  · have hlt : ¬ ((i : Int) < (l.length : Int)) := by omega
    rw [drop_len h, idxFrom] at hv
    simp only [go_sem, Int.reduceToNat, Int.reduceLE, Int.reduceLT, Nat.reduceBEq, Nat.reduceLT, Nat.reduceAdd, Nat.reduceLeDiff, hlt, hE]
    first | exact rtk (.int .i64 (-1)) ⟨by rw [hv], rfl⟩ | exact rtk0 (.int .i64 (-1)) ⟨by rw [hv], rfl⟩
def c_contS : CCode := .seq (.ops [⟨some 4, .move (.lit (.bool false)), none, []⟩]) (.seq (.ops [⟨some 5, .move (.tmp 0), none, []⟩, ⟨some 6, .move (.tmp 1), none, []⟩, ⟨some 7, .call (.lit (.func 81 [])) [.tmp 5, .tmp 6], none, []⟩, ⟨some 8, .bin .geq .none (.tmp 7) (.lit (.int .i64 0)), none, []⟩, ⟨some 4, .move (.tmp 8), none, []⟩]) .ret)
set_option maxRecDepth 20000 in
theorem contS_spec (l : List Int) (g : FuncId) (cap : List AV) (p : Int → Bool) (tok : Tok) (σ : Store) (hl : l.length ≤ 140737488355328)
    (hp : ∀ x ∈ l, ACalls Tryz.prog g (.int .i64 x :: cap) σ (isR (.bool (p x)) σ)) :
    ACalls Tryz.prog 105 [.slice tok (l.map Ahl.encI), .func g cap] σ (isR (.bool (l.any p)) σ) := by
  refine ACalls.intro (rs := [(.tmp 4)]) (by kernel_rfl) { own := [], ghosts := [] } Tryz.func105 (c := Tryz.f105.body.getD .skip) (by kernel_rfl) (by decide) (by rw [show Tryz.f105.ntmps = 9 by kernel_rfl]; exact Nat.le_of_ble_eq_true rfl) (by kernel_rfl) ?_
  intro hσ hids
  rw [show comp Tryz.prog { own := [], ghosts := [] } (Tryz.f105.body.getD .skip) = c_contS by kernel_rfl, show Tryz.f105.ntmps = 9 by kernel_rfl]
  unfold c_contS
  simp only [go_sem, Int.reduceToNat, Int.reduceLE, Int.reduceLT, Nat.reduceBEq, Nat.reduceLT, Nat.reduceAdd, Nat.reduceLeDiff]
  refine (idxS_spec l g cap p tok σ hl hp).is ?_
  simp only [go_sem, Int.reduceToNat, Int.reduceLE, Int.reduceLT, Nat.reduceBEq, Nat.reduceLT, Nat.reduceAdd, Nat.reduceLeDiff, idxFrom_ge p l 0 (Int.le_refl _)]
  first | exact rtw (v := .bool _) wkS ⟨rfl, rfl⟩ | exact rtw0 (v := .bool _) wkS ⟨rfl, rfl⟩
def offB (t : FTask) (x : Int) : Bool := decide (x < 0) || decide (x ≥ t.actions.length)
def c_slisted1 : CCode := .seq (.ops [⟨some 3, .move (.lit (.bool false)), none, []⟩]) (.seq (.ops [⟨some 4, .move (.tmp 0), none, []⟩, ⟨some 5, .bin .lss .none (.tmp 4) (.lit (.int .i64 0)), none, []⟩, ⟨some 6, .move (.tmp 5), none, []⟩, ⟨some 7, .move (.tmp 0), some (some 6, false), []⟩, ⟨some 8, .faddr 3 (.tmp 1), some (some 6, false), []⟩, ⟨some 9, .load none (.tmp 8), some (some 6, false), []⟩, ⟨some 10, .blen 1 (.tmp 9), some (some 6, false), []⟩, ⟨some 11, .bin .geq .none (.tmp 7) (.tmp 10), some (some 6, false), []⟩, ⟨some 12, .pick (.tmp 6) (.lit (.bool true)) (.tmp 11), none, []⟩, ⟨some 3, .move (.tmp 12), none, []⟩]) .ret)
set_option maxRecDepth 20000 in
theorem slisted1_spec (t : FTask) (x : Int) (T : Nat) (σ : Store) (hT : σ[T]? = some (.row (encTask t))) :
    ACalls Tryz.prog 106 [.int .i64 x, .ptr T 0] σ (isR (.bool (offB t x)) σ) := by
  refine ACalls.intro (rs := [(.tmp 3)]) (by kernel_rfl) { own := [], ghosts := [] } Tryz.func106 (c := Tryz.f106.body.getD .skip) (by kernel_rfl) (by decide) (by rw [show Tryz.f106.ntmps = 13 by kernel_rfl]; exact Nat.le_of_ble_eq_true rfl) (by kernel_rfl) ?_
  intro hσ hids
  rw [show comp Tryz.prog { own := [], ghosts := [] } (Tryz.f106.body.getD .skip) = c_slisted1 by kernel_rfl, show Tryz.f106.ntmps = 13 by kernel_rfl]
  unfold c_slisted1
  have ht := lt_of_get hT
  cases h : decide (x < 0)
  · simp only [go_sem, Int.reduceToNat, Int.reduceLE, Int.reduceLT, Nat.reduceBEq, Nat.reduceLT, Nat.reduceAdd, Nat.reduceLeDiff, h, hT, encTask]
    first | exact rtw (v := .bool _) wkS ⟨by unfold offB; rw [h]; rfl, rfl⟩ | exact rtw0 (v := .bool _) wkS ⟨by unfold offB; rw [h]; rfl, rfl⟩
  · simp only [go_sem, Int.reduceToNat, Int.reduceLE, Int.reduceLT, Nat.reduceBEq, Nat.reduceLT, Nat.reduceAdd, Nat.reduceLeDiff, h, hT, encTask]
    first | exact rtw (v := .bool _) wkS ⟨by unfold offB; rw [h]; rfl, rfl⟩ | exact rtw0 (v := .bool _) wkS ⟨by unfold offB; rw [h]; rfl, rfl⟩
/-- May a list be executed at all? -/
def slistedB (t : FTask) (p : List Int) : Bool := decide (p.length ≤ 10000) && !(p.any (offB t))
def c_slisted : CCode := .seq (.ops [⟨some 2, .box (.tmp 0), none, []⟩, ⟨some 4, .move (.lit (.bool false)), none, []⟩]) (.seq (.ops [⟨some 5, .move (.tmp 1), none, []⟩, ⟨some 6, .blen 1 (.tmp 5), none, []⟩, ⟨some 7, .bin .leq .none (.tmp 6) (.lit (.int .i64 10000)), none, []⟩, ⟨some 8, .move (.tmp 7), none, []⟩, ⟨some 9, .move (.tmp 1), some (some 8, true), []⟩, ⟨some 10, .mkfunc 106 [.tmp 2], some (some 8, true), []⟩, ⟨some 11, .call (.lit (.func 105 [])) [.tmp 9, .tmp 10], some (some 8, true), []⟩, ⟨some 12, .un .not (.tmp 11), some (some 8, true), []⟩, ⟨some 13, .pick (.tmp 8) (.tmp 12) (.lit (.bool false)), none, []⟩, ⟨some 4, .move (.tmp 13), none, []⟩]) .ret)
set_option maxRecDepth 20000 in
theorem slisted_spec (t : FTask) (p : List Int) (σ : Store) (hp : p.length ≤ 1000000) :
    ACalls Tryz.prog 74 [.agg (encTask t), .slice .unk (p.map Ahl.encI)] σ (isR (.bool (slistedB t p)) σ) := by
  refine ACalls.intro (rs := [(.tmp 4)]) (by kernel_rfl) { own := [], ghosts := [] } Tryz.func74 (c := Tryz.f74.body.getD .skip) (by kernel_rfl) (by decide) (by rw [show Tryz.f74.ntmps = 14 by kernel_rfl]; exact Nat.le_of_ble_eq_true rfl) (by kernel_rfl) ?_
  intro hσ hids
  rw [show comp Tryz.prog { own := [], ghosts := [] } (Tryz.f74.body.getD .skip) = c_slisted by kernel_rfl, show Tryz.f74.ntmps = 14 by kernel_rfl]
  unfold c_slisted
  cases h : decide ((p.length : Int) ≤ 10000)
  · simp only [go_sem, Int.reduceToNat, Int.reduceLE, Int.reduceLT, Nat.reduceBEq, Nat.reduceLT, Nat.reduceAdd, Nat.reduceLeDiff, h, encTask]
    have : slistedB t p = false := by unfold slistedB; rw [show decide (p.length ≤ 10000) = false by rw [decide_eq_false_iff_not] at h ⊢; omega]; rfl
    first | exact rtw (v := .bool _) wkS ⟨by rw [this], rfl⟩ | exact rtw0 (v := .bool _) wkS ⟨by rw [this], rfl⟩
  · simp only [go_sem, Int.reduceToNat, Int.reduceLE, Int.reduceLT, Nat.reduceBEq, Nat.reduceLT, Nat.reduceAdd, Nat.reduceLeDiff, h, encTask]
    refine (contS_spec p _ _ (offB t) .unk _ (by omega) (fun x _ => slisted1_spec t x σ.length _ (by simp [encTask]))).is ?_
    simp only [go_sem, Int.reduceToNat, Int.reduceLE, Int.reduceLT, Nat.reduceBEq, Nat.reduceLT, Nat.reduceAdd, Nat.reduceLeDiff]
    have : slistedB t p = !(p.any (offB t)) := by unfold slistedB; rw [show decide (p.length ≤ 10000) = true by rw [decide_eq_true_eq] at h ⊢; omega]; rfl
    first | exact rtw (v := .bool _) wkS ⟨by rw [this], rfl⟩ | exact rtw0 (v := .bool _) wkS ⟨by rw [this], rfl⟩
/-- What Execute returns. -/
def execR (t : FTask) (s p : List Int) : AV :=
  if stE t s ≠ 0 then .tuple [.agg [.slice .nil [], .int .i64 0, .bool false], .int .i64 0, .int .i64 (stE t s)]
  else if slistedB t p = false then .tuple [.agg [.slice .nil [], .int .i64 0, .bool false], .int .i64 0, .int .i64 1]
  else .tuple [.agg [.slice .unk ((statesK t s p (stopN t s p)).map encL), .int .i64 (costK t p (stopN t s p)), .bool (condHolds (stk t s p (stopN t s p)) t.goal)], .int .i64 (if stopN t s p = p.length then -1 else (stopN t s p : Nat)), .int .i64 0]
def c_exec : CCode := .seq (.ops [⟨some 3, .box (.tmp 0), none, []⟩, ⟨some 6, .alloc (.agg [.slice .nil [], .int .i64 0, .bool false]), none, []⟩, ⟨some 7, .move (.lit (.int .i64 0)), none, []⟩, ⟨some 8, .move (.lit (.int .i64 0)), none, []⟩]) (.seq (.seq (.ops [⟨some 12, .load (some 4) (.tmp 3), none, []⟩, ⟨some 13, .move (.tmp 1), none, []⟩, ⟨some 14, .call (.lit (.func 68 [])) [.tmp 12, .tmp 13], none, []⟩, ⟨some 9, .move (.tmp 14), none, []⟩]) (.seq (.ops [⟨some 15, .move (.tmp 9), none, []⟩, ⟨some 16, .bin .neq .none (.tmp 15) (.lit (.int .i64 0)), none, []⟩]) (.cond (.tmp 16) (.seq (.ops [⟨some 17, .build [.slice .nil [], .int .i64 0, .bool false] [], none, []⟩, ⟨some 18, .move (.tmp 9), none, []⟩, ⟨none, .store 3 (.tmp 6) (.tmp 17), none, []⟩, ⟨some 7, .move (.lit (.int .i64 0)), none, []⟩, ⟨some 8, .move (.tmp 18), none, []⟩]) .ret) .skip))) (.seq (.seq (.ops [⟨some 19, .load (some 4) (.tmp 3), none, []⟩, ⟨some 20, .move (.tmp 2), none, []⟩, ⟨some 21, .call (.lit (.func 74 [])) [.tmp 19, .tmp 20], none, []⟩, ⟨some 22, .un .not (.tmp 21), none, []⟩]) (.cond (.tmp 22) (.seq (.ops [⟨some 23, .build [.slice .nil [], .int .i64 0, .bool false] [], none, []⟩, ⟨none, .store 3 (.tmp 6) (.tmp 23), none, []⟩, ⟨some 7, .move (.lit (.int .i64 0)), none, []⟩, ⟨some 8, .move (.lit (.int .i64 1)), none, []⟩]) .ret) .skip)) (.seq (.ops [⟨some 25, .load (some 4) (.tmp 3), none, []⟩, ⟨some 26, .move (.tmp 1), none, []⟩, ⟨some 27, .move (.tmp 2), none, []⟩, ⟨some 28, .call (.lit (.func 75 [])) [.tmp 25, .tmp 26, .tmp 27], none, []⟩, ⟨some 24, .move (.tmp 28), none, []⟩, ⟨some 29, .extract (.tmp 24) 0, none, []⟩, ⟨some 30, .extract (.tmp 24) 1, none, []⟩, ⟨some 10, .alloc (.agg [.slice .nil [], .int .i64 0, .bool false]), none, []⟩, ⟨none, .store 3 (.tmp 10) (.tmp 29), none, []⟩, ⟨some 11, .move (.tmp 30), none, []⟩]) (.seq (.ops [⟨some 31, .load (some 3) (.tmp 10), none, []⟩, ⟨some 32, .move (.tmp 11), none, []⟩, ⟨none, .store 3 (.tmp 6) (.tmp 31), none, []⟩, ⟨some 7, .move (.tmp 32), none, []⟩, ⟨some 8, .move (.lit (.int .i64 0)), none, []⟩]) .ret))))
set_option maxRecDepth 20000 in
theorem exec_spec (t : FTask) (s p : List Int) (σ : Store) (ht : TB t) (hb : SB t) (hl : s.length ≤ 140737488355328) (hpl : p.length ≤ 1000000)
    (hs : stE t s = 0 → (∀ n ∈ p, 0 ≤ n ∧ n < t.actions.length) → ∀ k, (stk t s p k).length ≤ 1000000 ∧ (stk t s p k).Pairwise (· < ·)) :
    ACalls Tryz.prog 31 [.agg (encTask t), .slice .unk (s.map Ahl.encI), .slice .unk (p.map Ahl.encI)] σ (isR (execR t s p) σ) := by
  refine ACalls.intro (rs := [(.cell (some 3) 6), (.tmp 7), (.tmp 8)]) (by kernel_rfl) { own := [], ghosts := [] } Tryz.func31 (c := Tryz.f31.body.getD .skip) (by kernel_rfl) (by decide) (by rw [show Tryz.f31.ntmps = 33 by kernel_rfl]; exact Nat.le_of_ble_eq_true rfl) (by kernel_rfl) ?_
  intro hσ hids
  rw [show comp Tryz.prog { own := [], ghosts := [] } (Tryz.f31.body.getD .skip) = c_exec by kernel_rfl, show Tryz.f31.ntmps = 33 by kernel_rfl]
  unfold c_exec
  have hids0 : Ids σ.length (.agg [.slice .nil [], .int .i64 0, .bool false]) := .agg _ fun j x hx => by match j, hx with | 0, hx => simp at hx; subst hx; exact ids_nil _ (by simp) | 1, hx => simp at hx; subst hx; exact .int _ _ | 2, hx => simp at hx; subst hx; exact .bool _
  have hfine := fun σ => sFine_spec t s .unk σ ht hl
  have hlist := fun σ => slisted_spec t p σ hpl
  simp only [encTask] at hfine hlist
  simp only [go_sem, Int.reduceToNat, Int.reduceLE, Int.reduceLT, Nat.reduceBEq, Nat.reduceLT, Nat.reduceAdd, Nat.reduceLeDiff, encTask]
  refine (hfine _).is ?_
  by_cases he : stE t s = 0
  · have h0 : (stE t s != 0) = false := by simp [he]
    simp only [go_sem, Int.reduceToNat, Int.reduceLE, Int.reduceLT, Nat.reduceBEq, Nat.reduceLT, Nat.reduceAdd, Nat.reduceLeDiff, h0]
    refine (hlist _).is ?_
    cases hli : slistedB t p
    · simp only [go_sem, Int.reduceToNat, Int.reduceLE, Int.reduceLT, Nat.reduceBEq, Nat.reduceLT, Nat.reduceAdd, Nat.reduceLeDiff]
      refine ret_cN3 (x := .int .i64 0) (y := .int .i64 1) (c0 := [.slice .nil [], .int .i64 0, .bool false]) (cells := [.slice .nil [], .int .i64 0, .bool false]) rfl (by simp) (by omega) (.refl _) rfl rfl rfl (by simp) hσ hids0 (.int _ _) (.int _ _) ⟨?_, rfl⟩
      simp [execR, he, hli]
    · simp only [go_sem, Int.reduceToNat, Int.reduceLE, Int.reduceLT, Nat.reduceBEq, Nat.reduceLT, Nat.reduceAdd, Nat.reduceLeDiff]
      have hp : ∀ n ∈ p, 0 ≤ n ∧ n < t.actions.length := by
        intro n hn
        simp only [slistedB, Bool.and_eq_true, decide_eq_true_eq, Bool.not_eq_true', List.any_eq_false] at hli
        have := hli.2 n hn
        simp only [offB, Bool.or_eq_true, decide_eq_true_eq] at this
        omega
      have hdone := fun σ => done_spec t s p σ hb ht.goal hp hpl (hs he hp)
      simp only [encTask, doneR] at hdone
      refine (hdone _).is ?_
      simp only [go_sem, Int.reduceToNat, Int.reduceLE, Int.reduceLT, Nat.reduceBEq, Nat.reduceLT, Nat.reduceAdd, Nat.reduceLeDiff]
      have hiu : Ids σ.length (.agg [.slice .unk ((statesK t s p (stopN t s p)).map encL), .int .i64 (costK t p (stopN t s p)), .bool (condHolds (stk t s p (stopN t s p)) t.goal)]) := .agg _ fun j x hx => by match j, hx with | 0, hx => simp at hx; subst hx; exact ids_map ids_encL _ | 1, hx => simp at hx; subst hx; exact .int _ _ | 2, hx => simp at hx; subst hx; exact .bool _
      refine ret_cN3 (x := .int .i64 (if stopN t s p = p.length then -1 else (stopN t s p : Nat))) (y := .int .i64 0) (c0 := [.slice .unk ((statesK t s p (stopN t s p)).map encL), .int .i64 (costK t p (stopN t s p)), .bool (condHolds (stk t s p (stopN t s p)) t.goal)]) (cells := [.slice .unk ((statesK t s p (stopN t s p)).map encL), .int .i64 (costK t p (stopN t s p)), .bool (condHolds (stk t s p (stopN t s p)) t.goal)]) rfl (by simp) (by omega) (.refl _) rfl rfl rfl (by simp) hσ hiu (.int _ _) (.int _ _) ⟨?_, rfl⟩
      simp [execR, he, hli]
  · have h0 : (stE t s != 0) = true := by simp [he]
    simp only [go_sem, Int.reduceToNat, Int.reduceLE, Int.reduceLT, Nat.reduceBEq, Nat.reduceLT, Nat.reduceAdd, Nat.reduceLeDiff, h0]
    refine ret_cN3 (x := .int .i64 0) (y := .int .i64 (stE t s)) (c0 := [.slice .nil [], .int .i64 0, .bool false]) (cells := [.slice .nil [], .int .i64 0, .bool false]) rfl (by simp) (by omega) (.refl _) rfl rfl rfl (by simp) hσ hids0 (.int _ _) (.int _ _) ⟨?_, rfl⟩
    simp [execR, he]
end Go.Proofs.YtocphglkceidhaaGreat
namespace Go.Proofs.YtocphglkceidhaaGreat
open Go.Ahl
def ab (b : Bool) : AV := .bool b
def genB (n : Nat) (p : Nat → Bool) : List Bool := (List.range n).map p
theorem genB_len (n : Nat) (p : Nat → Bool) : (genB n p).length = n := by simp [genB]
theorem genB_get {n : Nat} {p : Nat → Bool} {k : Nat} (h : k < n) : (genB n p)[k]? = some (p k) := by
  rw [genB, List.getElem?_map, List.getElem?_range h]; rfl
theorem genB_cong {n : Nat} {p q : Nat → Bool} (h : ∀ i, i < n → p i = q i) : genB n p = genB n q := by
  unfold genB
  exact List.map_congr_left fun i hi => h i (List.mem_range.1 hi)
theorem genB_set (n : Nat) (p : Nat → Bool) (k : Nat) (v : Bool) : (genB n p).set k v = genB n (fun i => if i = k then v else p i) := by
  apply List.ext_getElem?
  intro i
  by_cases hi : i < n
  · rw [genB_get hi]
    by_cases hk : k = i
    · subst hk
      rw [List.getElem?_set_self (by rw [genB_len]; exact hi), if_pos rfl]
    · rw [List.getElem?_set_ne hk, genB_get hi, if_neg (Ne.symm hk)]
  · rw [List.getElem?_eq_none (by rw [List.length_set, genB_len]; omega), List.getElem?_eq_none (by rw [genB_len]; omega)]
theorem bset (w : List Bool) (k : Nat) (b : Bool) : (w.map ab).set k (.bool b) = (w.set k b).map ab := by rw [List.map_set]; rfl
theorem rep_ab (n : Nat) : (List.replicate n [AV.bool false]).flatten = (genB n fun _ => false).map ab := by
  unfold genB
  induction n with
  | zero => rfl
  | succ n ih =>
    rw [List.replicate_succ', List.flatten_concat, ih, List.range_succ, List.map_append, List.map_append]; rfl
theorem ids_ab {n : Nat} (w : List Bool) : IdsO n (.row (w.map ab)) := idsO_row (by intro x hx; obtain ⟨y, _, rfl⟩ := List.mem_map.1 hx; exact .bool _)
/-- The places that are true, counted from k. -/
def listB : Nat → List Bool → List Int
  | _, [] => []
  | k, b :: r => if b then (k : Int) :: listB (k + 1) r else listB (k + 1) r
/-- Does an effect of this sign on fact i happen? -/
def hits (s : List Int) (neg : Bool) (es : List FEff) (i : Nat) : Bool := es.any fun e => (e.lit.neg == neg) && ((e.lit.fact == (i : Int)) && condHolds s e.when_)
/-- The bits after an action. -/
def afterB (n : Nat) (s : List Int) (a : FAct) : List Bool := genB n fun i => hits s false a.effects i || (s.contains (i : Int) && !hits s true a.effects i)
def afterL (n : Nat) (s : List Int) (a : FAct) : List Int := listB 0 (afterB n s a)
end Go.Proofs.YtocphglkceidhaaGreat
namespace Go.Proofs.YtocphglkceidhaaGreat
open Go.Ahl
/-! ### What the operations mean -/
/-! ### Reduced form -/
theorem reducedL_idem {n : Int} {f : List (List FLit)} (hf : vF n f) : reducedL (reducedL f) = reducedL f :=
  strict_unique (reducedL_strict _) (reducedL_strict _) fun x => by
    rw [reducedL_minimal (reducedL_V hf)]
    constructor
    · exact fun h => h.1
    · intro h
      exact ⟨h, fun m hm hw => ((reducedL_minimal hf x).1 h).2 m (reducedL_mem hm) hw⟩
/-- A formula of n facts in reduced form. -/
def RedF (n : Int) (h : List (List FLit)) : Prop := ∃ k, vF n k ∧ h = reducedL k
theorem RedF.V {n : Int} {h : List (List FLit)} (r : RedF n h) : vF n h := by obtain ⟨k, hk, rfl⟩ := r; exact reducedL_V hk
theorem RedF.good {n : Int} {h : List (List FLit)} (r : RedF n h) (hl : h.length ≤ 400) : goodB n h = true := by
  have hv := r.V
  obtain ⟨k, hk, rfl⟩ := r
  rw [goodB, isForm, refRed_eq hv, reducedL_idem hk]
  have : formB n (reducedL k) = true := List.all_eq_true.2 fun l hl => hv l hl
  rw [this]; simp [hl]
end Go.Proofs.YtocphglkceidhaaGreat
namespace Go.Proofs.YtocphglkceidhaaGreat
open Go.Ahl
/-! ### Of four facts there are 81 conditions -/
/-! ### The state after an action -/
theorem listB_mem : ∀ (w : List Bool) (k : Nat) (x : Int), x ∈ listB k w ↔ ∃ j : Nat, x = ((k + j : Nat) : Int) ∧ w[j]? = some true
  | [], k, x => by simp [listB]
  | b :: w, k, x => by
    have ih := listB_mem w (k + 1) x
    have key : x ∈ listB (k + 1) w ↔ ∃ j : Nat, x = ((k + (j + 1) : Nat) : Int) ∧ (b :: w)[j + 1]? = some true := by
      rw [ih]
      constructor
      · rintro ⟨j, h1, h2⟩; exact ⟨j, by rw [h1]; omega, by simpa using h2⟩
      · rintro ⟨j, h1, h2⟩; exact ⟨j, by rw [h1]; omega, by simpa using h2⟩
    rw [listB]
    split
    · rename_i hb
      rw [List.mem_cons, key]
      constructor
      · rintro (rfl | ⟨j, h1, h2⟩)
        · exact ⟨0, by simp, by simp [hb]⟩
        · exact ⟨j + 1, h1, h2⟩
      · rintro ⟨j, h1, h2⟩
        cases j with
        | zero => left; simpa using h1
        | succ j => right; exact ⟨j, h1, h2⟩
    · rename_i hb
      rw [key]
      constructor
      · rintro ⟨j, h1, h2⟩; exact ⟨j + 1, h1, h2⟩
      · rintro ⟨j, h1, h2⟩
        cases j with
        | zero => simp at h2; exact absurd h2 hb
        | succ j => exact ⟨j, h1, h2⟩
theorem listB_rising (n : Int) : ∀ (w : List Bool) (k : Nat) (p : Int), p < k → (k : Int) + w.length ≤ n → risingB n p (listB k w) = true
  | [], k, p, h, hn => rfl
  | b :: w, k, p, h, hn => by
    rw [List.length_cons] at hn
    rw [listB]
    split
    · rw [risingB, Bool.and_eq_true, Bool.and_eq_true]
      exact ⟨⟨by simpa using h, by simp; omega⟩, listB_rising n w (k + 1) k (by omega) (by omega)⟩
    · exact listB_rising n w (k + 1) p (by omega) (by omega)
end Go.Proofs.YtocphglkceidhaaGreat
namespace Go.Proofs.YtocphglkceidhaaGreat
open Go.Ahl
theorem foldI_mem (p : FEff → Bool) (x : Int) : ∀ (es : List FEff) (l : List Int), x ∈ es.foldl (fun l e => if p e then insI l e.lit.fact else l) l ↔ x ∈ l ∨ ∃ e ∈ es, p e = true ∧ e.lit.fact = x
  | [], l => by simp
  | e :: es, l => by
    rw [List.foldl_cons, foldI_mem p x es]
    constructor
    · rintro (h | ⟨e', he, h⟩)
      · split at h
        · rcases insI_mem.1 h with h | rfl
          · exact .inl h
          · exact .inr ⟨e, List.mem_cons_self, ‹_›, rfl⟩
        · exact .inl h
      · exact .inr ⟨e', List.mem_cons_of_mem _ he, h⟩
    · rintro (h | ⟨e', he, h1, h2⟩)
      · left; split
        · exact insI_mem.2 (.inl h)
        · exact h
      · rcases List.mem_cons.1 he with rfl | he
        · left; rw [if_pos h1]; exact insI_mem.2 (.inr h2.symm)
        · exact .inr ⟨e', he, h1, h2⟩
theorem foldI_nodup (p : FEff → Bool) : ∀ (es : List FEff) (l : List Int), l.Nodup → (es.foldl (fun l e => if p e then insI l e.lit.fact else l) l).Nodup
  | [], l, h => h
  | e :: es, l, h => by
    rw [List.foldl_cons]
    refine foldI_nodup p es _ ?_
    split
    · exact insI_nodup h
    · exact h
theorem hits_iff (s : List Int) (neg : Bool) (es : List FEff) (i : Nat) : hits s neg es i = true ↔ ∃ e ∈ es, condHolds s e.when_ = true ∧ e.lit.neg = neg ∧ e.lit.fact = (i : Int) := by
  unfold hits
  rw [List.any_eq_true]
  constructor
  · rintro ⟨e, he, h⟩
    simp only [Bool.and_eq_true, beq_iff_eq] at h
    exact ⟨e, he, h.2.2, h.1, h.2.1⟩
  · rintro ⟨e, he, h1, h2, h3⟩
    exact ⟨e, he, by simp [h1, h2, h3]⟩
theorem addOf_mem {s : List Int} {es : List FEff} {i : Nat} : (i : Int) ∈ addOf s es ↔ hits s false es i = true := by
  rw [hits_iff, addOf, foldI_mem]
  simp only [List.not_mem_nil, false_or, Bool.and_eq_true, Bool.not_eq_true']
  constructor
  · rintro ⟨e, h, ⟨h1, h2⟩, h3⟩; exact ⟨e, h, h1, h2, h3⟩
  · rintro ⟨e, h, h1, h2, h3⟩; exact ⟨e, h, ⟨h1, h2⟩, h3⟩
theorem dropOf_mem {s : List Int} {es : List FEff} {i : Nat} : (i : Int) ∈ dropOf s es ↔ hits s true es i = true := by
  rw [hits_iff, dropOf, foldI_mem]
  simp only [List.not_mem_nil, false_or, Bool.and_eq_true]
  constructor
  · rintro ⟨e, h, ⟨h1, h2⟩, h3⟩; exact ⟨e, h, h1, h2, h3⟩
  · rintro ⟨e, h, h1, h2, h3⟩; exact ⟨e, h, ⟨h1, h2⟩, h3⟩
theorem afterL_rising (n : Nat) (s : List Int) (a : FAct) : risingB n (-1) (afterL n s a) = true := listB_rising n (afterB n s a) 0 (-1) (by omega) (by rw [afterB, genB_len]; omega)
theorem afterL_mem {n : Nat} {s : List Int} {a : FAct} {i : Nat} : (i : Int) ∈ afterL n s a ↔ i < n ∧ (hits s false a.effects i = true ∨ ((i : Int) ∈ s ∧ ¬ hits s true a.effects i = true)) := by
  rw [afterL, listB_mem]
  constructor
  · rintro ⟨j, h1, h2⟩
    obtain rfl : j = i := by omega
    have hl := lt_of_get h2
    rw [afterB, genB_len] at hl
    rw [afterB, genB_get hl] at h2
    simp only [Option.some.injEq, Bool.or_eq_true, Bool.and_eq_true, Bool.not_eq_true'] at h2
    refine ⟨hl, ?_⟩
    rcases h2 with h2 | ⟨h2, h3⟩
    · exact .inl h2
    · exact .inr ⟨List.contains_iff_mem.1 h2, by rw [h3]; simp⟩
  · rintro ⟨h1, h2⟩
    refine ⟨i, by simp, ?_⟩
    rw [afterB, genB_get h1]
    simp only [Option.some.injEq, Bool.or_eq_true, Bool.and_eq_true, Bool.not_eq_true']
    rcases h2 with h2 | ⟨h2, h3⟩
    · exact .inl h2
    · exact .inr ⟨List.contains_iff_mem.2 h2, by simpa using h3⟩
/-- The program's state after an action is the reference's. -/
theorem afterS_eq {n : Nat} {s : List Int} {a : FAct} (hs : risingB n (-1) s = true) (he : ∀ e ∈ a.effects, 0 ≤ e.lit.fact ∧ e.lit.fact < n) : afterS s a.effects = afterL n s a := by
  obtain ⟨hp, hb⟩ := rising_pw hs
  have hadd : ∀ x ∈ addOf s a.effects, 0 ≤ x ∧ x < n := by
    intro x hx
    rw [addOf, foldI_mem] at hx
    rcases hx with hx | ⟨e, h, _, rfl⟩
    · simp at hx
    · exact he e h
  have hr := rising_pw (afterL_rising n s a)
  refine sortI_eq ?_ (hr.1.imp (fun h => by omega))
  have hnd : (s.filter (stayS s a.effects) ++ (addOf s a.effects).filter fun x => !(s.contains x)).Nodup := by
    rw [List.nodup_append]
    refine ⟨(hp.imp (fun h => by omega)).filter _, (foldI_nodup _ _ _ .nil).filter _, ?_⟩
    rintro x hx _ hy rfl
    have h1 := (List.mem_filter.1 hx).1
    have h2 := (List.mem_filter.1 hy).2
    rw [List.contains_iff_mem.2 h1] at h2; simp at h2
  rw [List.perm_ext_iff_of_nodup (hr.1.imp (fun h => by omega)) hnd]
  intro x
  have hx0 : (x ∈ afterL n s a → 0 ≤ x) := fun h => by have := (hr.2 x h).1; omega
  by_cases h0 : 0 ≤ x
  · obtain ⟨i, rfl⟩ : ∃ i : Nat, x = (i : Int) := ⟨x.toNat, by omega⟩
    rw [afterL_mem, List.mem_append, List.mem_filter, List.mem_filter, ← addOf_mem, ← dropOf_mem]
    have hst : stayS s a.effects (i : Int) = true ↔ ¬ (i : Int) ∈ dropOf s a.effects ∨ (i : Int) ∈ addOf s a.effects := by
      unfold stayS; simp
    rw [hst]
    have hsb : (i : Int) ∈ s → i < n := fun h => by have := (hb _ h).2; omega
    have hab : (i : Int) ∈ addOf s a.effects → i < n := fun h => by have := (hadd _ h).2; omega
    have hc : (!(s.contains (i : Int))) = true ↔ ¬ (i : Int) ∈ s := by simp
    rw [hc]
    constructor
    · rintro ⟨h1, h2 | ⟨h2, h3⟩⟩
      · by_cases h4 : (i : Int) ∈ s
        · exact .inl ⟨h4, .inr h2⟩
        · exact .inr ⟨h2, h4⟩
      · exact .inl ⟨h2, .inl h3⟩
    · rintro (⟨h1, h2⟩ | ⟨h1, h2⟩)
      · refine ⟨hsb h1, ?_⟩
        by_cases h3 : (i : Int) ∈ addOf s a.effects
        · exact .inl h3
        · exact .inr ⟨h1, h2.resolve_right h3⟩
      · exact ⟨hab h1, .inl h1⟩
  · constructor
    · intro h; exact absurd (hx0 h) h0
    · intro h
      rcases List.mem_append.1 h with h | h
      · have := (hb x (List.mem_filter.1 h).1).1; omega
      · have := (hadd x (List.mem_filter.1 h).1).1; omega
/-! ### States by numbers -/
/-- The state that a number shows. -/
def bitsL (n : Nat) (k : Nat) : List Int := ((List.range n).filter fun x => k.testBit x).map fun (x : Nat) => (x : Int)
theorem bitsL_succ (n k : Nat) : bitsL (n + 1) k = bitsL n k ++ if k.testBit n then [(n : Int)] else [] := by
  unfold bitsL
  rw [List.range_succ, List.filter_append, List.map_append]
  congr 1
  rw [List.filter_cons]
  cases k.testBit n <;> simp
theorem bitsL_low {n k j : Nat} (h : ∀ x, x < n → k.testBit x = j.testBit x) : bitsL n k = bitsL n j := by
  unfold bitsL
  congr 1
  exact List.filter_congr fun x hx => h x (List.mem_range.1 hx)
theorem bits_all : ∀ n : Nat, (List.range (2 ^ n)).map (bitsL n) = statesL n
  | 0 => rfl
  | n + 1 => by
    have ih := bits_all n
    rw [statesL, ← ih, Nat.pow_succ, Nat.mul_two, List.range_add, List.map_append, List.map_map, List.map_map]
    congr 1
    · refine List.map_congr_left fun k hk => ?_
      rw [bitsL_succ, Nat.testBit_lt_two_pow (List.mem_range.1 hk)]; simp
    · refine List.map_congr_left fun k hk => ?_
      simp only [Function.comp]
      rw [bitsL_succ, Nat.testBit_two_pow_add_eq, Nat.testBit_lt_two_pow (List.mem_range.1 hk)]
      rw [bitsL_low (k := 2 ^ n + k) (j := k) fun x hx => Nat.testBit_two_pow_add_gt hx k]; rfl
end Go.Proofs.YtocphglkceidhaaGreat
namespace Go.Proofs.YtocphglkceidhaaGreat
open Go.Ahl
/-- What a valid task's actions are like. -/
structure EOk (t : FTask) : Prop where
  rng : ∀ a ∈ t.actions, ∀ e ∈ a.effects, 0 ≤ e.lit.fact ∧ e.lit.fact < (t.facts.length : Int)
theorem stk_rising {t : FTask} (he : EOk t) {s p : List Int} (hs : risingB t.facts.length (-1) s = true) : ∀ k, risingB t.facts.length (-1) (stk t s p k) = true
  | 0 => hs
  | k + 1 => by
    have ih := stk_rising he (p := p) hs k
    rw [stk]
    cases hq : (p[k]?).bind fun n => t.actions[n.toNat]? with
    | none => exact ih
    | some a =>
      have ha : a ∈ t.actions := by
        cases hp : p[k]? with
        | none => rw [hp] at hq; simp at hq
        | some n => rw [hp] at hq; exact List.mem_of_getElem? hq
      show risingB _ (-1) (afterS (stk t s p k) a.effects) = true
      rw [afterS_eq (n := t.facts.length) (s := stk t s p k) (a := a) ih (he.rng a ha)]
      exact afterL_rising _ _ _
theorem rising_len {n : Nat} : ∀ {s : List Int} {p : Int}, risingB n p s = true → -1 ≤ p → p + s.length < n ∨ s = []
  | [], _, _, _ => .inr rfl
  | x :: s, p, h, hp => by
    rw [risingB, Bool.and_eq_true, Bool.and_eq_true] at h
    have h1 : p < x := of_decide_eq_true h.1.1
    have h2 : x < n := of_decide_eq_true h.1.2
    refine .inl ?_
    rw [List.length_cons]
    rcases rising_len h.2 (by omega) with q | q
    · push_cast; omega
    · subst q; simp; omega
theorem stk_ok {t : FTask} (he : EOk t) (hn : t.facts.length ≤ 1000000) {s p : List Int} (hs : risingB t.facts.length (-1) s = true) (k : Nat) : (stk t s p k).length ≤ 1000000 ∧ (stk t s p k).Pairwise (· < ·) := by
  have h := stk_rising he (p := p) hs k
  refine ⟨?_, (rising_pw h).1⟩
  rcases rising_len h (by omega) with q | q
  · omega
  · rw [q]; simp
/-- The next state, as the reference has it. -/
theorem stk_next {t : FTask} (he : EOk t) {s p : List Int} (hs : risingB t.facts.length (-1) s = true) {k : Nat} {n : Int} {a : FAct} (hp : p[k]? = some n) (ha : t.actions[n.toNat]? = some a) :
    stk t s p (k + 1) = afterL t.facts.length (stk t s p k) a := by
  rw [stk, hp, Option.bind_some, ha]
  exact afterS_eq (stk_rising he hs k) (he.rng a (List.mem_of_getElem? ha))
end Go.Proofs.YtocphglkceidhaaGreat
namespace Go.Proofs.YtocphglkceidhaaGreat
open Go.Ahl
/-! ### The largest set that keeps itself -/
section
variable {α : Type} (ini : α → Bool) (K : List α → α → Bool)
def goodP (l : List α) (p : α → Bool) : Prop := ∀ c ∈ l, p c = true → ini c = true ∧ K (l.filter p) c = true
def progL : Nat → List α → List α
  | 0, l => l
  | n + 1, l => if l.all (fun c => ini c && K l c) then l else progL n (l.filter fun c => ini c && K l c)
theorem filter_lt {l : List α} {p : α → Bool} (h : l.all p = false) : (l.filter p).length < l.length := by
  rcases Nat.lt_or_ge (l.filter p).length l.length with q | q
  · exact q
  · have : l.filter p = l := (List.filter_sublist).eq_of_length_le q
    rw [List.filter_eq_self] at this
    rw [List.all_eq_true.2 this] at h; simp at h
theorem progL_spec (hK : ∀ l l' c, (∀ x ∈ l, x ∈ l') → K l c = true → K l' c = true) : ∀ (n : Nat) (l : List α), l.length ≤ n → ∃ p, progL ini K n l = l.filter p ∧ goodP ini K l p ∧ ∀ q, goodP ini K l q → ∀ c ∈ l, q c = true → p c = true
  | 0, l, h => by
    have : l = [] := List.eq_nil_of_length_eq_zero (by omega)
    subst this
    exact ⟨fun _ => true, rfl, by intro c hc; simp at hc, by intro q _ c hc; simp at hc⟩
  | n + 1, l, h => by
    rw [progL]
    cases ha : l.all (fun c => ini c && K l c)
    · rw [if_neg (by simp)]
      have hlt := filter_lt ha
      obtain ⟨p', e, g, mx⟩ := progL_spec hK n (l.filter fun c => ini c && K l c) (by omega)
      have e1 : ∀ q : α → Bool, (l.filter fun c => ini c && K l c).filter q = l.filter (fun c => q c && (ini c && K l c)) := fun q => by rw [List.filter_filter]
      refine ⟨fun c => p' c && (ini c && K l c), by rw [e, e1], ?_, ?_⟩
      · intro c hc hp
        rw [← e1]
        simp only [Bool.and_eq_true] at hp
        exact g c (List.mem_filter.2 ⟨hc, by simp [hp.2]⟩) hp.1
      · intro q hq c hc hqc
        have hr : ∀ c ∈ l, q c = true → (ini c && K l c) = true := by
          intro c hc hqc
          obtain ⟨h1, h2⟩ := hq c hc hqc
          rw [h1, hK _ _ _ (fun x hx => (List.mem_filter.1 hx).1) h2]; rfl
        have hq' : goodP ini K (l.filter fun c => ini c && K l c) q := by
          intro c hc hqc
          obtain ⟨h1, h2⟩ := hq c (List.mem_filter.1 hc).1 hqc
          refine ⟨h1, ?_⟩
          rw [e1, show l.filter (fun c => q c && (ini c && K l c)) = l.filter q from List.filter_congr fun x hx => by
            cases hqx : q x
            · rfl
            · rw [hr x hx hqx]; rfl]
          exact h2
        show (p' c && (ini c && K l c)) = true
        rw [mx q hq' c (List.mem_filter.2 ⟨hc, hr c hc hqc⟩) hqc, hr c hc hqc]; rfl
    · rw [if_pos rfl]
      have hall := List.all_eq_true.1 ha
      refine ⟨fun _ => true, by rw [List.filter_eq_self.2 (fun _ _ => rfl)], ?_, fun _ _ _ _ _ => rfl⟩
      intro c hc _
      have := hall c hc
      simp only [Bool.and_eq_true] at this
      rw [List.filter_eq_self.2 (fun _ _ => rfl)]; exact this
end
/-! ### Clauses -/
def clauseT (s : List Int) (c : List FLit) : Bool := c.any fun x => s.contains x.fact != x.neg
def clausesT (s : List Int) (l : List (List FLit)) : Bool := l.all (clauseT s)
/-- Does a clause hold after an action wherever clauses hold? -/
def stepB (n : Nat) (l : List (List FLit)) (a : FAct) (c : List FLit) : Bool := (statesL n).all fun s => !(condHolds s a.pre && clausesT s l) || clauseT (afterL n s a) c
def keepB (n : Nat) (acts : List FAct) (l : List (List FLit)) (c : List FLit) : Bool := acts.all fun a => stepB n l a c
theorem keepB_mono (n : Nat) (acts : List FAct) : ∀ l l' c, (∀ x ∈ l, x ∈ l') → keepB n acts l c = true → keepB n acts l' c = true := by
  intro l l' c hll h
  unfold keepB stepB at *
  rw [List.all_eq_true] at *
  intro a ha
  have h := h a ha
  rw [List.all_eq_true] at *
  intro s hs
  have h := h s hs
  cases hc : condHolds s a.pre
  · rfl
  cases hl : clausesT s l'
  · rfl
  have : clausesT s l = true := List.all_eq_true.2 fun x hx => List.all_eq_true.1 hl x (hll x hx)
  rw [hc, this] at h; exact h
end Go.Proofs.YtocphglkceidhaaGreat
namespace Go.Proofs.YtocphglkceidhaaGreat
open Go.Ahl
/-! ### Clauses with one or two literals -/
def litI (i : Nat) : FLit := ⟨((i / 2 : Nat) : Int), i % 2 == 1⟩
def pairsFrom (n i : Nat) : List (List FLit) := ((List.range' (i + 1) (n - (i + 1))).filter fun k => i / 2 != k / 2).map fun k => [litI i, litI k]
def singles (n : Nat) : List (List FLit) := (List.range n).map fun i => [litI i]
def pairsL (n : Nat) : List (List FLit) := (List.range n).flatMap (pairsFrom n)
def hasOne (out : List (List FLit)) (x : FLit) : Bool := out.any fun d => decide (d = [x])
def leanStep (out : List (List FLit)) (c : List FLit) : List (List FLit) :=
  if c.length = 1 then out ++ [c] else match c with
    | [a, b] => if hasOne out a || hasOne out b then out else out ++ [[a, b]]
    | _ => out
/-- Those that no clause with one literal is in. -/
def leanL (out l : List (List FLit)) : List (List FLit) := l.foldl leanStep out
theorem leanStep_one {out : List (List FLit)} {c : List FLit} (h : c.length = 1) : leanStep out c = out ++ [c] := if_pos h
theorem leanStep_two (out : List (List FLit)) (a b : FLit) : leanStep out [a, b] = if hasOne out a || hasOne out b then out else out ++ [[a, b]] := rfl
theorem pairsFrom_mem {n i : Nat} {c : List FLit} : c ∈ pairsFrom n i ↔ ∃ k, i < k ∧ k < n ∧ i / 2 ≠ k / 2 ∧ c = [litI i, litI k] := by
  unfold pairsFrom
  rw [List.mem_map]
  constructor
  · rintro ⟨k, hk, rfl⟩
    rw [List.mem_filter, List.mem_range'_1] at hk
    exact ⟨k, by omega, by omega, by simpa using hk.2, rfl⟩
  · rintro ⟨k, h1, h2, h3, rfl⟩
    exact ⟨k, by rw [List.mem_filter, List.mem_range'_1]; exact ⟨by omega, by simpa using h3⟩, rfl⟩
theorem hasOne_iff {S : List (List FLit)} {x : FLit} : hasOne S x = true ↔ [x] ∈ S := by
  unfold hasOne; rw [List.any_eq_true]
  constructor
  · rintro ⟨d, hd, h⟩; have := of_decide_eq_true h; subst this; exact hd
  · intro h; exact ⟨_, h, by simp⟩
end Go.Proofs.YtocphglkceidhaaGreat
namespace Go.Proofs.YtocphglkceidhaaGreat
open Go.Ahl
/-! ### Groups: facts that are linked, as many as there can be -/
section
variable (L : Int → Int → Bool)
def bkLoop (rec : List Int → List Int → List Int → List (List Int)) (g : List Int) : List Int → List Int → List (List Int)
  | [], _ => []
  | x :: r, tried => rec (g ++ [x]) (r.filter (L x)) (tried.filter (L x)) ++ bkLoop rec g r (tried ++ [x])
def bkHead (g may tried : List Int) : List (List Int) := if may.length = 0 ∧ tried.length = 0 ∧ 1 < g.length then [Ahl.sortI g] else []
/-- The groups that begin with g, from facts that may be added, none of those that were tried. -/
def bk : Nat → List Int → List Int → List Int → List (List Int)
  | 0, _, _, _ => []
  | f + 1, g, may, tried => bkHead g may tried ++ bkLoop L (bk f) g may tried
def bkLoopN (rec : List Int → Nat) : List Int → Nat
  | [] => 0
  | x :: r => rec (r.filter (L x)) + bkLoopN rec r
/-- How many calls that takes. -/
def bkN : Nat → List Int → Nat
  | 0, _ => 0
  | f + 1, may => 1 + bkLoopN L (bkN f) may
theorem bkN_le : ∀ (f : Nat) (may : List Int), bkN L f may ≤ 2 ^ may.length
  | 0, may => Nat.zero_le _
  | f + 1, may => by
    have h : ∀ may : List Int, bkLoopN L (bkN L f) may + 1 ≤ 2 ^ may.length := by
      intro may
      induction may with
      | nil => simp [bkLoopN]
      | cons x r ih =>
        have h1 := bkN_le f (r.filter (L x))
        have h2 : 2 ^ (r.filter (L x)).length ≤ 2 ^ r.length := Nat.pow_le_pow_right (by omega) (List.length_filter_le _ _)
        rw [bkLoopN, List.length_cons, Nat.pow_succ]; omega
    have := h may
    rw [bkN]; omega
/-- A group that no fact can be added to. -/
structure MaxC (n : Int) (s : List Int) : Prop where
  srt : s.Pairwise (· < ·)
  rng : ∀ v ∈ s, 0 ≤ v ∧ v < n
  clq : ∀ a ∈ s, ∀ b ∈ s, a ≠ b → L a b = true
  max : ∀ v, 0 ≤ v → v < n → v ∉ s → ∃ a ∈ s, L v a = false
/-- What holds where the search goes on. -/
structure BK (n : Int) (g may tried : List Int) : Prop where
  gn : g.Nodup
  gr : ∀ v ∈ g, 0 ≤ v ∧ v < n
  gc : ∀ a ∈ g, ∀ b ∈ g, a ≠ b → L a b = true
  com : ∀ v, (v ∈ may ∨ v ∈ tried) ↔ (0 ≤ v ∧ v < n ∧ v ∉ g ∧ ∀ a ∈ g, L v a = true)
  mn : may.Nodup
  dis : ∀ v ∈ may, v ∉ tried
variable {L}
theorem BK.step (hsym : ∀ a b, L a b = L b a) (hirr : ∀ a, L a a = false) {n : Int} {g r tried : List Int} {x : Int} (h : BK L n g (x :: r) tried) : BK L n (g ++ [x]) (r.filter (L x)) (tried.filter (L x)) := by
  obtain ⟨hx0, hxn, hxg, hxa⟩ := (h.com x).1 (.inl List.mem_cons_self)
  have hnd := List.nodup_cons.1 h.mn
  refine ⟨?_, ?_, ?_, ?_, hnd.2.filter _, ?_⟩
  · rw [List.nodup_append]
    refine ⟨h.gn, by simp, fun a ha b hb => ?_⟩
    simp only [List.mem_singleton] at hb; subst hb
    rintro rfl; exact hxg ha
  · intro v hv
    rcases List.mem_append.1 hv with hv | hv
    · exact h.gr v hv
    · simp only [List.mem_singleton] at hv; subst hv; exact ⟨hx0, hxn⟩
  · intro a ha b hb hab
    simp only [List.mem_append, List.mem_singleton] at ha hb
    rcases ha with ha | rfl <;> rcases hb with hb | rfl
    · exact h.gc a ha b hb hab
    · rw [hsym]; exact hxa a ha
    · exact hxa b hb
    · exact absurd rfl hab
  · intro v
    rw [List.mem_filter, List.mem_filter]
    constructor
    · intro hv
      have hL : L x v = true := by rcases hv with hv | hv <;> exact hv.2
      have hvm : v ∈ x :: r ∨ v ∈ tried := by
        rcases hv with hv | hv
        · exact .inl (List.mem_cons_of_mem _ hv.1)
        · exact .inr hv.1
      obtain ⟨h1, h2, h3, h4⟩ := (h.com v).1 hvm
      have hvx : v ≠ x := by rintro rfl; rw [hirr] at hL; simp at hL
      refine ⟨h1, h2, by simp [h3, hvx], ?_⟩
      intro a ha
      rcases List.mem_append.1 ha with ha | ha
      · exact h4 a ha
      · simp only [List.mem_singleton] at ha; subst ha; rw [hsym]; exact hL
    · rintro ⟨h1, h2, h3, h4⟩
      simp only [List.mem_append, List.mem_singleton, not_or] at h3
      have hL : L x v = true := by rw [hsym]; exact h4 x (by simp)
      rcases (h.com v).2 ⟨h1, h2, h3.1, fun a ha => h4 a (List.mem_append_left _ ha)⟩ with hv | hv
      · rcases List.mem_cons.1 hv with rfl | hv
        · exact absurd rfl h3.2
        · exact .inl ⟨hv, hL⟩
      · exact .inr ⟨hv, hL⟩
  · intro v hv hv'
    exact h.dis v (List.mem_cons_of_mem _ (List.mem_filter.1 hv).1) (List.mem_filter.1 hv').1
theorem BK.next {n : Int} {g r tried : List Int} {x : Int} (h : BK L n g (x :: r) tried) : BK L n g r (tried ++ [x]) := by
  have hnd := List.nodup_cons.1 h.mn
  refine ⟨h.gn, h.gr, h.gc, fun v => ?_, hnd.2, fun v hv hv' => ?_⟩
  · rw [← h.com v]
    simp only [List.mem_cons, List.mem_append, List.not_mem_nil, or_false]
    constructor
    · rintro (h | h | h)
      · exact .inl (.inr h)
      · exact .inr h
      · exact .inl (.inl h)
    · rintro ((h | h) | h)
      · exact .inr (.inr h)
      · exact .inl h
      · exact .inr (.inl h)
  · rcases List.mem_append.1 hv' with h' | h'
    · exact h.dis v (List.mem_cons_of_mem _ hv) h'
    · simp only [List.mem_singleton] at h'; subst h'; exact hnd.1 hv
def Aim (L : Int → Int → Bool) (n : Int) (g may s : List Int) : Prop := MaxC L n s ∧ (∀ a ∈ g, a ∈ s) ∧ (∀ v ∈ s, v ∈ g ∨ v ∈ may) ∧ 2 ≤ s.length
theorem bkHead_mem (hsym : ∀ a b, L a b = L b a) (hirr : ∀ a, L a a = false) {n : Int} {g may tried s : List Int} (h : BK L n g may tried) : s ∈ bkHead g may tried ↔ Aim L n g may s ∧ may = [] := by
  unfold bkHead
  constructor
  · intro hs
    split at hs
    · rename_i hc
      obtain ⟨h1, h2, h3⟩ := hc
      have h1 := List.eq_nil_of_length_eq_zero h1
      have h2 := List.eq_nil_of_length_eq_zero h2
      simp only [List.mem_singleton] at hs
      subst hs; subst h1; subst h2
      have hp := sortI_perm g
      refine ⟨⟨⟨?_, ?_, ?_, ?_⟩, fun a ha => hp.mem_iff.2 ha, fun v hv => .inl (hp.mem_iff.1 hv), by rw [sortI_len]; omega⟩, rfl⟩
      · have hs := sortI_sorted g
        have hn : (Ahl.sortI g).Nodup := hp.nodup_iff.2 h.gn
        exact hs.imp₂ (fun a b h1 h2 => by omega) hn
      · intro v hv; exact h.gr v (hp.mem_iff.1 hv)
      · intro a ha b hb; exact h.gc a (hp.mem_iff.1 ha) b (hp.mem_iff.1 hb)
      · intro v h0 hn hv
        have hc := (h.com v).2
        simp only [List.not_mem_nil, or_self, imp_false, not_and] at hc
        have := hc h0 hn (fun q => hv (hp.mem_iff.2 q))
        simp only [Classical.not_forall] at this
        obtain ⟨a, ha, hl⟩ := this
        exact ⟨a, hp.mem_iff.2 ha, by simpa using hl⟩
    · simp at hs
  · rintro ⟨⟨hm, hg, hv, hl⟩, rfl⟩
    have hv : ∀ v ∈ s, v ∈ g := fun v q => by rcases hv v q with q | q; exact q; simp at q
    have hsn : s.Nodup := hm.srt.imp (fun h => by omega)
    have hp : s.Perm g := (List.perm_ext_iff_of_nodup hsn h.gn).2 fun v => ⟨hv v, hg v⟩
    have ht : tried = [] := by
      cases tried with
      | nil => rfl
      | cons y t =>
        obtain ⟨h1, h2, h3, h4⟩ := (h.com y).1 (.inr List.mem_cons_self)
        obtain ⟨a, ha, hl⟩ := hm.max y h1 h2 (fun q => h3 (hv y q))
        rw [h4 a (hv a ha)] at hl; simp at hl
    subst ht
    rw [if_pos ⟨rfl, rfl, by rw [← hp.length_eq]; omega⟩]
    simp only [List.mem_singleton]
    exact (sortI_eq hp (hm.srt.imp (fun h => by omega))).symm
theorem bk_mem (hsym : ∀ a b, L a b = L b a) (hirr : ∀ a, L a a = false) (n : Int) : ∀ (f : Nat) (g may tried : List Int), may.length < f → BK L n g may tried → ∀ s, s ∈ bk L f g may tried ↔ Aim L n g may s
  | 0, _, _, _, h, _, _ => absurd h (Nat.not_lt_zero _)
  | f + 1, g, may, tried, hf, h, s => by
    have loop : ∀ (may tried : List Int), may.length ≤ f → BK L n g may tried → (s ∈ bkLoop L (bk L f) g may tried ↔ Aim L n g may s ∧ ∃ v ∈ may, v ∈ s) := by
      intro may
      induction may with
      | nil => intro tried _ _; simp [bkLoop]
      | cons x r ih =>
        intro tried hl hb
        rw [List.length_cons] at hl
        have hb1 := BK.step hsym hirr hb
        have hb2 := BK.next hb
        obtain ⟨hx0, hxn, hxg, hxa⟩ := (hb.com x).1 (.inl List.mem_cons_self)
        rw [bkLoop, List.mem_append, bk_mem hsym hirr n f (g ++ [x]) (r.filter (L x)) (tried.filter (L x)) (Nat.lt_of_le_of_lt (List.length_filter_le _ _) (by omega)) hb1 s, ih (tried ++ [x]) (by omega) hb2]
        constructor
        · rintro (⟨h1, h2, h3, h4⟩ | ⟨⟨h1, h2, h3, h4⟩, v, h5, h6⟩)
          · refine ⟨⟨h1, fun a ha => h2 a (List.mem_append_left _ ha), fun v hv => ?_, h4⟩, x, List.mem_cons_self, h2 x (by simp)⟩
            rcases h3 v hv with q | q
            · rcases List.mem_append.1 q with q | q
              · exact .inl q
              · simp only [List.mem_singleton] at q; subst q; exact .inr List.mem_cons_self
            · exact .inr (List.mem_cons_of_mem _ (List.mem_filter.1 q).1)
          · refine ⟨⟨h1, h2, fun v hv => ?_, h4⟩, v, List.mem_cons_of_mem _ h5, h6⟩
            rcases h3 v hv with q | q
            · exact .inl q
            · exact .inr (List.mem_cons_of_mem _ q)
        · rintro ⟨⟨h1, h2, h3, h4⟩, v, h5, h6⟩
          by_cases hxs : x ∈ s
          · left
            refine ⟨h1, fun a ha => ?_, fun v hv => ?_, h4⟩
            · rcases List.mem_append.1 ha with q | q
              · exact h2 a q
              · simp only [List.mem_singleton] at q; subst q; exact hxs
            · rcases h3 v hv with q | q
              · exact .inl (List.mem_append_left _ q)
              · rcases List.mem_cons.1 q with rfl | q
                · exact .inl (by simp)
                · have hvx : x ≠ v := by rintro rfl; exact (List.nodup_cons.1 hb.mn).1 q
                  exact .inr (List.mem_filter.2 ⟨q, h1.clq x hxs v hv hvx⟩)
          · right
            have hr : ∀ v ∈ s, v ∈ x :: r → v ∈ r := fun v hv q => by
              rcases List.mem_cons.1 q with rfl | q
              · exact absurd hv hxs
              · exact q
            exact ⟨⟨h1, h2, fun v hv => (h3 v hv).imp id (hr v hv), h4⟩, v, hr v h6 h5, h6⟩
    rw [bk, List.mem_append, bkHead_mem hsym hirr h, loop may tried (by omega) h]
    constructor
    · rintro (⟨q, _⟩ | ⟨q, _⟩) <;> exact q
    · intro q
      cases may with
      | nil => exact .inl ⟨q, rfl⟩
      | cons x r =>
        refine .inr ⟨q, ?_⟩
        obtain ⟨hx0, hxn, hxg, hxa⟩ := (h.com x).1 (.inl List.mem_cons_self)
        by_cases hxs : x ∈ s
        · exact ⟨x, List.mem_cons_self, hxs⟩
        · obtain ⟨a, ha, hl⟩ := q.1.max x hx0 hxn hxs
          rcases q.2.2.1 a ha with hag | ham
          · rw [hxa a hag] at hl; simp at hl
          · exact ⟨a, ham, ha⟩
theorem bk_nodup (hsym : ∀ a b, L a b = L b a) (hirr : ∀ a, L a a = false) (n : Int) : ∀ (f : Nat) (g may tried : List Int), may.length < f → BK L n g may tried → (bk L f g may tried).Nodup
  | 0, _, _, _, h, _ => absurd h (Nat.not_lt_zero _)
  | f + 1, g, may, tried, hf, h => by
    have loop : ∀ (may tried : List Int), may.length ≤ f → BK L n g may tried → (bkLoop L (bk L f) g may tried).Nodup ∧ ∀ s ∈ bkLoop L (bk L f) g may tried, Aim L n g may s ∧ ∃ v ∈ may, v ∈ s := by
      intro may
      induction may with
      | nil => intro tried _ _; simp [bkLoop]
      | cons x r ih =>
        intro tried hl hb
        rw [List.length_cons] at hl
        have hb1 := BK.step hsym hirr hb
        have hb2 := BK.next hb
        have hlt : (r.filter (L x)).length < f := Nat.lt_of_le_of_lt (List.length_filter_le _ _) (by omega)
        obtain ⟨hx0, hxn, hxg, hxa⟩ := (hb.com x).1 (.inl List.mem_cons_self)
        obtain ⟨i1, i2⟩ := ih (tried ++ [x]) (by omega) hb2
        have hm := bk_mem hsym hirr n f (g ++ [x]) (r.filter (L x)) (tried.filter (L x)) hlt hb1
        rw [bkLoop]
        refine ⟨List.nodup_append.2 ⟨bk_nodup hsym hirr n f _ _ _ hlt hb1, i1, ?_⟩, ?_⟩
        · rintro s hs s' hs' rfl
          have hxs := ((hm s).1 hs).2.1 x (by simp)
          rcases (i2 s hs').1.2.2.1 x hxs with q | q
          · exact hxg q
          · exact (List.nodup_cons.1 hb.mn).1 q
        · intro s hs
          rcases List.mem_append.1 hs with hs | hs
          · obtain ⟨h1, h2, h3, h4⟩ := (hm s).1 hs
            refine ⟨⟨h1, fun a ha => h2 a (List.mem_append_left _ ha), fun v hv => ?_, h4⟩, x, List.mem_cons_self, h2 x (by simp)⟩
            rcases h3 v hv with q | q
            · rcases List.mem_append.1 q with q | q
              · exact .inl q
              · simp only [List.mem_singleton] at q; subst q; exact .inr List.mem_cons_self
            · exact .inr (List.mem_cons_of_mem _ (List.mem_filter.1 q).1)
          · obtain ⟨⟨h1, h2, h3, h4⟩, v, h5, h6⟩ := i2 s hs
            exact ⟨⟨h1, h2, fun v hv => (h3 v hv).imp id (List.mem_cons_of_mem _), h4⟩, v, List.mem_cons_of_mem _ h5, h6⟩
    obtain ⟨l1, l2⟩ := loop may tried (by omega) h
    rw [bk, List.nodup_append]
    refine ⟨by unfold bkHead; split <;> simp, l1, ?_⟩
    rintro s hs s' hs' rfl
    obtain ⟨_, rfl⟩ := (bkHead_mem hsym hirr h).1 hs
    obtain ⟨_, v, hv, _⟩ := l2 s hs'
    simp at hv
end
end Go.Proofs.YtocphglkceidhaaGreat
namespace Go.Proofs.YtocphglkceidhaaGreat
open Go.Ahl
/-! ### Lists in order -/
def cmpInts : List Int → List Int → Int
  | [], [] => 0
  | [], _ :: _ => -1
  | _ :: _, [] => 1
  | a :: l, b :: r => if a < b then -1 else if b < a then 1 else cmpInts l r
theorem cmpInts_refl : ∀ a, cmpInts a a = 0
  | [] => rfl
  | x :: l => by rw [cmpInts, if_neg (by omega), if_neg (by omega), cmpInts_refl l]
theorem cmpInts_anti : ∀ {a b : List Int}, cmpInts a b = 0 → a = b
  | [], [], _ => rfl
  | [], _ :: _, h => by simp [cmpInts] at h
  | _ :: _, [], h => by simp [cmpInts] at h
  | x :: l, y :: r, h => by
    rw [cmpInts] at h
    split at h
    · omega
    · split at h
      · omega
      · rw [cmpInts_anti h]; congr 1; omega
theorem cmpInts_swap : ∀ {a b : List Int}, cmpInts a b < 0 ↔ 0 < cmpInts b a
  | [], [] => by simp [cmpInts]
  | [], _ :: _ => by simp [cmpInts]
  | _ :: _, [] => by simp [cmpInts]
  | x :: l, y :: r => by
    rw [cmpInts, cmpInts]
    by_cases h1 : x < y
    · rw [if_pos h1, if_neg (by omega), if_pos h1]; omega
    · rw [if_neg h1]
      by_cases h2 : y < x
      · rw [if_pos h2, if_pos h2]; omega
      · rw [if_neg h2, if_neg h2, if_neg h1]; exact cmpInts_swap
theorem cmpInts_trans : ∀ {a b c : List Int}, cmpInts a b < 0 → cmpInts b c < 0 → cmpInts a c < 0
  | [], [], _, h, _ => by simp [cmpInts] at h
  | [], _ :: _, [], _, k => by simp [cmpInts] at k
  | [], _ :: _, _ :: _, _, _ => by simp [cmpInts]
  | _ :: _, [], _, h, _ => by simp [cmpInts] at h
  | _ :: _, _ :: _, [], _, k => by simp [cmpInts] at k
  | x :: l, y :: r, z :: t, h, k => by
    rw [cmpInts] at h k ⊢
    by_cases h1 : x < y
    · by_cases k1 : y < z
      · rw [if_pos (by omega)]; omega
      · rw [if_neg k1] at k
        by_cases k2 : z < y
        · rw [if_pos k2] at k; omega
        · rw [if_pos (by omega)]; omega
    · rw [if_neg h1] at h
      by_cases h2 : y < x
      · rw [if_pos h2] at h; omega
      · rw [if_neg h2] at h
        by_cases k1 : y < z
        · rw [if_pos (by omega)]; omega
        · rw [if_neg k1] at k
          by_cases k2 : z < y
          · rw [if_pos k2] at k; omega
          · rw [if_neg k2] at k
            rw [if_neg (by omega), if_neg (by omega)]; exact cmpInts_trans h k
def ltL (a b : List Int) : Prop := cmpInts a b < 0
theorem ltL_irrefl (a : List Int) : ¬ ltL a a := by unfold ltL; rw [cmpInts_refl]; omega
theorem ltL_unique : ∀ {a b : List (List Int)}, a.Pairwise ltL → b.Pairwise ltL → (∀ x, x ∈ a ↔ x ∈ b) → a = b
  | [], [], _, _, _ => rfl
  | [], y :: b, _, _, h => by have := (h y).2 List.mem_cons_self; simp at this
  | x :: a, [], _, _, h => by have := (h x).1 List.mem_cons_self; simp at this
  | x :: a, y :: b, ha, hb, h => by
    obtain ⟨ha1, ha2⟩ := List.pairwise_cons.1 ha
    obtain ⟨hb1, hb2⟩ := List.pairwise_cons.1 hb
    have hxy : x = y := by
      rcases List.mem_cons.1 ((h x).1 List.mem_cons_self) with e | e
      · exact e
      · rcases List.mem_cons.1 ((h y).2 List.mem_cons_self) with e' | e'
        · exact e'.symm
        · exact absurd (cmpInts_trans (hb1 x e) (ha1 y e')) (ltL_irrefl y)
    subst hxy
    rw [ltL_unique ha2 hb2 fun z => ?_]
    constructor
    · intro hz
      rcases List.mem_cons.1 ((h z).1 (List.mem_cons_of_mem _ hz)) with rfl | e
      · exact absurd (ha1 z hz) (ltL_irrefl z)
      · exact e
    · intro hz
      rcases List.mem_cons.1 ((h z).2 (List.mem_cons_of_mem _ hz)) with rfl | e
      · exact absurd (hb1 z hz) (ltL_irrefl z)
      · exact e
/-- A list put into lists in order: behind those that come earlier. -/
def insAt (l : List (List Int)) (s : List Int) : Nat := (l.takeWhile fun x => decide (cmpInts x s < 0)).length
def insL (l : List (List Int)) (s : List Int) : List (List Int) := l.take (insAt l s) ++ [s] ++ l.drop (insAt l s)
theorem insL_mem {l : List (List Int)} {s x : List Int} : x ∈ insL l s ↔ x ∈ l ∨ x = s := by
  unfold insL
  rw [List.mem_append, List.mem_append, List.mem_singleton]
  constructor
  · rintro ((h | h) | h)
    · exact .inl (List.mem_of_mem_take h)
    · exact .inr h
    · exact .inl (List.mem_of_mem_drop h)
  · rintro (h | h)
    · rw [← List.take_append_drop (insAt l s) l, List.mem_append] at h
      rcases h with h | h
      · exact .inl (.inl h)
      · exact .inr h
    · exact .inl (.inr h)
theorem insL_cons (x : List Int) (l : List (List Int)) (s : List Int) : insL (x :: l) s = if cmpInts x s < 0 then x :: insL l s else s :: x :: l := by
  unfold insL insAt
  rw [List.takeWhile_cons]
  by_cases h : cmpInts x s < 0
  · simp [h]
  · simp [h]
theorem insL_strict : ∀ {l : List (List Int)} {s : List Int}, l.Pairwise ltL → s ∉ l → (insL l s).Pairwise ltL
  | [], s, _, _ => by simp [insL, insAt]
  | x :: l, s, h, hs => by
    obtain ⟨h1, h2⟩ := List.pairwise_cons.1 h
    rw [insL_cons]
    have hsx : s ≠ x := fun e => hs (by rw [e]; exact List.mem_cons_self)
    split
    · rename_i hx
      refine List.pairwise_cons.2 ⟨fun y hy => ?_, insL_strict h2 (fun q => hs (List.mem_cons_of_mem _ q))⟩
      rcases insL_mem.1 hy with hy | rfl
      · exact h1 y hy
      · exact hx
    · rename_i hx
      have hlt : cmpInts s x < 0 := by
        rcases Int.lt_trichotomy (cmpInts x s) 0 with q | q | q
        · exact absurd q hx
        · exact absurd (cmpInts_anti q).symm hsx
        · exact cmpInts_swap.2 q
      refine List.pairwise_cons.2 ⟨fun y hy => ?_, h⟩
      rcases List.mem_cons.1 hy with rfl | hy
      · exact hlt
      · exact cmpInts_trans hlt (h1 y hy)
theorem insAll : ∀ (l out : List (List Int)), out.Pairwise ltL → l.Nodup → (∀ x ∈ l, x ∉ out) → (l.foldl insL out).Pairwise ltL ∧ ∀ x, x ∈ l.foldl insL out ↔ x ∈ l ∨ x ∈ out
  | [], out, h, _, _ => ⟨h, by simp⟩
  | s :: l, out, h, hn, ho => by
    obtain ⟨n1, n2⟩ := List.nodup_cons.1 hn
    have := insAll l (insL out s) (insL_strict h (ho s List.mem_cons_self)) n2 (fun x hx q => by
      rcases insL_mem.1 q with q | rfl
      · exact ho x (List.mem_cons_of_mem _ hx) q
      · exact n1 hx)
    refine ⟨this.1, fun x => ?_⟩
    rw [List.foldl_cons, this.2 x, insL_mem, List.mem_cons]
    constructor
    · rintro (h | h | h)
      · exact .inl (.inr h)
      · exact .inr h
      · exact .inl (.inl h)
    · rintro ((h | h) | h)
      · exact .inr (.inr h)
      · exact .inl h
      · exact .inr (.inl h)
/-! ### All states -/
theorem statesL_all : ∀ (n : Nat) (s : List Int), s.Pairwise (· < ·) → (∀ v ∈ s, 0 ≤ v ∧ v < n) → s ∈ statesL n
  | 0, s, _, h => by
    cases s with
    | nil => simp [statesL]
    | cons x s => have := h x List.mem_cons_self; omega
  | n + 1, s, hp, h => by
    rw [statesL, List.mem_append, List.mem_map]
    by_cases hn : (n : Int) ∈ s
    · right
      have hne : s ≠ [] := by rintro rfl; simp at hn
      have hlast : s.getLast hne = (n : Int) := by
        have e := List.dropLast_concat_getLast hne
        rw [← e] at hn hp
        rcases List.mem_append.1 hn with q | q
        · have h1 := (List.pairwise_append.1 hp).2.2 _ q _ (by simp : s.getLast hne ∈ [s.getLast hne])
          have h2 := (h _ (List.getLast_mem hne)).2
          omega
        · simp only [List.mem_singleton] at q; exact q.symm
      have e := List.dropLast_concat_getLast hne
      rw [hlast] at e
      refine ⟨s.dropLast, statesL_all n _ ?_ ?_, e⟩
      · rw [← e] at hp; exact (List.pairwise_append.1 hp).1
      · intro v hv
        have h1 := h v ((List.dropLast_sublist _).subset hv)
        rw [← e] at hp
        have := (List.pairwise_append.1 hp).2.2 v hv (n : Int) (by simp)
        omega
    · left
      refine statesL_all n s hp fun v hv => ?_
      have := h v hv
      have : v ≠ (n : Int) := by rintro rfl; exact hn hv
      omega
theorem statesL_nodup : ∀ n : Nat, (statesL n).Nodup
  | 0 => by simp [statesL]
  | n + 1 => by
    rw [statesL, List.nodup_append]
    refine ⟨statesL_nodup n, ?_, ?_⟩
    · exact List.pairwise_map.2 ((statesL_nodup n).imp fun h q => h (List.append_cancel_right q))
    · rintro a ha b hb rfl
      obtain ⟨r, _, rfl⟩ := List.mem_map.1 hb
      have := (rising_pw (statesL_mem n _ ha).2).2 (n : Int) (by simp)
      omega
end Go.Proofs.YtocphglkceidhaaGreat
