/- Contracts of the given program's functions, and an abstract layer over the model; no condition. -/
import Derived.Test.YtbnhijapbnfohaaBase4
set_option linter.unusedVariables false
set_option linter.unusedSimpArgs false
/- The abstract layer, part 32: new memory that is told as what may be written to at any time. -/
namespace Go.Ahl
def kindV : Value → Option Kind
  | .int k _ => some (.int k)
  | .string _ => some .str
  | .bool _ => some .bool
  | _ => none
theorem kindV_is {v : Value} {K : Kind} (h : kindV v = some K) : K.is v := by
  cases v <;> simp [kindV] at h <;> subst h <;> exact ⟨_, rfl⟩
/-- A cell's value, told as one that anyone may have written to. -/
inductive Wkn : AV → AV → Prop where
  | int (k : IntKind) (n : Int) : Wkn (.int k n) (.cell (.int k))
  | str (s : ByteArray) : Wkn (.str s) (.cell .str)
  | bool (b : Bool) : Wkn (.bool b) (.cell .bool)
  | nil : Wkn (.slice .nil []) (.wslice [])
  | slice (es es' : List (List AV)) (hl : es.length = es'.length) (hle : ∀ (i : Nat) e e', es[i]? = some e → es'[i]? = some e' → e.length = e'.length)
      (h : ∀ (i : Nat) e e', es[i]? = some e → es'[i]? = some e' → ∀ (j : Nat) x y, e[j]? = some x → e'[j]? = some y → Wkn x y) : Wkn (.slice .fresh es) (.wslice es')
/-- What was known in m1 of blocks from n on, told as what may be written to; of the others what m knows. -/
def Mem.weaken (m m1 : Mem) (n : Nat) : Mem where
  im b o := if b < n then m.im b o else (m1.im b o).bind fun v => if (kindV v).isSome then none else some v
  bs := m.bs
  mp := m.mp
  base := m.base
  wk b o := if b < n then m.wk b o else (m1.im b o).bind kindV
theorem get_both {α β : Type} {l : List α} {l' : List β} {i : Nat} {y : β} (h : l.length = l'.length) (e : l'[i]? = some y) : ∃ x, l[i]? = some x :=
  ⟨l[i]'(by rw [h]; exact lt_of_get e), List.getElem?_eq_getElem _⟩
theorem Wkn.rel {m m1 : Mem} {loc loc1 : List Loc} {n : Nat} (hb : m1.base = n) (hl0 : 0 < loc.length) {a b : AV} (h : Wkn a b) : ∀ {v : Value}, Rel m1 loc1 a v →
    Rel (m.weaken m1 n) loc b v ∧ (∀ K, b = .cell K → kindV v = some K) ∧ (b.isCell = false → kindV v = none) := by
  induction h with
  | int k i => intro v hr; cases hr; exact ⟨.cell _ _ ⟨_, rfl⟩, by rintro K e; injection e with e; subst e; rfl, by simp [AV.isCell]⟩
  | str s => intro v hr; cases hr; exact ⟨.cell _ _ ⟨_, rfl⟩, by rintro K e; injection e with e; subst e; rfl, by simp [AV.isCell]⟩
  | bool b => intro v hr; cases hr; exact ⟨.cell _ _ ⟨_, rfl⟩, by rintro K e; injection e with e; subst e; rfl, by simp [AV.isCell]⟩
  | nil =>
    intro v hr
    cases hr with
    | slice _ _ a cap sz b o f hcap htok hsz ha hc hr =>
      exact ⟨.wslice [] a cap 0 0 0 (fun _ _ => undef) hl0 hcap (by simp) (fun h => absurd rfl h) (by simp) (by simp) (by simp), by simp, fun _ => rfl⟩
  | slice es es' hl hle h ih =>
    intro v hr
    cases hr with
    | slice _ _ a cap sz b o f hcap htok hsz ha hc hr =>
      refine ⟨?_, by simp, fun _ => rfl⟩
      rw [hl]
      have hne : es' ≠ [] → es ≠ [] := fun q q' => by subst q'; exact q (List.length_eq_zero_iff.1 hl.symm)
      have hn : ∀ (i : Nat) e', es'[i]? = some e' → ¬ b < n := fun i e' he => by
        have hi := lt_of_get he
        have hq : es ≠ [] := by intro q; subst q; simp at hl; omega
        have := htok (by omega) b o (ha hq)
        omega
      have hcell : ∀ (i : Nat) e', es'[i]? = some e' → ∀ (j : Nat) y, e'[j]? = some y → ∃ x e, es[i]? = some e ∧ e[j]? = some x ∧ m1.im b (o + (i * sz + j)) = some (f i j) := fun i e' he j y hy => by
        obtain ⟨e, he1⟩ := get_both hl he
        obtain ⟨x, hx⟩ := get_both (hle i e e' he1 he) hy
        exact ⟨x, e, he1, hx, hc i (lt_of_get he1) j (by rw [← hsz e (List.mem_of_getElem? he1)]; exact lt_of_get hx)⟩
      refine .wslice es' a cap sz b o f hl0 (by omega) (fun e' he' => ?_) (fun q => ha (hne q)) (fun i e' he j K hK => ?_) (fun i e' he j y hy hyc => ?_) (fun i e' he j y hy hyc => ?_)
      · obtain ⟨i, hi, rfl⟩ := List.mem_iff_getElem.1 he'
        obtain ⟨e, he1⟩ := get_both hl (List.getElem?_eq_getElem hi)
        rw [← hle i e _ he1 (List.getElem?_eq_getElem hi)]; exact hsz e (List.mem_of_getElem? he1)
      · obtain ⟨x, e, h1, h2, h3⟩ := hcell i e' he j _ hK
        obtain ⟨_, q, _⟩ := ih i e e' h1 he j x _ h2 hK (hr i e h1 j x h2)
        simp only [Mem.weaken]; rw [if_neg (hn i e' he), h3]; exact q K rfl
      · obtain ⟨x, e, h1, h2, h3⟩ := hcell i e' he j _ hy
        obtain ⟨_, _, q⟩ := ih i e e' h1 he j x _ h2 hy (hr i e h1 j x h2)
        simp only [Mem.weaken]; rw [if_neg (hn i e' he), h3]; simp [q hyc]
      · obtain ⟨x, e, h1, h2, h3⟩ := hcell i e' he j _ hy
        exact (ih i e e' h1 he j x _ h2 hy (hr i e h1 j x h2)).1
/-- A value in which nothing is said of new memory. -/
def Unf (a : AV) : Prop := ∀ m v n, Rel m [] a v → Rel { m with base := n } [] a v
def UnfL (l : List AV) : Prop := ∀ x ∈ l, Unf x
theorem Unf.int (k : IntKind) (n : Int) : Unf (.int k n) := fun m v n h => by cases h; exact .int _ _
theorem Unf.str (s : ByteArray) : Unf (.str s) := fun m v n h => by cases h; exact .str _
theorem Unf.bool (b : Bool) : Unf (.bool b) := fun m v n h => by cases h; exact .bool _
theorem Unf.slice {t : Tok} (ht : t = .unk ∨ t = .nil ∨ t = .zero) {es : List (List AV)} (h : ∀ e ∈ es, UnfL e) : Unf (.slice t es) := fun m v n hr => by
  cases hr with
  | slice _ _ a cap sz b o f hcap htok hsz ha hc hr =>
    refine .slice t es a cap sz b o f hcap ?_ hsz ha hc (fun i e he j x hx => h e (List.mem_of_getElem? he) x (List.mem_of_getElem? hx) m _ n (hr i e he j x hx))
    rcases ht with rfl | rfl | rfl <;> exact htok
theorem Unf.map {α : Type} {enc : α → List AV} (h : ∀ x, UnfL (enc x)) (l : List α) : Unf (.slice .unk (l.map enc)) :=
  .slice (.inl rfl) fun e he => by obtain ⟨x, _, rfl⟩ := List.mem_map.1 he; exact h x
theorem Unf.nil : Unf (.slice .nil []) := .slice (.inr (.inl rfl)) (by simp)
theorem Unf.agg {l : List AV} (h : UnfL l) : Unf (.agg l) := fun m v n hr => by
  cases hr with
  | agg _ vs hlen hr => exact .agg _ vs hlen fun j x v e1 e2 => h x (List.mem_of_getElem? e1) m v n (hr j x v e1 e2)
theorem UnfL.nil : UnfL [] := fun x h => by simp at h
theorem UnfL.cons {x : AV} {l : List AV} (h : Unf x) (k : UnfL l) : UnfL (x :: l) := fun y hy => by
  rcases List.mem_cons.1 hy with rfl | hy
  · exact h
  · exact k y hy
theorem UnfL.app {l k : List AV} (h : UnfL l) (h' : UnfL k) : UnfL (l ++ k) := fun y hy => by
  rcases List.mem_append.1 hy with hy | hy
  · exact h y hy
  · exact h' y hy
def AV.flat : AV → Bool
  | .int .. | .bool _ | .str _ => true
  | _ => false
def Wkn1 (x y : AV) : Prop := Wkn x y ∨ (x = y ∧ x.flat = true)
def WknT (a b : AV) : Prop := Wkn1 a b ∨ ∃ xs ys, a = .tuple xs ∧ b = .tuple ys ∧ xs.length = ys.length ∧ ∀ (j : Nat) x y, xs[j]? = some x → ys[j]? = some y → Wkn1 x y
theorem Wkn1.rel {m m1 : Mem} {loc loc1 : List Loc} {n : Nat} (hb : m1.base = n) (hl0 : 0 < loc.length) {a b : AV} (h : Wkn1 a b) {v : Value} (hr : Rel m1 loc1 a v) : Rel (m.weaken m1 n) loc b v := by
  rcases h with h | ⟨rfl, h⟩
  · exact (h.rel hb hl0 hr).1
  · cases hr <;> simp [AV.flat] at h <;> constructor
theorem WknT.rel {m m1 : Mem} {loc loc1 : List Loc} {n : Nat} (hb : m1.base = n) (hl0 : 0 < loc.length) {a b : AV} (h : WknT a b) {v : Value} (hr : Rel m1 loc1 a v) : Rel (m.weaken m1 n) loc b v := by
  rcases h with h | ⟨xs, ys, rfl, rfl, hl, h⟩
  · exact h.rel hb hl0 hr
  · cases hr with
    | tuple _ vs hlen hr =>
      refine .tuple ys vs (by omega) fun j y v e1 e2 => ?_
      obtain ⟨x, hx⟩ := get_both hl e1
      exact (h j x y hx e1).rel hb hl0 (hr j x v hx e2)
/-- A call, whose result is new memory: this may be written to from now on. -/
theorem ACalls.weak {P : Program} {f : FuncId} {args : List AV} {R : Cont} {Q : AV → Prop} (h : ACalls P f args [] R) (hab : ∀ r σ', R r σ' → ∃ b, WknT r b ∧ Q b) (hi : ∀ x ∈ args, Ids 0 x) (hu : UnfL args) (σ : Store) :
    ACalls P f args σ (fun r σ' => Q r ∧ σ' = σ ++ [.dead]) := by
  intro m loc w vs hs ha
  let m0 : Mem := { m.strip with base := w.heap.size }
  have hS0 : SRel m0 [] [] w := by
    have h1 := (srel_base hs).strip fun _ _ q => q.strip
    exact ⟨h1.len, h1.im, h1.bs, by intro i l o e; simp at e, by intro i j l l' o o' b e; simp at e, h1.lt, h1.mp, by intro i l o b e; simp at e,
      ⟨Nat.le_refl _, by rintro b ⟨i, e | ⟨_, _, _, e, _⟩⟩ <;> simp at e, fun b o K e => by simp [m0, Mem.strip] at e, fun b o v q e => by
        have := hs.im_lt (b := b) (o := o) (v := v) e
        have q : w.heap.size ≤ b := q
        omega⟩⟩
  have hA : ArgsRel m0 [] args vs := by
    refine ⟨ha.1, fun j x v e1 e2 => ?_⟩
    have h1 := (ha.2 j x v e1 e2).take (n := 0) (hi x (List.mem_of_getElem? e1))
    rw [List.take_zero] at h1
    exact hu x (List.mem_of_getElem? e1) _ _ _ h1.strip
  have key : ∀ v w', ARet [] m0 w R v w' → ARet loc m w (fun r σ' => Q r ∧ σ' = σ ++ [.dead]) v w' := by
    rintro v w' ⟨r, σ', m1, loc1, hR, hrel, hsr, hext⟩
    obtain ⟨b, hb1, hb2⟩ := hab r σ' hR
    have hbase : m1.base = w.heap.size := hext.mem.base
    have hfr : ∀ k, k < w.heap.size → w'.heap[k]? = w.heap[k]? := fun k hk => hext.frame k hk (by rintro ⟨i, e | ⟨_, _, _, e, _⟩⟩ <;> simp at e) (fun _ => rfl)
    let m2 := m.weaken m1 w.heap.size
    have him : ∀ k o, k < w.heap.size → m2.im k o = m.im k o := fun k o hk => if_pos hk
    have hwk : ∀ k o, k < w.heap.size → m2.wk k o = m.wk k o := fun k o hk => if_pos hk
    have hwlt : ∀ k o K, m.wk k o = some K → k < w.heap.size := fun k o K e => by
      obtain ⟨_, _, arr, t, fz, v, h3, _⟩ := hs.ok.wk k o K e
      exact lt_of_heap h3
    have hle : m.le m2 := ⟨fun k o v e => by rw [him k o (hs.im_lt e)]; exact e, fun _ _ e => e, fun _ _ e => e, fun k o K e => by rw [hwk k o (hwlt k o K e)]; exact e, rfl⟩
    have hnew : ∀ k o v, ¬ k < w.heap.size → m2.im k o = some v → m1.im k o = some v := fun k o v hk e => by
      simp only [m2, Mem.weaken] at e
      rw [if_neg hk] at e
      cases e1 : m1.im k o with
      | none => rw [e1] at e; simp at e
      | some u =>
        rw [e1] at e; simp only [Option.bind_some] at e
        split at e
        · simp at e
        · exact e
    have hS2 : SRel m2 loc σ w' := by
      refine ⟨hs.len, ?_, ?_, ?_, hs.inj, fun b e => Nat.lt_of_lt_of_le (hs.lt b e) hext.size, ?_, hs.mpo, ?_⟩
      · intro k o v e
        by_cases hk : k < w.heap.size
        · rw [him k o hk] at e
          have := hs.im k o v e
          simpa [World.cell?, hfr k hk] using this
        · exact hsr.im k o v (hnew k o v hk e)
      · intro k n e
        rw [hfr k (hs.bs_lt (b := k) (n := n) e)]; exact hs.bs k n e
      · intro i l o e1 e2
        exact (hs.obj i l o e1 e2).mono hle (.refl _ _) (fun k e => hfr k (hs.lt k (own_names e1 e))) (fun k off e => him k off (hs.lt k (own_names e1 e)))
      · intro k e q
        rw [hfr k (hs.mp_lt (b := k) (e := e) q)]; exact hs.mp k e q
      · refine ⟨Nat.le_trans hs.ok.low hext.size, hs.ok.own, fun k o K e => ?_, fun k o v q e => ?_⟩
        · by_cases hk : k < w.heap.size
          · rw [hwk k o hk] at e
            obtain ⟨h1, h2, arr, t, fz, v, h3, h4, h5, h6⟩ := hs.ok.wk k o K e
            exact ⟨h1, by rw [him k o hk]; exact h2, arr, t, fz, v, by rw [hfr k hk]; exact h3, h4, h5, by rw [frozen_same (hfr k hk)]; exact h6⟩
          · simp only [m2, Mem.weaken] at e
            rw [if_neg hk] at e
            cases e1 : m1.im k o with
            | none => rw [e1] at e; simp at e
            | some u =>
              rw [e1] at e; simp only [Option.bind_some] at e
              have hc := hsr.im k o u e1
              refine ⟨fun q => hk (hs.lt k q), ?_, ?_⟩
              · simp only [m2, Mem.weaken]; rw [if_neg hk, e1]; simp [e]
              · have hz := hsr.ok.fz k o u (by rw [hbase]; omega) e1
                unfold World.cell? at hc
                split at hc
                · rename_i arr t fz hh
                  simp at hc
                  exact ⟨arr, t, fz, u, hh, hc, kindV_is e, hz⟩
                · simp at hc
        · by_cases hk : k < w.heap.size
          · rw [him k o hk] at e
            rw [frozen_same (hfr k hk)]; exact hs.ok.fz k o v q e
          · exact hsr.ok.fz k o v (by rw [hbase]; omega) (hnew k o v hk e)
    have hE2 : Ext loc.length m loc w m2 loc w' := ⟨hext.os, hext.tape, hext.output, hext.drawn, hext.size, hle, .refl _ _, fun _ e => .inl e, fun k hk _ _ => hfr k hk, fun k o K e => by
      by_cases hk : k < w.heap.size
      · rw [hwk k o hk] at e; exact .inl e
      · exact .inr (by omega)⟩
    obtain ⟨g1, g2⟩ := hS2.ghost loc.length .nowhere .dead (by rintro b (e | ⟨_, _, _, e, _⟩) <;> simp at e) (by intro b; simp [own]) trivial
    exact ⟨b, _, m2, _, ⟨hb2, rfl⟩, hb1.rel hbase (by simp) hrel, g1, hE2.trans g2⟩
  rcases h m0 [] w vs hS0 hA with ⟨fn, h1, h2, h3, h4⟩ | ⟨v, w', h1, h2⟩
  · exact .inl ⟨fn, h1, h2, h3, h4.mono fun e w' ⟨v, e1, e2⟩ => ⟨v, e1, key _ _ e2⟩⟩
  · exact .inr ⟨v, w', h1, key _ _ h2⟩
theorem Wkn.map {α : Type} {enc enc' : α → List AV} (hl : ∀ x, (enc x).length = (enc' x).length) (h : ∀ x (j : Nat) a b, (enc x)[j]? = some a → (enc' x)[j]? = some b → Wkn a b) (l : List α) :
    Wkn (.slice .fresh (l.map enc)) (.wslice (l.map enc')) := by
  have hx : ∀ (i : Nat) e e', (l.map enc)[i]? = some e → (l.map enc')[i]? = some e' → ∃ x, e = enc x ∧ e' = enc' x := by
    intro i e e' h1 h2
    rw [List.getElem?_map] at h1 h2
    cases q : l[i]? with
    | none => rw [q] at h1; simp at h1
    | some x => rw [q] at h1 h2; simp at h1 h2; exact ⟨x, h1.symm, h2.symm⟩
  refine .slice _ _ (by simp) (fun i e e' h1 h2 => ?_) (fun i e e' h1 h2 j x y h3 h4 => ?_)
  · obtain ⟨x, rfl, rfl⟩ := hx i e e' h1 h2; exact hl x
  · obtain ⟨z, rfl, rfl⟩ := hx i e e' h1 h2; exact h z j x y h3 h4
/-- Literals, numbers, clauses, lists as what may be written to. -/
def wLit (_ : FLit) : List AV := [.cell (.int .i64), .cell .bool]
def wI (_ : Int) : List AV := [.cell (.int .i64)]
def wC (l : List FLit) : List AV := [.wslice (l.map wLit)]
theorem wkn_lits (l : List FLit) : Wkn (.slice .fresh (l.map encLit)) (.wslice (l.map wLit)) :=
  Wkn.map (enc := encLit) (enc' := wLit) (fun _ => rfl) (fun x j a b h1 h2 => by
    match j with
    | 0 => simp [encLit, wLit] at h1 h2; subst h1; subst h2; exact .int _ _
    | 1 => simp [encLit, wLit] at h1 h2; subst h1; subst h2; exact .bool _
    | j + 2 => simp [encLit] at h1) l
theorem wkn_ints (l : List Int) : Wkn (.slice .fresh (l.map encI)) (.wslice (l.map wI)) :=
  Wkn.map (enc := encI) (enc' := wI) (fun _ => rfl) (fun x j a b h1 h2 => by
    match j with
    | 0 => simp [encI, wI] at h1 h2; subst h1; subst h2; exact .int _ _
    | j + 1 => simp [encI] at h1) l
theorem wkn_clauses (f : List (List FLit)) : Wkn (.slice .fresh (f.map encCf)) (.wslice (f.map wC)) :=
  Wkn.map (enc := encCf) (enc' := wC) (fun _ => rfl) (fun x j a b h1 h2 => by
    match j with
    | 0 => simp [encCf, wC] at h1 h2; subst h1; subst h2; exact wkn_lits x
    | j + 1 => simp [encCf] at h1) f
theorem WknT.of {a b : AV} (h : Wkn a b) : WknT a b := .inl (.inl h)
theorem WknT.tuple {xs ys : List AV} (hl : xs.length = ys.length) (h : ∀ (j : Nat) x y, xs[j]? = some x → ys[j]? = some y → Wkn1 x y) : WknT (.tuple xs) (.tuple ys) := .inr ⟨xs, ys, rfl, rfl, hl, h⟩
theorem WknT.two {a b c d : AV} (h : Wkn1 a c) (k : Wkn1 b d) : WknT (.tuple [a, b]) (.tuple [c, d]) := .tuple rfl fun j x y h1 h2 => by
  match j with
  | 0 => simp at h1 h2; subst h1; subst h2; exact h
  | 1 => simp at h1 h2; subst h1; subst h2; exact k
  | j + 2 => simp at h1
theorem WknT.three {a b c d e f : AV} (h : Wkn1 a d) (k : Wkn1 b e) (l : Wkn1 c f) : WknT (.tuple [a, b, c]) (.tuple [d, e, f]) := .tuple rfl fun j x y h1 h2 => by
  match j with
  | 0 => simp at h1 h2; subst h1; subst h2; exact h
  | 1 => simp at h1 h2; subst h1; subst h2; exact k
  | 2 => simp at h1 h2; subst h1; subst h2; exact l
  | j + 3 => simp at h1
theorem Wkn1.flat {a : AV} (h : a.flat = true) : Wkn1 a a := .inr ⟨rfl, h⟩
theorem unf_encLit (x : FLit) : UnfL (encLit x) := .cons (.int _ _) (.cons (.bool _) .nil)
theorem unf_encI (x : Int) : UnfL (encI x) := .cons (.int _ _) .nil
theorem unf_encT (x : ByteArray) : UnfL (encT x) := .cons (.str _) .nil
theorem unf_encC (x : List FLit) : UnfL (encC x) := .cons (.map unf_encLit x) .nil
theorem unf_encE (x : FEff) : UnfL (encE x) := .cons (.map unf_encLit _) (.cons (.int _ _) (.cons (.bool _) .nil))
theorem unf_encA (x : FAct) : UnfL (encA x) := .cons (.str _) (.cons (.int _ _) (.cons (.map unf_encLit _) (.cons (.map unf_encE _) .nil)))
theorem unf_task (t : FTask) : Unf (.agg (encTask t)) := .agg (.cons (.map unf_encT _) (.cons (.map unf_encI _) (.cons (.map unf_encLit _) (.cons (.map unf_encA _) .nil))))
end Go.Ahl
/- The abstract layer, part 33: what a row's cells hold, told in another way; nothing in a cell, as the right to append. -/
namespace Go.Ahl
theorem SRel.rewk {m : Mem} {loc : List Loc} {σ : Store} {w : World} (h : SRel m loc σ w) (id : Nat) {xs ys : List AV} (hs : σ[id]? = some (.row xs)) (hw : WkL xs ys) : SRel m loc (σ.set id (.row ys)) w where
  len := by simp [h.len]
  im := h.im
  bs := h.bs
  obj := by
    intro i l o h1 h2
    rcases get_set h2 with ⟨rfl, rfl⟩ | ⟨_, h2⟩
    · have := h.obj _ l _ h1 hs
      cases l with
      | nowhere =>
        have e : xs = [] := this
        subst e
        cases hw
        exact rfl
      | tok sz f => exact this.elim
      | blk b =>
        obtain ⟨arr, t, h1, h2, h3, h4, h5⟩ := this
        refine ⟨arr, t, h1, h2, by rw [← hw.len]; exact h3, fun j z v e1 e2 => ?_, h5⟩
        obtain ⟨x, q1, q2⟩ := hw.get j z e1
        exact q2 _ _ _ (h4 j x v q1 e2)
    · exact h.obj i l o h1 h2
  inj := by
    intro i j l l' o o' b h1 h2 h3 h4 w1 w2
    have fix : ∀ {i : Nat} {l : Loc} {o : AObj}, (σ.set id (.row ys))[i]? = some o → own l o = some b → ∃ o2, σ[i]? = some o2 ∧ own l o2 = some b := by
      intro i l o h3 w1
      rcases get_set h3 with ⟨rfl, rfl⟩ | ⟨_, h3⟩
      · exact ⟨_, hs, by rw [own_row l xs ys]; exact w1⟩
      · exact ⟨_, h3, w1⟩
    obtain ⟨o2, q1, q2⟩ := fix h3 w1
    obtain ⟨o3, q3, q4⟩ := fix h4 w2
    exact h.inj i j l l' o2 o3 b h1 h2 q1 q3 q2 q4
  lt := h.lt
  mp := h.mp
  mpo := by
    intro i l o b h1 h2 w1
    rcases get_set h2 with ⟨rfl, rfl⟩ | ⟨_, h2⟩
    · exact h.mpo _ l _ b h1 hs (by rw [own_row l xs ys]; exact w1)
    · exact h.mpo i l o b h1 h2 w1
  ok := h.ok
theorem Ghost.rewk {n0 nt : Nat} {s : Slots} {σ : Store} (id : Nat) {xs ys : List AV} (hs : σ[id]? = some (.row xs)) (hw : WkL xs ys) : Ghost n0 nt s σ s (σ.set id (.row ys)) :=
  fun m loc w t _ h1 h2 => ⟨m, loc, h1.rewk id hs hw, h2, .refl _ _ _ _⟩
/-- The nil in a cell of a row becomes a slice that one may append to. -/
theorem Ghost.tokRow {n0 nt : Nat} {s : Slots} {σ : Store} (id off sz : Nat) {cells : List AV} (hs : σ[id]? = some (.row cells)) (hx : cells[off]? = some (.slice .nil [])) :
    Ghost n0 nt s σ s ((σ ++ [AObj.grow sz 0]).set id (AObj.row (cells.set off (AV.slice (.grow σ.length) [])))) := by
  intro m loc w tm hl hS hr
  obtain ⟨g1, g2⟩ := hS.tok0 n0 sz
  have hid := lt_of_get hs
  have hid2 : id < loc.length := by rw [hS.len]; exact hid
  have hs' : (σ ++ [AObj.grow sz 0])[id]? = some (.row cells) := by rw [List.getElem?_append_left hid]; exact hs
  have hloc : (loc ++ [.tok sz Ahl.tok0])[id]? = some (loc[id]) := by rw [List.getElem?_append_left hid2]; exact List.getElem?_eq_getElem hid2
  have hobj := g1.obj id _ _ hloc hs'
  generalize loc[id] = l at hloc hobj
  cases l with
  | blk b =>
    obtain ⟨arr, t, e1, e2, e3, e4, e5⟩ := hobj
    have key := g1.turn n0 (m' := m) (w' := w) (l' := .blk b) (.row (cells.set off (.slice (.grow σ.length) []))) hloc hs' (.refl m) (.refl _) (fun _ _ _ => rfl) (Nat.le_refl _) (fun _ _ _ _ => rfl) ?_ ?_ ?_ (fun b' q => .inl q) ?_ rfl rfl rfl (Nat.le_refl _)
    · rw [set_same hloc] at key
      exact ⟨m, _, key.1, ⟨hr.size, fun i => (hr.rel i).mono (.refl m) (.app _ _ _)⟩, g2.trans key.2⟩
    · intro k off v hk e'
      refine ⟨g1.im k off v e', g1.ok.fz k off v ?_ e'⟩
      rcases hk with hk | hk
      · exact g1.ok.own k (own_names hloc hk)
      · exact Nat.le_trans g1.ok.low hk
    · intro k n hn
      obtain ⟨arr', t', fz, q1, q2⟩ := g1.bs k n hn
      exact .inr ⟨arr', t', fz, q1, q2⟩
    · rintro b' ⟨sz', f, k, q, _⟩; simp at q
    · rw [set_same hloc]
      refine ⟨arr, t, e1, e2, by simpa using e3, ?_, e5⟩
      intro j x v hj hv
      rcases get_set hj with ⟨rfl, rfl⟩ | ⟨_, hj⟩
      · have h1 := e4 off (.slice .nil []) v hx hv
        cases h1 with
        | slice _ _ ad cap sz' bb o f hcap htok =>
          obtain ⟨h1, h2⟩ := htok
          subst h1; subst h2
          exact rel_tok0 sz none hS
      · exact e4 j x v hj hv
  | nowhere => have e : cells = [] := hobj; subst e; simp at hx
  | tok _ _ => exact hobj.elim
/-- Some slots and objects are kept, and of an empty slice the right to append begins. -/
theorem Ghost.beginT {nt : Nat} {s : Slots} {σ : Store} (l : Store) (t sz : Nat) (r : Slots) (h1 : TellW s (σ.length + l.length) ((t, .slice .nil []) :: r)) (h2 : IdsS (σ ++ l).length (σ ++ l)) :
    Ghost σ.length nt s (σ ++ l) ((t, .slice (.grow (σ.length + l.length)) []) :: r) (σ ++ (l ++ [.grow sz 0])) := by
  have := Ghost.begin0 (nt := nt) (n0 := σ.length) (σ := σ ++ l) t sz r (by simp) (by rw [List.length_append]; exact h1) h2
  rw [List.length_append, List.append_assoc] at this
  exact this
end Go.Ahl
namespace Go.Proofs.Ytbnhijapbnfohaa
open Go.Ahl
def c_copy07 : CCode := .seq (.ops [⟨some 2, .move (.lit (.slice .nil [])), none, []⟩]) (.seq (.ops [⟨some 3, .move (.lit (.slice .nil [])), none, []⟩]) (.seq (.seq (.ops [⟨some 6, .move (.tmp 0), none, []⟩, ⟨some 7, .blen 1 (.tmp 6), none, []⟩, ⟨some 8, .move (.lit (.int .i64 0)), none, []⟩]) (.block 0 (.loop (.seq (.ops [⟨some 9, .bin .lss .none (.tmp 8) (.tmp 7), none, []⟩]) (.seq (.cond (.tmp 9) .skip (.exit 0)) (.seq (.block 1 (.seq (.ops [⟨some 10, .iaddr 1 (.tmp 6) (.tmp 8), none, []⟩, ⟨some 11, .load none (.tmp 10), none, []⟩, ⟨some 5, .move (.tmp 11), none, []⟩]) (.ops [⟨some 12, .move (.tmp 3), none, []⟩, ⟨some 13, .move (.tmp 5), none, []⟩, ⟨some 14, .call (.lit (.func 49 [])) [.tmp 13], none, []⟩, ⟨some 15, .bslice 1 [.tmp 14] false, none, []⟩, ⟨some 16, .bappend 1 24 (.tmp 12) (.tmp 15) false, none, []⟩, ⟨some 3, .move (.tmp 16), none, []⟩]))) (.ops [⟨some 17, .bin .add .none (.tmp 8) (.lit (.int .i64 1)), none, []⟩, ⟨some 8, .move (.tmp 17), none, []⟩]))))))) (.seq (.ops [⟨some 18, .move (.tmp 3), none, []⟩, ⟨some 2, .move (.tmp 18), none, []⟩]) .ret)))
set_option maxRecDepth 20000 in
theorem copy07_spec (f : List (List FLit)) (tok : Tok) (σ : Store) (hf : f.length ≤ 1000000 ∧ ∀ x ∈ f, x.length ≤ 1000000) :
    ACalls Try.prog 23 [.slice tok (f.map encC)] σ (isR (.slice .unk (f.map encC)) σ) := by
  refine ACalls.intro (rs := [(.tmp 2)]) (by kernel_rfl) { own := [], ghosts := [] } Try.func23 (c := Try.f23.body.getD .skip) (by kernel_rfl) (by decide) (by rw [show Try.f23.ntmps = 19 by kernel_rfl]; exact Nat.le_of_ble_eq_true rfl) (by kernel_rfl) ?_
  intro hσ hids
  rw [show comp Try.prog { own := [], ghosts := [] } (Try.f23.body.getD .skip) = c_copy07 by kernel_rfl, show Try.f23.ntmps = 19 by kernel_rfl]
  unfold c_copy07
  have hf1 := hf.1
  have hif : Ids σ.length (.slice tok (f.map encC)) := hids _ (by simp)
  have hs1 : ∀ n, IdsS (σ ++ [AObj.grow 1 n]).length (σ ++ [AObj.grow 1 n]) := fun n => idsS_push hσ trivial
  simp only [go_sem, Int.reduceToNat, Int.reduceLE, Int.reduceLT, Nat.reduceBEq, Nat.reduceLT, Nat.reduceAdd, Nat.reduceLeDiff]
  refine wpc_while (fun (i : Nat) => [(3, .slice (.grow σ.length) ((f.take i).map encC)), (6, .slice tok (f.map encC)), (7, .int .i64 f.length), (8, .int .i64 (i : Nat))]) (fun i => σ ++ [.grow 1 (f.take i).length]) (fun i => i ≤ f.length) (fun i => f.length - i) 0 (Nat.zero_le _) (.begin0 3 1 _ (Nat.le_refl _) tellT hσ) ?_
  intro i hi K hK hE hR
  by_cases h : i < f.length
  · obtain ⟨l, hx⟩ := get_ex h; have hlt : ((i : Int) < (f.length : Int)) := (by omega); have hw : IntKind.i64.wrap ((i : Int) + 1) = ((i + 1 : Nat) : Int) := (by rw [wrap_ok (by omega)]; omega)
    have hc : (f.take i).map encC ++ [[AV.slice .unk (l.map encLit)]] = (f.take (i + 1)).map encC := by rw [take_succ' hx]; simp [encC]
    have hl : (f.take i).length = i := List.length_take_of_le (by omega)
    have hl1 : (f.take (i + 1)).length = i + 1 := List.length_take_of_le (by omega)
    have hbig : bigLen (i + 1) 24 := big_ok (by omega) (by omega)
    simp only [go_sem, Int.reduceToNat, Int.reduceLE, Int.reduceLT, Nat.reduceBEq, Nat.reduceLT, Nat.reduceAdd, Nat.reduceLeDiff, hlt, hx, encC]
    refine (copyLits_spec l .unk _ (by have := hf.2 l (List.mem_of_getElem? hx); omega)).is ?_
    simp only [go_sem, Int.reduceToNat, Int.reduceLE, Int.reduceLT, Nat.reduceBEq, Nat.reduceLT, Nat.reduceAdd, Nat.reduceLeDiff, hbig, hl, hc]
    refine hK _ _ (i + 1) (by omega) (by omega) ?_
    simp only [hl1]
    exact (by (try dsimp only); (try simp only [ hw]); first | exact ghL (hs1 (i + 1)) | exact ghL0 (hs1 (i + 1)))
  · have hlt : ¬ ((i : Int) < (f.length : Int)) := by omega
    rw [List.take_of_length_le (by omega)]
    simp only [go_sem, Int.reduceToNat, Int.reduceLE, Int.reduceLT, Nat.reduceBEq, Nat.reduceLT, Nat.reduceAdd, Nat.reduceLeDiff, hlt, hE]
    first | exact rtk (.slice .unk (f.map encC)) ⟨rfl, rfl⟩ | exact rtk0 (.slice .unk (f.map encC)) ⟨rfl, rfl⟩
def d_copyAction_0 : List COp := [⟨some 17, .move (.tmp 3), none, []⟩, ⟨some 18, .faddr 0 (.tmp 5), none, []⟩, ⟨some 19, .load none (.tmp 18), none, [1]⟩, ⟨some 20, .call (.lit (.func 49 [])) [.tmp 19], none, [2]⟩, ⟨some 21, .faddr 1 (.tmp 5), none, []⟩, ⟨some 22, .load (some 2) (.tmp 21), none, [4]⟩, ⟨some 23, .build [.slice .nil [], .int .i64 0, .bool false] [(0, 1, .tmp 20), (1, 2, .tmp 22)], none, [3, 5]⟩, ⟨some 24, .bsliceC 3 [.tmp 23], none, [6]⟩, ⟨some 25, .bappend 3 40 (.tmp 17) (.tmp 24) false, none, [0, 7, 3]⟩, ⟨some 3, .move (.tmp 25), none, [8, 8, 0, 1, 2, 3, 4, 5, 6, 7, 8]⟩]
theorem dr_copyAction_0 (P : Program) (nt n0 : Nat) (Q : Post) (s : Slots) (σ : Store) : wpc P nt n0 (.draw d_copyAction_0) Q s σ = aOpsD P nt [⟨some 17, .move (.tmp 3), none, []⟩, ⟨some 18, .faddr 0 (.tmp 5), none, []⟩, ⟨some 19, .load none (.tmp 18), none, [1]⟩, ⟨some 20, .call (.lit (.func 49 [])) [.tmp 19], none, [2]⟩, ⟨some 21, .faddr 1 (.tmp 5), none, []⟩, ⟨some 22, .load (some 2) (.tmp 21), none, [4]⟩, ⟨some 23, .build [.slice .nil [], .int .i64 0, .bool false] [(0, 1, .tmp 20), (1, 2, .tmp 22)], none, [3, 5]⟩, ⟨some 24, .bsliceC 3 [.tmp 23], none, [6]⟩, ⟨some 25, .bappend 3 40 (.tmp 17) (.tmp 24) false, none, [0, 7, 3]⟩, ⟨some 3, .move (.tmp 25), none, [8, 8, 0, 1, 2, 3, 4, 5, 6, 7, 8]⟩] (Q .normal) s σ := wpc_draw _ (by decide)
def c_copyAction : CCode := .seq (.ops [⟨some 1, .box (.tmp 0), none, []⟩, ⟨some 2, .alloc (.agg [.str (bys []), .int .i64 0, .slice .nil [], .slice .nil []]), none, []⟩]) (.seq (.ops [⟨some 6, .faddr 2 (.tmp 1), none, []⟩, ⟨some 7, .load none (.tmp 6), none, []⟩, ⟨some 8, .call (.lit (.func 49 [])) [.tmp 7], none, []⟩, ⟨some 9, .faddr 2 (.tmp 1), none, []⟩, ⟨none, .store 1 (.tmp 9) (.tmp 8), none, []⟩]) (.seq (.ops [⟨some 3, .move (.lit (.slice .nil [])), none, []⟩]) (.seq (.seq (.ops [⟨some 10, .faddr 3 (.tmp 1), none, []⟩, ⟨some 11, .load none (.tmp 10), none, []⟩, ⟨some 12, .blen 1 (.tmp 11), none, []⟩, ⟨some 13, .move (.lit (.int .i64 0)), none, []⟩]) (.block 0 (.loop (.seq (.ops [⟨some 14, .bin .lss .none (.tmp 13) (.tmp 12), none, []⟩]) (.seq (.cond (.tmp 14) .skip (.exit 0)) (.seq (.block 1 (.seq (.ops [⟨some 15, .iaddr 3 (.tmp 11) (.tmp 13), none, []⟩, ⟨some 16, .load (some 3) (.tmp 15), none, []⟩, ⟨some 5, .alloc (.agg [.slice .nil [], .int .i64 0, .bool false]), none, []⟩, ⟨none, .store 3 (.tmp 5) (.tmp 16), none, []⟩]) (.draw d_copyAction_0))) (.ops [⟨some 26, .bin .add .none (.tmp 13) (.lit (.int .i64 1)), none, []⟩, ⟨some 13, .move (.tmp 26), none, []⟩]))))))) (.seq (.ghost (.ops [⟨some 27, .move (.tmp 3), none, []⟩, ⟨some 28, .faddr 3 (.tmp 1), none, []⟩, ⟨none, .store 1 (.tmp 28) (.tmp 27), none, []⟩])) (.seq (.ops [⟨some 29, .load (some 4) (.tmp 1), none, []⟩, ⟨none, .store 4 (.tmp 2) (.tmp 29), none, []⟩]) .ret)))))
set_option maxRecDepth 20000 in
theorem copyAction_spec (a : FAct) (σ : Store) (h1 : a.pre.length ≤ 1000000) (h2 : a.effects.length ≤ 1000000) (h3 : ∀ e ∈ a.effects, e.when_.length ≤ 1000000) :
    ACalls Try.prog 50 [.agg (encA a)] σ (isR (.agg (encA a)) σ) := by
  refine ACalls.intro (rs := [(.cell (some 4) 2)]) (by kernel_rfl) { own := [], ghosts := [8], cold := [(6, 7)] } Try.func50 (c := Try.f50.body.getD .skip) (by kernel_rfl) (by decide) (by rw [show Try.f50.ntmps = 30 by kernel_rfl]; exact Nat.le_of_ble_eq_true rfl) (by kernel_rfl) ?_
  intro hσ hids
  rw [show comp Try.prog { own := [], ghosts := [8], cold := [(6, 7)] } (Try.f50.body.getD .skip) = c_copyAction by kernel_rfl, show Try.f50.ntmps = 30 by kernel_rfl]
  unfold c_copyAction
  have hz : ∀ n, IdsL n [AV.str (bys []), .int .i64 0, .slice .nil [], .slice .nil []] := fun n => idsL_cons (.str _) (idsL_cons (.int _ _) (idsL_cons (ids_nil _ (by simp)) (idsL_cons (ids_nil _ (by simp)) idsL_nil)))
  have hs0 : IdsS (σ ++ [AObj.row (encA a), AObj.row [AV.str (bys []), .int .i64 0, .slice .nil [], .slice .nil []]]).length (σ ++ [AObj.row (encA a), AObj.row [AV.str (bys []), .int .i64 0, .slice .nil [], .slice .nil []]]) := idsS_app _ hσ (all_cons' (idsO_row (ids_encA a)) (all_cons' (idsO_row (hz _)) all_nil'))
  have hs1 : ∀ n, IdsS (σ ++ [AObj.row (encA a), AObj.row [AV.str (bys []), .int .i64 0, .slice .nil [], .slice .nil []], AObj.grow 3 n]).length (σ ++ [AObj.row (encA a), AObj.row [AV.str (bys []), .int .i64 0, .slice .nil [], .slice .nil []], AObj.grow 3 n]) := fun n => idsS_app _ hσ (all_cons' (idsO_row (ids_encA a)) (all_cons' (idsO_row (hz _)) (all_cons' trivial all_nil')))
  simp only [encA] at hs0 hs1
  simp only [go_sem, Int.reduceToNat, Int.reduceLE, Int.reduceLT, Nat.reduceBEq, Nat.reduceLT, Nat.reduceAdd, Nat.reduceLeDiff, dr_copyAction_0, encA]
  refine (copyLits_spec a.pre .unk _ (by omega)).is ?_
  simp only [go_sem, Int.reduceToNat, Int.reduceLE, Int.reduceLT, Nat.reduceBEq, Nat.reduceLT, Nat.reduceAdd, Nat.reduceLeDiff, dr_copyAction_0]
  refine wpc_while (fun (i : Nat) => [(3, .slice (.grow (σ.length + 2)) ((a.effects.take i).map encE)), (1, .ptr σ.length 0), (2, .ptr (σ.length + 1) 0), (11, .slice .unk (a.effects.map encE)), (12, .int .i64 a.effects.length), (13, .int .i64 (i : Nat))]) (fun i => σ ++ [.row (encA a), .row [AV.str (bys []), .int .i64 0, .slice .nil [], .slice .nil []], .grow 3 (a.effects.take i).length]) (fun i => i ≤ a.effects.length) (fun i => a.effects.length - i) 0 (Nat.zero_le _) (.beginT [_, _] 3 3 _ tellT hs0) ?_
  intro i hi K hK hE hR
  by_cases h : i < a.effects.length
  · obtain ⟨e, hx⟩ := get_ex h; have hlt : ((i : Int) < (a.effects.length : Int)) := (by omega); have hw : IntKind.i64.wrap ((i : Int) + 1) = ((i + 1 : Nat) : Int) := (by rw [wrap_ok (by omega)]; omega)
    have hc : (a.effects.take i).map encE ++ [[AV.slice .unk (e.when_.map encLit), .int .i64 e.lit.fact, .bool e.lit.neg]] = (a.effects.take (i + 1)).map encE := by rw [take_succ' hx]; simp [encE]
    have hl : (a.effects.take i).length = i := List.length_take_of_le (by omega)
    have hl1 : (a.effects.take (i + 1)).length = i + 1 := List.length_take_of_le (by omega)
    have hbig : bigLen (i + 1) 40 := big_ok (by omega) (by omega)
    simp only [go_sem, Int.reduceToNat, Int.reduceLE, Int.reduceLT, Nat.reduceBEq, Nat.reduceLT, Nat.reduceAdd, Nat.reduceLeDiff, dr_copyAction_0, hlt, hx, encE, encA]
    refine ⟨_, copyLits_spec e.when_ .unk _ (by have := h3 e (List.mem_of_getElem? hx); omega), ?_⟩
    simp only [go_sem, Int.reduceToNat, Int.reduceLE, Int.reduceLT, Nat.reduceBEq, Nat.reduceLT, Nat.reduceAdd, Nat.reduceLeDiff, dr_copyAction_0, hbig, hl, hc]
    refine hK _ _ (i + 1) (by omega) (by omega) ?_
    simp only [hl1, encA]
    exact (by (try dsimp only); (try simp only [ hw]); first | exact ghL (hs1 (i + 1)) | exact ghL0 (hs1 (i + 1)))
  · have hlt : ¬ ((i : Int) < (a.effects.length : Int)) := by omega
    rw [List.take_of_length_le (by omega)]
    simp only [go_sem, Int.reduceToNat, Int.reduceLE, Int.reduceLT, Nat.reduceBEq, Nat.reduceLT, Nat.reduceAdd, Nat.reduceLeDiff, dr_copyAction_0, hlt, hE]
    rw [wpc_ghost]; refine Gh.of (Ghost.weak 3 (.slice .unk (a.effects.map encE)) (Wk.unk _ _)) ?_
    simp only [go_sem, Int.reduceToNat, Int.reduceLE, Int.reduceLT, Nat.reduceBEq, Nat.reduceLT, Nat.reduceAdd, Nat.reduceLeDiff, dr_copyAction_0, encA]
    refine ret_cN (cells := encA a) rfl (by simp [encA]) rfl (by simp) hσ (ids_agg (ids_encA _)) ⟨rfl, rfl⟩
/-- Bounds of a task that is copied or compared. -/
structure CB (t : FTask) : Prop where
  facts : t.facts.length ≤ 1000000
  init : t.init.length ≤ 1000000
  goal : t.goal.length ≤ 1000000
  acts : t.actions.length ≤ 1000000
  act : ∀ a ∈ t.actions, a.pre.length ≤ 1000000 ∧ a.effects.length ≤ 1000000 ∧ ∀ e ∈ a.effects, e.when_.length ≤ 1000000
def d_copyTask_0 : List COp := [⟨some 6, .faddr 0 (.tmp 1), none, []⟩, ⟨some 7, .load none (.tmp 6), none, [0]⟩, ⟨some 8, .bappendC 1 16 (.lit (.slice .nil [])) (.tmp 7), none, [1]⟩, ⟨some 9, .faddr 1 (.tmp 1), none, []⟩, ⟨some 10, .load none (.tmp 9), none, [3]⟩, ⟨some 11, .bappendC 1 8 (.lit (.slice .nil [])) (.tmp 10), none, [4, 2]⟩, ⟨some 12, .faddr 2 (.tmp 1), none, []⟩, ⟨some 13, .load none (.tmp 12), none, [6]⟩, ⟨some 14, .call (.lit (.func 49 [])) [.tmp 13], none, [7, 5]⟩, ⟨some 15, .build [.slice .nil [], .slice .nil [], .slice .nil [], .slice .nil []] [(0, 1, .tmp 8), (1, 1, .tmp 11), (2, 1, .tmp 14)], none, [2, 5, 8]⟩, ⟨some 3, .alloc (.agg [.slice .nil [], .slice .nil [], .slice .nil [], .slice .nil []]), none, []⟩, ⟨none, .store 4 (.tmp 3) (.tmp 15), none, [10, 9, 8, 0, 1, 2, 3, 4, 5, 6, 7, 8, 9, 10]⟩]
theorem dr_copyTask_0 (P : Program) (nt n0 : Nat) (Q : Post) (s : Slots) (σ : Store) : wpc P nt n0 (.drawU d_copyTask_0 [[], [10], [], [], [10], [], [], [10], [10], [], [1, 4, 7, 8], []]) Q s σ = aOpsU P nt [⟨some 6, .faddr 0 (.tmp 1), none, []⟩, ⟨some 7, .load none (.tmp 6), none, [0]⟩, ⟨some 8, .bappendC 1 16 (.lit (.slice .nil [])) (.tmp 7), none, [1]⟩, ⟨some 9, .faddr 1 (.tmp 1), none, []⟩, ⟨some 10, .load none (.tmp 9), none, [3]⟩, ⟨some 11, .bappendC 1 8 (.lit (.slice .nil [])) (.tmp 10), none, [4, 2]⟩, ⟨some 12, .faddr 2 (.tmp 1), none, []⟩, ⟨some 13, .load none (.tmp 12), none, [6]⟩, ⟨some 14, .call (.lit (.func 49 [])) [.tmp 13], none, [7, 5]⟩, ⟨some 15, .build [.slice .nil [], .slice .nil [], .slice .nil [], .slice .nil []] [(0, 1, .tmp 8), (1, 1, .tmp 11), (2, 1, .tmp 14)], none, [2, 5, 8]⟩, ⟨some 3, .alloc (.agg [.slice .nil [], .slice .nil [], .slice .nil [], .slice .nil []]), none, []⟩, ⟨none, .store 4 (.tmp 3) (.tmp 15), none, [10, 9, 8, 0, 1, 2, 3, 4, 5, 6, 7, 8, 9, 10]⟩] [[], [10], [], [], [10], [], [], [10], [10], [], [1, 4, 7, 8], []] 0 [] [] (Q .normal) s σ := wpc_drawU _ _ (by decide)
def d_copyTask_1 : List COp := [⟨some 23, .faddr 3 (.tmp 3), none, []⟩, ⟨some 24, .load none (.tmp 23), none, [0]⟩, ⟨some 25, .load (some 4) (.tmp 5), none, []⟩, ⟨some 26, .call (.lit (.func 50 [])) [.tmp 25], none, [2]⟩, ⟨some 27, .bsliceC 4 [.tmp 26], none, [3]⟩, ⟨some 28, .bappend 4 72 (.tmp 24) (.tmp 27) false, none, [1, 4, 3]⟩, ⟨some 29, .faddr 3 (.tmp 3), none, [0, 1, 2, 3, 4, 5]⟩, ⟨none, .store 1 (.tmp 29) (.tmp 28), none, [6, 5, 5, 0, 1, 2, 3, 4, 5]⟩]
theorem dr_copyTask_1 (P : Program) (nt n0 : Nat) (Q : Post) (s : Slots) (σ : Store) : wpc P nt n0 (.draw d_copyTask_1) Q s σ = aOpsD P nt [⟨some 23, .faddr 3 (.tmp 3), none, []⟩, ⟨some 24, .load none (.tmp 23), none, [0]⟩, ⟨some 25, .load (some 4) (.tmp 5), none, []⟩, ⟨some 26, .call (.lit (.func 50 [])) [.tmp 25], none, [2]⟩, ⟨some 27, .bsliceC 4 [.tmp 26], none, [3]⟩, ⟨some 28, .bappend 4 72 (.tmp 24) (.tmp 27) false, none, [1, 4, 3]⟩, ⟨some 29, .faddr 3 (.tmp 3), none, [0, 1, 2, 3, 4, 5]⟩, ⟨none, .store 1 (.tmp 29) (.tmp 28), none, [6, 5, 5, 0, 1, 2, 3, 4, 5]⟩] (Q .normal) s σ := wpc_draw _ (by decide)
def c_copyTask : CCode := .seq (.ops [⟨some 1, .box (.tmp 0), none, []⟩, ⟨some 2, .alloc (.agg [.slice .nil [], .slice .nil [], .slice .nil [], .slice .nil []]), none, []⟩]) (.seq (.drawU d_copyTask_0 [[], [10], [], [], [10], [], [], [10], [10], [], [1, 4, 7, 8], []]) (.seq (.seq (.ghost (.ops [⟨some 16, .faddr 3 (.tmp 1), none, []⟩, ⟨some 17, .load none (.tmp 16), none, []⟩, ⟨some 18, .blen 1 (.tmp 17), none, []⟩, ⟨some 19, .move (.lit (.int .i64 0)), none, []⟩])) (.block 0 (.loop (.seq (.ops [⟨some 20, .bin .lss .none (.tmp 19) (.tmp 18), none, []⟩]) (.seq (.cond (.tmp 20) .skip (.exit 0)) (.seq (.block 1 (.seq (.ops [⟨some 21, .iaddr 4 (.tmp 17) (.tmp 19), none, []⟩, ⟨some 22, .load (some 4) (.tmp 21), none, []⟩, ⟨some 5, .alloc (.agg [.str (bys []), .int .i64 0, .slice .nil [], .slice .nil []]), none, []⟩, ⟨none, .store 4 (.tmp 5) (.tmp 22), none, []⟩]) (.draw d_copyTask_1))) (.ops [⟨some 30, .bin .add .none (.tmp 19) (.lit (.int .i64 1)), none, []⟩, ⟨some 19, .move (.tmp 30), none, []⟩]))))))) (.seq (.ghost (.ops [⟨some 31, .load (some 4) (.tmp 3), none, []⟩, ⟨none, .store 4 (.tmp 2) (.tmp 31), none, []⟩])) .ret)))
set_option maxRecDepth 20000 in
theorem copyTask_spec (t : FTask) (σ : Store) (ht : CB t) :
    ACalls Try.prog 22 [.agg (encTask t)] σ (isR (.agg (encTask t)) σ) := by
  refine ACalls.intro (rs := [(.cell (some 4) 2)]) (by kernel_rfl) { own := [], ghosts := [2, 7], cold := [(1, 2), (1, 5), (5, 4)], free := [(1, [[], [10], [], [], [10], [], [], [10], [10], [], [1, 4, 7, 8], []])] } Try.func22 (c := Try.f22.body.getD .skip) (by kernel_rfl) (by decide) (by rw [show Try.f22.ntmps = 32 by kernel_rfl]; exact Nat.le_of_ble_eq_true rfl) (by kernel_rfl) ?_
  intro hσ hids
  rw [show comp Try.prog { own := [], ghosts := [2, 7], cold := [(1, 2), (1, 5), (5, 4)], free := [(1, [[], [10], [], [], [10], [], [], [10], [10], [], [1, 4, 7, 8], []])] } (Try.f22.body.getD .skip) = c_copyTask by kernel_rfl, show Try.f22.ntmps = 32 by kernel_rfl]
  unfold c_copyTask
  have b1 := ht.facts
  have b2 := ht.init
  have b3 := ht.goal
  have b4 := ht.acts
  have hz : ∀ n, IdsL n [AV.slice .nil [], .slice .nil [], .slice .nil [], .slice .nil []] := fun n => idsL_cons (ids_nil _ (by simp)) (idsL_cons (ids_nil _ (by simp)) (idsL_cons (ids_nil _ (by simp)) (idsL_cons (ids_nil _ (by simp)) idsL_nil)))
  have hbig1 : bigLen t.facts.length 16 := big_ok (by omega) (by omega)
  have hbig2 : bigLen t.init.length 8 := big_ok (by omega) (by omega)
  have hall1 : ∀ x ∈ t.facts, (encT x).length = 1 ∧ (encT x).all AV.one = true := fun x _ => ⟨rfl, rfl⟩
  have hall2 : ∀ x ∈ t.init, (Ahl.encI x).length = 1 ∧ (Ahl.encI x).all AV.one = true := fun x _ => ⟨rfl, rfl⟩
  let S : Nat → Store := fun i => [.row (encTask t), .row [AV.slice .nil [], .slice .nil [], .slice .nil [], .slice .nil []], .row [AV.slice .fresh (t.facts.map encT), .slice .fresh (t.init.map Ahl.encI), .slice .unk (t.goal.map encLit), .slice (.grow (σ.length + 3)) ((t.actions.take i).map encA)], .grow 4 (t.actions.take i).length]
  have hS : ∀ i, IdsS (σ ++ S i).length (σ ++ S i) := fun i => idsS_app _ hσ (all_cons' (idsO_row (ids_encTask t)) (all_cons' (idsO_row (hz _)) (all_cons' (idsO_row (idsL_cons (ids_mapf ids_encT _) (idsL_cons (ids_mapf ids_encI _) (idsL_cons (ids_map ids_encLit _) (idsL_cons (ids_grow_map ids_encA (by simp [S])) idsL_nil))))) (all_cons' trivial all_nil'))))
  simp only [go_sem, Int.reduceToNat, Int.reduceLE, Int.reduceLT, Nat.reduceBEq, Nat.reduceLT, Nat.reduceAdd, Nat.reduceLeDiff, dr_copyTask_0, dr_copyTask_1, encTask, hbig1, hbig2]
  refine ⟨hall1, hall2, ?_⟩
  refine ⟨_, copyLits_spec t.goal .unk _ (by omega), ?_⟩
  simp only [go_sem, Int.reduceToNat, Int.reduceLE, Int.reduceLT, Nat.reduceBEq, Nat.reduceLT, Nat.reduceAdd, Nat.reduceLeDiff, dr_copyTask_0, dr_copyTask_1]
  refine ⟨copyLits_spec t.goal .unk _ (by omega), ?_⟩
  rw [wpc_ghost]; refine Gh.of (Ghost.tokRow (σ.length + 2) 3 4 (cells := [AV.slice .fresh (t.facts.map encT), .slice .fresh (t.init.map Ahl.encI), .slice .unk (t.goal.map encLit), .slice .nil []]) (by rw [g_get]; rfl) rfl) ?_
  simp only [go_sem, Int.reduceToNat, Int.reduceLE, Int.reduceLT, Nat.reduceBEq, Nat.reduceLT, Nat.reduceAdd, Nat.reduceLeDiff, dr_copyTask_0, dr_copyTask_1]
  refine wpc_while (fun (i : Nat) => [(2, .ptr (σ.length + 1) 0), (3, .ptr (σ.length + 2) 0), (17, .slice .unk (t.actions.map encA)), (18, .int .i64 t.actions.length), (19, .int .i64 (i : Nat))]) (fun i => σ ++ S i) (fun i => i ≤ t.actions.length) (fun i => t.actions.length - i) 0 (Nat.zero_le _) (by simp only [S, encTask]; exact (by (try dsimp only); first | exact ghL (hS 0) | exact ghL0 (hS 0))) ?_
  intro i hi K hK hE hR
  by_cases h : i < t.actions.length
  · obtain ⟨a, hx⟩ := get_ex h; have hlt : ((i : Int) < (t.actions.length : Int)) := (by omega); have hw : IntKind.i64.wrap ((i : Int) + 1) = ((i + 1 : Nat) : Int) := (by rw [wrap_ok (by omega)]; omega)
    have hc : (t.actions.take i).map encA ++ [encA a] = (t.actions.take (i + 1)).map encA := by rw [take_succ' hx]; simp
    have hl : (t.actions.take i).length = i := List.length_take_of_le (by omega)
    have hl1 : (t.actions.take (i + 1)).length = i + 1 := List.length_take_of_le (by omega)
    have hbig : bigLen (i + 1) 72 := big_ok (by omega) (by omega)
    have ha := ht.act a (List.mem_of_getElem? hx)
    simp only [encA] at hc
    simp only [go_sem, Int.reduceToNat, Int.reduceLE, Int.reduceLT, Nat.reduceBEq, Nat.reduceLT, Nat.reduceAdd, Nat.reduceLeDiff, dr_copyTask_0, dr_copyTask_1, S, hlt, hx, encA, encTask]
    refine ⟨_, copyAction_spec a _ ha.1 ha.2.1 ha.2.2, ?_⟩
    simp only [go_sem, Int.reduceToNat, Int.reduceLE, Int.reduceLT, Nat.reduceBEq, Nat.reduceLT, Nat.reduceAdd, Nat.reduceLeDiff, dr_copyTask_0, dr_copyTask_1, hbig, hl, hc, encA]
    refine hK _ _ (i + 1) (by omega) (by omega) ?_
    have hq := hS (i + 1)
    simp only [S, hl1, encTask] at hq ⊢
    exact (by (try dsimp only); (try simp only [ hw]); first | exact ghL (hq) | exact ghL0 (hq))
  · have hlt : ¬ ((i : Int) < (t.actions.length : Int)) := by omega
    simp only [go_sem, Int.reduceToNat, Int.reduceLE, Int.reduceLT, Nat.reduceBEq, Nat.reduceLT, Nat.reduceAdd, Nat.reduceLeDiff, dr_copyTask_0, dr_copyTask_1, S, hlt, hE, encTask]
    rw [List.take_of_length_le (by omega)]
    rw [wpc_ghost]; refine Gh.of (Ghost.rewk (σ.length + 2) (by rw [g_get]; rfl) (ys := encTask t) (.cons (Wk.unk _ _) (.cons (Wk.unk _ _) (.cons (.refl _) (.cons (Wk.unk _ _) .nil))))) ?_
    simp only [go_sem, Int.reduceToNat, Int.reduceLE, Int.reduceLT, Nat.reduceBEq, Nat.reduceLT, Nat.reduceAdd, Nat.reduceLeDiff, dr_copyTask_0, dr_copyTask_1, encTask]
    refine ret_cN (cells := encTask t) rfl (by simp [encTask]) rfl (by simp) hσ (ids_agg (ids_encTask _)) ⟨rfl, rfl⟩
theorem sameLits_self (l : List FLit) (σ : Store) (hl : l.length ≤ 1000000) : ACalls Try.prog 54 [.slice .unk (l.map encLit), .slice .unk (l.map encLit)] σ (isR (.bool true) σ) := by
  have := sameLits_spec l l .unk .unk σ (by omega) (by omega)
  simpa using this
def d_sameAction_0 : List COp := [⟨some 44, .faddr 1 (.tmp 6), none, []⟩, ⟨some 45, .load (some 2) (.tmp 44), none, [0]⟩, ⟨some 46, .faddr 3 (.tmp 3), none, []⟩, ⟨some 47, .load none (.tmp 46), none, [2]⟩, ⟨some 48, .move (.tmp 5), none, []⟩, ⟨some 49, .iaddr 3 (.tmp 47) (.tmp 48), none, [3, 4]⟩, ⟨some 50, .faddr 1 (.tmp 49), none, [5]⟩, ⟨some 51, .load (some 2) (.tmp 50), none, [6]⟩, ⟨some 52, .bin .neq (.flat [1, 0]) (.tmp 45) (.tmp 51), none, [1, 7]⟩, ⟨some 53, .move (.tmp 52), none, [8]⟩, ⟨some 54, .faddr 0 (.tmp 6), some (some 53, false), [9]⟩, ⟨some 55, .load none (.tmp 54), some (some 53, false), [10, 9]⟩, ⟨some 56, .faddr 3 (.tmp 3), some (some 53, false), [9]⟩, ⟨some 57, .load none (.tmp 56), some (some 53, false), [12, 9]⟩, ⟨some 58, .move (.tmp 5), some (some 53, false), [9]⟩, ⟨some 59, .iaddr 3 (.tmp 57) (.tmp 58), some (some 53, false), [13, 14, 9]⟩, ⟨some 60, .faddr 0 (.tmp 59), some (some 53, false), [15, 9]⟩, ⟨some 61, .load none (.tmp 60), some (some 53, false), [16, 9]⟩, ⟨some 62, .call (.lit (.func 54 [])) [.tmp 55, .tmp 61], some (some 53, false), [11, 17, 9, 9]⟩, ⟨some 63, .un .not (.tmp 62), some (some 53, false), [18, 9]⟩, ⟨some 64, .pick (.tmp 53) (.lit (.bool true)) (.tmp 63), none, [9, 19]⟩]
theorem dr_sameAction_0 (P : Program) (nt n0 : Nat) (Q : Post) (s : Slots) (σ : Store) : wpc P nt n0 (.draw d_sameAction_0) Q s σ = aOpsD P nt [⟨some 44, .faddr 1 (.tmp 6), none, []⟩, ⟨some 45, .load (some 2) (.tmp 44), none, [0]⟩, ⟨some 46, .faddr 3 (.tmp 3), none, []⟩, ⟨some 47, .load none (.tmp 46), none, [2]⟩, ⟨some 48, .move (.tmp 5), none, []⟩, ⟨some 49, .iaddr 3 (.tmp 47) (.tmp 48), none, [3, 4]⟩, ⟨some 50, .faddr 1 (.tmp 49), none, [5]⟩, ⟨some 51, .load (some 2) (.tmp 50), none, [6]⟩, ⟨some 52, .bin .neq (.flat [1, 0]) (.tmp 45) (.tmp 51), none, [1, 7]⟩, ⟨some 53, .move (.tmp 52), none, [8]⟩, ⟨some 54, .faddr 0 (.tmp 6), some (some 53, false), [9]⟩, ⟨some 55, .load none (.tmp 54), some (some 53, false), [10, 9]⟩, ⟨some 56, .faddr 3 (.tmp 3), some (some 53, false), [9]⟩, ⟨some 57, .load none (.tmp 56), some (some 53, false), [12, 9]⟩, ⟨some 58, .move (.tmp 5), some (some 53, false), [9]⟩, ⟨some 59, .iaddr 3 (.tmp 57) (.tmp 58), some (some 53, false), [13, 14, 9]⟩, ⟨some 60, .faddr 0 (.tmp 59), some (some 53, false), [15, 9]⟩, ⟨some 61, .load none (.tmp 60), some (some 53, false), [16, 9]⟩, ⟨some 62, .call (.lit (.func 54 [])) [.tmp 55, .tmp 61], some (some 53, false), [11, 17, 9, 9]⟩, ⟨some 63, .un .not (.tmp 62), some (some 53, false), [18, 9]⟩, ⟨some 64, .pick (.tmp 53) (.lit (.bool true)) (.tmp 63), none, [9, 19]⟩] (Q .normal) s σ := wpc_draw _ (by decide)
def c_sameAction : CCode := .seq (.ops [⟨some 2, .box (.tmp 0), none, []⟩, ⟨some 3, .box (.tmp 1), none, []⟩, ⟨some 4, .move (.lit (.bool false)), none, []⟩]) (.seq (.seq (.ops [⟨some 7, .faddr 0 (.tmp 2), none, []⟩, ⟨some 8, .load none (.tmp 7), none, []⟩, ⟨some 9, .faddr 0 (.tmp 3), none, []⟩, ⟨some 10, .load none (.tmp 9), none, []⟩, ⟨some 11, .bin .neq .none (.tmp 8) (.tmp 10), none, []⟩, ⟨some 12, .move (.tmp 11), none, []⟩, ⟨some 13, .faddr 1 (.tmp 2), some (some 12, false), []⟩, ⟨some 14, .load none (.tmp 13), some (some 12, false), []⟩, ⟨some 15, .faddr 1 (.tmp 3), some (some 12, false), []⟩, ⟨some 16, .load none (.tmp 15), some (some 12, false), []⟩, ⟨some 17, .bin .neq .none (.tmp 14) (.tmp 16), some (some 12, false), []⟩, ⟨some 18, .pick (.tmp 12) (.lit (.bool true)) (.tmp 17), none, []⟩, ⟨some 19, .move (.tmp 18), none, []⟩, ⟨some 20, .faddr 2 (.tmp 2), some (some 19, false), []⟩, ⟨some 21, .load none (.tmp 20), some (some 19, false), []⟩, ⟨some 22, .faddr 2 (.tmp 3), some (some 19, false), []⟩, ⟨some 23, .load none (.tmp 22), some (some 19, false), []⟩, ⟨some 24, .call (.lit (.func 54 [])) [.tmp 21, .tmp 23], some (some 19, false), []⟩, ⟨some 25, .un .not (.tmp 24), some (some 19, false), []⟩, ⟨some 26, .pick (.tmp 19) (.lit (.bool true)) (.tmp 25), none, []⟩, ⟨some 27, .move (.tmp 26), none, []⟩, ⟨some 28, .faddr 3 (.tmp 2), some (some 27, false), []⟩, ⟨some 29, .load none (.tmp 28), some (some 27, false), []⟩, ⟨some 30, .blen 1 (.tmp 29), some (some 27, false), []⟩, ⟨some 31, .faddr 3 (.tmp 3), some (some 27, false), []⟩, ⟨some 32, .load none (.tmp 31), some (some 27, false), []⟩, ⟨some 33, .blen 1 (.tmp 32), some (some 27, false), []⟩, ⟨some 34, .bin .neq .none (.tmp 30) (.tmp 33), some (some 27, false), []⟩, ⟨some 35, .pick (.tmp 27) (.lit (.bool true)) (.tmp 34), none, []⟩]) (.cond (.tmp 35) (.seq (.ops [⟨some 4, .move (.lit (.bool false)), none, []⟩]) .ret) .skip)) (.seq (.seq (.ops [⟨some 36, .faddr 3 (.tmp 2), none, []⟩, ⟨some 37, .load none (.tmp 36), none, []⟩, ⟨some 38, .blen 1 (.tmp 37), none, []⟩, ⟨some 39, .move (.lit (.int .i64 0)), none, []⟩]) (.block 0 (.loop (.seq (.ops [⟨some 40, .bin .lss .none (.tmp 39) (.tmp 38), none, []⟩]) (.seq (.cond (.tmp 40) .skip (.exit 0)) (.seq (.block 1 (.seq (.ops [⟨some 41, .move (.tmp 39), none, []⟩, ⟨some 42, .iaddr 3 (.tmp 37) (.tmp 39), none, []⟩, ⟨some 43, .load (some 3) (.tmp 42), none, []⟩, ⟨some 6, .alloc (.agg [.slice .nil [], .int .i64 0, .bool false]), none, []⟩, ⟨some 5, .move (.tmp 41), none, []⟩, ⟨none, .store 3 (.tmp 6) (.tmp 43), none, []⟩]) (.seq (.draw d_sameAction_0) (.cond (.tmp 64) (.seq (.ops [⟨some 4, .move (.lit (.bool false)), none, []⟩]) .ret) .skip)))) (.ops [⟨some 65, .bin .add .none (.tmp 39) (.lit (.int .i64 1)), none, []⟩, ⟨some 39, .move (.tmp 65), none, []⟩]))))))) (.seq (.ops [⟨some 4, .move (.lit (.bool true)), none, []⟩]) .ret)))
set_option maxRecDepth 20000 in
theorem sameAction_self (a : FAct) (σ : Store) (h1 : a.pre.length ≤ 1000000) (h2 : a.effects.length ≤ 1000000) (h3 : ∀ e ∈ a.effects, e.when_.length ≤ 1000000) :
    ACalls Try.prog 55 [.agg (encA a), .agg (encA a)] σ (isR (.bool true) σ) := by
  refine ACalls.intro (rs := [(.tmp 4)]) (by kernel_rfl) { own := [], ghosts := [] } Try.func55 (c := Try.f55.body.getD .skip) (by kernel_rfl) (by decide) (by rw [show Try.f55.ntmps = 66 by kernel_rfl]; exact Nat.le_of_ble_eq_true rfl) (by kernel_rfl) ?_
  intro hσ hids
  rw [show comp Try.prog { own := [], ghosts := [] } (Try.f55.body.getD .skip) = c_sameAction by kernel_rfl, show Try.f55.ntmps = 66 by kernel_rfl]
  unfold c_sameAction
  have hs1 : IdsS (σ ++ [AObj.row (encA a), AObj.row (encA a)]).length (σ ++ [AObj.row (encA a), AObj.row (encA a)]) := idsS_app _ hσ (all_cons' (idsO_row (ids_encA a)) (all_cons' (idsO_row (ids_encA a)) all_nil'))
  simp only [encA] at hs1
  simp only [go_sem, Int.reduceToNat, Int.reduceLE, Int.reduceLT, Nat.reduceBEq, Nat.reduceLT, Nat.reduceAdd, Nat.reduceLeDiff, dr_sameAction_0, encA, bne_self_eq_false]
  refine (sameLits_self a.pre _ h1).is ?_
  simp only [go_sem, Int.reduceToNat, Int.reduceLE, Int.reduceLT, Nat.reduceBEq, Nat.reduceLT, Nat.reduceAdd, Nat.reduceLeDiff, dr_sameAction_0, bne_self_eq_false]
  refine wpc_while (fun (i : Nat) => [(3, .ptr (σ.length + 1) 0), (37, .slice .unk (a.effects.map encE)), (38, .int .i64 a.effects.length), (39, .int .i64 (i : Nat))]) (fun _ => σ ++ [.row (encA a), .row (encA a)]) (fun i => i ≤ a.effects.length) (fun i => a.effects.length - i) 0 (Nat.zero_le _) (by simp only [encA]; exact (by (try dsimp only); first | exact ghL (hs1) | exact ghL0 (hs1))) ?_
  intro i hi K hK hE hR
  by_cases h : i < a.effects.length
  · obtain ⟨e, hx⟩ := get_ex h; have hlt : ((i : Int) < (a.effects.length : Int)) := (by omega); have hw : IntKind.i64.wrap ((i : Int) + 1) = ((i + 1 : Nat) : Int) := (by rw [wrap_ok (by omega)]; omega)
    have hf := flat_lit e.lit e.lit
    simp only [encLit] at hf
    have hd : decide (e.lit = e.lit) = true := decide_eq_true rfl
    simp only [go_sem, Int.reduceToNat, Int.reduceLE, Int.reduceLT, Nat.reduceBEq, Nat.reduceLT, Nat.reduceAdd, Nat.reduceLeDiff, dr_sameAction_0, hlt, hx, encE, encA, hf, hd]
    refine ⟨_, sameLits_self e.when_ _ (h3 e (List.mem_of_getElem? hx)), ?_⟩
    simp only [go_sem, Int.reduceToNat, Int.reduceLE, Int.reduceLT, Nat.reduceBEq, Nat.reduceLT, Nat.reduceAdd, Nat.reduceLeDiff, dr_sameAction_0]
    refine hK _ _ (i + 1) (by omega) (by omega) ?_
    simp only [encA]
    exact (by (try dsimp only); (try simp only [ hw]); first | exact ghL (hs1) | exact ghL0 (hs1))
  · have hlt : ¬ ((i : Int) < (a.effects.length : Int)) := by omega
    simp only [go_sem, Int.reduceToNat, Int.reduceLE, Int.reduceLT, Nat.reduceBEq, Nat.reduceLT, Nat.reduceAdd, Nat.reduceLeDiff, dr_sameAction_0, hlt, hE]
    first | exact rtk (.bool true) ⟨rfl, rfl⟩ | exact rtk0 (.bool true) ⟨rfl, rfl⟩
def d_same01_0 : List COp := [⟨some 65, .load (some 4) (.tmp 8), none, []⟩, ⟨some 66, .faddr 3 (.tmp 3), none, []⟩, ⟨some 67, .load none (.tmp 66), none, [1]⟩, ⟨some 68, .move (.tmp 7), none, []⟩, ⟨some 69, .iaddr 4 (.tmp 67) (.tmp 68), none, [2, 3]⟩, ⟨some 70, .load (some 4) (.tmp 69), none, [4]⟩, ⟨some 71, .call (.lit (.func 55 [])) [.tmp 65, .tmp 70], none, [0, 5]⟩, ⟨some 72, .un .not (.tmp 71), none, [6]⟩]
theorem dr_same01_0 (P : Program) (nt n0 : Nat) (Q : Post) (s : Slots) (σ : Store) : wpc P nt n0 (.draw d_same01_0) Q s σ = aOpsD P nt [⟨some 65, .load (some 4) (.tmp 8), none, []⟩, ⟨some 66, .faddr 3 (.tmp 3), none, []⟩, ⟨some 67, .load none (.tmp 66), none, [1]⟩, ⟨some 68, .move (.tmp 7), none, []⟩, ⟨some 69, .iaddr 4 (.tmp 67) (.tmp 68), none, [2, 3]⟩, ⟨some 70, .load (some 4) (.tmp 69), none, [4]⟩, ⟨some 71, .call (.lit (.func 55 [])) [.tmp 65, .tmp 70], none, [0, 5]⟩, ⟨some 72, .un .not (.tmp 71), none, [6]⟩] (Q .normal) s σ := wpc_draw _ (by decide)
def c_same01 : CCode := .seq (.ops [⟨some 2, .box (.tmp 0), none, []⟩, ⟨some 3, .box (.tmp 1), none, []⟩, ⟨some 4, .move (.lit (.bool false)), none, []⟩]) (.seq (.seq (.ops [⟨some 9, .faddr 0 (.tmp 2), none, []⟩, ⟨some 10, .load none (.tmp 9), none, []⟩, ⟨some 11, .blen 1 (.tmp 10), none, []⟩, ⟨some 12, .faddr 0 (.tmp 3), none, []⟩, ⟨some 13, .load none (.tmp 12), none, []⟩, ⟨some 14, .blen 1 (.tmp 13), none, []⟩, ⟨some 15, .bin .neq .none (.tmp 11) (.tmp 14), none, []⟩, ⟨some 16, .move (.tmp 15), none, []⟩, ⟨some 17, .faddr 1 (.tmp 2), some (some 16, false), []⟩, ⟨some 18, .load none (.tmp 17), some (some 16, false), []⟩, ⟨some 19, .faddr 1 (.tmp 3), some (some 16, false), []⟩, ⟨some 20, .load none (.tmp 19), some (some 16, false), []⟩, ⟨some 21, .call (.lit (.func 53 [])) [.tmp 18, .tmp 20], some (some 16, false), []⟩, ⟨some 22, .un .not (.tmp 21), some (some 16, false), []⟩, ⟨some 23, .pick (.tmp 16) (.lit (.bool true)) (.tmp 22), none, []⟩, ⟨some 24, .move (.tmp 23), none, []⟩, ⟨some 25, .faddr 2 (.tmp 2), some (some 24, false), []⟩, ⟨some 26, .load none (.tmp 25), some (some 24, false), []⟩, ⟨some 27, .faddr 2 (.tmp 3), some (some 24, false), []⟩, ⟨some 28, .load none (.tmp 27), some (some 24, false), []⟩, ⟨some 29, .call (.lit (.func 54 [])) [.tmp 26, .tmp 28], some (some 24, false), []⟩, ⟨some 30, .un .not (.tmp 29), some (some 24, false), []⟩, ⟨some 31, .pick (.tmp 24) (.lit (.bool true)) (.tmp 30), none, []⟩, ⟨some 32, .move (.tmp 31), none, []⟩, ⟨some 33, .faddr 3 (.tmp 2), some (some 32, false), []⟩, ⟨some 34, .load none (.tmp 33), some (some 32, false), []⟩, ⟨some 35, .blen 1 (.tmp 34), some (some 32, false), []⟩, ⟨some 36, .faddr 3 (.tmp 3), some (some 32, false), []⟩, ⟨some 37, .load none (.tmp 36), some (some 32, false), []⟩, ⟨some 38, .blen 1 (.tmp 37), some (some 32, false), []⟩, ⟨some 39, .bin .neq .none (.tmp 35) (.tmp 38), some (some 32, false), []⟩, ⟨some 40, .pick (.tmp 32) (.lit (.bool true)) (.tmp 39), none, []⟩]) (.cond (.tmp 40) (.seq (.ops [⟨some 4, .move (.lit (.bool false)), none, []⟩]) .ret) .skip)) (.seq (.seq (.ops [⟨some 41, .faddr 0 (.tmp 2), none, []⟩, ⟨some 42, .load none (.tmp 41), none, []⟩, ⟨some 43, .blen 1 (.tmp 42), none, []⟩, ⟨some 44, .move (.lit (.int .i64 0)), none, []⟩]) (.block 0 (.loop (.seq (.ops [⟨some 45, .bin .lss .none (.tmp 44) (.tmp 43), none, []⟩]) (.seq (.cond (.tmp 45) .skip (.exit 0)) (.seq (.block 1 (.seq (.ops [⟨some 46, .move (.tmp 44), none, []⟩, ⟨some 47, .iaddr 1 (.tmp 42) (.tmp 44), none, []⟩, ⟨some 48, .load none (.tmp 47), none, []⟩, ⟨some 5, .move (.tmp 46), none, []⟩, ⟨some 6, .move (.tmp 48), none, []⟩]) (.seq (.ops [⟨some 49, .move (.tmp 6), none, []⟩, ⟨some 50, .faddr 0 (.tmp 3), none, []⟩, ⟨some 51, .load none (.tmp 50), none, []⟩, ⟨some 52, .move (.tmp 5), none, []⟩, ⟨some 53, .iaddr 1 (.tmp 51) (.tmp 52), none, []⟩, ⟨some 54, .load none (.tmp 53), none, []⟩, ⟨some 55, .bin .neq .none (.tmp 49) (.tmp 54), none, []⟩]) (.cond (.tmp 55) (.seq (.ops [⟨some 4, .move (.lit (.bool false)), none, []⟩]) .ret) .skip)))) (.ops [⟨some 56, .bin .add .none (.tmp 44) (.lit (.int .i64 1)), none, []⟩, ⟨some 44, .move (.tmp 56), none, []⟩]))))))) (.seq (.seq (.ops [⟨some 57, .faddr 3 (.tmp 2), none, []⟩, ⟨some 58, .load none (.tmp 57), none, []⟩, ⟨some 59, .blen 1 (.tmp 58), none, []⟩, ⟨some 60, .move (.lit (.int .i64 0)), none, []⟩]) (.block 2 (.loop (.seq (.ops [⟨some 61, .bin .lss .none (.tmp 60) (.tmp 59), none, []⟩]) (.seq (.cond (.tmp 61) .skip (.exit 2)) (.seq (.block 3 (.seq (.ops [⟨some 62, .move (.tmp 60), none, []⟩, ⟨some 63, .iaddr 4 (.tmp 58) (.tmp 60), none, []⟩, ⟨some 64, .load (some 4) (.tmp 63), none, []⟩, ⟨some 8, .alloc (.agg [.str (bys []), .int .i64 0, .slice .nil [], .slice .nil []]), none, []⟩, ⟨some 7, .move (.tmp 62), none, []⟩, ⟨none, .store 4 (.tmp 8) (.tmp 64), none, []⟩]) (.seq (.draw d_same01_0) (.cond (.tmp 72) (.seq (.ops [⟨some 4, .move (.lit (.bool false)), none, []⟩]) .ret) .skip)))) (.ops [⟨some 73, .bin .add .none (.tmp 60) (.lit (.int .i64 1)), none, []⟩, ⟨some 60, .move (.tmp 73), none, []⟩]))))))) (.seq (.ops [⟨some 4, .move (.lit (.bool true)), none, []⟩]) .ret))))
set_option maxRecDepth 20000 in
theorem same01_self (t : FTask) (σ : Store) (ht : CB t) :
    ACalls Try.prog 27 [.agg (encTask t), .agg (encTask t)] σ (isR (.bool true) σ) := by
  refine ACalls.intro (rs := [(.tmp 4)]) (by kernel_rfl) { own := [], ghosts := [] } Try.func27 (c := Try.f27.body.getD .skip) (by kernel_rfl) (by decide) (by rw [show Try.f27.ntmps = 74 by kernel_rfl]; exact Nat.le_of_ble_eq_true rfl) (by kernel_rfl) ?_
  intro hσ hids
  rw [show comp Try.prog { own := [], ghosts := [] } (Try.f27.body.getD .skip) = c_same01 by kernel_rfl, show Try.f27.ntmps = 74 by kernel_rfl]
  unfold c_same01
  have hs1 : IdsS (σ ++ [AObj.row (encTask t), AObj.row (encTask t)]).length (σ ++ [AObj.row (encTask t), AObj.row (encTask t)]) := idsS_app _ hσ (all_cons' (idsO_row (ids_encTask t)) (all_cons' (idsO_row (ids_encTask t)) all_nil'))
  simp only [encTask] at hs1
  have hb : ∀ s : ByteArray, (s.toList == s.toList) = true := fun s => beq_self_eq_true _
  have hsi : ∀ σ, ACalls Try.prog 53 [.slice .unk (t.init.map Ahl.encI), .slice .unk (t.init.map Ahl.encI)] σ (isR (.bool true) σ) := fun σ => by
    have := sameInts_spec t.init t.init .unk .unk σ (by have := ht.init; omega) (by have := ht.init; omega)
    simpa using this
  simp only [go_sem, Int.reduceToNat, Int.reduceLE, Int.reduceLT, Nat.reduceBEq, Nat.reduceLT, Nat.reduceAdd, Nat.reduceLeDiff, dr_same01_0, encTask, bne_self_eq_false]
  refine (hsi _).is ?_
  simp only [go_sem, Int.reduceToNat, Int.reduceLE, Int.reduceLT, Nat.reduceBEq, Nat.reduceLT, Nat.reduceAdd, Nat.reduceLeDiff, dr_same01_0, bne_self_eq_false]
  refine (sameLits_self t.goal _ ht.goal).is ?_
  simp only [go_sem, Int.reduceToNat, Int.reduceLE, Int.reduceLT, Nat.reduceBEq, Nat.reduceLT, Nat.reduceAdd, Nat.reduceLeDiff, dr_same01_0, bne_self_eq_false]
  have b1 := ht.facts
  have b4 := ht.acts
  refine wpc_while (fun (i : Nat) => [(2, .ptr σ.length 0), (3, .ptr (σ.length + 1) 0), (42, .slice .unk (t.facts.map encT)), (43, .int .i64 t.facts.length), (44, .int .i64 (i : Nat))]) (fun _ => σ ++ [.row (encTask t), .row (encTask t)]) (fun i => i ≤ t.facts.length) (fun i => t.facts.length - i) 0 (Nat.zero_le _) (by simp only [encTask]; exact (by (try dsimp only); first | exact ghL (hs1) | exact ghL0 (hs1))) ?_
  intro i hi K hK hE hR
  by_cases h : i < t.facts.length
  · obtain ⟨x, hx⟩ := get_ex h; have hlt : ((i : Int) < (t.facts.length : Int)) := (by omega); have hw : IntKind.i64.wrap ((i : Int) + 1) = ((i + 1 : Nat) : Int) := (by rw [wrap_ok (by omega)]; omega)
    simp only [go_sem, Int.reduceToNat, Int.reduceLE, Int.reduceLT, Nat.reduceBEq, Nat.reduceLT, Nat.reduceAdd, Nat.reduceLeDiff, dr_same01_0, hlt, hx, encT, encTask, hb]
    refine hK _ _ (i + 1) (by omega) (by omega) ?_
    simp only [encTask]
    exact (by (try dsimp only); (try simp only [ hw]); first | exact ghL (hs1) | exact ghL0 (hs1))
  · have hlt : ¬ ((i : Int) < (t.facts.length : Int)) := by omega
    simp only [go_sem, Int.reduceToNat, Int.reduceLE, Int.reduceLT, Nat.reduceBEq, Nat.reduceLT, Nat.reduceAdd, Nat.reduceLeDiff, dr_same01_0, hlt, hE, encTask]
    refine wpc_while (fun (i : Nat) => [(3, .ptr (σ.length + 1) 0), (58, .slice .unk (t.actions.map encA)), (59, .int .i64 t.actions.length), (60, .int .i64 (i : Nat))]) (fun _ => σ ++ [.row (encTask t), .row (encTask t)]) (fun i => i ≤ t.actions.length) (fun i => t.actions.length - i) 0 (Nat.zero_le _) (by simp only [encTask]; exact (by (try dsimp only); first | exact ghL (hs1) | exact ghL0 (hs1))) ?_
    intro i hi K hK hE hR
    by_cases h : i < t.actions.length
    · obtain ⟨a, hx⟩ := get_ex h; have hlt : ((i : Int) < (t.actions.length : Int)) := (by omega); have hw : IntKind.i64.wrap ((i : Int) + 1) = ((i + 1 : Nat) : Int) := (by rw [wrap_ok (by omega)]; omega)
      have ha := ht.act a (List.mem_of_getElem? hx)
      simp only [go_sem, Int.reduceToNat, Int.reduceLE, Int.reduceLT, Nat.reduceBEq, Nat.reduceLT, Nat.reduceAdd, Nat.reduceLeDiff, dr_same01_0, hlt, hx, encA, encTask]
      refine ⟨_, sameAction_self a _ ha.1 ha.2.1 ha.2.2, ?_⟩
      simp only [go_sem, Int.reduceToNat, Int.reduceLE, Int.reduceLT, Nat.reduceBEq, Nat.reduceLT, Nat.reduceAdd, Nat.reduceLeDiff, dr_same01_0]
      refine hK _ _ (i + 1) (by omega) (by omega) ?_
      simp only [encTask]
      exact (by (try dsimp only); (try simp only [ hw]); first | exact ghL (hs1) | exact ghL0 (hs1))
    · have hlt : ¬ ((i : Int) < (t.actions.length : Int)) := by omega
      simp only [go_sem, Int.reduceToNat, Int.reduceLE, Int.reduceLT, Nat.reduceBEq, Nat.reduceLT, Nat.reduceAdd, Nat.reduceLeDiff, dr_same01_0, hlt, hE]
      first | exact rtk (.bool true) ⟨rfl, rfl⟩ | exact rtk0 (.bool true) ⟨rfl, rfl⟩
end Go.Proofs.Ytbnhijapbnfohaa
namespace Go.Proofs.Ytbnhijapbnfohaa
open Go.Ahl
def c_spoil : CCode := .seq (.ops [⟨some 5, .move (.tmp 0), none, []⟩, ⟨some 6, .blen 1 (.tmp 5), none, []⟩, ⟨some 7, .move (.lit (.int .i64 0)), none, []⟩]) (.block 0 (.loop (.seq (.ops [⟨some 8, .bin .lss .none (.tmp 7) (.tmp 6), none, []⟩]) (.seq (.cond (.tmp 8) .skip (.exit 0)) (.seq (.block 1 (.seq (.ops [⟨some 9, .iaddr 1 (.tmp 5) (.tmp 7), none, []⟩, ⟨some 10, .load none (.tmp 9), none, []⟩, ⟨some 3, .move (.tmp 10), none, []⟩]) (.seq (.ops [⟨some 11, .move (.tmp 3), none, []⟩, ⟨some 12, .blen 1 (.tmp 11), none, []⟩, ⟨some 13, .move (.lit (.int .i64 0)), none, []⟩]) (.block 2 (.loop (.seq (.ops [⟨some 14, .bin .lss .none (.tmp 13) (.tmp 12), none, []⟩]) (.seq (.cond (.tmp 14) .skip (.exit 2)) (.seq (.block 3 (.seq (.ops [⟨some 15, .move (.tmp 13), none, []⟩, ⟨some 4, .move (.tmp 15), none, []⟩]) (.ops [⟨some 16, .move (.tmp 3), none, []⟩, ⟨some 17, .move (.tmp 4), none, []⟩, ⟨some 18, .iaddr 2 (.tmp 16) (.tmp 17), none, []⟩, ⟨some 19, .faddr 0 (.tmp 18), none, []⟩, ⟨none, .store 1 (.tmp 19) (.lit (.int .i64 (-7))), none, []⟩]))) (.ops [⟨some 20, .bin .add .none (.tmp 13) (.lit (.int .i64 1)), none, []⟩, ⟨some 13, .move (.tmp 20), none, []⟩]))))))))) (.ops [⟨some 21, .bin .add .none (.tmp 7) (.lit (.int .i64 1)), none, []⟩, ⟨some 7, .move (.tmp 21), none, []⟩]))))))
set_option maxRecDepth 20000 in
theorem spoil_spec (f : List (List FLit)) (σ : Store) (hf : f.length ≤ 1000000 ∧ ∀ l ∈ f, l.length ≤ 1000000) : ACalls Try.prog 24 [.wslice (f.map wC)] σ (isR (.tuple []) σ) := by
  refine ACalls.intro (rs := []) (by kernel_rfl) { own := [], ghosts := [] } Try.func24 (c := Try.f24.body.getD .skip) (by kernel_rfl) (by decide) (by rw [show Try.f24.ntmps = 22 by kernel_rfl]; exact Nat.le_of_ble_eq_true rfl) (by kernel_rfl) ?_
  intro hσ hids
  rw [show comp Try.prog { own := [], ghosts := [] } (Try.f24.body.getD .skip) = c_spoil by kernel_rfl, show Try.f24.ntmps = 22 by kernel_rfl]
  unfold c_spoil
  have hif : Ids σ.length (.wslice (f.map wC)) := hids _ (by simp)
  have hf1 := hf.1
  simp only [go_sem, Int.reduceToNat, Int.reduceLE, Int.reduceLT, Nat.reduceBEq, Nat.reduceLT, Nat.reduceAdd, Nat.reduceLeDiff]
  refine wpc_while (fun (i : Nat) => [(5, .wslice (f.map wC)), (6, .int .i64 f.length), (7, .int .i64 (i : Nat))]) (fun _ => σ) (fun i => i ≤ f.length) (fun i => f.length - i) 0 (Nat.zero_le _) (by (try dsimp only); first | exact ghk | exact ghk0) ?_
  intro i hi K hK hE hR
  by_cases h : i < f.length
  · obtain ⟨l, hx⟩ := get_ex h; have hlt : ((i : Int) < (f.length : Int)) := (by omega); have hw : IntKind.i64.wrap ((i : Int) + 1) = ((i + 1 : Nat) : Int) := (by rw [wrap_ok (by omega)]; omega)
    have hl := hf.2 l (List.mem_of_getElem? hx)
    have hil : Ids σ.length (.wslice (l.map wLit)) := by
      cases hif with
      | wslice _ hn hh => exact hh i _ (by rw [List.getElem?_map, hx]; rfl) 0 _ rfl
    simp only [go_sem, Int.reduceToNat, Int.reduceLE, Int.reduceLT, Nat.reduceBEq, Nat.reduceLT, Nat.reduceAdd, Nat.reduceLeDiff, hlt, hx, wC]
    refine wpc_while (fun (j : Nat) => [(3, .wslice (l.map wLit)), (5, .wslice (f.map wC)), (6, .int .i64 f.length), (7, .int .i64 (i : Nat)), (12, .int .i64 l.length), (13, .int .i64 (j : Nat))]) (fun _ => σ) (fun j => j ≤ l.length) (fun j => l.length - j) 0 (Nat.zero_le _) (by (try dsimp only); first | exact ghk | exact ghk0) ?_
    intro j hj' K' hK' hE' hR'
    by_cases hj : j < l.length
    · obtain ⟨x, hxj⟩ := get_ex hj; have hltj : ((j : Int) < (l.length : Int)) := (by omega); have hwj : IntKind.i64.wrap ((j : Int) + 1) = ((j + 1 : Nat) : Int) := (by rw [wrap_ok (by omega)]; omega)
      simp only [go_sem, Int.reduceToNat, Int.reduceLE, Int.reduceLT, Nat.reduceBEq, Nat.reduceLT, Nat.reduceAdd, Nat.reduceLeDiff, hltj, hxj, wLit]
      refine hK' _ _ (j + 1) (by omega) (by omega) ?_
      exact (by (try dsimp only); (try simp only [hwj]); first | exact ghk | exact ghk0)
    · have hltj : ¬ ((j : Int) < (l.length : Int)) := by omega
      simp only [go_sem, Int.reduceToNat, Int.reduceLE, Int.reduceLT, Nat.reduceBEq, Nat.reduceLT, Nat.reduceAdd, Nat.reduceLeDiff, hltj, hE']
      refine hK _ _ (i + 1) (by omega) (by first | omega | (simp only []; omega) | (simp; omega)) ?_; (try dsimp only); (try simp only [ hw]); first | exact ghk | exact ghk0
  · have hlt : ¬ ((i : Int) < (f.length : Int)) := by omega
    simp only [go_sem, Int.reduceToNat, Int.reduceLE, Int.reduceLT, Nat.reduceBEq, Nat.reduceLT, Nat.reduceAdd, Nat.reduceLeDiff, hlt, hE]
    exact ret_gh0 (Ghost.keep0 (s' := []) (Nat.le_refl _) trivial hσ) (Nat.le_refl _) hσ ⟨rfl, rfl⟩
end Go.Proofs.Ytbnhijapbnfohaa
