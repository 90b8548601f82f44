/- Contracts of the given program's functions, and an abstract layer over the model; no condition. -/
import Derived.Below
import Derived.Orders
import Derived.KernelRfl
import Derived.RangeFuncRecord
import Derived.RangeFuncCalls
import Derived.Laws.Cells
import Derived.Laws.Entries
import Derived.Laws.StructEq
import Derived.Laws.Tables
import Derived.Great.BuildSlice
import Derived.Laws.Append
import Derived.IntWalk
import Derived.Laws.CopyRow
set_option maxRecDepth 20000
set_option linter.unusedVariables false
set_option linter.unusedSimpArgs false
namespace Go.Ahl
inductive Tok where
 | nil
 | zero
 | unk
 | fresh
 | grow (id : Nat)
inductive Kind where
 | int (k : IntKind)
 | str
 | bool
def Kind.is : Kind → Value → Prop
 | .int k, v => ∃ n, v = .int k n
 | .str, v => ∃ s, v = .string s
 | .bool, v => ∃ b, v = .bool b
inductive AV where
 | any
 | bool (b : Bool)
 | int (k : IntKind) (n : Int)
 | str (s : ByteArray)
 | slice (tok : Tok) (elems : List (List AV))
 | ref (id sz off len : Nat)
 | vec (id sz len : Nat)
 | ptr (id off : Nat)
 | rptr (cells : List AV)
 | map (id : Nat)
 | mapnil
 | func (fn : FuncId) (captured : List AV)
 | agg (cells : List AV)
 | tuple (vs : List AV)
 | conc (v : Value)
 | cell (K : Kind)
 | wslice (elems : List (List AV))
 | wptr (cells : List AV)
 | yld (id : Nat)
 | iface (t : TypeId) (x : AV)
def AV.isCell : AV → Bool
 | .cell _ => true
 | _ => false
structure Mem where
 im : Nat → Nat → Option Value
 bs : Nat → Option Nat
 mp : Nat → Option (Array MapEntry × Nat)
 wk : Nat → Nat → Option Kind
 base : Nat
structure Mem.le (m m' : Mem) : Prop where
 im : ∀ b o v, m.im b o = some v → m'.im b o = some v
 bs : ∀ b n, m.bs b = some n → m'.bs b = some n
 mp : ∀ b e, m.mp b = some e → m'.mp b = some e
 wk : ∀ b o K, m.wk b o = some K → m'.wk b o = some K
 base : m'.base = m.base
theorem Mem.le.refl (m : Mem) : m.le m := ⟨fun _ _ _ h => h, fun _ _ h => h, fun _ _ h => h, fun _ _ _ h => h, rfl⟩
theorem Mem.le.trans {a b c : Mem} (h : a.le b) (k : b.le c) : a.le c := ⟨fun _ _ _ e => k.im _ _ _ (h.im _ _ _ e), fun _ _ e => k.bs _ _ (h.bs _ _ e), fun _ _ e => k.mp _ _ (h.mp _ _ e), fun _ _ _ e => k.wk _ _ _ (h.wk _ _ _ e), k.base.trans h.base⟩
inductive Loc where
 | nowhere
 | blk (b : Nat)
 | tok (sz : Nat) (f : Nat → Option (Option Nat))
def Loc.le : Loc → Loc → Prop
 | .nowhere, .nowhere => True
 | .blk b, .blk b' => b = b'
 | .tok sz f, .tok sz' f' => sz = sz' ∧ ∀ k r, f k = some r → f' k = some r
 | _, _ => False
theorem Loc.le.refl (l : Loc) : l.le l := by cases l <;> simp [Loc.le]
theorem Loc.le.trans {a b c : Loc} (h : a.le b) (k : b.le c) : a.le c := by
 cases a <;> cases b <;> cases c <;> simp [Loc.le] at h k ⊢
 ·exact h.trans k
 ·exact ⟨h.1.trans k.1, fun q r e => k.2 _ _ (h.2 _ _ e)⟩
def Keep (n : Nat) (loc loc' : List Loc) : Prop := ∀ (i : Nat) l, i < n → loc[i]? = some l → ∃ l', loc'[i]? = some l' ∧ l.le l'
theorem Keep.refl (n : Nat) (loc : List Loc) : Keep n loc loc := fun _ l _ h => ⟨l, h, .refl l⟩
theorem Keep.trans {n : Nat} {a b c : List Loc} (h : Keep n a b) (k : Keep n b c) : Keep n a c := fun i l hi e =>
 let ⟨l', e', q⟩ := h i l hi e; let ⟨l'', e'', q'⟩ := k i l' hi e'; ⟨l'', e'', q.trans q'⟩
def TokRel (m : Mem) (loc : List Loc) (len esz : Nat) : Tok → Option Addr → Nat → Prop
 | .nil, a, cap => a = none ∧ cap = 0
 | .zero, _, cap => cap = 0
 | .unk, _, _ => True
 | .fresh, a, _ => 0 < len → ∀ b o, a = some ⟨b, o, none⟩ → m.base ≤ b
 | .grow id, a, cap => ∃ sz f, loc[id]? = some (.tok sz f) ∧ (0 < len → esz = sz) ∧ ((f len = some none ∧ cap = 0) ∨
   ∃ b n, f len = some (some b) ∧ a = some ⟨b, 0, none⟩ ∧ m.bs b = some n ∧ cap * sz ≤ n ∧ m.base ≤ b)
inductive Rel (m : Mem) (loc : List Loc) : AV → Value → Prop where
 | any (v : Value) : Rel m loc .any v
 | bool (b : Bool) : Rel m loc (.bool b) (.bool b)
 | int (k : IntKind) (n : Int) : Rel m loc (.int k n) (.int k n)
 | str (s : ByteArray) : Rel m loc (.str s) (.string s)
 | slice (tok : Tok) (elems : List (List AV)) (a : Option Addr) (cap sz : Nat) (b o : Nat) (f : Nat → Nat → Value)
   (hcap : elems.length ≤ cap) (htok : TokRel m loc elems.length sz tok a cap)
   (hsz : ∀ e ∈ elems, e.length = sz)
   (ha : elems ≠ [] → a = some ⟨b, o, none⟩)
   (hc : ∀ i, i < elems.length → ∀ j, j < sz → m.im b (o + (i * sz + j)) = some (f i j))
   (hr : ∀ (i : Nat) e, elems[i]? = some e → ∀ (j : Nat) x, e[j]? = some x → Rel m loc x (f i j)) :
   Rel m loc (.slice tok elems) (.slice a elems.length cap)
 | ref (id sz off len cap b n : Nat) (hl : loc[id]? = some (.blk b)) (hcap : len ≤ cap) (hb : m.bs b = some n) (hn : off + cap * sz ≤ n) :
   Rel m loc (.ref id sz off len) (.slice (some ⟨b, off, none⟩) len cap)
 | ref0 (id sz off : Nat) (a : Option Addr) (hl : id < loc.length) : Rel m loc (.ref id sz off 0) (.slice a 0 0)
 | vec (id sz len cap : Nat) (f : Nat → Option (Option Nat)) (a : Option Addr) (hl : loc[id]? = some (.tok sz f)) (hcap : len ≤ cap)
   (h : (f len = some none ∧ cap = 0) ∨ ∃ b n, f len = some (some b) ∧ a = some ⟨b, 0, none⟩ ∧ m.bs b = some n ∧ cap * sz ≤ n) : Rel m loc (.vec id sz len) (.slice a len cap)
 | ptr (id off b : Nat) (hl : loc[id]? = some (.blk b)) : Rel m loc (.ptr id off) (.pointer (some ⟨b, off, none⟩))
 | rptr (cells : List AV) (b o : Nat) (f : Nat → Value) (hc : ∀ j, j < cells.length → m.im b (o + j) = some (f j))
   (hr : ∀ (j : Nat) x, cells[j]? = some x → Rel m loc x (f j)) : Rel m loc (.rptr cells) (.pointer (some ⟨b, o, none⟩))
 | map (id b : Nat) (hl : loc[id]? = some (.blk b)) : Rel m loc (.map id) (.map (some b))
 | mapnil : Rel m loc .mapnil (.map none)
 | func (fn : FuncId) (captured : List AV) (vs : Array Value) (hlen : vs.size = captured.length)
   (hr : ∀ (j : Nat) x v, captured[j]? = some x → vs[j]? = some v → Rel m loc x v) : Rel m loc (.func fn captured) (.func (.func fn) #[] vs)
 | agg (cells : List AV) (vs : Array Value) (hlen : vs.size = cells.length)
   (hr : ∀ (j : Nat) x v, cells[j]? = some x → vs[j]? = some v → Rel m loc x v) : Rel m loc (.agg cells) (.agg vs)
 | tuple (cells : List AV) (vs : Array Value) (hlen : vs.size = cells.length)
   (hr : ∀ (j : Nat) x v, cells[j]? = some x → vs[j]? = some v → Rel m loc x v) : Rel m loc (.tuple cells) (.tuple vs)
 | conc (v : Value) : Rel m loc (.conc v) v
 | yld (id b : Nat) (hl : loc[id]? = some (.blk b)) : Rel m loc (.yld id) (.func (.yield b) #[] #[])
 | iface (t : TypeId) (x : AV) (v : Value) (h : Rel m loc x v) : Rel m loc (.iface t x) (.iface t v)
 | cell (K : Kind) (v : Value) (h : K.is v) : Rel m loc (.cell K) v
 | wslice (elems : List (List AV)) (a : Option Addr) (cap sz : Nat) (b o : Nat) (f : Nat → Nat → Value) (hl : 0 < loc.length)
   (hcap : elems.length ≤ cap) (hsz : ∀ e ∈ elems, e.length = sz) (ha : elems ≠ [] → a = some ⟨b, o, none⟩)
   (hw : ∀ (i : Nat) e, elems[i]? = some e → ∀ (j : Nat) K, e[j]? = some (.cell K) → m.wk b (o + (i * sz + j)) = some K)
   (hc : ∀ (i : Nat) e, elems[i]? = some e → ∀ (j : Nat) x, e[j]? = some x → x.isCell = false → m.im b (o + (i * sz + j)) = some (f i j))
   (hr : ∀ (i : Nat) e, elems[i]? = some e → ∀ (j : Nat) x, e[j]? = some x → x.isCell = false → Rel m loc x (f i j)) :
   Rel m loc (.wslice elems) (.slice a elems.length cap)
 | wptr (cells : List AV) (b o : Nat) (f : Nat → Value) (hl : 0 < loc.length)
   (hw : ∀ (j : Nat) K, cells[j]? = some (.cell K) → m.wk b (o + j) = some K)
   (hc : ∀ (j : Nat) x, cells[j]? = some x → x.isCell = false → m.im b (o + j) = some (f j))
   (hr : ∀ (j : Nat) x, cells[j]? = some x → x.isCell = false → Rel m loc x (f j)) :
   Rel m loc (.wptr cells) (.pointer (some ⟨b, o, none⟩))
theorem lt_of_get {α : Type} {l : List α} {i : Nat} {y : α} (h : l[i]? = some y) : i < l.length := by
 rcases Nat.lt_or_ge i l.length with hl | hl
 ·exact hl
 ·rw [List.getElem?_eq_none hl] at h; simp at h
theorem Keep.blk {loc loc' : List Loc} (hl : Keep loc.length loc loc') {i b : Nat} (h : loc[i]? = some (.blk b)) : loc'[i]? = some (.blk b) := by
 obtain ⟨l', e, q⟩ := hl i _ (lt_of_get h) h
 cases l' <;> simp [Loc.le] at q
 subst q; exact e
theorem Keep.len {loc loc' : List Loc} (hl : Keep loc.length loc loc') {i : Nat} (h : i < loc.length) : i < loc'.length := by
 obtain ⟨l', e, _⟩ := hl i _ h (List.getElem?_eq_getElem h)
 exact lt_of_get e
theorem TokRel.mono {m m' : Mem} {loc loc' : List Loc} {len esz : Nat} {t : Tok} {a : Option Addr} {cap : Nat} (hm : m.le m') (hl : Keep loc.length loc loc')
  (h : TokRel m loc len esz t a cap) : TokRel m' loc' len esz t a cap := by
 cases t with
 | nil => exact h
 | zero => exact h
 | unk => trivial
 | fresh => intro h0 b o e; rw [hm.base]; exact h h0 b o e
 | grow id =>
  obtain ⟨sz, f, h1, h0, h2⟩ := h
  obtain ⟨l', e, q⟩ := hl id _ (lt_of_get h1) h1
  cases l' with
  | blk b => simp [Loc.le] at q
  | nowhere => simp [Loc.le] at q
  | tok sz' f' =>
   obtain ⟨rfl, q⟩ := q
   rcases h2 with ⟨h2, h3⟩ | ⟨b, n, h2, h3, h4, h5, h6⟩
   ·exact ⟨sz, f', e, h0, .inl ⟨q _ _ h2, h3⟩⟩
   ·exact ⟨sz, f', e, h0, .inr ⟨b, n, q _ _ h2, h3, hm.bs _ _ h4, h5, by rw [hm.base]; exact h6⟩⟩
theorem Rel.mono {m m' : Mem} {loc loc' : List Loc} {a : AV} {v : Value} (hm : m.le m') (hl : Keep loc.length loc loc')
  (h : Rel m loc a v) : Rel m' loc' a v := by
 induction h with
 | any v => exact .any v
 | bool b => exact .bool b
 | int k n => exact .int k n
 | str s => exact .str s
 | slice tok elems a cap sz b o f hcap htok hsz ha hc hr ih =>
  exact .slice tok elems a cap sz b o f hcap (htok.mono hm hl) hsz ha (fun i hi j hj => hm.im _ _ _ (hc i hi j hj)) ih
 | ref id sz off len cap b n h1 h2 h3 h4 => exact .ref id sz off len cap b n (hl.blk h1) h2 (hm.bs _ _ h3) h4
 | ref0 id sz off a h1 => exact .ref0 id sz off a (hl.len h1)
 | vec id sz len cap f a h1 h2 h3 =>
  obtain ⟨l', e, q⟩ := hl id _ (lt_of_get h1) h1
  cases l' with
  | blk b => simp [Loc.le] at q
  | nowhere => simp [Loc.le] at q
  | tok sz' f' =>
   obtain ⟨rfl, q⟩ := q
   refine .vec id sz len cap f' a e h2 ?_
   rcases h3 with ⟨h3, h4⟩ | ⟨b, n, h3, h4, h5, h6⟩
   ·exact .inl ⟨q _ _ h3, h4⟩
   ·exact .inr ⟨b, n, q _ _ h3, h4, hm.bs _ _ h5, h6⟩
 | ptr id off b h1 => exact .ptr id off b (hl.blk h1)
 | rptr cells b o f hc hr ih => exact .rptr cells b o f (fun j hj => hm.im _ _ _ (hc j hj)) ih
 | map id b h1 => exact .map id b (hl.blk h1)
 | mapnil => exact .mapnil
 | func fn c vs h1 h2 ih => exact .func fn c vs h1 ih
 | agg c vs h1 h2 ih => exact .agg c vs h1 ih
 | tuple c vs h1 h2 ih => exact .tuple c vs h1 ih
 | conc v => exact .conc v
 | yld id b h1 => exact .yld id b (hl.blk h1)
 | iface t x v _ ih => exact .iface t x v ih
 | cell K v h => exact .cell K v h
 | wslice elems a cap sz b o f hn hcap hsz ha hw hc hr ih =>
  exact .wslice elems a cap sz b o f (hl.len hn) hcap hsz ha (fun i e h1 j K h2 => hm.wk _ _ _ (hw i e h1 j K h2)) (fun i e h1 j x h2 h3 => hm.im _ _ _ (hc i e h1 j x h2 h3)) ih
 | wptr cells b o f hn hw hc hr ih => exact .wptr cells b o f (hl.len hn) (fun j K h => hm.wk _ _ _ (hw j K h)) (fun j x h1 h2 => hm.im _ _ _ (hc j x h1 h2)) ih
inductive Ids (n : Nat) : AV → Prop where
 | any : Ids n .any
 | bool (b : Bool) : Ids n (.bool b)
 | int (k : IntKind) (i : Int) : Ids n (.int k i)
 | str (s : ByteArray) : Ids n (.str s)
 | slice (tok : Tok) (elems : List (List AV)) (ht : ∀ id, tok = .grow id → id < n) (h : ∀ (i : Nat) e, elems[i]? = some e → ∀ (j : Nat) x, e[j]? = some x → Ids n x) : Ids n (.slice tok elems)
 | ref (id sz off len : Nat) (h : id < n) : Ids n (.ref id sz off len)
 | vec (id sz len : Nat) (h : id < n) : Ids n (.vec id sz len)
 | ptr (id off : Nat) (h : id < n) : Ids n (.ptr id off)
 | rptr (cells : List AV) (h : ∀ (j : Nat) x, cells[j]? = some x → Ids n x) : Ids n (.rptr cells)
 | map (id : Nat) (h : id < n) : Ids n (.map id)
 | mapnil : Ids n .mapnil
 | func (fn : FuncId) (c : List AV) (h : ∀ (j : Nat) x, c[j]? = some x → Ids n x) : Ids n (.func fn c)
 | agg (c : List AV) (h : ∀ (j : Nat) x, c[j]? = some x → Ids n x) : Ids n (.agg c)
 | tuple (c : List AV) (h : ∀ (j : Nat) x, c[j]? = some x → Ids n x) : Ids n (.tuple c)
 | conc (v : Value) : Ids n (.conc v)
 | yld (id : Nat) (h : id < n) : Ids n (.yld id)
 | iface (t : TypeId) (x : AV) (h : Ids n x) : Ids n (.iface t x)
 | cell (K : Kind) : Ids n (.cell K)
 | wslice (elems : List (List AV)) (hn : 0 < n) (h : ∀ (i : Nat) e, elems[i]? = some e → ∀ (j : Nat) x, e[j]? = some x → Ids n x) : Ids n (.wslice elems)
 | wptr (cells : List AV) (hn : 0 < n) (h : ∀ (j : Nat) x, cells[j]? = some x → Ids n x) : Ids n (.wptr cells)
theorem ids_cell {n : Nat} {x : AV} (h : x.isCell = true) : Ids n x := by
 cases x <;> simp [AV.isCell] at h
 exact .cell _
theorem get_of_size {vs : Array Value} {n j : Nat} {α : Type} {l : List α} {x : α} (h : vs.size = l.length) (e : l[j]? = some x) : ∃ v, vs[j]? = some v :=
 ⟨vs[j]'(by rw [h]; exact lt_of_get e), Array.getElem?_eq_getElem _⟩
theorem Rel.ids {m : Mem} {loc : List Loc} {a : AV} {v : Value} (h : Rel m loc a v) : Ids loc.length a := by
 induction h with
 | any v => exact .any
 | bool b => exact .bool b
 | int k n => exact .int k n
 | str s => exact .str s
 | slice tok elems a cap sz b o f hcap htok hsz ha hc hr ih =>
  refine .slice tok elems ?_ ih
  rintro id rfl
  obtain ⟨sz, f, h1, _⟩ := htok
  exact lt_of_get h1
 | ref id sz off len cap b n h1 h2 h3 h4 => exact .ref id sz off len (lt_of_get h1)
 | ref0 id sz off a h1 => exact .ref id sz off 0 h1
 | vec id sz len cap f a h1 h2 h3 => exact .vec id sz len (lt_of_get h1)
 | ptr id off b h1 => exact .ptr id off (lt_of_get h1)
 | rptr cells b o f hc hr ih => exact .rptr cells ih
 | map id b h1 => exact .map id (lt_of_get h1)
 | mapnil => exact .mapnil
 | func fn c vs h1 h2 ih => exact .func fn c fun j x e => let ⟨v, hv⟩ := get_of_size (n := 0) h1 e; ih j x v e hv
 | agg c vs h1 h2 ih => exact .agg c fun j x e => let ⟨v, hv⟩ := get_of_size (n := 0) h1 e; ih j x v e hv
 | tuple c vs h1 h2 ih => exact .tuple c fun j x e => let ⟨v, hv⟩ := get_of_size (n := 0) h1 e; ih j x v e hv
 | conc v => exact .conc v
 | yld id b h1 => exact .yld id (lt_of_get h1)
 | iface t x v _ ih => exact .iface t x ih
 | cell K v h => exact .cell K
 | wslice elems a cap sz b o f hn hcap hsz ha hw hc hr ih =>
  exact .wslice elems hn fun i e h1 j x h2 => by
   cases hx : x.isCell with
   | true => exact ids_cell hx
   | false => exact ih i e h1 j x h2 hx
 | wptr cells b o f hn hw hc hr ih =>
  exact .wptr cells hn fun j x h2 => by
   cases hx : x.isCell with
   | true => exact ids_cell hx
   | false => exact ih j x h2 hx
theorem take_get {α : Type} {l : List α} {n i : Nat} {x : α} (h : l[i]? = some x) (hi : i < n) : (l.take n)[i]? = some x := by
 rw [List.getElem?_take, if_pos hi]; exact h
theorem Rel.take {m : Mem} {loc : List Loc} {n : Nat} {a : AV} {v : Value} (h : Rel m loc a v) (hi : Ids n a) : Rel m (loc.take n) a v := by
 induction h with
 | any v => exact .any v
 | bool b => exact .bool b
 | int k n => exact .int k n
 | str s => exact .str s
 | slice tok elems a cap sz b o f hcap htok hsz ha hc hr ih =>
  cases hi with
  | slice _ _ ht he =>
   refine .slice tok elems a cap sz b o f hcap ?_ hsz ha hc (fun i e h1 j x h2 => ih i e h1 j x h2 (he i e h1 j x h2))
   cases tok with
   | nil => exact htok
   | zero => exact htok
   | unk => trivial
   | fresh => exact htok
   | grow id =>
    obtain ⟨sz, f, h1, h2⟩ := htok
    exact ⟨sz, f, take_get h1 (ht id rfl), h2⟩
 | ref id sz off len cap b n h1 h2 h3 h4 => cases hi with | ref _ _ _ _ h => exact .ref id sz off len cap b n (take_get h1 h) h2 h3 h4
 | ref0 id sz off a h1 => cases hi with | ref _ _ _ _ h => exact .ref0 id sz off a (by rw [List.length_take]; omega)
 | vec id sz len cap f a h1 h2 h3 => cases hi with | vec _ _ _ h => exact .vec id sz len cap f a (take_get h1 h) h2 h3
 | ptr id off b h1 => cases hi with | ptr _ _ h => exact .ptr id off b (take_get h1 h)
 | rptr cells b o f hc hr ih => cases hi with | rptr _ h => exact .rptr cells b o f hc fun j x e => ih j x e (h j x e)
 | map id b h1 => cases hi with | map _ h => exact .map id b (take_get h1 h)
 | mapnil => exact .mapnil
 | func fn c vs h1 h2 ih => cases hi with | func _ _ h => exact .func fn c vs h1 fun j x v e e' => ih j x v e e' (h j x e)
 | agg c vs h1 h2 ih => cases hi with | agg _ h => exact .agg c vs h1 fun j x v e e' => ih j x v e e' (h j x e)
 | tuple c vs h1 h2 ih => cases hi with | tuple _ h => exact .tuple c vs h1 fun j x v e e' => ih j x v e e' (h j x e)
 | conc v => exact .conc v
 | yld id b h1 => cases hi with | yld _ h => exact .yld id b (take_get h1 h)
 | iface t x v _ ih => cases hi with | iface _ _ h => exact .iface t x v (ih h)
 | cell K v h => exact .cell K v h
 | wslice elems a cap sz b o f hl hcap hsz ha hw hc hr ih => cases hi with | wslice _ hn h => exact .wslice elems a cap sz b o f (by rw [List.length_take]; omega) hcap hsz ha hw hc fun i e h1 j x h2 h3 => ih i e h1 j x h2 h3 (h i e h1 j x h2)
 | wptr cells b o f hl hw hc hr ih => cases hi with | wptr _ hn h => exact .wptr cells b o f (by rw [List.length_take]; omega) hw hc fun j x h2 h3 => ih j x h2 h3 (h j x h2)
theorem Ids.mono {n n' : Nat} {a : AV} (hn : n ≤ n') (h : Ids n a) : Ids n' a := by
 induction h with
 | any => exact .any
 | bool b => exact .bool b
 | int k n => exact .int k n
 | str s => exact .str s
 | slice tok elems ht h ih => exact .slice tok elems (fun id e => Nat.lt_of_lt_of_le (ht id e) hn) ih
 | ref id sz off len h => exact .ref id sz off len (Nat.lt_of_lt_of_le h hn)
 | vec id sz len h => exact .vec id sz len (Nat.lt_of_lt_of_le h hn)
 | ptr id off h => exact .ptr id off (Nat.lt_of_lt_of_le h hn)
 | rptr cells h ih => exact .rptr cells ih
 | map id h => exact .map id (Nat.lt_of_lt_of_le h hn)
 | mapnil => exact .mapnil
 | func fn c h ih => exact .func fn c ih
 | agg c h ih => exact .agg c ih
 | tuple c h ih => exact .tuple c ih
 | conc v => exact .conc v
 | yld id h => exact .yld id (Nat.lt_of_lt_of_le h hn)
 | iface t x _ ih => exact .iface t x ih
 | cell K => exact .cell K
 | wslice elems h0 h ih => exact .wslice elems (by omega) ih
 | wptr cells h0 h ih => exact .wptr cells (by omega) ih
abbrev Slots := List (Nat × AV)
def lk : Slots → Nat → AV
 | [], _ => .any
 | (j, v) :: r, i => bif j == i then v else lk r i
def put (s : Slots) (d : Nat) (v : AV) : Slots := (d, v) :: s
structure SlotRel (m : Mem) (loc : List Loc) (nt : Nat) (s : Slots) (tmps : Array Value) : Prop where
 size : tmps.size = nt
 rel : ∀ i, Rel m loc (lk s i) (tmps.getD i undef)
structure LoopA where
 nt : Nat
 s : Slots
 ps : List Nat
 asg : Code
 body : Code
 st : LoopState
 pend : Option Code
inductive AObj where
 | dead
 | row (cells : List AV)
 | grow (sz n : Nat)
 | vec (sz n : Nat) (cells : List AV)
 | map (entries : List (AV × AV))
 | iter (entries : List (AV × AV)) (seen : List Nat)
 | loop (L : LoopA)
 | tab (b : Nat) (vs : List Value)
abbrev Store := List AObj
def IdsO (n : Nat) : AObj → Prop
 | .row cells | .vec _ _ cells => ∀ (j : Nat) x, cells[j]? = some x → Ids n x
 | .map es | .iter es _ => ∀ (j : Nat) k x, es[j]? = some (k, x) → Ids n k ∧ Ids n x
 | .loop L => ∀ j, Ids n (lk L.s j)
 | _ => True
def IdsS (n : Nat) (σ : Store) : Prop := ∀ (i : Nat) o, σ[i]? = some o → IdsO n o
structure MapRel (m : Mem) (loc : List Loc) (es : List (AV × AV)) (entries : Array MapEntry) (clock : Nat) : Prop where
 len : entries.size = es.length
 key : ∀ (i : Nat) k x e, es[i]? = some (k, x) → entries[i]? = some e → Rel m loc k e.key ∧ Rel m loc x e.val
 born : ∀ (i : Nat) (e : MapEntry), entries[i]? = some e → e.born < clock
 apart : ∀ (i j : Nat) (e e' : MapEntry), entries[i]? = some e → entries[j]? = some e' → e.born = e'.born → i = j
def own : Loc → AObj → Option Nat
 | .blk b, .row _ => some b
 | .blk b, .map _ => some b
 | .blk b, .iter _ _ => some b
 | .blk b, .loop _ => some b
 | .tok _ f, .grow _ n | .tok _ f, .vec _ n _ => (f n).join
 | _, _ => none
def IterRel (m : Mem) (loc : List Loc) (w : World) (r : Nat) (es : List (AV × AV)) (seen : List Nat) : Prop :=
 (es = [] ∧ w.heap[r]? = some (.mapIter none 0 #[] 0)) ∨
 ∃ b entries clock sarr stepped, w.heap[r]? = some (.mapIter (some b) clock sarr stepped) ∧ m.mp b = some (entries, clock) ∧ MapRel m loc es entries clock ∧ stepped = clock ∧
  sarr.toList = seen.map (fun i => ((entries[i]?).map (fun e => e.born)).getD 0) ∧ ∀ i ∈ seen, i < es.length
def ObjRel (m : Mem) (loc : List Loc) (w : World) : Loc → AObj → Prop
 | .blk b, .row cells => ∃ arr t, w.heap[b]? = some (.cells arr t (0, 0)) ∧ m.bs b = some arr.size ∧ cells.length ≤ arr.size ∧
   (∀ (j : Nat) x v, cells[j]? = some x → arr[j]? = some v → Rel m loc x v) ∧ (∀ o, m.im b o = none)
 | .blk b, .map es => ∃ entries clock, w.heap[b]? = some (.map entries clock) ∧ MapRel m loc es entries clock
 | .blk r, .iter es seen => IterRel m loc w r es seen
 | .blk b, .loop L => ∃ r : Loop, w.heap[b]? = some (.loop r) ∧ r.state = L.st ∧ r.pending = L.pend ∧ r.params.toList = L.ps ∧ r.assign = L.asg ∧ r.body = L.body ∧ SlotRel m loc L.nt L.s r.tmps
 | .nowhere, .row cells => cells = []
 | .nowhere, .tab b vs => m.bs b = some vs.length ∧ ∀ (i : Nat) v, vs[i]? = some v → m.im b i = some v
 | .tok sz f, .grow sz' n => sz = sz' ∧ (∀ k, n < k → f k = none) ∧ ((f n = some none ∧ n = 0) ∨
   ∃ b arr t, f n = some (some b) ∧ w.heap[b]? = some (.cells arr t (0, 0)) ∧ m.bs b = some arr.size ∧ (∀ o, sz * n ≤ o → m.im b o = none))
 | .tok sz f, .vec sz' n cells => sz = sz' ∧ cells.length = n * sz ∧ (∀ k, n < k → f k = none) ∧ ((f n = some none ∧ n = 0) ∨
   ∃ b arr t, f n = some (some b) ∧ w.heap[b]? = some (.cells arr t (0, 0)) ∧ m.bs b = some arr.size ∧ cells.length ≤ arr.size ∧
    (∀ (j : Nat) x v, cells[j]? = some x → arr[j]? = some v → Rel m loc x v) ∧ ∀ o, m.im b o = none)
 | _, .dead => True
 | _, _ => False
def Names (loc : List Loc) (b : Nat) : Prop := ∃ i : Nat, loc[i]? = some (.blk b) ∨ ∃ sz f k, loc[i]? = some (.tok sz f) ∧ f k = some (some b)
structure MemOk (m : Mem) (loc : List Loc) (w : World) : Prop where
 low : m.base ≤ w.heap.size
 own : ∀ b, Names loc b → m.base ≤ b
 wk : ∀ b o K, m.wk b o = some K → ¬ Names loc b ∧ m.im b o = none ∧ ∃ arr t fz v, w.heap[b]? = some (.cells arr t fz) ∧ arr[o]? = some v ∧ K.is v ∧ w.frozen? ⟨b, o, none⟩ = false
 fz : ∀ b o v, m.base ≤ b → m.im b o = some v → w.frozen? ⟨b, o, none⟩ = false
theorem frozen_same {w w' : World} {b o : Nat} (h : w'.heap[b]? = w.heap[b]?) : w'.frozen? ⟨b, o, none⟩ = w.frozen? ⟨b, o, none⟩ := by
 simp [World.frozen?, h]
theorem lt_of_heap {w : World} {b : Nat} {o : Obj} (h : w.heap[b]? = some o) : b < w.heap.size := by
 rcases Nat.lt_or_ge b w.heap.size with q | q
 ·exact q
 ·rw [Array.getElem?_eq_none q] at h; simp at h
theorem MemOk.to {m m' : Mem} {loc loc' : List Loc} {w w' : World} (h : MemOk m loc w) (hb : m'.base = m.base) (hs : w.heap.size ≤ w'.heap.size) (hn : ∀ b, Names loc' b → Names loc b ∨ w.heap.size ≤ b)
  (hw : m'.wk = m.wk) (hi : ∀ b o, b < w.heap.size → ¬ Names loc b → m'.im b o = m.im b o) (hf : ∀ b, b < w.heap.size → ¬ Names loc b → w'.heap[b]? = w.heap[b]?)
  (hz : ∀ b o v, Names loc b ∨ w.heap.size ≤ b → m'.im b o = some v → w'.frozen? ⟨b, o, none⟩ = false) : MemOk m' loc' w' where
 low := by rw [hb]; exact Nat.le_trans h.low hs
 own b e := by
  rw [hb]
  rcases hn b e with e | e
  ·exact h.own b e
  ·exact Nat.le_trans h.low e
 wk b o K e := by
  rw [hw] at e
  obtain ⟨h1, h2, arr, t, fz, v, h3, h4, h5, h6⟩ := h.wk b o K e
  have hlt := lt_of_heap h3
  refine ⟨fun q => ?_, by rw [hi b o hlt h1]; exact h2, arr, t, fz, v, by rw [hf b hlt h1]; exact h3, h4, h5, by rw [frozen_same (hf b hlt h1)]; exact h6⟩
  rcases hn b q with q | q
  ·exact h1 q
  ·omega
 fz b o v q e := by
  by_cases hk : Names loc b ∨ w.heap.size ≤ b
  ·exact hz b o v hk e
  ·have h1 : ¬ Names loc b := fun q => hk (.inl q)
   have h2 : b < w.heap.size := by
    rcases Nat.lt_or_ge b w.heap.size with q | q
    ·exact q
    ·exact absurd (.inr q) hk
   rw [hi b o h2 h1] at e
   rw [frozen_same (hf b h2 h1)]
   exact h.fz b o v (by rw [← hb]; exact q) e
theorem MemOk.same {m m' : Mem} {loc loc' : List Loc} {w w' : World} (h : MemOk m loc w) (hb : m'.base = m.base) (hi : m'.im = m.im) (hw : m'.wk = m.wk) (hn : ∀ b, Names loc' b → Names loc b) (hh : w'.heap = w.heap) : MemOk m' loc' w' where
 low := by rw [hb, hh]; exact h.low
 own b e := by rw [hb]; exact h.own b (hn b e)
 wk b o K e := by
  rw [hw] at e
  obtain ⟨h1, h2, arr, t, fz, v, h3, h4, h5, h6⟩ := h.wk b o K e
  exact ⟨fun q => h1 (hn b q), by rw [hi]; exact h2, arr, t, fz, v, by rw [hh]; exact h3, h4, h5, (frozen_same (by rw [hh])).trans h6⟩
 fz b o v q e := by
  exact (frozen_same (by rw [hh])).trans (h.fz b o v (by rw [← hb]; exact q) (by rw [← hi]; exact e))
theorem MemOk.names {m : Mem} {loc loc' : List Loc} {w : World} (h : MemOk m loc w) (hn : ∀ b, Names loc' b → Names loc b) : MemOk m loc' w := h.same rfl rfl rfl hn rfl
structure SRel (m : Mem) (loc : List Loc) (σ : Store) (w : World) : Prop where
 len : loc.length = σ.length
 im : ∀ b o v, m.im b o = some v → w.cell? ⟨b, o, none⟩ = some v
 bs : ∀ b n, m.bs b = some n → ∃ arr t fz, w.heap[b]? = some (.cells arr t fz) ∧ arr.size = n
 obj : ∀ (i : Nat) l o, loc[i]? = some l → σ[i]? = some o → ObjRel m loc w l o
 inj : ∀ (i j : Nat) l l' o o' b, loc[i]? = some l → loc[j]? = some l' → σ[i]? = some o → σ[j]? = some o' → own l o = some b → own l' o' = some b → i = j
 lt : ∀ b, Names loc b → b < w.heap.size
 mp : ∀ b e, m.mp b = some e → w.heap[b]? = some (.map e.1 e.2)
 mpo : ∀ (i : Nat) l o b, loc[i]? = some l → σ[i]? = some o → own l o = some b → m.mp b = none
 ok : MemOk m loc w
structure Ext (n0 : Nat) (m : Mem) (loc : List Loc) (w : World) (m' : Mem) (loc' : List Loc) (w' : World) : Prop where
 os : w'.os = w.os
 tape : w'.tape = w.tape
 output : w'.output = w.output
 drawn : w.drawn ≤ w'.drawn
 size : w.heap.size ≤ w'.heap.size
 mem : m.le m'
 keep : Keep n0 loc loc'
 new : ∀ b, Names loc' b → Names loc b ∨ w.heap.size ≤ b
 frame : ∀ b, b < w.heap.size → ¬ Names loc b → (∀ o, m.wk b o = none) → w'.heap[b]? = w.heap[b]?
 wk : ∀ b o K, m'.wk b o = some K → m.wk b o = some K ∨ w.heap.size ≤ b
theorem Ext.refl (n0 : Nat) (m : Mem) (loc : List Loc) (w : World) : Ext n0 m loc w m loc w :=
 ⟨rfl, rfl, rfl, Nat.le_refl _, Nat.le_refl _, .refl m, .refl _ _, fun b h => .inl h, fun _ _ _ _ => rfl, fun _ _ _ e => .inl e⟩
theorem Ext.trans {n0 : Nat} {m m' m'' : Mem} {loc loc' loc'' : List Loc} {w w' w'' : World} (h : Ext n0 m loc w m' loc' w') (k : Ext n0 m' loc' w' m'' loc'' w'') :
  Ext n0 m loc w m'' loc'' w'' where
 os := k.os.trans h.os
 tape := k.tape.trans h.tape
 output := k.output.trans h.output
 drawn := Nat.le_trans h.drawn k.drawn
 size := Nat.le_trans h.size k.size
 mem := h.mem.trans k.mem
 keep := h.keep.trans k.keep
 new := fun b e => by
  rcases k.new b e with hj | hb
  ·exact h.new b hj
  ·exact .inr (Nat.le_trans h.size hb)
 frame := fun b hb hn hz => by
  rw [k.frame b (Nat.lt_of_lt_of_le hb h.size) (fun hi => ?_) (fun o => ?_), h.frame b hb hn hz]
  ·rcases h.new b hi with hj | hge
   ·exact hn hj
   ·omega
  ·cases e : m'.wk b o with
   | none => rfl
   | some K =>
    rcases h.wk b o K e with e | e
    ·rw [hz o] at e; simp at e
    ·omega
 wk := fun b o K e => by
  rcases k.wk b o K e with e | e
  ·exact h.wk b o K e
  ·exact .inr (Nat.le_trans h.size e)
theorem Ext.less {n0 n : Nat} {m m' : Mem} {loc loc' : List Loc} {w w' : World} (h : Ext n0 m loc w m' loc' w') (hn : n ≤ n0) : Ext n m loc w m' loc' w' :=
 ⟨h.os, h.tape, h.output, h.drawn, h.size, h.mem, fun i l hi e => h.keep i l (Nat.lt_of_lt_of_le hi hn) e, h.new, h.frame, h.wk⟩
theorem Rel.ext {m m' : Mem} {loc loc' : List Loc} {w w' : World} {a : AV} {v : Value} (he : Ext loc.length m loc w m' loc' w') (h : Rel m loc a v) : Rel m' loc' a v :=
 h.mono he.mem he.keep
theorem SlotRel.ext {m m' : Mem} {loc loc' : List Loc} {w w' : World} {nt : Nat} {s : Slots} {t : Array Value} (he : Ext loc.length m loc w m' loc' w') (h : SlotRel m loc nt s t) :
  SlotRel m' loc' nt s t := ⟨h.size, fun i => (h.rel i).ext he⟩
theorem SlotRel.put {m : Mem} {loc : List Loc} {nt : Nat} {s : Slots} {t : Array Value} {d : Nat} {x : AV} {v : Value} (h : SlotRel m loc nt s t) (hd : d < nt)
  (hx : Rel m loc x v) : SlotRel m loc nt (put s d x) (t.setIfInBounds d v) := by
 refine ⟨by simp [h.size], fun i => ?_⟩
 unfold Ahl.put lk
 by_cases e : d = i
 ·subst e
  simp only [beq_self_eq_true, cond_true]
  rw [Array.getD_eq_getD_getElem?, Array.getElem?_setIfInBounds_self_of_lt (by rw [h.size]; exact hd)]
  exact hx
 ·have e' : (d == i) = false := by simpa using e
  simp only [e', cond_false]
  rw [Array.getD_eq_getD_getElem?, Array.getElem?_setIfInBounds_ne e, ← Array.getD_eq_getD_getElem?]
  exact h.rel i
def Wk (a b : AV) : Prop := ∀ m loc v, Rel m loc a v → Rel m loc b v
theorem Wk.refl (a : AV) : Wk a a := fun _ _ _ h => h
theorem Wk.trans {a b c : AV} (h : Wk a b) (k : Wk b c) : Wk a c := fun m l v x => k m l v (h m l v x)
theorem Wk.any (a : AV) : Wk a .any := fun _ _ v _ => .any v
theorem SRel.ids {m : Mem} {loc : List Loc} {σ : Store} {w : World} (h : SRel m loc σ w) : IdsS σ.length σ := by
 intro i o hi
 have hl : i < loc.length := by rw [h.len]; exact lt_of_get hi
 have := h.obj i _ o (List.getElem?_eq_getElem hl) hi
 rw [← h.len]
 generalize loc[i] = l at this
 cases o with
 | dead => trivial
 | tab b vs => trivial
 | grow sz n => trivial
 | row cells =>
  cases l with
  | nowhere => subst this; intro j x hj; simp at hj
  | tok sz f => exact this.elim
  | blk b =>
   obtain ⟨arr, t, h1, h2, h3, h4, h5⟩ := this
   intro j x hj
   have hlt := lt_of_get hj
   exact (h4 j x _ hj (Array.getElem?_eq_getElem (by omega : j < arr.size))).ids
 | vec sz n cells =>
  cases l with
  | nowhere => exact this.elim
  | blk b => exact this.elim
  | tok sz' f =>
   obtain ⟨h0, h1, h2, h3⟩ := this
   intro j x hj
   have hlt := lt_of_get hj
   rcases h3 with ⟨_, h3⟩ | ⟨b, arr, t, g1, g2, g3, g4, g5, g6⟩
   ·rw [h3, Nat.zero_mul] at h1; omega
   ·exact (g5 j x _ hj (Array.getElem?_eq_getElem (by omega : j < arr.size))).ids
 | map es =>
  cases l with
  | nowhere => exact this.elim
  | tok sz f => exact this.elim
  | blk b =>
   obtain ⟨en, c, h1, h2⟩ := this
   intro j k x hj
   have hlt := lt_of_get hj
   have := h2.key j k x _ hj (Array.getElem?_eq_getElem (by rw [h2.len]; exact hlt))
   exact ⟨this.1.ids, this.2.ids⟩
 | loop L =>
  cases l with
  | nowhere => exact this.elim
  | tok sz f => exact this.elim
  | blk b =>
   obtain ⟨r, _, _, _, _, _, _, h⟩ := this
   exact fun j => (h.rel j).ids
 | iter es seen =>
  cases l with
  | nowhere => exact this.elim
  | tok sz f => exact this.elim
  | blk b =>
   intro j k x hj
   rcases this with ⟨rfl, _⟩ | ⟨_, en, c, _, _, _, _, h2, _⟩
   ·simp at hj
   ·have hlt := lt_of_get hj
    have := h2.key j k x _ hj (Array.getElem?_eq_getElem (by rw [h2.len]; exact hlt))
    exact ⟨this.1.ids, this.2.ids⟩
end Go.Ahl
namespace Go.Ahl
def Mem.add (m : Mem) (n : Nat) (f : Nat → Option Value) (s : Option Nat) : Mem where
 im b o := if b = n then f o else m.im b o
 bs b := if b = n then s else m.bs b
 mp := m.mp
 wk := m.wk
 base := m.base
section
variable {m : Mem} {loc : List Loc} {σ : Store} {w : World}
theorem SRel.im_lt (h : SRel m loc σ w) {b o : Nat} {v : Value} (e : m.im b o = some v) : b < w.heap.size :=
 World.block_lt_of_cell? w ⟨b, o, none⟩ (h.im b o v e)
theorem SRel.bs_lt (h : SRel m loc σ w) {b n : Nat} (e : m.bs b = some n) : b < w.heap.size := by
 obtain ⟨arr, t, fz, h1, _⟩ := h.bs b n e
 rcases Nat.lt_or_ge b w.heap.size with hl | hl
 ·exact hl
 ·rw [Array.getElem?_eq_none hl] at h1; simp at h1
theorem SRel.le_add (h : SRel m loc σ w) (f : Nat → Option Value) (s : Option Nat) : m.le (m.add w.heap.size f s) := by
 constructor
 ·intro b o v e
  have := h.im_lt e
  simp only [Mem.add]; rw [if_neg (by omega)]; exact e
 ·intro b n e
  have := h.bs_lt e
  simp only [Mem.add]; rw [if_neg (by omega)]; exact e
 ·intro b e q; exact q
 ·intro b o K q; exact q
 ·rfl
theorem SRel.mp_lt (h : SRel m loc σ w) {b : Nat} {e : Array MapEntry × Nat} (q : m.mp b = some e) : b < w.heap.size := by
 have := h.mp b e q
 rcases Nat.lt_or_ge b w.heap.size with h | h
 ·exact h
 ·rw [Array.getElem?_eq_none h] at this; simp at this
theorem SRel.mp_new (h : SRel m loc σ w) {b : Nat} (hb : w.heap.size ≤ b) : m.mp b = none := by
 cases q : m.mp b with
 | none => rfl
 | some e => have := h.mp_lt q; omega
theorem MapRel.mono {m' : Mem} {loc' : List Loc} {es : List (AV × AV)} {en : Array MapEntry} {c : Nat} (hm : m.le m') (hl : Keep loc.length loc loc')
  (h : MapRel m loc es en c) : MapRel m' loc' es en c :=
 ⟨h.len, fun i k x e h1 h2 => let ⟨a, b⟩ := h.key i k x e h1 h2; ⟨a.mono hm hl, b.mono hm hl⟩, h.born, h.apart⟩
theorem MapRel.take {es : List (AV × AV)} {en : Array MapEntry} {c n : Nat} (h : MapRel m loc es en c) (hi : IdsO n (.map es)) : MapRel m (loc.take n) es en c :=
 ⟨h.len, fun i k x e h1 h2 => let ⟨a, b⟩ := h.key i k x e h1 h2; ⟨a.take (hi i k x h1).1, b.take (hi i k x h1).2⟩, h.born, h.apart⟩
theorem SRel.tokb (h : SRel m loc σ w) {id n b sz : Nat} {f : Nat → Option (Option Nat)} (hl : loc[id]? = some (.tok sz f)) (hf : f n = some (some b)) : m.base ≤ b := h.ok.own b ⟨id, .inr ⟨sz, f, n, hl, hf⟩⟩
theorem SRel.blkb (h : SRel m loc σ w) {id b : Nat} (hl : loc[id]? = some (.blk b)) : m.base ≤ b := h.ok.own b ⟨id, .inl hl⟩
theorem ObjRel.mono {m' : Mem} {loc' : List Loc} {w' : World} {l : Loc} {o : AObj} (hm : m.le m') (hl : Keep loc.length loc loc')
  (hb : ∀ b, own l o = some b → w'.heap[b]? = w.heap[b]?) (hi : ∀ b off, own l o = some b → m'.im b off = m.im b off) (h : ObjRel m loc w l o) : ObjRel m' loc' w' l o := by
 cases l with
 | nowhere =>
  cases o with
  | tab b vs => exact ⟨hm.bs _ _ h.1, fun i v e => hm.im _ _ _ (h.2 i v e)⟩
  | _ => exact h
 | blk b =>
  cases o with
  | dead => trivial
  | tab b vs => exact h.elim
  | grow sz n => exact h.elim
  | vec sz n cells => exact h.elim
  | row cells =>
   obtain ⟨arr, t, h1, h2, h3, h4, h5⟩ := h
   exact ⟨arr, t, (hb b rfl).trans h1, hm.bs _ _ h2, h3, fun j x v e1 e2 => (h4 j x v e1 e2).mono hm hl, fun o => (hi b o rfl).trans (h5 o)⟩
  | map es =>
   obtain ⟨en, c, h1, h2⟩ := h
   exact ⟨en, c, (hb b rfl).trans h1, h2.mono hm hl⟩
  | loop L =>
   obtain ⟨r, h1, h2, h3, h4, h5, h6, h7⟩ := h
   exact ⟨r, (hb b rfl).trans h1, h2, h3, h4, h5, h6, ⟨h7.size, fun i => (h7.rel i).mono hm hl⟩⟩
  | iter es seen =>
   rcases h with ⟨h1, h2⟩ | ⟨q, en, c, sa, st, h1, h2, h3, h4⟩
   ·exact .inl ⟨h1, (hb b rfl).trans h2⟩
   ·exact .inr ⟨q, en, c, sa, st, (hb b rfl).trans h1, hm.mp _ _ h2, h3.mono hm hl, h4⟩
 | tok sz f =>
  cases o with
  | dead => trivial
  | tab b vs => exact h.elim
  | row cells => exact h.elim
  | map es => exact h.elim
  | iter es seen => exact h.elim
  | loop L => exact h.elim
  | vec sz' n cells =>
   obtain ⟨h0, h00, h1, h2⟩ := h
   refine ⟨h0, h00, h1, ?_⟩
   rcases h2 with h2 | ⟨b, arr, t, h2, h3, h4, h5, h6, h7⟩
   ·exact .inl h2
   ·have ho : own (.tok sz f) (.vec sz' n cells) = some b := by simp [own, h2]
    exact .inr ⟨b, arr, t, h2, (hb b ho).trans h3, hm.bs _ _ h4, h5, fun j x v e1 e2 => (h6 j x v e1 e2).mono hm hl, fun o => (hi b o ho).trans (h7 o)⟩
  | grow sz' n =>
   obtain ⟨h0, h1, h2⟩ := h
   refine ⟨h0, h1, ?_⟩
   rcases h2 with h2 | ⟨b, arr, t, h2, h3, h4, h5⟩
   ·exact .inl h2
   ·have ho : own (.tok sz f) (.grow sz' n) = some b := by simp [own, h2]
    exact .inr ⟨b, arr, t, h2, (hb b ho).trans h3, hm.bs _ _ h4, fun o q => (hi b o ho).trans (h5 o q)⟩
theorem SRel.heap_same {w' : World} (h : SRel m loc σ w) (hh : w'.heap = w.heap) : SRel m loc σ w' where
 len := h.len
 im b o v e := by have := h.im b o v e; simpa [World.cell?, hh] using this
 bs b n e := by rw [hh]; exact h.bs b n e
 obj i b o h1 h2 := (h.obj i b o h1 h2).mono (.refl m) (.refl _ _) (fun _ _ => by rw [hh]) (fun _ _ _ => rfl)
 inj := h.inj
 lt b e := by rw [hh]; exact h.lt b e
 mp b e q := by rw [hh]; exact h.mp b e q
 mpo := h.mpo
 ok := h.ok.same rfl rfl rfl (fun _ e => e) hh
theorem Ext.heap_same {n0 : Nat} {w' : World} (hh : w'.heap = w.heap) (h1 : w'.os = w.os) (h2 : w'.tape = w.tape) (h3 : w'.output = w.output) (h4 : w.drawn ≤ w'.drawn) : Ext n0 m loc w m loc w' :=
 ⟨h1, h2, h3, h4, by rw [hh]; exact Nat.le_refl _, .refl m, .refl _ _, fun b e => .inl e, fun _ _ _ _ => by rw [hh], fun _ _ _ e => .inl e⟩
theorem get_app {α : Type} {l : List α} {x : α} {i : Nat} {y : α} (h : (l ++ [x])[i]? = some y) : l[i]? = some y ∨ (i = l.length ∧ x = y) := by
 rcases Nat.lt_trichotomy i l.length with hl | hl | hl
 ·rw [List.getElem?_append_left hl] at h; exact .inl h
 ·subst hl; simp at h; exact .inr ⟨rfl, h⟩
 ·rw [List.getElem?_eq_none (by simp; omega)] at h; simp at h
theorem keep_get {α : Type} {l : List α} (x : α) {i : Nat} {y : α} (h : l[i]? = some y) : (l ++ [x])[i]? = some y := by
 rw [List.getElem?_append_left (lt_of_get h)]; exact h
theorem Keep.app (n : Nat) (loc : List Loc) (l : Loc) : Keep n loc (loc ++ [l]) := fun i x _ h => ⟨x, keep_get l h, .refl x⟩
theorem Names.app {l : Loc} {b : Nat} (h : Names (loc ++ [l]) b) : Names loc b ∨ l = .blk b ∨ ∃ sz f k, l = .tok sz f ∧ f k = some (some b) := by
 obtain ⟨i, h | ⟨sz, f, k, h, hk⟩⟩ := h
 ·rcases get_app h with h | ⟨_, h⟩
  ·exact .inl ⟨i, .inl h⟩
  ·exact .inr (.inl h)
 ·rcases get_app h with h | ⟨_, h⟩
  ·exact .inl ⟨i, .inr ⟨sz, f, k, h, hk⟩⟩
  ·exact .inr (.inr ⟨sz, f, k, h, hk⟩)
theorem own_names {i : Nat} {l : Loc} {o : AObj} {b : Nat} (h : loc[i]? = some l) (ho : own l o = some b) : Names loc b := by
 cases l with
 | nowhere => cases o <;> simp [own] at ho
 | blk b' => cases o <;> simp [own] at ho <;> (subst ho; exact ⟨i, .inl h⟩)
 | tok sz f =>
  have key : ∀ n, (f n).join = some b → Names loc b := fun n ho => by
   cases hf : f n with
   | none => rw [hf] at ho; simp at ho
   | some r => rw [hf] at ho; simp at ho; subst ho; exact ⟨i, .inr ⟨sz, f, n, h, hf⟩⟩
  cases o <;> first | exact key _ ho | simp [own] at ho
theorem SRel.alloc (h : SRel m loc σ w) (n0 : Nat) (ob : Obj) (f : Nat → Option Value) (s : Option Nat) (l : Loc) (o : AObj)
  (hf : ∀ off v, f off = some v → (w.alloc ob).cell? ⟨w.heap.size, off, none⟩ = some v ∧ (w.alloc ob).frozen? ⟨w.heap.size, off, none⟩ = false)
  (hs : ∀ n, s = some n → ∃ arr t fz, ob = .cells arr t fz ∧ arr.size = n)
  (hl : ∀ b, (l = .blk b ∨ ∃ sz g k, l = .tok sz g ∧ g k = some (some b)) → b = w.heap.size)
  (ho : ObjRel (m.add w.heap.size f s) (loc ++ [l]) (w.alloc ob) l o) :
  SRel (m.add w.heap.size f s) (loc ++ [l]) (σ ++ [o]) (w.alloc ob) ∧ Ext n0 m loc w (m.add w.heap.size f s) (loc ++ [l]) (w.alloc ob) := by
 have hle := h.le_add f s
 have hpush : ∀ b, b < w.heap.size → (w.alloc ob).heap[b]? = w.heap[b]? := fun b hb => by
  rw [show (w.alloc ob).heap = w.heap.push ob from rfl, Array.getElem?_push, if_neg (by omega)]
 have hown : ∀ b, own l o = some b → b = w.heap.size := fun b e => by
  refine hl b ?_
  cases l with
  | nowhere => cases o <;> simp [own] at e
  | blk b' => cases o <;> simp [own] at e <;> (subst e; exact .inl rfl)
  | tok sz g =>
   have key : ∀ n, (g n).join = some b → _ := fun n e => by
    cases hf : g n with
    | none => rw [hf] at e; simp at e
    | some r => rw [hf] at e; simp at e; subst e; exact (.inr ⟨sz, g, n, rfl, hf⟩ : Loc.tok sz g = .blk b ∨ ∃ sz' g' k, Loc.tok sz g = .tok sz' g' ∧ g' k = some (some b))
   cases o <;> first | exact key _ e | simp [own] at e
 have hnew : ∀ b, Names (loc ++ [l]) b → Names loc b ∨ b = w.heap.size := fun b e => by
  rcases e.app with e | e | e
  ·exact .inl e
  ·exact .inr (hl b (.inl e))
  ·exact .inr (hl b (.inr e))
 have hmp : ∀ b e, (m.add w.heap.size f s).mp b = some e → (w.alloc ob).heap[b]? = some (.map e.1 e.2) := fun b e q => by
  have q : m.mp b = some e := q
  rw [hpush b (h.mp_lt q)]; exact h.mp b e q
 have hmpo : ∀ (i : Nat) l' o' b, (loc ++ [l])[i]? = some l' → (σ ++ [o])[i]? = some o' → own l' o' = some b → (m.add w.heap.size f s).mp b = none := by
  intro i l' o' b h1 h2 w1
  show m.mp b = none
  rcases get_app h1 with h1 | ⟨hi, h1⟩
  ·rcases get_app h2 with h2 | ⟨hi2, h2⟩
   ·exact h.mpo i l' o' b h1 h2 w1
   ·have := lt_of_get h1; have := h.len; omega
  ·rcases get_app h2 with h2 | ⟨hi2, h2⟩
   ·have := lt_of_get h2; have := h.len; omega
   ·subst h1; subst h2
    exact h.mp_new (by rw [hown b w1]; exact Nat.le_refl _)
 have hok : MemOk (m.add w.heap.size f s) (loc ++ [l]) (w.alloc ob) := h.ok.to rfl (by simp) (fun b e => by
  rcases hnew b e with e | e
  ·exact .inl e
  ·exact .inr (by omega)) rfl (fun b o hb _ => by simp only [Mem.add]; rw [if_neg (by omega)]) (fun b hb _ => hpush b hb) (fun b o v hb e => by
  simp only [Mem.add] at e
  split at e
  ·rename_i hbe; rw [hbe]; exact (hf _ _ e).2
  ·rename_i hbe
   have hlt := h.im_lt e
   rw [frozen_same (hpush b hlt)]
   rcases hb with hb | hb
   ·exact h.ok.fz b o v (h.ok.own b hb) e
   ·omega)
 refine ⟨⟨by simp [h.len], ?_, ?_, ?_, ?_, ?_, hmp, hmpo, hok⟩, ⟨rfl, rfl, rfl, Nat.le_refl _, by simp, hle, .app _ _ _, ?_, fun b hb _ _ => hpush b hb, fun _ _ _ e => .inl e⟩⟩
 ·intro b off v e
  simp only [Mem.add] at e
  split at e
  ·rename_i hb; subst hb; exact (hf _ _ e).1
  ·rw [World.cell?_alloc_lt _ _ _ (h.im_lt e)]; exact h.im _ _ _ e
 ·intro b n e
  simp only [Mem.add] at e
  split at e
  ·rename_i hb; subst hb
   obtain ⟨arr, t, fz, h1, h2⟩ := hs _ e
   exact ⟨arr, t, fz, by show (w.heap.push ob)[w.heap.size]? = _; simp [h1], h2⟩
  ·have hb := h.bs_lt e
   obtain ⟨arr, t, fz, h1, h2⟩ := h.bs _ _ e
   exact ⟨arr, t, fz, by rw [hpush b hb]; exact h1, h2⟩
 ·intro i l' o' h1 h2
  rcases get_app h1 with h1 | ⟨hi, h1⟩
  ·have hi := lt_of_get h1
   rcases get_app h2 with h2 | ⟨hi2, h2⟩
   ·refine (h.obj i l' o' h1 h2).mono hle (.app _ _ _) (fun b e => hpush b (h.lt b (own_names h1 e))) ?_
    intro b off e
    have := h.lt b (own_names h1 e)
    simp only [Mem.add]; rw [if_neg (by omega)]
   ·rw [h.len] at hi; omega
  ·subst h1
   rcases get_app h2 with h2 | ⟨hi2, h2⟩
   ·have := lt_of_get h2; rw [← h.len] at this; omega
   ·subst h2; exact ho
 ·intro i j l1 l2 o1 o2 b h1 h2 h3 h4 w1 w2
  rcases get_app h1 with h1 | ⟨hi, h1⟩ <;> rcases get_app h2 with h2 | ⟨hj, h2⟩
  ·have := lt_of_get h1; have := lt_of_get h2
   rcases get_app h3 with h3 | ⟨hi3, h3⟩
   ·rcases get_app h4 with h4 | ⟨hi4, h4⟩
    ·exact h.inj i j l1 l2 o1 o2 b h1 h2 h3 h4 w1 w2
    ·have := h.len; omega
   ·have := h.len; omega
  ·have a1 := h.lt _ (own_names h1 w1)
   rcases get_app h4 with h4 | ⟨hi4, h4⟩
   ·have := lt_of_get h4; have := h.len; omega
   ·subst h2; subst h4; have := hown _ w2; omega
  ·have a1 := h.lt _ (own_names h2 w2)
   rcases get_app h3 with h3 | ⟨hi4, h3⟩
   ·have := lt_of_get h3; have := h.len; omega
   ·subst h1; subst h3; have := hown _ w1; omega
  ·omega
 ·intro b e
  rcases hnew b e with e | e
  ·have := h.lt _ e; simp; omega
  ·subst e; simp
 ·intro b e
  rcases hnew b e with e | e
  ·exact .inl e
  ·exact .inr (by omega)
theorem get_set {α : Type} {l : List α} {i j : Nat} {x y : α} (h : (l.set i x)[j]? = some y) : (i = j ∧ x = y) ∨ (i ≠ j ∧ l[j]? = some y) := by
 by_cases e : i = j
 ·subst e
  rw [List.getElem?_set_self'] at h
  cases hl : l[i]? with
  | none => rw [hl] at h; simp at h
  | some z => rw [hl] at h; simp at h; exact .inl ⟨rfl, h⟩
 ·rw [List.getElem?_set_ne e] at h; exact .inr ⟨e, h⟩
theorem Keep.set {n id : Nat} {l l' : Loc} (h : loc[id]? = some l) (hl : l.le l') : Keep n loc (loc.set id l') := by
 intro i x _ hx
 by_cases e : id = i
 ·subst e
  rw [h] at hx; injection hx with hx; subst hx
  exact ⟨l', by rw [List.getElem?_set_self (lt_of_get h)], hl⟩
 ·exact ⟨x, by rw [List.getElem?_set_ne e]; exact hx, .refl x⟩
theorem SRel.turn (h : SRel m loc σ w) (n0 : Nat) {m' : Mem} {w' : World} {id : Nat} {l l' : Loc} {o0 : AObj} (o : AObj)
  (hl : loc[id]? = some l) (hs : σ[id]? = some o0) (hle : m.le m') (hll : l.le l')
  (hw : ∀ k, k < w.heap.size → own l o0 ≠ some k → w'.heap[k]? = w.heap[k]?) (hsize : w.heap.size ≤ w'.heap.size)
  (him : ∀ k off, k < w.heap.size → own l o0 ≠ some k → m'.im k off = m.im k off)
  (himb : ∀ k off v, (own l o0 = some k ∨ w.heap.size ≤ k) → m'.im k off = some v → w'.cell? ⟨k, off, none⟩ = some v ∧ w'.frozen? ⟨k, off, none⟩ = false)
  (hbs : ∀ k n, m'.bs k = some n → (m.bs k = some n ∧ own l o0 ≠ some k) ∨ ∃ arr t fz, w'.heap[k]? = some (.cells arr t fz) ∧ arr.size = n)
  (hnew : ∀ b, (∃ sz f k, l' = .tok sz f ∧ f k = some (some b)) → Names loc b ∨ (w.heap.size ≤ b ∧ b < w'.heap.size))
  (hown : ∀ b, own l' o = some b → own l o0 = some b ∨ w.heap.size ≤ b)
  (ho : ObjRel m' (loc.set id l') w' l' o) (h1 : w'.os = w.os) (h2 : w'.tape = w.tape) (h3 : w'.output = w.output) (h4 : w.drawn ≤ w'.drawn) (hmp : m'.mp = m.mp := by rfl) (hwk : m'.wk = m.wk := by rfl) :
  SRel m' (loc.set id l') (σ.set id o) w' ∧ Ext n0 m loc w m' (loc.set id l') w' := by
 have hkeep : ∀ n, Keep n loc (loc.set id l') := fun n => .set hl hll
 have hnames : ∀ b, Names (loc.set id l') b → Names loc b ∨ (w.heap.size ≤ b ∧ b < w'.heap.size) := by
  rintro b ⟨i, e | ⟨sz, f, k, e, hk⟩⟩
  ·rcases get_set e with ⟨hi, e⟩ | ⟨hne, e⟩
   ·subst e
    cases l <;> simp [Loc.le] at hll
    subst hll; exact .inl ⟨id, .inl hl⟩
   ·exact .inl ⟨i, .inl e⟩
  ·rcases get_set e with ⟨hi, e⟩ | ⟨hne, e⟩
   ·exact hnew b ⟨sz, f, k, e, hk⟩
   ·exact .inl ⟨i, .inr ⟨sz, f, k, e, hk⟩⟩
 have hmp1 : ∀ b e, m'.mp b = some e → w'.heap[b]? = some (.map e.1 e.2) := fun b e q => by
  rw [hmp] at q
  rw [hw b (h.mp_lt q) (fun q' => by have := h.mpo id l o0 b hl hs q'; rw [this] at q; simp at q)]
  exact h.mp b e q
 have hmp2 : ∀ (i : Nat) l1 o1 b, (loc.set id l')[i]? = some l1 → (σ.set id o)[i]? = some o1 → own l1 o1 = some b → m'.mp b = none := by
  intro i l1 o1 b g1 g2 w1
  rw [hmp]
  rcases get_set g2 with ⟨rfl, rfl⟩ | ⟨hne, g2⟩
  ·rcases get_set g1 with ⟨_, rfl⟩ | ⟨q, _⟩
   ·rcases hown b w1 with q | q
    ·exact h.mpo _ l o0 b hl hs q
    ·exact h.mp_new q
   ·exact absurd rfl q
  ·rcases get_set g1 with ⟨q, _⟩ | ⟨_, g1⟩
   ·exact absurd q hne
   ·exact h.mpo i l1 o1 b g1 g2 w1
 have hno : ∀ b, ¬ Names loc b → own l o0 ≠ some b := fun b hn e => hn (own_names hl e)
 have hok : MemOk m' (loc.set id l') w' := h.ok.to hle.base hsize (fun b e => by
  rcases hnames b e with e | e
  ·exact .inl e
  ·exact .inr e.1) hwk (fun b o hb hn => him b o hb (hno b hn)) (fun b hb hn => hw b hb (hno b hn)) (fun b o v hb e => by
  by_cases hk : own l o0 = some b ∨ w.heap.size ≤ b
  ·exact (himb b o v hk e).2
  ·have hk1 : own l o0 ≠ some b := fun q => hk (.inl q)
   have hk2 : b < w.heap.size := by
    rcases Nat.lt_or_ge b w.heap.size with q | q
    ·exact q
    ·exact absurd (.inr q) hk
   rw [him b o hk2 hk1] at e
   rw [frozen_same (hw b hk2 hk1)]
   rcases hb with hb | hb
   ·exact h.ok.fz b o v (h.ok.own b hb) e
   ·omega)
 refine ⟨⟨by simp [h.len], ?_, ?_, ?_, ?_, ?_, hmp1, hmp2, hok⟩, ⟨h1, h2, h3, h4, hsize, hle, hkeep _, ?_, ?_, fun b o K e => by rw [hwk] at e; exact .inl e⟩⟩
 ·intro k off v e
  by_cases hk : own l o0 = some k ∨ w.heap.size ≤ k
  ·exact (himb _ _ _ hk e).1
  ·have hk1 : own l o0 ≠ some k := fun q => hk (.inl q)
   have hk2 : k < w.heap.size := by
    rcases Nat.lt_or_ge k w.heap.size with q | q
    ·exact q
    ·exact absurd (.inr q) hk
   rw [him _ _ hk2 hk1] at e
   have := h.im _ _ _ e
   simpa [World.cell?, hw k hk2 hk1] using this
 ·intro k n e
  rcases hbs k n e with ⟨e, hk⟩ | e
  ·have hk2 := h.bs_lt e
   rw [hw k hk2 hk]; exact h.bs _ _ e
  ·exact e
 ·intro i l2 o' h4 h5
  rcases get_set h5 with ⟨rfl, rfl⟩ | ⟨hne, h5⟩
  ·rcases get_set h4 with ⟨_, rfl⟩ | ⟨hne, h4⟩
   ·exact ho
   ·exact absurd rfl hne
  ·rcases get_set h4 with ⟨e, _⟩ | ⟨_, h4⟩
   ·exact absurd e hne
   ·have hd : ∀ b, own l2 o' = some b → own l o0 ≠ some b := fun b e q => hne (h.inj id i l l2 o0 o' b hl h4 hs h5 q e)
    exact (h.obj i l2 o' h4 h5).mono hle (hkeep _) (fun b e => hw b (h.lt b (own_names h4 e)) (hd b e)) (fun b off e => him b off (h.lt b (own_names h4 e)) (hd b e))
 ·intro i j l1 l2 o1 o2 b h4 h5 h6 h7 w1 w2
  rcases get_set h6 with ⟨rfl, rfl⟩ | ⟨n1, h6⟩ <;> rcases get_set h7 with ⟨rfl, rfl⟩ | ⟨n2, h7⟩
  ·rfl
  ·rcases get_set h4 with ⟨_, rfl⟩ | ⟨q, _⟩
   ·rcases get_set h5 with ⟨q, _⟩ | ⟨_, h5⟩
    ·exact absurd q n2
    ·rcases hown b w1 with q | q
     ·exact h.inj _ _ l l2 o0 o2 b hl h5 hs h7 q w2
     ·have := h.lt b (own_names h5 w2); omega
   ·exact absurd rfl q
  ·rcases get_set h5 with ⟨_, rfl⟩ | ⟨q, _⟩
   ·rcases get_set h4 with ⟨q, _⟩ | ⟨_, h4⟩
    ·exact absurd q n1
    ·rcases hown b w2 with q | q
     ·exact h.inj _ _ l1 l o1 o0 b h4 hl h6 hs w1 q
     ·have := h.lt b (own_names h4 w1); omega
   ·exact absurd rfl q
  ·rcases get_set h4 with ⟨q, _⟩ | ⟨_, h4⟩
   ·exact absurd q n1
   ·rcases get_set h5 with ⟨q, _⟩ | ⟨_, h5⟩
    ·exact absurd q n2
    ·exact h.inj _ _ l1 l2 o1 o2 b h4 h5 h6 h7 w1 w2
 ·intro b e
  rcases hnames b e with e | e
  ·exact Nat.lt_of_lt_of_le (h.lt b e) hsize
  ·exact e.2
 ·intro b e
  rcases hnames b e with e | e
  ·exact .inl e
  ·exact .inr e.1
 ·intro k hk hn _
  exact hw k hk (fun e => hn (own_names hl e))
theorem heap_setCell (w : World) (a : Addr) (v : Value) (k : Nat) (h : k ≠ a.block) : (w.setCell a v).heap[k]? = w.heap[k]? := by
 simp only [World.setCell, Array.getElem?_modify]
 rw [if_neg (by omega)]
theorem heap_setCell_same (w : World) (b o : Nat) (v : Value) (arr : Array Value) (t : TypeId) (fz : Nat × Nat) (h : w.heap[b]? = some (.cells arr t fz)) :
  (w.setCell ⟨b, o, none⟩ v).heap[b]? = some (.cells (arr.setIfInBounds o v) t fz) := by
 simp only [World.setCell, Array.getElem?_modify, h]
 simp
theorem set_same {α : Type} {l : List α} {i : Nat} {x : α} (h : l[i]? = some x) : l.set i x = l := by
 apply List.ext_getElem?
 intro j
 by_cases e : i = j
 ·subst e; rw [List.getElem?_set_self (lt_of_get h), h]
 ·rw [List.getElem?_set_ne e]
theorem SRel.set (h : SRel m loc σ w) (n0 : Nat) {id off b : Nat} {cells : List AV} {x : AV} {v : Value}
  (hl : loc[id]? = some (.blk b)) (hs : σ[id]? = some (.row cells)) (ho : off < cells.length) (hx : Rel m loc x v) :
  SRel m loc (σ.set id (.row (cells.set off x))) (w.setCell ⟨b, off, none⟩ v) ∧ Ext n0 m loc w m loc (w.setCell ⟨b, off, none⟩ v) := by
 obtain ⟨arr, t, h1, h2, h3, h4, h5⟩ := h.obj _ _ _ hl hs
 have e := heap_setCell_same w b off v arr t (0, 0) h1
 have key := h.turn n0 (m' := m) (w' := w.setCell ⟨b, off, none⟩ v) (l' := .blk b) (.row (cells.set off x)) hl hs (.refl m) (.refl _)
  (fun k _ hk => heap_setCell w _ v k (fun q => hk (by subst q; rfl))) (by simp) (fun _ _ _ _ => rfl) ?_ ?_ ?_ (fun b' q => .inl q) ?_ rfl rfl rfl (by simp)
 ·rw [set_same hl] at key; exact key
 ·intro k off' v' hk e'
  rcases hk with hk | hk
  ·simp [own] at hk; subst hk; rw [h5] at e'; simp at e'
  ·have := h.im_lt e'; omega
 ·intro k n hn
  by_cases hk : k = b
  ·subst hk
   rw [h2] at hn; injection hn with hn
   exact .inr ⟨_, t, _, e, by simpa using hn⟩
  ·exact .inl ⟨hn, by simp [own]; omega⟩
 ·rintro b' ⟨sz, f, k, q, _⟩; simp at q
 ·rw [set_same hl]
  refine ⟨_, t, e, by simpa using h2, by simpa using h3, ?_, h5⟩
  intro j y u hj hu
  rcases get_set hj with ⟨rfl, rfl⟩ | ⟨hne, hj⟩
  ·rw [Array.getElem?_setIfInBounds_self_of_lt (by omega)] at hu
   injection hu with hu; subst hu; exact hx
  ·rw [Array.getElem?_setIfInBounds_ne hne] at hu
   exact h4 j y u hj hu
theorem SRel.row (h : SRel m loc σ w) {id off b : Nat} {cells : List AV} {x : AV}
  (hl : loc[id]? = some (.blk b)) (hs : σ[id]? = some (.row cells)) (ho : cells[off]? = some x) :
  ∃ v, w.cell? ⟨b, off, none⟩ = some v ∧ Rel m loc x v ∧ w.frozen? ⟨b, off, none⟩ = false := by
 obtain ⟨arr, t, h1, h2, h3, h4, h5⟩ := h.obj _ _ _ hl hs
 have hlt := lt_of_get ho
 obtain ⟨v, hv⟩ : ∃ v, arr[off]? = some v := ⟨arr[off]'(by omega), Array.getElem?_eq_getElem _⟩
 exact ⟨v, by simp [World.cell?, h1, hv], h4 _ _ _ ho hv, by simp [World.frozen?, h1]⟩
theorem get_take {α : Type} {l : List α} {n i : Nat} {x : α} (h : (l.take n)[i]? = some x) : i < n ∧ l[i]? = some x := by
 rw [List.getElem?_take] at h
 split at h
 ·exact ⟨‹_›, h⟩
 ·simp at h
theorem SRel.take (h : SRel m loc σ w) (n : Nat) (hi : IdsS n (σ.take n)) : SRel m (loc.take n) (σ.take n) w where
 len := by simp [h.len]
 im := h.im
 bs := h.bs
 obj := by
  intro i l o h1 h2
  have hid := hi i o h2
  obtain ⟨hn, h1⟩ := get_take h1
  obtain ⟨_, h2⟩ := get_take h2
  have := h.obj i l o h1 h2
  cases l with
  | nowhere => cases o <;> exact this
  | blk b =>
   cases o with
   | dead => trivial
   | tab b vs => exact this
   | grow sz n => exact this
   | vec sz n cells => exact this
   | row cells =>
    obtain ⟨arr, t, h1, h2, h3, h4, h5⟩ := this
    exact ⟨arr, t, h1, h2, h3, fun j x v e1 e2 => (h4 j x v e1 e2).take (hid j x e1), h5⟩
   | map es =>
    obtain ⟨en, c, h1, h2⟩ := this
    exact ⟨en, c, h1, h2.take hid⟩
   | loop L =>
    obtain ⟨r, h1, h2, h3, h4, h5, h6, h7⟩ := this
    exact ⟨r, h1, h2, h3, h4, h5, h6, ⟨h7.size, fun i => (h7.rel i).take (hid i)⟩⟩
   | iter es seen =>
    rcases this with ⟨h1, h2⟩ | ⟨q, en, c, sa, st, h1, h2, h3, h4⟩
    ·exact .inl ⟨h1, h2⟩
    ·exact .inr ⟨q, en, c, sa, st, h1, h2, h3.take hid, h4⟩
  | tok sz f =>
   cases o with
   | vec sz' n cells =>
    obtain ⟨h0, h1, h2, h3⟩ := this
    refine ⟨h0, h1, h2, ?_⟩
    rcases h3 with h3 | ⟨b, arr, t, g1, g2, g3, g4, g5, g6⟩
    ·exact .inl h3
    ·exact .inr ⟨b, arr, t, g1, g2, g3, g4, fun j x v e1 e2 => (g5 j x v e1 e2).take (hid j x e1), g6⟩
   | _ => exact this
 inj := fun i j l l' o o' b h1 h2 h3 h4 => h.inj i j l l' o o' b (get_take h1).2 (get_take h2).2 (get_take h3).2 (get_take h4).2
 lt := by
  rintro b ⟨i, e | ⟨sz, f, k, e, hk⟩⟩
  ·exact h.lt b ⟨i, .inl (get_take e).2⟩
  ·exact h.lt b ⟨i, .inr ⟨sz, f, k, (get_take e).2, hk⟩⟩
 mp := h.mp
 mpo := fun i l o b h1 h2 => h.mpo i l o b (get_take h1).2 (get_take h2).2
 ok := h.ok.names (by
  rintro b ⟨i, e | ⟨sz, f, k, e, hk⟩⟩
  ·exact ⟨i, .inl (get_take e).2⟩
  ·exact ⟨i, .inr ⟨sz, f, k, (get_take e).2, hk⟩⟩)
theorem Ext.take {n0 : Nat} (m : Mem) (loc : List Loc) (w : World) (n : Nat) (hn : n0 ≤ n) : Ext n0 m loc w m (loc.take n) w :=
 ⟨rfl, rfl, rfl, Nat.le_refl _, Nat.le_refl _, .refl m, fun i l hi e => ⟨l, take_get e (by omega), .refl l⟩, by
  rintro b ⟨i, e | ⟨sz, f, k, e, hk⟩⟩
  ·exact .inl ⟨i, .inl (get_take e).2⟩
  ·exact .inl ⟨i, .inr ⟨sz, f, k, (get_take e).2, hk⟩⟩, fun _ _ _ _ => rfl, fun _ _ _ e => .inl e⟩
theorem SRel.die (h : SRel m loc σ w) (id : Nat) : SRel m loc (σ.set id .dead) w where
 len := by simp [h.len]
 im := h.im
 bs := h.bs
 obj := by
  intro i l o h1 h2
  rcases get_set h2 with ⟨rfl, rfl⟩ | ⟨_, h2⟩
  ·cases l <;> trivial
  ·exact h.obj i l o h1 h2
 inj := by
  intro i j l l' o o' b h1 h2 h3 h4 w1 w2
  rcases get_set h3 with ⟨rfl, rfl⟩ | ⟨_, h3⟩
  ·cases l <;> simp [own] at w1
  ·rcases get_set h4 with ⟨rfl, rfl⟩ | ⟨_, h4⟩
   ·cases l' <;> simp [own] at w2
   ·exact h.inj i j l l' o o' b h1 h2 h3 h4 w1 w2
 lt := h.lt
 mp := h.mp
 mpo := by
  intro i l o b h1 h2 w1
  rcases get_set h2 with ⟨rfl, rfl⟩ | ⟨_, h2⟩
  ·cases l <;> simp [own] at w1
  ·exact h.mpo i l o b h1 h2 w1
 ok := h.ok
end
end Go.Ahl
namespace Go.Ahl
inductive Opd where
 | tmp (t : Nat)
 | lit (a : AV)
def avLit : Value → AV
 | .bool b => .bool b
 | .int k n => .int k n
 | .string s => .str s
 | .slice none 0 0 => .slice .nil []
 | .map none => .mapnil
 | v => .conc v
def avOf : Value → AV
 | .agg cs => .agg (cs.toList.map avLit)
 | v => avLit v
def cOpd : Operand → Opd
 | .tmp t => .tmp t
 | .const v => .lit (avOf v)
 | .global g => .lit (.conc (.pointer (some ⟨g, 0, none⟩)))
 | .func f => .lit (.func f [])
def aev (s : Slots) : Opd → AV
 | .tmp t => lk s t
 | .lit a => a
def AV.one : AV → Bool
 | .bool _ | .int .. | .str _ | .slice .. | .ref .. | .vec .. | .ptr .. | .rptr _ | .map _ | .mapnil | .func .. | .cell _ | .wslice _ | .wptr _ | .yld _ | .iface .. => true
 | .conc v => v.oneCell'
 | _ => false
def cellsOf : AV → Option (List AV)
 | .agg cs => some cs
 | .any | .tuple _ => none
 | .conc v => if v.oneCell' then some [.conc v] else none
 | v => some [v]
inductive EqK where
 | none
 | bool
 | slice
 | flat (ks : List Nat)
 | func
inductive AI where
 | move (x : Opd)
 | pick (c a b : Opd)
 | alloc (z : AV)
 | box (x : Opd)
 | build (z : List AV) (parts : List (Nat × Nat × Opd))
 | bslice (esz : Nat) (xs : List Opd) (own : Bool)
 | bsliceC (esz : Nat) (xs : List Opd)
 | bappendC (esz bytes : Nat) (s x : Opd)
 | load (n : Option Nat) (x : Opd)
 | store (n : Nat) (a x : Opd)
 | nilck (x : Opd)
 | bin (op : BinOp) (k : EqK) (x y : Opd)
 | un (op : UnOp) (x : Opd)
 | conv (k : IntKind) (x : Opd)
 | mkfunc (f : FuncId) (c : List Opd)
 | mkmap
 | mkslice (esz bytes : Nat) (z : List AV) (l c : Opd) (own : Bool)
 | slc (esz : Nat) (x : Opd) (lo hi mx : Option Opd)
 | sstr (x : Opd) (lo hi : Option Opd)
 | faddr (off : Nat) (x : Opd)
 | fieldv (off : Nat) (n : Option Nat) (x : Opd)
 | iaddr (esz : Nat) (x i : Opd)
 | istr (x i : Opd)
 | lookup (ks : Bool) (z : AV) (m k : Opd) (ok : Bool)
 | mapup (ks : Bool) (m k v : Opd)
 | extract (x : Opd) (i : Nat)
 | call (f : Opd) (args : List Opd)
 | callE (f : Opd) (args : List Opd)
 | callY (f : Opd) (args : List Opd)
 | blen (k : Nat) (x : Opd)
 | bappend (esz bytes : Nat) (s x : Opd) (own : Bool)
 | bclear (z : List AV) (x : Opd)
 | bcopy (esz : Nat) (d x : Opd)
 | bmax (x y : Opd)
 | bmin (x y : Opd)
 | bstr (x : Opd)
 | mkif (t : TypeId) (x : Opd)
 | inv (ms : List (TypeId × FuncId × Option (Option Nat))) (x : Opd) (args : List Opd)
 | asrt (t : TypeId) (z : AV) (x : Opd) (ok : Bool)
 | rng (x : Opd)
 | nxt (x : Opd)
 | ent (x : Opd)
 | bad
structure COp where
 dst : Option Nat
 op : AI
 guard : Option (Option Nat × Bool)
 after : List Nat
def oS (n : Nat) (i : AI) : COp := ⟨some n, i, none, []⟩
def oN (i : AI) : COp := ⟨none, i, none, []⟩
def oA (n : Nat) (i : AI) (a : List Nat) : COp := ⟨some n, i, none, a⟩
def oG (n k : Nat) (b : Bool) (i : AI) : COp := ⟨some n, i, some (some k, b), []⟩
inductive CCode where
 | skip
 | ops (l : List COp)
 | draw (l : List COp)
 | drawU (l : List COp) (U : List (List Nat))
 | seq (a b : CCode)
 | cond (c : Opd) (a b : CCode)
 | block (id : Nat) (c : CCode)
 | loop (c : CCode)
 | exit (id : Nat)
 | ret
 | ghost (c : CCode)
 | scope (c : CCode)
 | rangeF (g : Opd) (ps : List Nat) (asg body : CCode)
 | bad
structure Hints where
 own : List (Nat × Nat)
 ghosts : List Nat
 cold : List (Nat × Nat) := []
 loud : List (Nat × Nat) := []
 free : List (Nat × List (List Nat)) := []
 yields : List (Nat × Nat) := []
section
variable (P : Program)
def aggB : TypeDesc → Bool
 | .struct _ | .array _ _ => true
 | _ => false
def aggSize (t : TypeId) : Option (Option Nat) :=
 match P.underlying t, P.info? t with
 | some d, some i => some (if aggB d then some i.size else none)
 | _, _ => none
def plainKind (t : TypeId) : Option Nat :=
 match P.underlying t with
 | some .bool => some 0
 | some (.int _) => some 1
 | some .string => some 2
 | _ => none
def allSome {α : Type} : List (Option α) → Option (List α)
 | [] => some []
 | none :: _ => none
 | some x :: r => (allSome r).map (x :: ·)
def eqKind (t : TypeId) : EqK :=
 match P.underlying t with
 | some .bool => .bool
 | some (.slice _) => .slice
 | some (.struct fs) =>
  match allSome (fs.toList.map fun f => plainKind P f.type) with
  | some ks => if fs.toList.all (fun f => f.name != "_") && !P.eqGuardType P.depth t && !P.stoodInHeld t && decide (fs.toList.map (·.offset) = List.range' 0 fs.toList.length) then .flat ks else .none
  | none => .none
 | some (.func _ _ _) => .func
 | _ => .none
def cPlace (places : List (Nat × Nat)) (p : Nat × Operand) : Option (Nat × Nat × Opd) :=
 (places[p.1]?).map fun q => (q.1, q.2, cOpd p.2)
def invOne (name : String) (t : TypeId) : Option (TypeId × FuncId × Option (Option Nat)) :=
 match P.info? t with
 | some i => (match i.methods.find? (·.name == name) with
  | some mth => if mth.path.toList.isEmpty then (match mth.func, P.underlying t with
   | some (f, true), some (.pointer _) => some (t, f, none)
   | some (f, false), some (.pointer e) => (match aggSize P e with
    | some n => some (t, f, some n)
    | none => none)
   | some (f, false), some _ => some (t, f, none)
   | _, _ => none) else none
  | none => none)
 | none => none
def invTable (name : String) : List (TypeId × FuncId × Option (Option Nat)) := (List.range P.types.size).filterMap (invOne P name)
def cCall (c : Call) (own : Bool) : AI :=
 match c.callee with
 | .value f => .call (cOpd f) (c.args.toList.map cOpd)
 | .invoke r name => .inv (invTable P name) (cOpd r) (c.args.toList.map cOpd)
 | .builtin b =>
  match b, c.argTypes.toList, c.args.toList with
  | .len, [t], [x] => match P.underlying t with
   | some .string => .blen 0 (cOpd x)
   | some (.slice _) => .blen 1 (cOpd x)
   | some (.map _ _) => .blen 2 (cOpd x)
   | _ => .bad
  | .append, [t, u], [s, x] => match P.underlying t, P.underlying u with
   | some (.slice e), some d => (match P.info? e with
    | some i => (match i.zero with
     | some z => if (match d with | .int _ => false | _ => true) && decide (z.cells.size = i.size) then .bappend i.size i.bytes (cOpd s) (cOpd x) own else .bad
     | none => .bad)
    | none => .bad)
   | _, _ => .bad
  | .clear, [t], [x] => match P.underlying t with
   | some (.slice e) => (match P.info? e with
    | some i => match i.zero with
     | some z => .bclear (z.cells.toList.map avLit) (cOpd x)
     | none => .bad
    | none => .bad)
   | _ => .bad
  | .copy, [t, _], [d, x] => match P.underlying t with
   | some (.slice e) => (match P.info? e with
    | some i => .bcopy i.size (cOpd d) (cOpd x)
    | none => .bad)
   | _ => .bad
  | .max, _, [x, y] => .bmax (cOpd x) (cOpd y)
  | .min, _, [x, y] => .bmin (cOpd x) (cOpd y)
  | _, _, _ => .bad
def cOp (own : Bool) : Op → AI
 | .move x | .assign x => .move (cOpd x)
 | .pick c a b => .pick (cOpd c) (cOpd a) (cOpd b)
 | .alloc e => match P.info? e with
  | some i => match i.zero with
   | some z => .alloc (avOf z)
   | none => .bad
  | none => .bad
 | .box _ x => .box (cOpd x)
 | .build t parts => match P.info? t, P.underlying t with
  | some i, some (.struct fields) =>
   (match i.zero, fields.toList.mapM (fun f => (P.info? f.type).map fun i => (f.offset, i.size)) with
   | some z, some places => (match allSome (parts.toList.map (cPlace places)) with
    | some ps => .build (z.cells.toList.map avLit) ps
    | none => .bad)
   | _, _ => .bad)
  | some i, some (.array _ e) => (match i.zero, P.info? e with
   | some z, some ie => .build (z.cells.toList.map avLit) (parts.toList.map fun (k, x) => (k * ie.size, ie.size, cOpd x))
   | _, _ => .bad)
  | _, _ => .bad
 | .buildSlice t len parts => match P.underlying t with
  | some (.slice e) => (match P.info? e with
   | some i => if parts.toList.map (·.1) = List.range len ∧ len * i.size ≤ 2 ^ 24 ∧ i.zero.isSome ∧ 0 < i.size then .bslice i.size (parts.toList.map (cOpd ·.2)) own else .bad
   | none => .bad)
  | _ => .bad
 | .load t a => match aggSize P t with
  | some n => .load n (cOpd a)
  | none => .bad
 | .store t a x => match P.info? t with
  | some i => .store i.size (cOpd a) (cOpd x)
  | none => .bad
 | .nilCheck x => .nilck (cOpd x)
 | .binOp op t x y _ => .bin op (eqKind P t) (cOpd x) (cOpd y)
 | .unOp op _ x => .un op (cOpd x)
 | .convert s d x => match P.underlying s, P.underlying d with
  | some _, some (.int k) => .conv k (cOpd x)
  | some (.slice e), some .string => (match P.underlying e with
   | some (.int .u8) => .bstr (cOpd x)
   | _ => .bad)
  | _, _ => .bad
 | .makeFunc (.func f) first captured => if first.size = 0 then .mkfunc f (captured.toList.map cOpd) else .bad
 | .makeMap _ none => .mkmap
 | .makeSlice t l c => match P.underlying t with
  | some (.slice e) => (match P.info? e with
   | some i => match i.zero with
    | some z => if 0 < i.size ∧ z.cells.size = i.size then .mkslice i.size i.bytes (z.cells.toList.map avLit) (cOpd l) (cOpd c) own else .bad
    | none => .bad
   | none => .bad)
  | _ => .bad
 | .slice t x lo hi mx => match P.underlying t with
  | some (.slice e) => (match P.info? e with
   | some i => .slc i.size (cOpd x) (lo.map cOpd) (hi.map cOpd) (mx.map cOpd)
   | none => .bad)
  | some .string => if mx.isNone then .sstr (cOpd x) (lo.map cOpd) (hi.map cOpd) else .bad
  | _ => .bad
 | .fieldAddr t x f => match P.underlying t with
  | some (.struct fs) => (match fs[f]? with
   | some f => match P.info? f.type with
    | some i => if i.size = 0 then .bad else .faddr f.offset (cOpd x)
    | none => .bad
   | none => .bad)
  | _ => .bad
 | .field t x f => match P.underlying t with
  | some (.struct fs) => (match fs[f]? with
   | some f => match aggSize P f.type with
    | some n => .fieldv f.offset n (cOpd x)
    | none => .bad
   | none => .bad)
  | _ => .bad
 | .indexAddr t x i => match P.underlying t with
  | some (.slice e) => (match P.info? e with
   | some inf => .iaddr inf.size (cOpd x) (cOpd i)
   | none => .bad)
  | some (.array n e) => (match P.info? e, i with
   | some inf, .const (.int _ q) => if 0 ≤ q ∧ q < (n : Int) then .faddr (q.toNat * inf.size) (cOpd x) else .bad
   | _, _ => .bad)
  | _ => .bad
 | .index t x i => match P.underlying t with
  | some .string => .istr (cOpd x) (cOpd i)
  | _ => .bad
 | .lookup t m k ok => match P.underlying t with
  | some (.map kt et) => (match P.underlying kt, P.info? et with
   | some (.int _), some i => (match i.zero with
    | some z => .lookup false (avOf z) (cOpd m) (cOpd k) ok
    | none => .bad)
   | some .string, some i => (match i.zero with
    | some z => .lookup true (avOf z) (cOpd m) (cOpd k) ok
    | none => .bad)
   | _, _ => .bad)
  | _ => .bad
 | .mapUpdate t m k v | .insert t m k v => match P.underlying t with
  | some (.map kt _) => (match P.underlying kt with
   | some (.int _) => .mapup false (cOpd m) (cOpd k) (cOpd v)
   | some .string => .mapup true (cOpd m) (cOpd k) (cOpd v)
   | _ => .bad)
  | _ => .bad
 | .extract t i => .extract (cOpd t) i
 | .makeInterface t x => match P.underlying t with
  | some (.interface _) => .bad
  | some _ => .mkif t (cOpd x)
  | none => .bad
 | .typeAssert x _ a ok => match P.underlying a, P.info? a with
  | some (.interface _), _ => .bad
  | some _, some i => (match i.zero with
   | some z => .asrt a (avOf z) (cOpd x) ok
   | none => .bad)
  | _, _ => .bad
 | .range t x => match P.underlying t with
  | some (.map _ _) => .rng (cOpd x)
  | _ => .bad
 | .next x false => .nxt (cOpd x)
 | .entry x => .ent (cOpd x)
 | .call c => cCall P c own
 | _ => .bad
def coldOf : AI → AI
 | .bslice esz xs _ => .bsliceC esz xs
 | .bappend esz b s x _ => .bappendC esz b s x
 | i => i
def loudOf : AI → AI
 | .call f args => .callE f args
 | i => i
def yieldOf : AI → AI
 | .call f args => .callY f args
 | i => i
def opAt (H : Hints) (r i : Nat) (op : Op) : AI := if H.yields.contains (r, i) then yieldOf (cOp P false op) else if H.cold.contains (r, i) then coldOf (cOp P false op) else if H.loud.contains (r, i) then loudOf (cOp P (H.own.contains (r, i)) op) else cOp P (H.own.contains (r, i)) op
def cAt (H : Hints) (r : Nat) (ops : Array Oper) (d : Bool) (i : Nat) : COp :=
 match ops[i]? with
 | some o =>
  {dst := o.dst, op := opAt P H r i o.op, guard := o.guard.map fun (j, b) => ((ops[j]?).bind (·.dst), b),
   after := if d then (o.after.toList.filter (Region.binds .any ·)).map (·.on) else [] }
 | none => { dst := none, op := .bad, guard := none, after := [] }
def cOps (H : Hints) (r : Nat) (ops : Array Oper) (d : Bool) : List COp := (List.range ops.size).map (cAt P H r ops d)
def comp (H : Hints) : Code → CCode
 | .skip => .skip
 | .label _ => .skip
 | .region id ops false => let c := CCode.ops (cOps P H id ops false); if H.ghosts.contains id then .ghost c else c
 | .region id ops true => let c := (match H.free.find? (·.1 == id) with | some (_, U) => CCode.drawU (cOps P H id ops true) U | none => CCode.draw (cOps P H id ops true)); if H.ghosts.contains id then .ghost c else c
 | .seq a b => .seq (comp H a) (comp H b)
 | .cond c a b => .cond (cOpd c) (comp H a) (comp H b)
 | .block id c => .block id (comp H c)
 | .loop c => .loop (comp H c)
 | .scope c => .scope (comp H c)
 | .exit id => .exit id
 | .ret => .ret
 | .rangeFunc g ps a b => .rangeF (cOpd g) ps.toList (comp H a) (comp H b)
 | _ => .bad
end
abbrev Cont := AV → Store → Prop
def cellEq : Nat → AV → AV → Option Bool
 | 0, .bool a, .bool b => some (a == b)
 | 1, .int k a, .int k' b => if k = k' then some (a == b) else none
 | 2, .str a, .str b => some (a.toList == b.toList)
 | _, _, _ => none
def flatEq : List Nat → List AV → List AV → Option Bool
 | [], [], [] => some true
 | k :: ks, x :: xs, y :: ys => match cellEq k x y, flatEq ks xs ys with
  | some p, some q => some (p && q)
  | _, _ => none
 | _, _, _ => none
def aBin (op : BinOp) (e : EqK) (x y : AV) (K : AV → Prop) : Prop :=
 match x, y with
 | .int k a, .int k' b =>
  match op with
  | .shl => 0 ≤ b ∧ K (.int k (k.wrap (a * 2 ^ (min b.toNat k.bits))))
  | .shr => 0 ≤ b ∧ K (.int k (a.fdiv (2 ^ (min b.toNat k.bits))))
  | .add => k = k' ∧ K (.int k (k.wrap (a + b)))
  | .sub => k = k' ∧ K (.int k (k.wrap (a - b)))
  | .mul => k = k' ∧ K (.int k (k.wrap (a * b)))
  | .quo => k = k' ∧ b ≠ 0 ∧ K (.int k (k.wrap (a.tdiv b)))
  | .rem => k = k' ∧ b ≠ 0 ∧ K (.int k (a.tmod b))
  | .and => k = k' ∧ K (.int k (k.wrap (BitVec.ofInt k.bits a &&& BitVec.ofInt k.bits b).toNat))
  | .or => k = k' ∧ K (.int k (k.wrap (BitVec.ofInt k.bits a ||| BitVec.ofInt k.bits b).toNat))
  | .xor => k = k' ∧ K (.int k (k.wrap (BitVec.ofInt k.bits a ^^^ BitVec.ofInt k.bits b).toNat))
  | .andNot => k = k' ∧ K (.int k (k.wrap (BitVec.ofInt k.bits a &&& ~~~ BitVec.ofInt k.bits b).toNat))
  | .eql => k = k' ∧ K (.bool (a == b))
  | .neq => k = k' ∧ K (.bool (a != b))
  | .lss => k = k' ∧ K (.bool (decide (a < b)))
  | .leq => k = k' ∧ K (.bool (decide (a ≤ b)))
  | .gtr => k = k' ∧ K (.bool (decide (a > b)))
  | .geq => k = k' ∧ K (.bool (decide (a ≥ b)))
 | .str a, .str b =>
  match op with
  | .add => ((a.size + b.size : Nat) : Int) ≤ IntKind.i64.max ∧ K (.str (a ++ b))
  | .eql => K (.bool (a.toList == b.toList))
  | .neq => K (.bool (!(a.toList == b.toList)))
  | .lss => K (.bool (Op.bytesLess a.toList b.toList))
  | .gtr => K (.bool (!(Op.bytesLess a.toList b.toList || a.toList == b.toList)))
  | .leq => K (.bool (Op.bytesLess a.toList b.toList || a.toList == b.toList))
  | .geq => K (.bool (!(Op.bytesLess a.toList b.toList)))
  | _ => False
 | .bool a, .bool b =>
  match e, op with
  | .bool, .eql => K (.bool (a == b))
  | .bool, .neq => K (.bool (!(a == b)))
  | _, _ => False
 | .slice t xs, .slice .nil _ =>
  match e, op with
  | .slice, .eql => ∀ b, (xs ≠ [] → b = false) → (t = .nil → b = true) → K (.bool b)
  | .slice, .neq => ∀ b, (xs ≠ [] → b = true) → (t = .nil → b = false) → K (.bool b)
  | _, _ => False
 | .ref _ _ _ len, .slice .nil _ =>
  match e, op with
  | .slice, .eql => ∀ b, (len ≠ 0 → b = false) → K (.bool b)
  | .slice, .neq => ∀ b, (len ≠ 0 → b = true) → K (.bool b)
  | _, _ => False
 | .agg xs, .agg ys =>
  match e, op with
  | .flat ks, .eql => ∃ b, flatEq ks xs ys = some b ∧ K (.bool b)
  | .flat ks, .neq => ∃ b, flatEq ks xs ys = some b ∧ K (.bool (!b))
  | _, _ => False
 | .conc .nilFunc, .conc .nilFunc =>
  match e, op with
  | .func, .eql => K (.bool true)
  | .func, .neq => K (.bool false)
  | _, _ => False
 | .func _ _, .conc .nilFunc =>
  match e, op with
  | .func, .eql => K (.bool false)
  | .func, .neq => K (.bool true)
  | _, _ => False
 | _, _ => False
def aUn (op : UnOp) (x : AV) (K : AV → Prop) : Prop :=
 match op, x with
 | .not, .bool b => K (.bool (!b))
 | .neg, .int k n => K (.int k (k.wrap (0 - n)))
 | _, _ => False
def aLoad (n : Option Nat) (x : AV) (σ : Store) (K : AV → Prop) : Prop :=
 match x with
 | .ptr id off => ∃ cells, σ[id]? = some (.row cells) ∧ match n with
  | none => ∃ y, cells[off]? = some y ∧ K y
  | some n => off + n ≤ cells.length ∧ K (.agg ((cells.drop off).take n))
 | .rptr cells => match n with
  | none => ∃ y, cells[0]? = some y ∧ K y
  | some n => n ≤ cells.length ∧ K (.agg (cells.take n))
 | .wptr cells => match n with
  | none => ∃ y, cells[0]? = some y ∧ K y
  | some n => n ≤ cells.length ∧ K (.agg (cells.take n))
 | _ => False
def kindOf : AV → Option Kind
 | .int k _ => some (.int k)
 | .str _ => some .str
 | .bool _ => some .bool
 | .cell K => some K
 | _ => none
def setAll (l : List AV) (off : Nat) : List AV → List AV
 | [] => l
 | x :: r => setAll (l.set off x) (off + 1) r
def aStore (n : Nat) (x v : AV) (σ : Store) (K : Store → Prop) : Prop :=
 match x with
 | .ptr id off => ∃ cells, σ[id]? = some (.row cells) ∧ ∃ cs, cellsOf v = some cs ∧ cs.length = n ∧ off + n ≤ cells.length ∧ cs.all AV.one = true ∧
   K (σ.set id (.row (setAll cells off cs)))
 | .wptr cells => n = 1 ∧ ∃ k, cells[0]? = some (.cell k) ∧ kindOf v = some k ∧ K σ
 | _ => False
def aIaddr (esz : Nat) (x i : AV) (K : AV → Prop) : Prop :=
 match x, i with
 | .slice _ elems, .int _ n => 0 ≤ n ∧ ∃ e, elems[n.toNat]? = some e ∧ e.length = esz ∧ K (.rptr e)
 | .ref id sz off len, .int _ n => 0 ≤ n ∧ n.toNat < len ∧ sz = esz ∧ K (.ptr id (off + n.toNat * sz))
 | .wslice elems, .int _ n => 0 ≤ n ∧ ∃ e, elems[n.toNat]? = some e ∧ e.length = esz ∧ K (.wptr e)
 | _, _ => False
def bnd (d : Nat) : Option AV → (Nat → Prop) → Prop
 | none, K => K d
 | some (.int _ n), K => 0 ≤ n ∧ K n.toNat
 | _, _ => False
def aSlc (esz : Nat) (x : AV) (lo hi mx : Option AV) (K : AV → Prop) : Prop :=
 match x with
 | .slice t elems => match mx with
  | none => bnd elems.length hi fun h => bnd 0 lo fun l => l ≤ h ∧ h ≤ elems.length ∧ (∀ e ∈ elems, e.length = esz) ∧ K (.slice .unk ((elems.drop l).take (h - l)))
  | some (.int _ 0) => (match hi, lo with | some (.int _ 0), none => K (.slice .zero []) | _, _ => False)
  | _ => False
 | .ref id sz off len => match mx with
  | none => bnd len hi fun h => bnd 0 lo fun l => l ≤ h ∧ h ≤ len ∧ sz = esz ∧ K (.ref id sz (off + l * sz) (h - l))
  | _ => False
 | _ => False
def aSstr (x : AV) (lo hi : Option AV) (K : AV → Prop) : Prop :=
 match x with
 | .str s => bnd s.size hi fun h => bnd 0 lo fun l => l ≤ h ∧ h ≤ s.size ∧ K (.str (s.extract l h))
 | _ => False
def keyEq : AV → AV → Option Bool
 | .str a, .str b => some (a == b)
 | .int k a, .int k' b => if k = k' then some (a == b) else none
 | _, _ => none
def aFind (k : AV) : List (AV × AV) → Nat → Option (Option (Nat × AV))
 | [], _ => some none
 | (k', v) :: r, i => match keyEq k k' with
  | some true => some (some (i, v))
  | some false => aFind k r (i + 1)
  | none => none
def AV.isKey (ks : Bool) : AV → Bool
 | .str _ => ks
 | .int .. => !ks
 | _ => false
def aLookup (ks : Bool) (z m k : AV) (ok : Bool) (σ : Store) (K : AV → Prop) : Prop :=
 k.isKey ks = true ∧ match m with
 | .mapnil => K (if ok then .tuple [z, .bool false] else z)
 | .map id => ∃ es, σ[id]? = some (.map es) ∧ ∃ r, aFind k es 0 = some r ∧
   K (match r with | some (_, v) => if ok then .tuple [v, .bool true] else v | none => if ok then .tuple [z, .bool false] else z)
 | _ => False
def aMapup (ks : Bool) (m k v : AV) (σ : Store) (K : Store → Prop) : Prop :=
 k.isKey ks = true ∧ match m with
 | .map id => ∃ es, σ[id]? = some (.map es) ∧ ∃ r, aFind k es 0 = some r ∧
   K (σ.set id (.map (match r with | some (i, _) => es.set i (k, v) | none => es ++ [(k, v)])))
 | _ => False
def aLen (k : Nat) (x : AV) (σ : Store) (K : AV → Prop) : Prop :=
 match k, x with
 | 1, .slice _ elems => K (.int .i64 elems.length)
 | 1, .ref _ _ _ len => K (.int .i64 len)
 | 1, .vec _ _ len => K (.int .i64 len)
 | 1, .wslice elems => K (.int .i64 elems.length)
 | 0, .str s => K (.int .i64 s.size)
 | 2, .mapnil => K (.int .i64 0)
 | 2, .map id => ∃ es, σ[id]? = some (.map es) ∧ K (.int .i64 es.length)
 | _, _ => False
def chunks (sz : Nat) : Nat → List AV → List (List AV)
 | 0, _ => []
 | n + 1, l => l.take sz :: chunks sz n (l.drop sz)
def elemsOf (esz : Nat) (x : AV) (σ : Store) (K : List (List AV) → Prop) : Prop :=
 match x with
 | .slice _ elems => K elems
 | .ref id sz off len => sz = esz ∧ ∃ cells, σ[id]? = some (.row cells) ∧ off + len * sz ≤ cells.length ∧ K (chunks sz len (cells.drop off))
 | .str s => K (s.data.toList.map fun b => [.int .u8 b.toNat])
 | _ => False
def bigLen (n bytes : Nat) : Prop := n * bytes ≤ 140737488355328 ∧ n ≤ 140737488355328
def aAsrt (t : TypeId) (z x : AV) (ok : Bool) (K : AV → Prop) : Prop :=
 match x with
 | .iface t' a => if t' = t then K (if ok then .tuple [a, .bool true] else a) else ok = true ∧ K (.tuple [z, .bool false])
 | _ => False
def appC (esz bytes : Nat) (s : AV) (own : Bool) (σ : Store) (K : Cont) (ys : List (List AV)) : Prop :=
 (∀ e ∈ ys, e.length = esz ∧ e.all AV.one = true) ∧ 0 < esz ∧ match s with
  | .slice .nil [] | .slice .zero [] => bigLen ys.length bytes ∧
    (if own then K (.ref σ.length esz 0 ys.length) (σ ++ [.row ys.flatten]) else K (.slice (.grow σ.length) ys) (σ ++ [.grow esz ys.length]))
  | .slice (.grow id) xs => own = false ∧ σ[id]? = some (.grow esz xs.length) ∧ bigLen (xs.length + ys.length) bytes ∧
    K (.slice (.grow id) (xs ++ ys)) (σ.set id (.grow esz (xs.length + ys.length)))
  | .ref id sz 0 len => sz = esz ∧ ∃ cells, σ[id]? = some (.row cells) ∧ cells.length = len * esz ∧ bigLen (len + ys.length) bytes ∧
    K (.ref σ.length esz 0 (len + ys.length)) (σ.set id .dead ++ [.row (cells ++ ys.flatten)])
  | .vec id sz len => sz = esz ∧ ∃ cells, σ[id]? = some (.vec esz len cells) ∧ bigLen (len + ys.length) bytes ∧
    K (.vec id esz (len + ys.length)) (σ.set id (.vec esz (len + ys.length) (cells ++ ys.flatten)))
  | _ => False
def aAppend (esz bytes : Nat) (s x : AV) (own : Bool) (σ : Store) (K : Cont) : Prop :=
 elemsOf esz x σ (appC esz bytes s own σ K)
def aAppendC (esz bytes : Nat) (s x : AV) (K : AV → Prop) : Prop :=
 match s, x with
 | .slice .nil [], .slice _ ys => (∀ e ∈ ys, e.length = esz ∧ e.all AV.one = true) ∧ 0 < esz ∧ bigLen ys.length bytes ∧ K (.slice .fresh ys)
 | _, _ => False
def evs (s : Slots) (l : List Opd) : List AV := l.map (aev s)
def buildAll (cells : List AV) : List (Nat × Nat × AV) → Option (List AV)
 | [] => some cells
 | (off, n, v) :: r => match cellsOf v with
  | some cs => if cs.length = n ∧ off + n ≤ cells.length then buildAll (setAll cells off cs) r else none
  | none => none
def cellsAll : List AV → Option (List (List AV))
 | [] => some []
 | v :: r => match cellsOf v, cellsAll r with
  | some c, some cs => some (c :: cs)
  | _, _ => none
def ARet (loc : List Loc) (m : Mem) (w : World) (R : Cont) (v : Value) (w' : World) : Prop :=
 ∃ r σ' m' loc', R r σ' ∧ Rel m' loc' r v ∧ SRel m' loc' σ' w' ∧ Ext loc.length m loc w m' loc' w'
def ArgsRel (m : Mem) (loc : List Loc) (args : List AV) (vs : Array Value) : Prop :=
 vs.size = args.length ∧ ∀ (j : Nat) x v, args[j]? = some x → vs[j]? = some v → Rel m loc x v
def ACalls (P : Program) (f : FuncId) (args : List AV) (σ : Store) (R : Cont) : Prop :=
 ∀ m loc w vs, SRel m loc σ w → ArgsRel m loc args vs →
  (∃ fn, P.funcs[f]? = some fn ∧ fn.body.isSome = true ∧ fn.name ≠ "runtime.NumGoroutine" ∧
   Calls P f vs w fun e w' => ∃ v, e = .returned v ∧ ARet loc m w R v w') ∨
  (∃ v w', (callFunc f vs).run P w = .ok (.value v) w' ∧ ARet loc m w R v w')
theorem ACalls.mono {P : Program} {f : FuncId} {args : List AV} {σ : Store} {R R' : Cont} (h : ACalls P f args σ R) (hr : ∀ r σ', R r σ' → R' r σ') : ACalls P f args σ R' := by
 intro m loc w vs hs ha
 have key : ∀ v w', ARet loc m w R v w' → ARet loc m w R' v w' := fun v w' ⟨r, σ', m', loc', h1, h2⟩ => ⟨r, σ', m', loc', hr _ _ h1, h2⟩
 rcases h m loc w vs hs ha with ⟨fn, h1, h2, h3, h4⟩ | ⟨v, w', h1, h2⟩
 ·exact .inl ⟨fn, h1, h2, h3, h4.mono fun e w' ⟨v, e1, e2⟩ => ⟨v, e1, key _ _ e2⟩⟩
 ·exact .inr ⟨v, w', h1, key _ _ h2⟩
def aInv (P : Program) (ms : List (TypeId × FuncId × Option (Option Nat))) (x : AV) (args : List AV) (σ : Store) (K : Cont) : Prop :=
 match x with
 | .iface t a => match ms.find? (fun q => q.1 == t) with
  | some (_, f, none) => ACalls P f (a :: args) σ K
  | some (_, f, some n) => aLoad n a σ fun y => ACalls P f (y :: args) σ K
  | none => False
 | _ => False
def AYld (P : Program) (id : Nat) (args : List AV) (σ : Store) (K : Cont) : Prop :=
 ∀ m loc w vs, SRel m loc σ w → ArgsRel m loc args vs → ∃ l r, loc[id]? = some (.blk l) ∧ w.heap[l]? = some (.loop r) ∧ vs.size = r.params.size ∧
  RoundIn Fence.wide 0 P l r.fn ((r.params.zip vs).foldl (fun tmps (t, a) => tmps.setIfInBounds t a) r.tmps) r.assign r.body w (fun e w' => ∃ v, e = .returned v ∧ ARet loc m w K v w')
theorem AYld.mono {P : Program} {id : Nat} {args : List AV} {σ : Store} {R R' : Cont} (h : AYld P id args σ R) (hr : ∀ r σ', R r σ' → R' r σ') : AYld P id args σ R' := by
 intro m loc w vs hs ha
 obtain ⟨l, r, h1, h2, h3, h4⟩ := h m loc w vs hs ha
 exact ⟨l, r, h1, h2, h3, h4.mono fun e w' ⟨v, e1, r, σ', m', loc', q1, q2⟩ => ⟨v, e1, r, σ', m', loc', hr _ _ q1, q2⟩⟩
def unit : AV := .tuple []
def aConv (k : IntKind) (x : AV) (K : AV → Prop) : Prop :=
 match x with
 | .int _ n => K (.int k (k.wrap n))
 | _ => False
def aMkslice (esz bytes : Nat) (z : List AV) (l c : AV) (own : Bool) (σ : Store) (K : Cont) : Prop :=
 match l, c with
 | .int _ a, .int _ b => 0 ≤ a ∧ a ≤ b ∧ b < 2 ^ 63 ∧ (bytes : Int) * b ≤ 2 ^ 48 ∧
   (if own then K (.ref σ.length esz 0 a.toNat) (σ ++ [.row (List.replicate b.toNat z).flatten]) else a = 0 ∧ K (.slice (.grow σ.length) []) (σ ++ [.grow esz 0]))
 | _, _ => False
def aFaddr (o : Nat) (x : AV) (K : AV → Prop) : Prop :=
 match x with
 | .ptr id off => K (.ptr id (off + o))
 | .rptr c => K (.rptr (c.drop o))
 | .wptr c => K (.wptr (c.drop o))
 | _ => False
def aFieldv (o : Nat) (n : Option Nat) (x : AV) (K : AV → Prop) : Prop :=
 match x with
 | .agg cs => (match n with
  | none => ∃ y, cs[o]? = some y ∧ K y
  | some n => K (.agg ((cs.drop o).take n)))
 | _ => False
def aIstr (x i : AV) (K : AV → Prop) : Prop :=
 match x, i with
 | .str b, .int _ n => 0 ≤ n ∧ ∃ c, b[n.toNat]? = some c ∧ K (.int .u8 c.toNat)
 | _, _ => False
def aExtract (x : AV) (i : Nat) (K : AV → Prop) : Prop :=
 match x with
 | .tuple vs => ∃ y, vs[i]? = some y ∧ K y
 | _ => False
def aClear (z : List AV) (x : AV) (σ : Store) (K : Store → Prop) : Prop :=
 match x with
 | .ref id sz off len => z.length = sz ∧ 0 < sz ∧ z.all AV.one = true ∧ ∃ cells, σ[id]? = some (.row cells) ∧ off + len * sz ≤ cells.length ∧
   K (σ.set id (.row (setAll cells off (List.replicate len z).flatten)))
 | _ => False
def aCopy (esz : Nat) (d x : AV) (σ : Store) (K : Cont) : Prop :=
 match d, x with
 | .ref id sz off len, .ref id' sz' off' len' => sz = esz ∧ sz' = esz ∧ 0 < esz ∧ len ≤ len' ∧ ∃ cells, σ[id]? = some (.row cells) ∧ off + len * esz ≤ cells.length ∧
   ∃ cells', σ[id']? = some (.row cells') ∧ off' + len * esz ≤ cells'.length ∧ ((cells'.drop off').take (len * esz)).all AV.one = true ∧
   K (.int .i64 len) (σ.set id (.row (setAll cells off ((cells'.drop off').take (len * esz)))))
 | _, _ => False
def aNilck (x : AV) (K : AV → Prop) : Prop :=
 match x with
 | .ptr id off => K (.ptr id off)
 | .rptr c => K (.rptr c)
 | .wptr c => K (.wptr c)
 | _ => False
def aMax (x y : AV) (K : AV → Prop) : Prop :=
 match x, y with
 | .int k a, .int k' b => k = k' ∧ K (.int k (if b > a then b else a))
 | _, _ => False
def aMin (x y : AV) (K : AV → Prop) : Prop :=
 match x, y with
 | .int k a, .int k' b => k = k' ∧ K (.int k (if b < a then b else a))
 | _, _ => False
def encU8 (c : UInt8) : List AV := [.int .u8 c.toNat]
def aBstr (x : AV) (K : AV → Prop) : Prop :=
 match x with
 | .slice _ es => ∃ l : List UInt8, es = l.map encU8 ∧ K (.str ⟨⟨l⟩⟩)
 | _ => False
def aRng (x : AV) (σ : Store) (K : Cont) : Prop :=
 match x with
 | .map id => ∃ es, σ[id]? = some (.map es) ∧ K (.ptr σ.length 0) (σ.set id .dead ++ [.iter es []])
 | .mapnil => K (.ptr σ.length 0) (σ ++ [.iter [] []])
 | _ => False
def aNxt (x : AV) (σ : Store) (K : Cont) : Prop :=
 match x with
 | .ptr id 0 => ∃ es seen, σ[id]? = some (.iter es seen) ∧ (∀ (i : Nat) k v, es[i]? = some (k, v) → i ∉ seen → K (.tuple [.bool true, k, v]) (σ.set id (.iter es (seen ++ [i])))) ∧
   ((∀ i, i < es.length → i ∈ seen) → K (.tuple [.bool false]) σ)
 | _ => False
def aEnt (x : AV) (σ : Store) (K : AV → Prop) : Prop :=
 match x with
 | .ptr id 0 => ∃ es seen i k v, σ[id]? = some (.iter es (seen ++ [i])) ∧ es[i]? = some (k, v) ∧ K (.tuple [k, v])
 | _ => False
def atS (K : Cont) (σ : Store) : AV → Prop := fun v => K v σ
def atU (K : Cont) : Store → Prop := fun σ => K unit σ
def aI (P : Program) (i : AI) (s : Slots) (σ : Store) (K : Cont) : Prop :=
 match i with
 | .move x => K (aev s x) σ
 | .pick c a b => match aev s c with
  | .bool true => K (aev s a) σ
  | .bool false => K (aev s b) σ
  | _ => False
 | .alloc z => match cellsOf z with
  | some cs => K (.ptr σ.length 0) (σ ++ [.row cs])
  | none => False
 | .box x => match cellsOf (aev s x) with
  | some cs => K (.ptr σ.length 0) (σ ++ [.row cs])
  | none => False
 | .build z ps => match buildAll z (ps.map fun (o, n, x) => (o, n, aev s x)) with
  | some cs => K (.agg cs) σ
  | none => False
 | .bslice esz xs own => match cellsAll (evs s xs) with
  | some es => (∀ e ∈ es, e.length = esz) ∧ (if own then (if es.isEmpty then K (.slice .zero []) σ else K (.ref σ.length esz 0 es.length) (σ ++ [.row es.flatten])) else K (.slice (.grow σ.length) es) (σ ++ [.grow esz es.length]))
  | none => False
 | .bsliceC esz xs => match cellsAll (evs s xs) with
  | some es => (∀ e ∈ es, e.length = esz) ∧ K (.slice .unk es) σ
  | none => False
 | .bappendC esz bytes a x => aAppendC esz bytes (aev s a) (aev s x) (atS K σ)
 | .load n x => aLoad n (aev s x) σ (atS K σ)
 | .store n a x => aStore n (aev s a) (aev s x) σ (atU K)
 | .nilck x => aNilck (aev s x) (atS K σ)
 | .bin op e x y => aBin op e (aev s x) (aev s y) (atS K σ)
 | .un op x => aUn op (aev s x) (atS K σ)
 | .conv k x => aConv k (aev s x) (atS K σ)
 | .mkfunc f c => K (.func f (evs s c)) σ
 | .mkmap => K (.map σ.length) (σ ++ [.map []])
 | .mkslice esz bytes z l c own => aMkslice esz bytes z (aev s l) (aev s c) own σ K
 | .slc esz x lo hi mx => aSlc esz (aev s x) (lo.map (aev s)) (hi.map (aev s)) (mx.map (aev s)) (atS K σ)
 | .sstr x lo hi => aSstr (aev s x) (lo.map (aev s)) (hi.map (aev s)) (atS K σ)
 | .faddr o x => aFaddr o (aev s x) (atS K σ)
 | .fieldv o n x => aFieldv o n (aev s x) (atS K σ)
 | .iaddr esz x i => aIaddr esz (aev s x) (aev s i) (atS K σ)
 | .istr x i => aIstr (aev s x) (aev s i) (atS K σ)
 | .lookup ks z m k ok => aLookup ks z (aev s m) (aev s k) ok σ (atS K σ)
 | .mapup ks m k v => aMapup ks (aev s m) (aev s k) (aev s v) σ (atU K)
 | .extract x i => aExtract (aev s x) i (atS K σ)
 | .call f args => match aev s f with
  | .func g c => ACalls P g (evs s args ++ c) σ K
  | _ => False
 | .callE f args => match aev s f with
  | .func g c => ACalls P g (evs s args ++ c) σ K
  | _ => False
 | .callY f args => match aev s f with
  | .yld id => AYld P id (evs s args) σ K
  | _ => False
 | .blen k x => aLen k (aev s x) σ (atS K σ)
 | .bappend esz bytes a x own => aAppend esz bytes (aev s a) (aev s x) own σ K
 | .bclear z x => aClear z (aev s x) σ (atU K)
 | .bcopy esz d x => aCopy esz (aev s d) (aev s x) σ K
 | .bmax x y => aMax (aev s x) (aev s y) (atS K σ)
 | .bmin x y => aMin (aev s x) (aev s y) (atS K σ)
 | .bstr x => aBstr (aev s x) (atS K σ)
 | .mkif t x => K (.iface t (aev s x)) σ
 | .inv ms x args => aInv P ms (aev s x) (evs s args) σ K
 | .asrt t z x ok => aAsrt t z (aev s x) ok (atS K σ)
 | .rng x => aRng (aev s x) σ K
 | .nxt x => aNxt (aev s x) σ K
 | .ent x => aEnt (aev s x) σ (atS K σ)
 | .bad => False
end Go.Ahl
namespace Go.Ahl
def GoodV (P : Program) (m : Mem) (loc : List Loc) (w : World) (K : Cont) (s : Sem Value) : Prop :=
 ∃ v w' x σ' m' loc', s.run P w = .ok v w' ∧ K x σ' ∧ Rel m' loc' x v ∧ SRel m' loc' σ' w' ∧ Ext loc.length m loc w m' loc' w'
def GoodU (P : Program) (m : Mem) (loc : List Loc) (w : World) (K : Cont) (s : Sem Unit) : Prop :=
 ∃ w' σ' m' loc', s.run P w = .ok () w' ∧ K unit σ' ∧ SRel m' loc' σ' w' ∧ Ext loc.length m loc w m' loc' w'
section
variable {P : Program} {m : Mem} {loc : List Loc} {σ : Store} {w : World} {K : Cont}
theorem GoodV.same {s : Sem Value} {v : Value} {x : AV} (hs : SRel m loc σ w) (hr : s.run P w = .ok v w) (hk : K x σ) (hx : Rel m loc x v) : GoodV P m loc w K s :=
 ⟨v, w, x, σ, m, loc, hr, hk, hx, hs, .refl _ _ _ _⟩
theorem rel_avLit (v : Value) : Rel m loc (avLit v) v := by
 unfold avLit
 split
 ·exact .bool _
 ·exact .int _ _
 ·exact .str _
 ·exact .slice .nil [] none 0 0 0 0 (fun _ _ => undef) (Nat.le_refl _) ⟨rfl, rfl⟩ (by simp) (fun h => absurd rfl h) (fun i hi => absurd hi (by simp)) (by simp)
 ·exact .mapnil
 ·exact .conc _
theorem rel_avOf (v : Value) : Rel m loc (avOf v) v := by
 unfold avOf
 split
 ·rename_i cs
  refine .agg _ cs (by simp) ?_
  intro j x u h1 h2
  rw [List.getElem?_map] at h1
  rw [Array.getElem?_toList, h2] at h1
  simp at h1; subst h1
  exact rel_avLit u
 ·exact rel_avLit v
theorem rel_cOpd {nt : Nat} {s : Slots} {a : Act} (h : SlotRel m loc nt s a.tmps) (x : Operand) : Rel m loc (aev s (cOpd x)) (a.eval x) := by
 cases x with
 | tmp t => exact h.rel t
 | const v => exact rel_avOf v
 | global g => exact .conc _
 | func f => exact .func f [] #[] rfl (by simp)
theorem rel_cells {x : AV} {v : Value} {cs : List AV} (h : Rel m loc x v) (hc : cellsOf x = some cs) :
  v.cells.size = cs.length ∧ ∀ (j : Nat) y u, cs[j]? = some y → v.cells[j]? = some u → Rel m loc y u := by
 have one : ∀ {x : AV} {v : Value}, Rel m loc x v → (∀ vs, v ≠ .agg vs) → v.cells.size = [x].length ∧ ∀ (j : Nat) y u, [x][j]? = some y → v.cells[j]? = some u → Rel m loc y u := by
  intro x v hx hv
  have hvc : v.cells = #[v] := by
   cases v <;> first | rfl | exact absurd rfl (hv _)
  rw [hvc]
  refine ⟨rfl, fun j y u h1 h2 => ?_⟩
  cases j with
  | zero => simp at h1 h2; subst h1; subst h2; exact hx
  | succ j => simp at h1
 cases h with
 | any v => simp [cellsOf] at hc
 | agg cells vs hlen hr => simp [cellsOf] at hc; subst hc; exact ⟨hlen, hr⟩
 | tuple cells vs hlen hr => simp [cellsOf] at hc
 | conc v =>
  simp only [cellsOf] at hc
  split at hc
  ·simp at hc; subst hc
   refine one (.conc v) ?_
   rintro vs rfl
   rename_i hv; simp [Value.oneCell'] at hv
  ·simp at hc
 | bool b => simp [cellsOf] at hc; subst hc; exact one (.bool b) (by simp)
 | int k n => simp [cellsOf] at hc; subst hc; exact one (.int k n) (by simp)
 | str s => simp [cellsOf] at hc; subst hc; exact one (.str s) (by simp)
 | slice tok elems a cap sz b o f h1 h2 h3 h4 h5 h6 => simp [cellsOf] at hc; subst hc; exact one (.slice tok elems a cap sz b o f h1 h2 h3 h4 h5 h6) (by simp)
 | ref id sz off len cap b n h1 h2 h3 h4 => simp [cellsOf] at hc; subst hc; exact one (.ref id sz off len cap b n h1 h2 h3 h4) (by simp)
 | ref0 id sz off a h1 => simp [cellsOf] at hc; subst hc; exact one (.ref0 id sz off a h1) (by simp)
 | vec id sz len cap f a h1 h2 h3 => simp [cellsOf] at hc; subst hc; exact one (.vec id sz len cap f a h1 h2 h3) (by simp)
 | ptr id off b h1 => simp [cellsOf] at hc; subst hc; exact one (.ptr id off b h1) (by simp)
 | rptr cells b o f h1 h2 => simp [cellsOf] at hc; subst hc; exact one (.rptr cells b o f h1 h2) (by simp)
 | map id b h1 => simp [cellsOf] at hc; subst hc; exact one (.map id b h1) (by simp)
 | mapnil => simp [cellsOf] at hc; subst hc; exact one .mapnil (by simp)
 | func fn c vs h1 h2 => simp [cellsOf] at hc; subst hc; exact one (.func fn c vs h1 h2) (by simp)
 | yld id b h1 => simp [cellsOf] at hc; subst hc; exact one (.yld id b h1) (by simp)
 | iface t x v h => simp [cellsOf] at hc; subst hc; exact one (.iface t x v h) (by simp)
 | cell K v h => simp [cellsOf] at hc; subst hc; exact one (.cell K v h) (by rintro vs rfl; cases K <;> (obtain ⟨_, q⟩ := h; simp at q))
 | wslice elems a cap sz b o f h0 h1 h2 h3 h4 h5 h6 => simp [cellsOf] at hc; subst hc; exact one (.wslice elems a cap sz b o f h0 h1 h2 h3 h4 h5 h6) (by simp)
 | wptr cells b o f h0 h1 h2 h3 => simp [cellsOf] at hc; subst hc; exact one (.wptr cells b o f h0 h1 h2 h3) (by simp)
theorem Kind.one {K : Kind} {v : Value} (h : K.is v) : v.oneCell' = true := by
 cases K <;> (obtain ⟨_, rfl⟩ := h; rfl)
theorem rel_one {x : AV} {v : Value} (h : Rel m loc x v) (h1 : x.one = true) : v.oneCell' = true := by
 cases h <;> first | rfl | exact h1 | (exact Kind.one ‹_›) | simp [AV.one] at h1
theorem SRel.wcell (h : SRel m loc σ w) {b o : Nat} {K : Kind} (hw : m.wk b o = some K) : ∃ v, w.cell? ⟨b, o, none⟩ = some v ∧ K.is v ∧ w.frozen? ⟨b, o, none⟩ = false := by
 obtain ⟨_, _, arr, t, fz, v, h1, h2, h3, h4⟩ := h.ok.wk b o K hw
 exact ⟨v, by simp [World.cell?, h1, h2], h3, h4⟩
theorem SRel.wread (hs : SRel m loc σ w) {b o j : Nat} {cells : List AV} {x : AV} {f : Nat → Value} (hw : ∀ (j : Nat) K, cells[j]? = some (.cell K) → m.wk b (o + j) = some K)
  (hc : ∀ (j : Nat) x, cells[j]? = some x → x.isCell = false → m.im b (o + j) = some (f j)) (hr : ∀ (j : Nat) x, cells[j]? = some x → x.isCell = false → Rel m loc x (f j)) (hx : cells[j]? = some x) :
  ∃ v, w.cell? ⟨b, o + j, none⟩ = some v ∧ Rel m loc x v := by
 cases e : x.isCell with
 | false => exact ⟨f j, hs.im _ _ _ (hc j x hx e), hr j x hx e⟩
 | true =>
  cases x <;> simp [AV.isCell] at e
  obtain ⟨v, h1, h2, _⟩ := hs.wcell (hw j _ hx)
  exact ⟨v, h1, .cell _ v h2⟩
theorem run_isAgg' {t : TypeId} {d : TypeDesc} (h : P.underlying t = some d) : (isAgg t).run P w = .ok (aggB d) w := by
 unfold isAgg
 rw [Sem.run_bind, run_underlying h]
 cases d <;> rfl
theorem run_info {t : TypeId} {i : TypeInfo} (h : P.info? t = some i) : (typeInfo t).run P w = .ok i w := by
 have : (typeInfo t).run P w = (match P.info? t with | some i => pure i | none => stuck "no such type" : Sem TypeInfo).run P w := rfl
 rw [this, h]; rfl
theorem run_size {t : TypeId} {i : TypeInfo} (h : P.info? t = some i) : (sizeOf t).run P w = .ok i.size w := by
 unfold sizeOf; rw [Sem.run_bind, run_info h]; rfl
theorem run_zero {t : TypeId} {i : TypeInfo} {z : Value} (h : P.info? t = some i) (hz : i.zero = some z) : (zeroValue t).run P w = .ok z w := by
 unfold zeroValue; rw [Sem.run_bind, run_info h]; simp [Result.andThen, hz]
theorem run_loadOne {a : Addr} {v : Value} (h : w.cell? a = some v) : (load a).run P w = .ok v w := by
 unfold load; simp [Sem.run, h]
theorem add_at (b o n : Nat) : (⟨b, o, none⟩ : Addr).add n = ⟨b, o + n, none⟩ := by
 unfold Addr.add; split
 ·subst_vars; rfl
 ·rfl
theorem run_loadMany {b o n : Nat} {vs : List Value} (hn : vs.length = n) (h : ∀ (j : Nat) v, vs[j]? = some v → w.cell? ⟨b, o + j, none⟩ = some v) :
  (loadCells ⟨b, o, none⟩ n).run P w = .ok vs.toArray w := by
 subst hn
 exact run_loadCells_list w ⟨b, o, none⟩ vs (fun j v e => by rw [add_at]; exact h j v e)
theorem pick_cells {cells : List AV} {off n : Nat} {g : Nat → Value → Prop} (hn : off + n ≤ cells.length) (h : ∀ (j : Nat) x, cells[j]? = some x → ∃ v, g j v ∧ Rel m loc x v) :
  ∃ vs : List Value, vs.length = n ∧ (∀ (j : Nat) v, vs[j]? = some v → g (off + j) v) ∧ ∀ (j : Nat) x v, ((cells.drop off).take n)[j]? = some x → vs[j]? = some v → Rel m loc x v := by
 induction n generalizing off with
 | zero => exact ⟨[], rfl, by simp, by simp⟩
 | succ n ih =>
  obtain ⟨v, hv1, hv2⟩ := h off cells[off] (List.getElem?_eq_getElem (by omega))
  obtain ⟨vs, h1, h2, h3⟩ := ih (off := off + 1) (by omega)
  refine ⟨v :: vs, by simp [h1], ?_, ?_⟩
  ·intro j u hu
   cases j with
   | zero => simp at hu; subst hu; exact hv1
   | succ j => simp at hu; have := h2 j u hu; rw [show off + (j + 1) = off + 1 + j by omega]; exact this
  ·intro j x u hx hu
   rw [List.drop_eq_getElem_cons (by omega), List.take_succ_cons] at hx
   cases j with
   | zero => simp at hx hu; subst hx; subst hu; exact hv2
   | succ j => simp at hx hu; exact h3 j x u (by simpa using hx) hu
theorem aggSize_some {t : TypeId} {n : Option Nat} (h : aggSize P t = some n) : ∃ d i, P.underlying t = some d ∧ P.info? t = some i ∧ (if aggB d then some i.size else none) = n := by
 unfold aggSize at h
 split at h
 ·rename_i d i hd hi
  exact ⟨d, i, hd, hi, by simpa using h⟩
 ·simp at h
def SameV (P : Program) (m : Mem) (loc : List Loc) (w : World) (σ : Store) (K : Cont) (s : Sem Value) : Prop :=
 ∃ v x, s.run P w = .ok v w ∧ K x σ ∧ Rel m loc x v
theorem same_load {t : TypeId} {n : Option Nat} {x : AV} {v : Value} (hs : SRel m loc σ w) (ht : aggSize P t = some n) (hx : Rel m loc x v) (h : aLoad n x σ fun y => K y σ) :
  SameV P m loc w σ K (Instr.loadAt t v) := by
 have one : ∀ {a : Addr} {y : AV} {u : Value}, n = none → w.cell? a = some u → Rel m loc y u → K y σ → SameV P m loc w σ K (Instr.loadAt t (.pointer (some a))) := by
  intro a y u hn hc hr hk
  refine ⟨u, y, ?_, hk, hr⟩
  obtain ⟨d, i, hd, hi, hn2⟩ := aggSize_some ht
  have hd2 : aggB d = false := by
   cases hb : aggB d with
   | false => rfl
   | true => rw [hb] at hn2; simp at hn2; rw [← hn2] at hn; simp at hn
  have : (Instr.loadAt t (.pointer (some a))).run P w = (loadVar t a).run P w := rfl
  rw [this]; unfold loadVar
  rw [Sem.run_bind, run_isAgg' hd, hd2]
  exact run_loadOne hc
 have many : ∀ {b o k : Nat} {cs : List AV} {vs : List Value}, n = some k → vs.length = k → (∀ (j : Nat) u, vs[j]? = some u → w.cell? ⟨b, o + j, none⟩ = some u) → cs.length = k →
   (∀ (j : Nat) y u, cs[j]? = some y → vs[j]? = some u → Rel m loc y u) → K (.agg cs) σ → SameV P m loc w σ K (Instr.loadAt t (.pointer (some ⟨b, o, none⟩))) := by
  intro b o k cs vs hn hv hc hcs hr hk
  refine ⟨.agg vs.toArray, .agg cs, ?_, hk, .agg cs _ (by simp [hv, hcs]) (fun j y u h1 h2 => hr j y u h1 (by simpa using h2))⟩
  obtain ⟨d, i, hd, hi, hn2⟩ := aggSize_some ht
  have hd2 : aggB d = true ∧ i.size = k := by
   cases hb : aggB d with
   | false => rw [hb] at hn2; simp at hn2; rw [← hn2] at hn; simp at hn
   | true => rw [hb] at hn2; simp at hn2; rw [← hn2] at hn; simp at hn; exact ⟨rfl, hn⟩
  obtain ⟨hd2, hk2⟩ := hd2
  have : (Instr.loadAt t (.pointer (some ⟨b, o, none⟩))).run P w = (loadVar t ⟨b, o, none⟩).run P w := rfl
  rw [this]; unfold loadVar
  rw [Sem.run_bind, run_isAgg' hd, hd2]
  simp only [Result.andThen, if_true]
  rw [Sem.run_bind, run_size hi, hk2]
  simp only [Result.andThen]
  rw [Sem.run_bind, run_loadMany hv hc]
  rfl
 unfold aLoad at h
 cases hx with
 | ptr id off b hl =>
  obtain ⟨cells, hc, h⟩ := h
  cases n with
  | none =>
   obtain ⟨y, hy, hk⟩ := h
   obtain ⟨u, h1, h2, _⟩ := hs.row hl hc hy
   exact one rfl h1 h2 hk
  | some k =>
   obtain ⟨hn, hk⟩ := h
   obtain ⟨vs, h1, h2, h3⟩ := pick_cells (m := m) (loc := loc) (g := fun j u => w.cell? ⟨b, j, none⟩ = some u) hn (fun j x hj => by
    obtain ⟨u, e1, e2, _⟩ := hs.row hl hc hj; exact ⟨u, e1, e2⟩)
   exact many rfl h1 h2 (by simp; omega) h3 hk
 | rptr cells b o f hc hr =>
  cases n with
  | none =>
   obtain ⟨y, hy, hk⟩ := h
   have := hs.im _ _ _ (hc 0 (lt_of_get hy))
   exact one rfl this (hr 0 y hy) hk
  | some k =>
   obtain ⟨hn, hk⟩ := h
   obtain ⟨vs, h1, h2, h3⟩ := pick_cells (m := m) (loc := loc) (cells := cells) (off := 0) (n := k) (g := fun j u => w.cell? ⟨b, o + j, none⟩ = some u) (by omega) (fun j x hj =>
    ⟨f j, hs.im _ _ _ (hc j (lt_of_get hj)), hr j x hj⟩)
   exact many rfl h1 (fun j u e => by have := h2 j u e; simpa using this) (by simp; omega) (by simpa using h3) hk
 | wptr cells b o f hl hw hc hr =>
  cases n with
  | none =>
   obtain ⟨y, hy, hk⟩ := h
   obtain ⟨u, h1, h2⟩ := hs.wread hw hc hr hy
   exact one rfl h1 h2 hk
  | some k =>
   obtain ⟨hn, hk⟩ := h
   obtain ⟨vs, h1, h2, h3⟩ := pick_cells (m := m) (loc := loc) (cells := cells) (off := 0) (n := k) (g := fun j u => w.cell? ⟨b, o + j, none⟩ = some u) (by omega) (fun j x hj =>
    hs.wread hw hc hr hj)
   exact many rfl h1 (fun j u e => by have := h2 j u e; simpa using this) (by simp; omega) (by simpa using h3) hk
 | _ => exact h.elim
theorem good_load {t : TypeId} {n : Option Nat} {x : AV} {v : Value} (hs : SRel m loc σ w) (ht : aggSize P t = some n) (hx : Rel m loc x v) (h : aLoad n x σ fun y => K y σ) :
  GoodV P m loc w K (Instr.loadAt t v) :=
 let ⟨u, y, h1, h2, h3⟩ := same_load hs ht hx h; .same hs h1 h2 h3
theorem good_new {elem : TypeId} {x : AV} {v : Value} {cs : List AV} (hs : SRel m loc σ w) (hx : Rel m loc x v) (hc : cellsOf x = some cs) (hk : K (.ptr σ.length 0) (σ ++ [.row cs])) :
  GoodV P m loc w K (Instr.box elem v) := by
 obtain ⟨h1, h2⟩ := rel_cells hx hc
 have key := hs.alloc loc.length (.cells v.cells elem) (fun _ => none) (some v.cells.size) (.blk w.heap.size) (.row cs)
  (fun _ _ e => by simp at e) (fun n e => by simp at e; exact ⟨_, _, _, rfl, e⟩) (fun b e => by
   rcases e with e | ⟨_, _, _, e, _⟩
   ·injection e with e; exact e.symm
   ·simp at e) ?_
 ·refine ⟨.pointer (some ⟨w.heap.size, 0, none⟩), w.alloc (.cells v.cells elem), .ptr σ.length 0, _, _, _, ?_, hk, ?_, key.1, key.2⟩
  ·rfl
  ·exact .ptr σ.length 0 w.heap.size (by rw [← hs.len]; simp)
 ·refine ⟨v.cells, elem, ?_, ?_, by omega, ?_, ?_⟩
  ·show (w.heap.push _)[w.heap.size]? = _; simp
  ·simp [Mem.add]
  ·intro j y u e1 e2
   exact (h2 j y u e1 e2).mono (hs.le_add _ _) (.app _ _ _)
  ·intro o; simp [Mem.add]
end
end Go.Ahl
namespace Go.Ahl
section
variable {P : Program} {m : Mem} {loc : List Loc} {σ : Store} {w : World} {K : Cont}
theorem store_cells (n0 id b o : Nat) (hl : loc[id]? = some (.blk b)) : ∀ (cs : List AV) (vs : List Value) (i : Nat) (cells : List AV) (σ : Store) (w : World), SRel m loc σ w →
  σ[id]? = some (.row cells) → vs.length = cs.length → (∀ (j : Nat) x v, cs[j]? = some x → vs[j]? = some v → Rel m loc x v) → o + i + cs.length ≤ cells.length → cs.all AV.one = true →
  ∃ w', (storeCells ⟨b, o, none⟩ vs i).run P w = .ok () w' ∧ SRel m loc (σ.set id (.row (setAll cells (o + i) cs))) w' ∧ Ext n0 m loc w m loc w'
 | [], [], i, cells, σ, w, hs, hc, _, _, _, _ => ⟨w, rfl, by unfold setAll; rw [set_same hc]; exact hs, .refl _ _ _ _⟩
 | [], _ :: _, _, _, _, _, _, _, h, _, _, _ => by simp at h
 | _ :: _, [], _, _, _, _, _, _, h, _, _, _ => by simp at h
 | x :: cs, v :: vs, i, cells, σ, w, hs, hc, hlen, hr, hn, h1 => by
  simp only [List.all_cons, Bool.and_eq_true] at h1
  simp only [List.length_cons] at hn hlen
  have hx : Rel m loc x v := hr 0 x v rfl rfl
  obtain ⟨y, hy⟩ : ∃ y, cells[o + i]? = some y := ⟨cells[o + i]'(by omega), List.getElem?_eq_getElem _⟩
  obtain ⟨u, e1, _, e3⟩ := hs.row hl hc hy
  obtain ⟨hs1, he1⟩ := hs.set n0 hl hc (off := o + i) (by omega) hx
  have hid := lt_of_get hc
  obtain ⟨w', r2, hs2, he2⟩ := store_cells n0 id b o hl cs vs (i + 1) (cells.set (o + i) x) _ _ hs1 (by rw [List.getElem?_set_self hid]) (by omega)
   (fun j z t e e' => hr (j + 1) z t (by simpa using e) (by simpa using e')) (by simp; omega) h1.2
  refine ⟨w', ?_, ?_, he1.trans he2⟩
  ·unfold storeCells
   rw [Sem.run_bind, add_at, run_store P w _ v .plain (rel_one hx h1.1), e1, e3]
   exact r2
  ·rw [List.set_set] at hs2
   exact hs2
theorem kindOf_is {x : AV} {v : Value} {K : Kind} (h : Rel m loc x v) (hk : kindOf x = some K) : K.is v := by
 cases h <;> simp [kindOf] at hk <;> subst hk <;> first | exact ⟨_, rfl⟩ | assumption
theorem kindOf_one {x : AV} {K : Kind} (hk : kindOf x = some K) : x.one = true := by
 cases x <;> simp [kindOf] at hk <;> rfl
theorem SRel.wset (h : SRel m loc σ w) (n0 : Nat) {b o : Nat} {K : Kind} {v : Value} (hw : m.wk b o = some K) (hv : K.is v) :
  SRel m loc σ (w.setCell ⟨b, o, none⟩ v) ∧ Ext n0 m loc w m loc (w.setCell ⟨b, o, none⟩ v) := by
 obtain ⟨hn, him, arr, t, fz, v0, h1, h2, h3, hfz⟩ := h.ok.wk b o K hw
 have e := heap_setCell_same w b o v arr t fz h1
 have hne : ∀ k, k ≠ b → (w.setCell ⟨b, o, none⟩ v).heap[k]? = w.heap[k]? := fun k hk => heap_setCell w _ v k hk
 have holt : o < arr.size := by
  rcases Nat.lt_or_ge o arr.size with q | q
  ·exact q
  ·rw [Array.getElem?_eq_none q] at h2; simp at h2
 have hmap : ∀ en c, w.heap[b]? ≠ some (.map en c) := fun en c q => by rw [h1] at q; simp at q
 refine ⟨⟨h.len, ?_, ?_, ?_, h.inj, ?_, ?_, h.mpo, ?_⟩, ⟨rfl, rfl, rfl, Nat.le_refl _, by simp, .refl m, .refl _ _, fun _ q => .inl q, ?_, fun _ _ _ q => .inl q⟩⟩
 ·intro b' o' v' q
  have hc := h.im b' o' v' q
  by_cases hb : b' = b
  ·subst hb
   have ho : o' ≠ o := fun q' => by subst q'; rw [him] at q; simp at q
   simp only [World.cell?, h1] at hc
   simp only [World.cell?, e]
   rw [Array.getElem?_setIfInBounds_ne (by omega)]
   exact hc
  ·simpa [World.cell?, hne b' hb] using hc
 ·intro b' n q
  obtain ⟨arr', t', fz', g1, g2⟩ := h.bs b' n q
  by_cases hb : b' = b
  ·subst hb
   rw [h1] at g1; injection g1 with g1; injection g1 with g1 g3 g4; subst g1
   exact ⟨_, t, _, e, by simpa using g2⟩
  ·exact ⟨arr', t', fz', by rw [hne b' hb]; exact g1, g2⟩
 ·intro i l ob g1 g2
  refine (h.obj i l ob g1 g2).mono (.refl m) (.refl _ _) (fun b' q => ?_) (fun _ _ _ => rfl)
  exact hne b' (fun q' => by subst q'; exact hn (own_names g1 q))
 ·intro b' q; simpa using h.lt b' q
 ·intro b' en q
  have := h.mp b' en q
  rw [hne b' (fun q' => by subst q'; exact hmap _ _ this)]; exact this
 ·have hfr : ∀ b' o', (w.setCell ⟨b, o, none⟩ v).frozen? ⟨b', o', none⟩ = w.frozen? ⟨b', o', none⟩ := by
   intro b' o'
   by_cases hb : b' = b
   ·subst hb; simp [World.frozen?, e, h1]
   ·exact frozen_same (hne b' hb)
  refine ⟨by simpa using h.ok.low, h.ok.own, fun b' o' K' q => ?_, fun b' o' v' q1 q2 => by rw [hfr]; exact h.ok.fz b' o' v' q1 q2⟩
  obtain ⟨g1, g2, arr', t', fz', v', g3, g4, g5, g6⟩ := h.ok.wk b' o' K' q
  refine ⟨g1, g2, ?_⟩
  rw [hfr]
  by_cases hb : b' = b
  ·subst hb
   rw [h1] at g3; injection g3 with g3; injection g3 with g3 g7 g8; subst g3; subst g7
   by_cases ho : o' = o
   ·subst ho
    rw [hw] at q; injection q with q; subst q
    exact ⟨_, t, _, v, e, by rw [Array.getElem?_setIfInBounds_self_of_lt holt], hv, g6⟩
   ·exact ⟨_, t, _, v', e, by rw [Array.getElem?_setIfInBounds_ne (by omega)]; exact g4, g5, g6⟩
  ·exact ⟨arr', t', fz', v', by rw [hne b' hb]; exact g3, g4, g5, g6⟩
 ·intro b' q1 q2 q3
  exact hne b' (fun q' => by subst q'; rw [q3 o] at hw; simp at hw)
theorem good_store {t : TypeId} {i : TypeInfo} {x y : AV} {a v : Value} (hs : SRel m loc σ w) (hi : P.info? t = some i) (hx : Rel m loc x a) (hy : Rel m loc y v)
  (h : aStore i.size x y σ fun σ' => K unit σ') : GoodU P m loc w K (Instr.storeAt t a v) := by
 unfold aStore at h
 cases hx with
 | ptr id off b hl =>
  obtain ⟨cells, hc, cs, h1, h2, h3, h4, hk⟩ := h
  obtain ⟨hsz, hrel⟩ := rel_cells hy h1
  obtain ⟨w', r, hs', he⟩ := store_cells (P := P) loc.length id b off hl cs v.cells.toList 0 cells σ w hs hc (by simpa using hsz)
   (fun j z u e e' => hrel j z u e (by simpa using e')) (by omega) h4
  refine ⟨w', _, m, loc, ?_, hk, by simpa using hs', he⟩
  have : (Instr.storeAt t (.pointer (some ⟨b, off, none⟩)) v).run P w = (storeVar t ⟨b, off, none⟩ v).run P w := rfl
  rw [this]; unfold storeVar
  rw [Sem.run_bind, run_size hi]
  simp only [Result.andThen]
  rw [if_neg (by rw [hsz, h2]; exact fun q => q rfl)]
  exact r
 | wptr cells b o f hl0 hw hc hr =>
  obtain ⟨hn, K', h1, h2, hk⟩ := h
  have hwk := hw 0 _ h1
  obtain ⟨u, g1, g2, g3⟩ := hs.wcell hwk
  have hone := rel_one hy (kindOf_one h2)
  obtain ⟨hs', he⟩ := hs.wset loc.length hwk (kindOf_is hy h2)
  refine ⟨_, _, m, loc, ?_, hk, hs', he⟩
  have hcl : v.cells = #[v] := by cases v <;> first | rfl | simp [Value.oneCell'] at hone
  have : (Instr.storeAt t (.pointer (some ⟨b, o, none⟩)) v).run P w = (storeVar t ⟨b, o, none⟩ v).run P w := rfl
  rw [this]; unfold storeVar
  rw [Sem.run_bind, run_size hi]
  simp only [Result.andThen]
  rw [if_neg (by rw [hcl, hn]; exact fun q => q rfl), hcl]
  show (storeCells ⟨b, o, none⟩ [v] 0).run P w = _
  unfold storeCells
  rw [Sem.run_bind, add_at, run_store P w _ v .plain hone, g1, g3]
  rfl
 | _ => exact h.elim
theorem good_iaddr {t e : TypeId} {i : TypeInfo} {x y : AV} {a v : Value} (hs : SRel m loc σ w) (ht : P.underlying t = some (.slice e)) (hi : P.info? e = some i) (hx : Rel m loc x a) (hy : Rel m loc y v)
  (h : aIaddr i.size x y fun z => K z σ) : GoodV P m loc w K (Instr.indexAt t a v) := by
 have run : ∀ (ad : Addr) (len cap : Nat) (k : IntKind) (n : Int), 0 ≤ n → n < (len : Int) →
   (Instr.indexAt t (.slice (some ad) len cap) (.int k n)).run P w = .ok (.pointer (some (ad.add (n.toNat * i.size)))) w := by
  intro ad len cap k n h0 h1
  unfold Instr.indexAt
  have h2 : (asIntOf (.int k n)).run P w = .ok (k, n) w := rfl
  simp only [Sem.run_bind, h2, Result.andThen, run_underlying ht, Sem.run_pure, h0, h1, and_self, if_true, run_size hi]
 unfold aIaddr at h
 cases hx with
 | slice tok elems ad cap sz b o f hcap htok hsz ha hc hr =>
  cases hy with
  | int k n =>
   obtain ⟨h0, el, he, hlen, hk⟩ := h
   have hlt := lt_of_get he
   have hne : elems ≠ [] := by intro q; subst q; simp at hlt
   have hszz : sz = i.size := by rw [← hlen]; exact (hsz el (List.mem_of_getElem? he)).symm
   rw [ha hne]
   refine .same hs (run _ _ _ _ _ h0 (by omega)) hk ?_
   rw [add_at]
   refine .rptr el b _ (fun j => f n.toNat j) (fun j hj => ?_) (fun j z hz => hr _ _ he j z hz)
   rw [← hszz, Nat.add_assoc]
   exact hc _ hlt j (by rw [hszz, ← hlen]; exact hj)
  | _ => exact h.elim
 | ref id sz off len cap b n hl hcap hb hn =>
  cases hy with
  | int k q =>
   obtain ⟨h0, h1, h2, hk⟩ := h
   refine .same hs (run _ _ _ _ _ h0 (by omega)) hk ?_
   rw [add_at, ← h2]
   exact .ptr id _ b hl
  | _ => exact h.elim
 | ref0 id sz off a hl =>
  cases hy with
  | int k q => obtain ⟨h0, h1, _⟩ := h; omega
  | _ => exact h.elim
 | wslice elems ad cap sz b o f hl0 hcap hsz ha hw hc hr =>
  cases hy with
  | int k n =>
   obtain ⟨h0, el, he, hlen, hk⟩ := h
   have hlt := lt_of_get he
   have hne : elems ≠ [] := by intro q; subst q; simp at hlt
   have hszz : sz = i.size := by rw [← hlen]; exact (hsz el (List.mem_of_getElem? he)).symm
   rw [ha hne]
   refine .same hs (run _ _ _ _ _ h0 (by omega)) hk ?_
   rw [add_at]
   refine .wptr el b _ (fun j => f n.toNat j) hl0 (fun j K hj => ?_) (fun j x hj hx => ?_) (fun j z hz hx => hr _ _ he j z hz hx)
   ·rw [← hszz, Nat.add_assoc]; exact hw _ _ he j K hj
   ·rw [← hszz, Nat.add_assoc]; exact hc _ _ he j x hj hx
  | _ => exact h.elim
 | _ => exact h.elim
theorem good_faddr {t : TypeId} {fs : Array Field} {f : Field} {n : Nat} {i : TypeInfo} {x : AV} {a : Value} (hs : SRel m loc σ w) (ht : P.underlying t = some (.struct fs)) (hf : fs[n]? = some f)
  (hi : P.info? f.type = some i) (hz : i.size ≠ 0) (hx : Rel m loc x a)
  (h : aFaddr f.offset x fun v => K v σ) : GoodV P m loc w K (Instr.fieldAt t a n) := by
 have run : ∀ (b o : Nat), (Instr.fieldAt t (.pointer (some ⟨b, o, none⟩)) n).run P w = .ok (.pointer (some ⟨b, o + f.offset, none⟩)) w := by
  intro b o
  unfold Instr.fieldAt
  rw [Sem.run_bind, run_underlying ht]
  simp only [Result.andThen, hf]
  have h2 : (Instr.sureAddr (.pointer (some ⟨b, o, none⟩))).run P w = .ok ⟨b, o, none⟩ w := rfl
  rw [Sem.run_bind, h2]
  simp only [Result.andThen]
  have h3 : (fieldPlace ⟨b, o, none⟩ f).run P w = .ok ⟨b, o + f.offset, none⟩ w := by
   unfold fieldPlace
   rw [Sem.run_bind, run_size hi]
   simp only [Result.andThen, if_neg hz, add_at]
   rfl
  rw [Sem.run_bind, h3]; rfl
 cases hx with
 | ptr id off b hl => exact .same hs (run _ _) h (.ptr id _ b hl)
 | rptr c b o g hc hr =>
  refine .same hs (run _ _) h (.rptr _ b _ (fun j => g (f.offset + j)) (fun j hj => ?_) (fun j z hz => ?_))
  ·rw [List.length_drop] at hj
   rw [Nat.add_assoc]; exact hc _ (by omega)
  ·rw [List.getElem?_drop] at hz; exact hr _ z hz
 | wptr c b o g hl0 hw hc hr =>
  refine .same hs (run _ _) h (.wptr _ b _ (fun j => g (f.offset + j)) hl0 (fun j K hj => ?_) (fun j x hj hx => ?_) (fun j z hz hx => ?_))
  ·rw [List.getElem?_drop] at hj; rw [Nat.add_assoc]; exact hw _ K hj
  ·rw [List.getElem?_drop] at hj; rw [Nat.add_assoc]; exact hc _ x hj hx
  ·rw [List.getElem?_drop] at hz; exact hr _ z hz hx
 | _ => exact h.elim
theorem good_iaddrA {t e : TypeId} {n : Nat} {i : TypeInfo} {k : IntKind} {q : Int} {x : AV} {a : Value} (hs : SRel m loc σ w) (ht : P.underlying t = some (.array n e)) (hi : P.info? e = some i) (h0 : 0 ≤ q) (h1 : q < (n : Int)) (hx : Rel m loc x a)
  (h : aFaddr (q.toNat * i.size) x fun v => K v σ) : GoodV P m loc w K (Instr.indexAt t a (.int k q)) := by
 have run : ∀ (b o : Nat), (Instr.indexAt t (.pointer (some ⟨b, o, none⟩)) (.int k q)).run P w = .ok (.pointer (some ⟨b, o + q.toNat * i.size, none⟩)) w := by
  intro b o
  unfold Instr.indexAt
  have h2 : (asIntOf (.int k q)).run P w = .ok (k, q) w := rfl
  have h3 : (Instr.sureAddr (.pointer (some ⟨b, o, none⟩))).run P w = .ok ⟨b, o, none⟩ w := rfl
  simp only [Sem.run_bind, h2, h3, Result.andThen, run_underlying ht, Sem.run_pure, h0, h1, and_self, if_true, run_size hi, add_at]
 generalize q.toNat * i.size = d at h run
 cases hx with
 | ptr id off b hl => exact .same hs (run _ _) h (.ptr id _ b hl)
 | rptr c b o g hc hr =>
  refine .same hs (run _ _) h (.rptr _ b _ (fun j => g (d + j)) (fun j hj => ?_) (fun j z hz => ?_))
  ·rw [List.length_drop] at hj
   rw [Nat.add_assoc]; exact hc _ (by omega)
  ·rw [List.getElem?_drop] at hz; exact hr _ z hz
 | wptr c b o g hl0 hw hc hr =>
  refine .same hs (run _ _) h (.wptr _ b _ (fun j => g (d + j)) hl0 (fun j K hj => ?_) (fun j x hj hx => ?_) (fun j z hz hx => ?_))
  ·rw [List.getElem?_drop] at hj; rw [Nat.add_assoc]; exact hw _ K hj
  ·rw [List.getElem?_drop] at hj; rw [Nat.add_assoc]; exact hc _ x hj hx
  ·rw [List.getElem?_drop] at hz; exact hr _ z hz hx
 | _ => exact h.elim
theorem good_fieldv {t : TypeId} {fs : Array Field} {f : Field} {n : Nat} {k : Option Nat} {x : AV} {a : Value} (hs : SRel m loc σ w) (ht : P.underlying t = some (.struct fs)) (hf : fs[n]? = some f)
  (hi : aggSize P f.type = some k) (hx : Rel m loc x a)
  (h : aFieldv f.offset k x fun v => K v σ) :
  GoodV P m loc w K (Instr.field t a n) := by
 obtain ⟨d, i, hd, hinf, hk⟩ := aggSize_some hi
 cases hx with
 | agg cs vs hlen hr =>
  have run : (Instr.field t (.agg vs) n).run P w = (part f.type vs f.offset).run P w := by
   unfold Instr.field
   rw [Sem.run_bind, run_underlying ht]
   simp only [Result.andThen, hf]
   have h2 : (asAgg (.agg vs)).run P w = .ok vs w := rfl
   rw [Sem.run_bind, h2]; rfl
  cases hb : aggB d with
  | false =>
   rw [hb] at hk; simp at hk; subst hk
   obtain ⟨y, hy, hk⟩ := h
   obtain ⟨v, hv⟩ := get_of_size (n := 0) hlen hy
   refine .same hs (v := v) ?_ hk (hr _ y v hy hv)
   rw [run]; unfold part
   rw [Sem.run_bind, run_isAgg' hd, hb]
   simp [Result.andThen, hv]
  | true =>
   rw [hb] at hk; simp at hk; subst hk
   refine .same hs (v := .agg (vs.extract f.offset (f.offset + i.size))) ?_ h (.agg _ _ ?_ ?_)
   ·rw [run]; unfold part
    rw [Sem.run_bind, run_isAgg' hd, hb]
    simp only [Result.andThen, if_true]
    rw [Sem.run_bind, run_size hinf]; rfl
   ·simp [hlen]; omega
   ·intro j y v h1 h2
    rw [List.getElem?_take] at h1
    split at h1
    ·rw [List.getElem?_drop] at h1
     rw [Array.getElem?_extract] at h2
     split at h2
     ·exact hr _ y v h1 h2
     ·simp at h2
    ·simp at h1
 | _ => exact h.elim
theorem good_un {op : UnOp} {x : AV} {a : Value} (hs : SRel m loc σ w) (hx : Rel m loc x a) (h : aUn op x fun v => K v σ) : GoodV P m loc w K (Op.unary op a) := by
 cases op <;> cases hx <;> first
  | exact h.elim
  | exact .same hs rfl h (.bool _)
  | exact .same hs rfl h (.int _ _)
theorem good_conv {t u : TypeId} {d : TypeDesc} {k : IntKind} {x : AV} {a : Value} (hs : SRel m loc σ w) (ht : P.underlying t = some d) (hu : P.underlying u = some (.int k)) (hx : Rel m loc x a)
  (h : aConv k x fun v => K v σ) : GoodV P m loc w K (convert t u a) := by
 cases hx with
 | int k' n =>
  refine .same hs (v := .int k (k.wrap n)) ?_ h (.int _ _)
  unfold convert
  rw [Sem.run_bind, run_underlying ht]
  simp only [Result.andThen]
  rw [Sem.run_bind, run_underlying hu]
  rfl
 | _ => exact h.elim
def lenKind : TypeDesc → Option Nat
 | .string => some 0
 | .slice _ => some 1
 | .map _ _ => some 2
 | _ => none
theorem run_len_sl {t ty e : TypeId} (hd : P.underlying t = some (.slice e)) (a : Option Addr) (n c : Nat) : (Builtin.len_ #[t] ty #[.slice a n c]).run P w = .ok (goInt n) w := by
 unfold Builtin.len_
 simp only [List.getElem?_toArray, List.getElem?_cons_zero]
 rw [Sem.run_bind, run_underlying hd]; rfl
theorem run_len_st {t ty : TypeId} (hd : P.underlying t = some .string) (s : ByteArray) : (Builtin.len_ #[t] ty #[.string s]).run P w = .ok (goInt s.size) w := by
 unfold Builtin.len_
 simp only [List.getElem?_toArray, List.getElem?_cons_zero]
 rw [Sem.run_bind, run_underlying hd]; rfl
theorem run_len_m0 {t ty k e : TypeId} (hd : P.underlying t = some (.map k e)) : (Builtin.len_ #[t] ty #[.map none]).run P w = .ok (goInt 0) w := by
 unfold Builtin.len_
 simp only [List.getElem?_toArray, List.getElem?_cons_zero]
 rw [Sem.run_bind, run_underlying hd]; rfl
theorem run_len_m {t ty k e : TypeId} (hd : P.underlying t = some (.map k e)) {b : Nat} {en : Array MapEntry} {cl : Nat} (hb : w.heap[b]? = some (.map en cl)) : (Builtin.len_ #[t] ty #[.map (some b)]).run P w = .ok (goInt en.size) w := by
 have hg : (getObj b).run P w = .ok (.map en cl) w := by unfold getObj; simp [Sem.run, hb]
 unfold Builtin.len_
 simp only [List.getElem?_toArray, List.getElem?_cons_zero]
 rw [Sem.run_bind, run_underlying hd]
 simp only [Result.andThen_ok]
 rw [Sem.run_bind, hg]; rfl
theorem good_len {t ty : TypeId} {d : TypeDesc} {k : Nat} {x : AV} {a : Value} (hs : SRel m loc σ w) (hd : P.underlying t = some d) (hk : lenKind d = some k) (hx : Rel m loc x a)
  (h : aLen k x σ fun v => K v σ) : GoodV P m loc w K (Builtin.len_ #[t] ty #[a]) := by
 have hkk : k = 0 ∨ k = 1 ∨ k = 2 := by cases d <;> simp [lenKind] at hk <;> omega
 unfold aLen at h
 cases hx with
 | slice tok elems ad cap sz b o f hcap htok hsz ha hc hr =>
  rcases hkk with rfl | rfl | rfl <;> try exact h.elim
  cases d <;> simp [lenKind] at hk
  exact .same hs (run_len_sl hd _ _ _) h (.int _ _)
 | ref id sz off len cap b n hl hcap hb hn =>
  rcases hkk with rfl | rfl | rfl <;> try exact h.elim
  cases d <;> simp [lenKind] at hk
  exact .same hs (run_len_sl hd _ _ _) h (.int _ _)
 | ref0 id sz off a hl =>
  rcases hkk with rfl | rfl | rfl <;> try exact h.elim
  cases d <;> simp [lenKind] at hk
  exact .same hs (run_len_sl hd _ _ _) h (.int _ _)
 | vec id sz len cap f a hl hcap hh =>
  rcases hkk with rfl | rfl | rfl <;> try exact h.elim
  cases d <;> simp [lenKind] at hk
  exact .same hs (run_len_sl hd _ _ _) h (.int _ _)
 | wslice elems ad cap sz b o f hl0 hcap hsz ha hw hc hr =>
  rcases hkk with rfl | rfl | rfl <;> try exact h.elim
  cases d <;> simp [lenKind] at hk
  exact .same hs (run_len_sl hd _ _ _) h (.int _ _)
 | str s =>
  rcases hkk with rfl | rfl | rfl <;> try exact h.elim
  cases d <;> simp [lenKind] at hk
  exact .same hs (run_len_st hd _) h (.int _ _)
 | mapnil =>
  rcases hkk with rfl | rfl | rfl <;> try exact h.elim
  cases d <;> simp [lenKind] at hk
  exact .same hs (run_len_m0 hd) h (.int _ _)
 | map id b hl =>
  rcases hkk with rfl | rfl | rfl <;> try exact h.elim
  cases d <;> simp [lenKind] at hk
  obtain ⟨es, he, hk⟩ := h
  obtain ⟨en, cl, h1, h2⟩ := hs.obj _ _ _ hl he
  have hlen := h2.len
  exact .same hs (run_len_m hd h1) (by rw [← hlen] at hk; exact hk) (.int _ _)
 | _ => rcases hkk with rfl | rfl | rfl <;> exact h.elim
end
end Go.Ahl
namespace Go.Ahl
section
variable {P : Program} {m : Mem} {loc : List Loc} {σ : Store} {w : World} {K : Cont}
theorem eqKind_flat {t : TypeId} {ks : List Nat} (h : eqKind P t = .flat ks) : ∃ fs, P.underlying t = some (.struct fs) ∧ allSome (fs.toList.map fun f => plainKind P f.type) = some ks ∧
  (∀ f ∈ fs.toList, f.name ≠ "_") ∧ P.eqGuardType P.depth t = false ∧ P.stoodInHeld t = false ∧ fs.toList.map (·.offset) = List.range' 0 fs.toList.length := by
 unfold eqKind at h
 split at h
 ·cases h
 ·cases h
 case h_4 => cases h
 case h_5 => cases h
 rename_i fs hu
 split at h
 ·rename_i ks' hks
  split at h
  ·rename_i hc
   simp only [Bool.and_eq_true, List.all_eq_true, bne_iff_ne, ne_eq, Bool.not_eq_true', decide_eq_true_eq] at hc
   obtain ⟨⟨⟨h1, h2⟩, h3⟩, h4⟩ := hc
   injection h with h; subst h
   exact ⟨fs, hu, hks, h1, h2, h3, h4⟩
  ·cases h
 ·cases h
theorem run_equalPlain {t : TypeId} {k : Nat} {x y : AV} {a b : Value} {p : Bool} (d : Nat) (hp : plainKind P t = some k) (hx : Rel m loc x a) (hy : Rel m loc y b) (h : cellEq k x y = some p) :
  (Op.equalIn (d + 1) t a b).run P w = .ok p w := by
 unfold plainKind at hp
 split at hp <;> simp at hp <;> subst hp
 ·rename_i hu
  cases hx <;> simp [cellEq] at h
  cases hy <;> simp at h
  subst h
  unfold Op.equalIn
  rw [Sem.run_bind, run_underlying hu]; rfl
 ·rename_i k' hu
  cases hx <;> simp [cellEq] at h
  cases hy <;> simp at h
  obtain ⟨rfl, h⟩ := h
  subst h
  unfold Op.equalIn
  rw [Sem.run_bind, run_underlying hu]
  simp [Result.andThen]
 ·rename_i hu
  cases hx <;> simp [cellEq] at h
  cases hy <;> simp at h
  subst h
  unfold Op.equalIn
  rw [Sem.run_bind, run_underlying hu]
  simp [Result.andThen, beq_toListBytes]
theorem plain_agg {t : TypeId} {k : Nat} (h : plainKind P t = some k) : ∃ d, P.underlying t = some d ∧ aggB d = false := by
 unfold plainKind at h
 split at h <;> simp at h <;> exact ⟨_, by assumption, rfl⟩
theorem run_part {t : TypeId} {k : Nat} {cs : Array Value} {off : Nat} {v : Value} (h : plainKind P t = some k) (hv : cs[off]? = some v) : (part t cs off).run P w = .ok v w := by
 obtain ⟨d, hd, hb⟩ := plain_agg h
 unfold part
 rw [Sem.run_bind, run_isAgg' hd, hb]
 simp [Result.andThen, hv]
theorem run_eqFields {vx vy : Array Value} {xs ys : List AV} (hlx : vx.size = xs.length) (hrx : ∀ (j : Nat) x v, xs[j]? = some x → vx[j]? = some v → Rel m loc x v)
  (hly : vy.size = ys.length) (hry : ∀ (j : Nat) x v, ys[j]? = some x → vy[j]? = some v → Rel m loc x v) :
  ∀ (fs : List Field) (ks : List Nat) (i : Nat) (b : Bool), allSome (fs.map fun f => plainKind P f.type) = some ks → (∀ f ∈ fs, f.name ≠ "_") → fs.map (·.offset) = List.range' i fs.length →
   flatEq ks (xs.drop i) (ys.drop i) = some b → (Op.eqFields 9999 vx vy fs).run P w = .ok b w
 | [], ks, i, b, h, _, _, he => by
  simp [allSome] at h; subst h
  have : b = true := by
   cases hx : xs.drop i <;> cases hy : ys.drop i <;> rw [hx, hy] at he <;> simp [flatEq] at he
   exact he
  subst this; rfl
 | f :: fs, ks, i, b, h, hn, ho, he => by
  simp only [List.map_cons, List.length_cons, List.range'_succ, List.cons.injEq] at ho
  obtain ⟨ho1, ho2⟩ := ho
  cases hk : plainKind P f.type with
  | none => simp [allSome, hk] at h
  | some k =>
   simp only [List.map_cons, hk, allSome, Option.map_eq_some_iff] at h
   obtain ⟨ks', h1, rfl⟩ := h
   cases hx : xs.drop i with
   | nil => rw [hx] at he; simp [flatEq] at he
   | cons x xr =>
    cases hy : ys.drop i with
    | nil => rw [hx, hy] at he; simp [flatEq] at he
    | cons y yr =>
     rw [hx, hy] at he
     simp only [flatEq] at he
     have hx0 : xs[i]? = some x := by have := List.getElem?_drop (xs := xs) (i := i) (j := 0); rw [hx] at this; simpa using this.symm
     have hy0 : ys[i]? = some y := by have := List.getElem?_drop (xs := ys) (i := i) (j := 0); rw [hy] at this; simpa using this.symm
     have hx1 : xs.drop (i + 1) = xr := by rw [← List.drop_drop, hx]; rfl
     have hy1 : ys.drop (i + 1) = yr := by rw [← List.drop_drop, hy]; rfl
     obtain ⟨a, ha⟩ := get_of_size (n := 0) hlx hx0
     obtain ⟨c, hc⟩ := get_of_size (n := 0) hly hy0
     cases hp : cellEq k x y with
     | none => rw [hp] at he; simp at he
     | some p =>
      cases hq : flatEq ks' xr yr with
      | none => rw [hp, hq] at he; simp at he
      | some q =>
       rw [hp, hq] at he
       simp at he; subst he
       have hr := run_equalPlain (P := P) (w := w) 9998 hk (hrx _ _ _ hx0 ha) (hry _ _ _ hy0 hc) hp
       have ih := run_eqFields hlx hrx hly hry fs ks' (i + 1) q h1 (fun f hf => hn f (List.mem_cons_of_mem _ hf)) ho2 (by rw [hx1, hy1]; exact hq)
       unfold Op.eqFields
       rw [if_pos (hn f List.mem_cons_self), ho1]
       simp only [Sem.run_bind, run_part hk ha, run_part hk hc, Result.andThen, hr]
       cases p
       ·simp
       ·simpa using ih
theorem good_bin {op : BinOp} {t : TypeId} {ox oy : Operand} {x y : AV} {a b : Value} (hs : SRel m loc σ w) (hx : Rel m loc x a) (hy : Rel m loc y b)
  (h : aBin op (eqKind P t) x y fun v => K v σ) : GoodV P m loc w K (do eqGuard op t ox oy a b; binOp op t a b) := by
 have drop : (∀ v, eqGuard op t ox oy a v = pure ()) → GoodV P m loc w K (binOp op t a b) → GoodV P m loc w K (do eqGuard op t ox oy a b; binOp op t a b) := by
  intro hg h; rw [hg]; exact h
 cases hx with
 | int k n =>
  cases hy with
  | int k' n' =>
   refine drop (fun v => eqGuard_at_int ..) ?_
   cases op <;> simp only [aBin] at h
   case shl =>
    obtain ⟨h0, hk⟩ := h
    refine .same hs (v := .int k (k.wrap (n * 2 ^ (min n'.toNat k.bits)))) ?_ hk (.int _ _)
    simp only [binOp, Op.shift, if_neg (Int.not_lt.2 h0)]; rfl
   case shr =>
    obtain ⟨h0, hk⟩ := h
    refine .same hs (v := .int k (n.fdiv (2 ^ (min n'.toNat k.bits)))) ?_ hk (.int _ _)
    simp only [binOp, Op.shift, if_neg (Int.not_lt.2 h0)]; rfl
   case quo =>
    obtain ⟨rfl, h0, hk⟩ := h
    refine .same hs (v := .int k (k.wrap (n.tdiv n'))) ?_ hk (.int _ _)
    simp [binOp, Op.intDiv, h0]
   case rem =>
    obtain ⟨rfl, h0, hk⟩ := h
    refine .same hs (v := .int k (n.tmod n')) ?_ hk (.int _ _)
    simp [binOp, Op.intDiv, h0]
   all_goals
    obtain ⟨rfl, hk⟩ := h
    refine .same hs ?_ hk (by first | exact .int _ _ | exact .bool _)
    simp only [binOp, ne_eq, not_true_eq_false, if_false]
    rfl
  | _ => exact h.elim
 | str s =>
  cases hy with
  | str s' =>
   refine drop (fun v => eqGuard_at_string ..) ?_
   cases op <;> simp only [aBin] at h <;> try exact h.elim
   case add =>
    obtain ⟨h0, hk⟩ := h
    refine .same hs (v := .string (s ++ s')) ?_ hk (.str _)
    simp only [binOp, Op.stringOp]
    rw [if_neg (by omega)]; rfl
   all_goals exact .same hs rfl h (.bool _)
  | _ => exact h.elim
 | bool p =>
  cases hy with
  | bool q =>
   refine drop (fun v => eqGuard_at_bool ..) ?_
   simp only [aBin] at h
   have hu : eqKind P t = .bool → P.underlying t = some .bool := by
    unfold eqKind
    intro e
    split at e
    ·assumption
    ·cases e
    ·split at e
     ·split at e <;> cases e
     ·cases e
    ·cases e
    ·cases e
   have heq : eqKind P t = .bool → (Op.equal t (.bool p) (.bool q)).run P w = .ok (p == q) w := by
    intro e
    unfold Op.equal Op.maxDepth Op.equalIn
    rw [Sem.run_bind, run_underlying (hu e)]; rfl
   split at h
   ·rename_i e
    refine .same hs (v := .bool (p == q)) ?_ h (.bool _)
    simp only [binOp]
    rw [Sem.run_bind, heq e]; rfl
   ·rename_i e
    refine .same hs (v := .bool (!(p == q))) ?_ h (.bool _)
    simp only [binOp]
    rw [Sem.run_bind, heq e]; rfl
   ·exact h.elim
  | _ => exact h.elim
 | slice tok elems ad cap sz b o f hcap htok hsz ha hc hr =>
  cases hy with
  | slice tok' elems' ad' cap' sz' b' o' f' hcap' htok' hsz' ha' hc' hr' =>
   cases tok' <;> try exact h.elim
   obtain ⟨rfl, rfl⟩ := htok'
   refine drop (fun v => eqGuard_at_slice ..) ?_
   have hu : eqKind P t = .slice → ∃ e, P.underlying t = some (.slice e) := by
    unfold eqKind
    intro e
    split at e
    ·cases e
    ·exact ⟨_, by assumption⟩
    ·split at e
     ·split at e <;> cases e
     ·cases e
    ·cases e
    ·cases e
   have heq : eqKind P t = .slice → (Op.equal t (.slice ad elems.length cap) (.slice none elems'.length 0)).run P w = .ok ad.isNone w := by
    intro e
    obtain ⟨el, hu⟩ := hu e
    unfold Op.equal Op.maxDepth Op.equalIn
    rw [Sem.run_bind, run_underlying hu]
    cases ad <;> rfl
   simp only [aBin] at h
   split at h
   ·rename_i e
    refine .same hs (v := .bool ad.isNone) ?_ (h ad.isNone (fun hne => by rw [ha hne]; rfl) (fun e => by subst e; obtain ⟨k1, _⟩ := htok; rw [k1]; rfl)) (.bool _)
    simp only [binOp]
    rw [Sem.run_bind, heq e]; rfl
   ·rename_i e
    refine .same hs (v := .bool (!ad.isNone)) ?_ (h (!ad.isNone) (fun hne => by rw [ha hne]; rfl) (fun e => by subst e; obtain ⟨k1, _⟩ := htok; rw [k1]; rfl)) (.bool _)
    simp only [binOp]
    rw [Sem.run_bind, heq e]; rfl
   ·exact h.elim
  | _ => cases op <;> exact h.elim
 | ref id sz off len cap blk n g1 g2 g3 g4 =>
  cases hy with
  | slice tok' elems' ad' cap' sz' b' o' f' hcap' htok' hsz' ha' hc' hr' =>
   cases tok' <;> try exact h.elim
   obtain ⟨rfl, rfl⟩ := htok'
   refine drop (fun v => eqGuard_at_slice ..) ?_
   have hu : eqKind P t = .slice → ∃ e, P.underlying t = some (.slice e) := by
    unfold eqKind
    intro e
    split at e
    ·cases e
    ·exact ⟨_, by assumption⟩
    ·split at e
     ·split at e <;> cases e
     ·cases e
    ·cases e
    ·cases e
   have heq : eqKind P t = .slice → (Op.equal t (.slice (some ⟨blk, off, none⟩) len cap) (.slice none elems'.length 0)).run P w = .ok false w := by
    intro e
    obtain ⟨el, hu⟩ := hu e
    unfold Op.equal Op.maxDepth Op.equalIn
    rw [Sem.run_bind, run_underlying hu]
    rfl
   simp only [aBin] at h
   split at h
   ·rename_i e
    refine .same hs (v := .bool false) ?_ (h false (fun _ => rfl)) (.bool _)
    simp only [binOp]
    rw [Sem.run_bind, heq e]; rfl
   ·rename_i e
    refine .same hs (v := .bool true) ?_ (h true (fun _ => rfl)) (.bool _)
    simp only [binOp]
    rw [Sem.run_bind, heq e]; rfl
   ·exact h.elim
  | _ => cases op <;> exact h.elim
 | ref0 id sz off ad g1 =>
  cases hy with
  | slice tok' elems' ad' cap' sz' b' o' f' hcap' htok' hsz' ha' hc' hr' =>
   cases tok' <;> try exact h.elim
   obtain ⟨rfl, rfl⟩ := htok'
   refine drop (fun v => eqGuard_at_slice ..) ?_
   have hu : eqKind P t = .slice → ∃ e, P.underlying t = some (.slice e) := by
    unfold eqKind
    intro e
    split at e
    ·cases e
    ·exact ⟨_, by assumption⟩
    ·split at e
     ·split at e <;> cases e
     ·cases e
    ·cases e
    ·cases e
   have heq : eqKind P t = .slice → (Op.equal t (.slice ad 0 0) (.slice none elems'.length 0)).run P w = .ok ad.isNone w := by
    intro e
    obtain ⟨el, hu⟩ := hu e
    unfold Op.equal Op.maxDepth Op.equalIn
    rw [Sem.run_bind, run_underlying hu]
    cases ad <;> rfl
   simp only [aBin] at h
   split at h
   ·rename_i e
    refine .same hs (v := .bool ad.isNone) ?_ (h ad.isNone (fun q => absurd rfl q)) (.bool _)
    simp only [binOp]
    rw [Sem.run_bind, heq e]; rfl
   ·rename_i e
    refine .same hs (v := .bool (!ad.isNone)) ?_ (h (!ad.isNone) (fun q => absurd rfl q)) (.bool _)
    simp only [binOp]
    rw [Sem.run_bind, heq e]; rfl
   ·exact h.elim
  | _ => cases op <;> exact h.elim
 | agg xs vx hlx hrx =>
  cases hy with
  | agg ys vy hly hry =>
   have main : ∀ ks b, eqKind P t = .flat ks → flatEq ks xs ys = some b →
     (eqGuard op t ox oy (.agg vx) (.agg vy)).run P w = .ok () w ∧ (Op.equal t (.agg vx) (.agg vy)).run P w = .ok b w := by
    intro ks b e hb
    obtain ⟨fs, hu, hks, hn, hg, hst, hoff⟩ := eqKind_flat e
    have hfo : P.fieldsOf t = fs := by unfold Program.fieldsOf; rw [hu]
    constructor
    ·unfold eqGuard
     cases op <;> simp [Sem.run_bind, run_program, hg, Result.andThen]
    ·unfold Op.equal Op.maxDepth
     rw [run_equalIn_struct w 9999 t vx vy (by rw [hfo]; exact hu) hst, hfo]
     exact run_eqFields hlx hrx hly hry fs.toList ks 0 b hks hn hoff (by simpa using hb)
   simp only [aBin] at h
   split at h
   ·rename_i ks e
    obtain ⟨b, hb, hk⟩ := h
    obtain ⟨m1, m2⟩ := main ks b e hb
    refine .same hs (v := .bool b) ?_ hk (.bool _)
    rw [Sem.run_bind, m1]
    simp only [Result.andThen, binOp]
    rw [Sem.run_bind, m2]; rfl
   ·rename_i ks e
    obtain ⟨b, hb, hk⟩ := h
    obtain ⟨m1, m2⟩ := main ks b e hb
    refine .same hs (v := .bool (!b)) ?_ hk (.bool _)
    rw [Sem.run_bind, m1]
    simp only [Result.andThen, binOp]
    rw [Sem.run_bind, m2]; rfl
   ·exact h.elim
  | _ => cases op <;> exact h.elim
 | conc v =>
  cases hy with
  | conc u =>
   have hu : eqKind P t = .func → ∃ a b c, P.underlying t = some (.func a b c) := by
    unfold eqKind
    intro e
    split at e
    ·cases e
    ·cases e
    ·split at e
     ·split at e <;> cases e
     ·cases e
    ·exact ⟨_, _, _, by assumption⟩
    ·cases e
   cases a <;> first | (cases op <;> exact h.elim) | skip
   cases b <;> first | (cases op <;> exact h.elim) | skip
   have heq : eqKind P t = .func → (Op.equal t .nilFunc .nilFunc).run P w = .ok true w := by
    intro e
    obtain ⟨f1, f2, f3, hu⟩ := hu e
    unfold Op.equal Op.maxDepth Op.equalIn
    rw [Sem.run_bind, run_underlying hu]
    rfl
   simp only [aBin] at h
   split at h
   ·rename_i e
    refine .same hs (v := .bool true) ?_ h (.bool _)
    rw [Sem.run_bind, show ∀ o, o = BinOp.eql ∨ o = BinOp.neq → (eqGuard o t ox oy Value.nilFunc Value.nilFunc).run P w = .ok () w from fun o q => by rcases q with rfl | rfl <;> rfl]
    simp only [Result.andThen, binOp]
    rw [Sem.run_bind, heq e]; rfl
    simp
   ·rename_i e
    refine .same hs (v := .bool false) ?_ h (.bool _)
    rw [Sem.run_bind, show ∀ o, o = BinOp.eql ∨ o = BinOp.neq → (eqGuard o t ox oy Value.nilFunc Value.nilFunc).run P w = .ok () w from fun o q => by rcases q with rfl | rfl <;> rfl]
    simp only [Result.andThen, binOp]
    rw [Sem.run_bind, heq e]; rfl
    simp
   ·exact h.elim
  | _ => cases a <;> cases op <;> exact h.elim
 | func fid cs us hlen hrel =>
  cases hy with
  | conc u =>
   have hu : eqKind P t = .func → ∃ a b c, P.underlying t = some (.func a b c) := by
    unfold eqKind
    intro e
    split at e
    ·cases e
    ·cases e
    ·split at e
     ·split at e <;> cases e
     ·cases e
    ·exact ⟨_, _, _, by assumption⟩
    ·cases e
   cases b <;> first | (cases op <;> exact h.elim) | skip
   have heq : ∀ x : Value, (∃ a b c, x = .func a b c) → eqKind P t = .func → (Op.equal t x .nilFunc).run P w = .ok false w := by
    rintro x ⟨a, b, c, rfl⟩ e
    obtain ⟨f1, f2, f3, hu⟩ := hu e
    unfold Op.equal Op.maxDepth Op.equalIn
    rw [Sem.run_bind, run_underlying hu]
    rfl
   simp only [aBin] at h
   split at h
   ·rename_i e
    refine .same hs (v := .bool false) ?_ h (.bool _)
    rw [Sem.run_bind, show ∀ o x, (∃ a b c, x = Value.func a b c) → o = BinOp.eql ∨ o = BinOp.neq → (eqGuard o t ox oy x Value.nilFunc).run P w = .ok () w from fun o x ⟨_, _, _, hx⟩ q => by subst hx; rcases q with rfl | rfl <;> rfl]
    simp only [Result.andThen, binOp]
    rw [Sem.run_bind, heq _ ⟨_, _, _, rfl⟩ e]; rfl
    ·exact ⟨_, _, _, rfl⟩
    ·simp
   ·rename_i e
    refine .same hs (v := .bool true) ?_ h (.bool _)
    rw [Sem.run_bind, show ∀ o x, (∃ a b c, x = Value.func a b c) → o = BinOp.eql ∨ o = BinOp.neq → (eqGuard o t ox oy x Value.nilFunc).run P w = .ok () w from fun o x ⟨_, _, _, hx⟩ q => by subst hx; rcases q with rfl | rfl <;> rfl]
    simp only [Result.andThen, binOp]
    rw [Sem.run_bind, heq _ ⟨_, _, _, rfl⟩ e]; rfl
    ·exact ⟨_, _, _, rfl⟩
    ·simp
   ·exact h.elim
  | _ => cases op <;> exact h.elim
 | _ => cases op <;> exact h.elim
theorem run_bound {y : Nat} {code : BoundsCode} {d : Nat} {x : Option AV} {a : Option Value} {Q : Nat → Prop} (hx : match x, a with | none, none => True | some x, some a => Rel m loc x a | _, _ => False)
  (h : bnd d x Q) (hy : ∀ n, Q n → n ≤ y) : ∃ n, Q n ∧ (match a with | some v => Instr.sliceBound v y code | none => pure d).run P w = .ok n w := by
 cases x with
 | none => cases a with
  | none => exact ⟨d, h, rfl⟩
  | some a => exact hx.elim
 | some x => cases a with
  | none => exact hx.elim
  | some a =>
   simp only at hx
   cases hx with
   | int k n =>
    obtain ⟨h0, hq⟩ := h
    have := hy _ hq
    refine ⟨_, hq, ?_⟩
    unfold Instr.sliceBound
    have h2 : (asIntOf (.int k n)).run P w = .ok (k, n) w := rfl
    rw [Sem.run_bind, h2]
    simp only [Result.andThen]
    rw [if_pos ⟨h0, by omega⟩]; rfl
   | _ => exact h.elim
def OptRel (m : Mem) (loc : List Loc) : Option AV → Option Value → Prop
 | none, none => True
 | some x, some a => Rel m loc x a
 | _, _ => False
theorem run_bounds {sl : Bool} {len cap : Nat} {lo hi : Option AV} {vl vh : Option Value} {Q : Nat → Nat → Prop} (h1 : OptRel m loc lo vl) (h2 : OptRel m loc hi vh)
  (h : bnd len hi fun h => bnd 0 lo fun l => Q l h) (hq : ∀ l h, Q l h → l ≤ h ∧ h ≤ cap) :
  ∃ l h, Q l h ∧ (Instr.sliceBounds sl len cap vl vh none).run P w = .ok (l, h, cap) w := by
 have low : ∀ {d : Nat} {y : Option AV} {q : Nat → Prop}, bnd d y q → ∃ n, q n := by
  intro d y q hb
  cases y with
  | none => exact ⟨d, hb⟩
  | some y => cases y <;> first | exact hb.elim | exact ⟨_, hb.2⟩
 obtain ⟨hh, hq1, r1⟩ := run_bound (P := P) (w := w) (m := m) (loc := loc) (y := cap) (code := if sl then .sliceAcap else .sliceAlen) (d := len) (x := hi) (a := vh)
  (by cases hi <;> cases vh <;> exact h2) h (fun n hn => by obtain ⟨l, hl⟩ := low hn; exact (hq _ _ hl).2)
 obtain ⟨ll, hq2, r2⟩ := run_bound (P := P) (w := w) (m := m) (loc := loc) (y := hh) (code := .sliceB) (d := 0) (x := lo) (a := vl)
  (by cases lo <;> cases vl <;> exact h1) hq1 (fun n hn => (hq _ _ hn).1)
 refine ⟨ll, hh, hq2, ?_⟩
 unfold Instr.sliceBounds
 cases vh with
 | none =>
  simp only [Sem.run_pure, Result.ok.injEq, and_true] at r1
  subst r1
  cases vl with
  | none =>
   simp only [Sem.run_pure, Result.ok.injEq, and_true] at r2
   subst r2; rfl
  | some v => simp only at r2; simp [Sem.run_bind, Result.andThen, r2]
 | some u =>
  simp only at r1
  cases vl with
  | none =>
   simp only [Sem.run_pure, Result.ok.injEq, and_true] at r2
   subst r2; simp [Sem.run_bind, Result.andThen, r1]
  | some v => simp only at r2; simp [Sem.run_bind, Result.andThen, r1, r2]
theorem good_slc {t e : TypeId} {i : TypeInfo} {x : AV} {a : Value} {lo hi mx : Option AV} {vl vh vm : Option Value} (hs : SRel m loc σ w) (ht : P.underlying t = some (.slice e)) (hi' : P.info? e = some i)
  (hx : Rel m loc x a) (h1 : OptRel m loc lo vl) (h2 : OptRel m loc hi vh) (h3 : OptRel m loc mx vm) (h : aSlc i.size x lo hi mx fun z => K z σ) :
  GoodV P m loc w K (Instr.sliceAt t a vl vh vm) := by
 have run : ∀ (ad : Option Addr) (len cap l h mm : Nat), (Instr.sliceBounds true len cap vl vh vm).run P w = .ok (l, h, mm) w →
   (Instr.sliceAt t (.slice ad len cap) vl vh vm).run P w = .ok (.slice (if mm = l then ad else ad.map (·.add (l * i.size))) (h - l) (mm - l)) w := by
  intro ad len cap l h mm hb
  unfold Instr.sliceAt
  rw [Sem.run_bind, run_underlying ht]
  simp only [Result.andThen]
  unfold Instr.slice
  simp only [Sem.run_bind, run_underlying ht, Result.andThen, hb, run_size hi', Sem.run_pure]
 unfold aSlc at h
 cases hx with
 | slice tok elems ad cap sz b o f hcap htok hsz ha hc hr =>
  simp only at h
  split at h
  ·-- no bound on the capacity
   cases vm with
   | some v => exact h3.elim
   | none =>
    obtain ⟨l, hh, ⟨q1, q2, q3, hk⟩, r⟩ := run_bounds (P := P) (w := w) (sl := true) (cap := cap) h1 h2 h (fun l h q => ⟨q.1, by have := q.2.1; omega⟩)
    have hlen : ((elems.drop l).take (hh - l)).length = hh - l := by simp; omega
    refine .same hs (run _ _ _ _ _ _ r) hk ?_
    have hget : ∀ j : Nat, j < hh - l → ((elems.drop l).take (hh - l))[j]? = elems[l + j]? := by
     intro j hj; rw [List.getElem?_take, if_pos hj, List.getElem?_drop]
    have key := @Rel.slice m loc .unk ((elems.drop l).take (hh - l)) (if cap = l then ad else ad.map (·.add (l * i.size))) (cap - l) sz b (o + l * sz) (fun j k => f (l + j) k)
     (by rw [hlen]; omega) trivial (fun e he => hsz e (List.drop_subset _ _ (List.take_subset _ _ he))) ?_ ?_ ?_
    ·rw [hlen] at key; exact key
    ·intro hne
     have hpos : 0 < hh - l := by
      rcases Nat.eq_zero_or_pos (hh - l) with q | q
      ·rw [q] at hne; simp at hne
      ·exact q
     have hne2 : elems ≠ [] := by intro q; subst q; simp at q2; omega
     have hszz : i.size = sz := by
      rw [← hsz elems[0] (List.getElem_mem (by omega)), q3 elems[0] (List.getElem_mem (by omega))]
     rw [if_neg (by omega), ha hne2]
     simp [add_at, hszz]
    ·intro j hj k hk'
     rw [hlen] at hj
     have := hc (l + j) (by omega) k hk'
     rw [← this]; congr 1; rw [Nat.add_mul]; omega
    ·intro j el hj k z hz
     have hjl := lt_of_get hj
     rw [hlen] at hjl
     rw [hget j hjl] at hj
     exact hr (l + j) el hj k z hz
  ·-- [:0:0]
   cases vm with
   | none => exact h3.elim
   | some vm =>
    simp only [OptRel] at h3
    cases h3
    rename_i k
    split at h
    ·cases vh with
     | none => exact h2.elim
     | some vh =>
      simp only [OptRel] at h2
      cases h2
      cases vl with
      | some v => exact h1.elim
      | none =>
       have hb : ∀ k k', (Instr.sliceBounds true elems.length cap none (some (.int k' 0)) (some (.int k 0))).run P w = .ok (0, 0, 0) w := by
        intro k k'
        unfold Instr.sliceBounds Instr.sliceBound
        simp [Sem.run_bind, asIntOf, Result.andThen]
       exact .same hs (run _ _ _ _ _ _ (hb _ _)) h (.slice .zero [] _ 0 0 0 0 (fun _ _ => undef) (Nat.le_refl _) rfl (by simp) (fun h => absurd rfl h) (fun i hi => absurd hi (by simp)) (by simp))
    ·exact h.elim
  ·exact h.elim
 | ref id sz off len cap b n hl hcap hb hn =>
  simp only at h
  split at h
  ·cases vm with
   | some v => exact h3.elim
   | none =>
    obtain ⟨l, hh, ⟨q1, q2, q3, hk⟩, r⟩ := run_bounds (P := P) (w := w) (sl := true) (cap := cap) h1 h2 h (fun l h q => ⟨q.1, by have := q.2.1; omega⟩)
    refine .same hs (run _ _ _ _ _ _ r) hk ?_
    by_cases e : cap = l
    ·subst e
     have e1 : hh - cap = 0 := by omega
     rw [if_pos rfl, e1, Nat.sub_self]
     exact .ref0 id sz _ _ (lt_of_get hl)
    ·rw [if_neg e]
     simp only [Option.map_some, add_at, ← q3]
     refine .ref id sz _ _ _ b n hl (by omega) hb ?_
     have : l * sz + (cap - l) * sz = cap * sz := by rw [← Nat.add_mul]; congr 1; omega
     omega
  ·exact h.elim
 | ref0 id sz off ad hl =>
  simp only at h
  split at h
  ·cases vm with
   | some v => exact h3.elim
   | none =>
    obtain ⟨l, hh, ⟨q1, q2, q3, hk⟩, r⟩ := run_bounds (P := P) (w := w) (sl := true) (cap := 0) h1 h2 h (fun l h q => ⟨q.1, by have := q.2.1; omega⟩)
    refine .same hs (run _ _ _ _ _ _ r) hk ?_
    have e1 : hh = 0 := by omega
    have e2 : l = 0 := by omega
    subst e1; subst e2
    exact .ref0 id sz _ _ hl
  ·exact h.elim
 | _ => exact h.elim
end
end Go.Ahl
namespace Go.Ahl
section
variable {P : Program} {m : Mem} {loc : List Loc} {σ : Store} {w : World} {K : Cont}
theorem bytes_eq (a b : ByteArray) : (a == b) = true ↔ a = b := by
 rcases a with ⟨a⟩
 rcases b with ⟨b⟩
 show (a == b) = true ↔ _
 rw [beq_iff_eq, ByteArray.mk.injEq]
theorem good_sstr {t : TypeId} {x : AV} {a : Value} {lo hi : Option AV} {vl vh : Option Value} (hs : SRel m loc σ w) (ht : P.underlying t = some .string)
  (hx : Rel m loc x a) (h1 : OptRel m loc lo vl) (h2 : OptRel m loc hi vh) (h : aSstr x lo hi fun z => K z σ) :
  GoodV P m loc w K (Instr.sliceAt t a vl vh none) := by
 unfold aSstr at h
 cases hx with
 | str s =>
  simp only at h
  obtain ⟨l, hh, ⟨q1, q2, hk⟩, r⟩ := run_bounds (P := P) (w := w) (sl := false) (cap := s.size) h1 h2 h (fun l h q => ⟨q.1, q.2.1⟩)
  refine .same hs (v := .string (s.extract l hh)) ?_ hk (.str _)
  unfold Instr.sliceAt
  rw [Sem.run_bind, run_underlying ht]
  simp only [Result.andThen]
  unfold Instr.slice
  simp only [Sem.run_bind, run_underlying ht, Result.andThen, Option.isSome_none, Bool.false_eq_true, if_false, r, Sem.run_pure]
 | _ => exact h.elim
theorem good_istr {t : TypeId} {x i : AV} {a b : Value} (hs : SRel m loc σ w) (ht : P.underlying t = some .string) (hx : Rel m loc x a) (hi : Rel m loc i b)
  (h : aIstr x i fun v => K v σ) : GoodV P m loc w K (Instr.index t a b) := by
 cases hx with
 | str s =>
  cases hi with
  | int k n =>
   obtain ⟨h0, c, hc, hk⟩ := h
   refine .same hs (v := .int .u8 c.toNat) ?_ hk (.int _ _)
   unfold Instr.index
   have h2 : (asIntOf (.int k n)).run P w = .ok (k, n) w := rfl
   simp only [Sem.run_bind, h2, Result.andThen, run_underlying ht, if_pos h0, hc, Sem.run_pure]
  | _ => exact h.elim
 | _ => exact h.elim
theorem good_extract {x : AV} {a : Value} {i : Nat} (hs : SRel m loc σ w) (hx : Rel m loc x a) (h : aExtract x i fun v => K v σ) :
  GoodV P m loc w K (Instr.extract a i) := by
 cases hx with
 | tuple cs vs hlen hr =>
  obtain ⟨y, hy, hk⟩ := h
  obtain ⟨v, hv⟩ := get_of_size (n := 0) hlen hy
  refine .same hs (v := v) ?_ hk (hr _ y v hy hv)
  unfold Instr.extract
  simp only [hv, Sem.run_pure]
 | _ => exact h.elim
theorem good_mkif {t : TypeId} {d : TypeDesc} {x : AV} {a : Value} (hs : SRel m loc σ w) (hd : P.underlying t = some d) (hn : ∀ ms, d ≠ .interface ms) (hx : Rel m loc x a) (h : K (.iface t x) σ) :
  GoodV P m loc w K (Instr.makeInterface t a) := by
 refine .same hs (v := .iface t a) ?_ h (.iface t x a hx)
 unfold Instr.makeInterface
 simp only [Sem.run_bind, run_underlying hd, Result.andThen, Sem.run_pure]
theorem good_asrt {t xt : TypeId} {d : TypeDesc} {i : TypeInfo} {z : Value} {x : AV} {a : Value} {ok : Bool} (hs : SRel m loc σ w) (hd : P.underlying t = some d) (hn : ∀ ms, d ≠ .interface ms) (hi : P.info? t = some i) (hz : i.zero = some z) (hx : Rel m loc x a) (h : aAsrt t (avOf z) x ok fun v => K v σ) :
  GoodV P m loc w K (Instr.typeAssert a xt t ok) := by
 cases hx with
 | iface t' y v hy =>
  have h : if t' = t then K (if ok then .tuple [y, .bool true] else y) σ else ok = true ∧ K (.tuple [avOf z, .bool false]) σ := h
  by_cases ht : t' = t
  ·rw [if_pos ht] at h
   refine .same hs (v := if ok then .tuple #[v, .bool true] else v) ?_ h ?_
   ·unfold Instr.typeAssert
    cases d <;> first | exact absurd rfl (hn _) | (simp only [Sem.run_bind, run_underlying hd, Result.andThen, ht, if_true, Sem.run_pure])
   ·cases ok
    ·exact hy
    ·refine .tuple _ _ rfl fun j a b h1 h2 => ?_
     match j with
     | 0 => simp at h1 h2; subst h1; subst h2; exact hy
     | 1 => simp at h1 h2; subst h1; subst h2; exact .bool _
     | j + 2 => simp at h1
  ·rw [if_neg ht] at h
   obtain ⟨hok, h2⟩ := h
   subst hok
   refine .same hs (v := .tuple #[z, .bool false]) ?_ h2 ?_
   ·unfold Instr.typeAssert
    cases d <;> first | exact absurd rfl (hn _) | (simp only [Sem.run_bind, run_underlying hd, Result.andThen, ht, if_false, if_true, Sem.run_pure, run_zero hi hz])
   ·refine .tuple _ _ rfl fun j a b h1 h2 => ?_
    match j with
    | 0 => simp at h1 h2; subst h1; subst h2; exact rel_avOf z
    | 1 => simp at h1 h2; subst h1; subst h2; exact .bool _
    | j + 2 => simp at h1
 | _ => exact h.elim
theorem good_mkmap {t : TypeId} (hs : SRel m loc σ w) (hk : K (.map σ.length) (σ ++ [.map []])) : GoodV P m loc w K (Instr.makeMap t none) := by
 have key := hs.alloc loc.length (.map #[] 0) (fun _ => none) none (.blk w.heap.size) (.map [])
  (fun _ _ e => by simp at e) (fun n e => by simp at e) (fun b e => by
   rcases e with e | ⟨_, _, _, e, _⟩
   ·injection e with e; exact e.symm
   ·simp at e) ?_
 ·exact ⟨.map (some w.heap.size), w.alloc (.map #[] 0), .map σ.length, _, _, _, rfl, hk, .map σ.length w.heap.size (by rw [← hs.len]; simp), key.1, key.2⟩
 ·refine ⟨#[], 0, ?_, rfl, ?_, ?_, ?_⟩
  ·show (w.heap.push _)[w.heap.size]? = _; simp
  ·intro i k x e h1 h2; simp at h1
  ·intro i e h1; simp at h1
  ·intro i j e e' h1; simp at h1
def KindOk (ks : Bool) : TypeDesc → Prop
 | .string => ks = true
 | .int _ => ks = false
 | _ => False
def FindRel (m : Mem) (loc : List Loc) : Option (Nat × AV) → Option (Nat × Value) → Prop
 | none, none => True
 | some (i, x), some (j, v) => i = j ∧ Rel m loc x v
 | _, _ => False
theorem find_rel {ks : Bool} {d : TypeDesc} {k : AV} {kv : Value} (hd : KindOk ks d) (hk : Rel m loc k kv) (hks : k.isKey ks = true) :
  ∀ (es : List (AV × AV)) (en : List MapEntry) (i : Nat) (r : Option (Nat × AV)), en.length = es.length →
   (∀ (j : Nat) a x e, es[j]? = some (a, x) → en[j]? = some e → Rel m loc a e.key ∧ Rel m loc x e.val) → aFind k es i = some r →
   ∃ r', Instr.findNow d kv en i = some r' ∧ FindRel m loc r r'
 | [], [], i, r, _, _, h => by simp [aFind] at h; subst h; exact ⟨none, rfl, trivial⟩
 | [], _ :: _, _, _, h, _, _ => by simp at h
 | _ :: _, [], _, _, h, _, _ => by simp at h
 | (a, x) :: es, e :: en, i, r, hlen, hr, h => by
  have h0 := hr 0 a x e rfl rfl
  have same : ∀ b, keyEq k a = some b → Instr.sameNow d kv e.key = some b := by
   intro b hb
   cases hk <;> simp [AV.isKey] at hks
   ·rename_i kk n
    subst hks
    obtain ⟨h1, _⟩ := h0
    generalize e.key = ek at h1
    cases h1 <;> simp [keyEq] at hb
    obtain ⟨rfl, rfl⟩ := hb
    cases d <;> simp [KindOk] at hd
    simp [Instr.sameNow]
   ·rename_i s
    subst hks
    obtain ⟨h1, _⟩ := h0
    generalize e.key = ek at h1
    cases h1 <;> simp [keyEq] at hb
    subst hb
    cases d <;> simp [KindOk] at hd
    simp [Instr.sameNow]
  unfold aFind at h
  cases hb : keyEq k a with
  | none => rw [hb] at h; simp at h
  | some b =>
   rw [hb] at h
   cases b with
   | true =>
    simp at h; subst h
    refine ⟨some (i, e.val), ?_, rfl, h0.2⟩
    unfold Instr.findNow; rw [same _ hb]
   | false =>
    simp only at h
    obtain ⟨r', h1, h2⟩ := find_rel hd hk hks es en (i + 1) r (by simpa using hlen) (fun j a x e h1 h2 => hr (j + 1) a x e (by simpa using h1) (by simpa using h2)) h
    refine ⟨r', ?_, h2⟩
    unfold Instr.findNow; rw [same _ hb]; exact h1
theorem run_checkKey {ks : Bool} {b : Bool} {t : TypeId} {d : TypeDesc} {v : Value} (ht : P.underlying t = some d) (hd : KindOk ks d) :
  (Instr.checkKey b 10000 t v).run P w = .ok () w := by
 unfold Instr.checkKey
 rw [Sem.run_bind, run_underlying ht]
 cases d <;> first | exact hd.elim | rfl
theorem run_findKey {t : TypeId} {d : TypeDesc} {v : Value} {es : List MapEntry} {r : Option (Nat × Value)} (ht : P.underlying t = some d) (h : Instr.findNow d v es 0 = some r) :
  (Instr.findKey t v es).run P w = .ok r w := by
 unfold Instr.findKey
 rw [Sem.run_bind, run_underlying ht]
 simp only [Result.andThen, h, Sem.run_pure]
theorem good_lookup {ks : Bool} {t kt et : TypeId} {d : TypeDesc} {i : TypeInfo} {z : Value} {x k : AV} {a b : Value} {ok : Bool} (hs : SRel m loc σ w) (ht : P.underlying t = some (.map kt et))
  (hkt : P.underlying kt = some d) (hd : KindOk ks d) (hi : P.info? et = some i) (hz : i.zero = some z)
  (hx : Rel m loc x a) (hk : Rel m loc k b) (h : aLookup ks (avOf z) x k ok σ fun v => K v σ) : GoodV P m loc w K (Instr.lookup t a b ok) := by
 obtain ⟨hks, h⟩ := h
 have pair : ∀ {y : AV} {v : Value} {q : Bool}, Rel m loc y v → Rel m loc (.tuple [y, .bool q]) (.tuple #[v, .bool q]) := by
  intro y v q hr
  refine .tuple _ _ rfl ?_
  intro j u u' h1 h2
  match j, h1, h2 with
  | 0, h1, h2 => simp at h1 h2; subst h1; subst h2; exact hr
  | 1, h1, h2 => simp at h1 h2; subst h1; subst h2; exact .bool q
 have run : ∀ (es : List MapEntry) (r : Option (Nat × Value)), (match a with | .map none => es = [] | .map (some r) => ∃ c, w.heap[r]? = some (.map es.toArray c) | _ => False) → Instr.findNow d b es 0 = some r →
   (Instr.lookup t a b ok).run P w = .ok (match r with | some (_, v) => if ok then .tuple #[v, .bool true] else v | none => if ok then .tuple #[z, .bool false] else z) w := by
  intro es r ha hf
  unfold Instr.lookup
  have hes : (match a with
   | .map none => pure #[]
   | .map (some r) => do
    let .map es _ ← getObj r | stuck "Lookup: map expected"
    pure es
   | _ => stuck "Lookup: map expected" : Sem (Array MapEntry)).run P w = .ok es.toArray w := by
   cases a <;> try exact ha.elim
   rename_i r
   cases r with
   | none => simp only at ha; subst ha; rfl
   | some r =>
    obtain ⟨c, hc⟩ := ha
    have : (getObj r).run P w = .ok (.map es.toArray c) w := by unfold getObj; simp [Sem.run, hc]
    simp only
    rw [Sem.run_bind, this]; rfl
  cases a <;> try exact ha.elim
  rename_i r'
  cases r' with
  | none =>
   simp only at ha; subst ha
   simp only [Sem.run_bind, run_underlying ht, Result.andThen, Sem.run_pure, run_checkKey hkt hd, run_findKey hkt hf]
   cases r with
   | none => simp [Sem.run_bind, Result.andThen, run_zero hi hz]
   | some q => simp
  | some r' =>
   obtain ⟨c, hc⟩ := ha
   have hg : (getObj r').run P w = .ok (.map es.toArray c) w := by unfold getObj; simp [Sem.run, hc]
   simp only [Sem.run_bind, run_underlying ht, Result.andThen, Sem.run_pure, hg, run_checkKey hkt hd, run_findKey hkt hf]
   cases r with
   | none => simp [Sem.run_bind, Result.andThen, run_zero hi hz]
   | some q => simp
 have hzr : Rel m loc (avOf z) z := rel_avOf z
 cases hx with
 | mapnil =>
  refine .same hs (run [] none rfl rfl) h ?_
  cases ok
  ·exact hzr
  ·exact pair hzr
 | map id bl hl =>
  obtain ⟨es, he, r, hf, hK⟩ := h
  obtain ⟨en, c, h1, h2⟩ := hs.obj _ _ _ hl he
  obtain ⟨r', hr1, hr2⟩ := find_rel hd hk hks es en.toList 0 r (by simpa using h2.len) (fun j a x e e1 e2 => h2.key j a x e e1 (by simpa using e2)) hf
  refine .same hs (run en.toList r' ⟨c, by simpa using h1⟩ hr1) hK ?_
  cases r with
  | none => cases r' with
   | none =>
    cases ok
    ·exact hzr
    ·exact pair hzr
   | some q => exact hr2.elim
  | some q => cases r' with
   | none => exact hr2.elim
   | some q' =>
    cases ok
    ·exact hr2.2
    ·exact pair hr2.2
 | _ => exact h.elim
theorem aFind_spec {k : AV} : ∀ (es : List (AV × AV)) (i : Nat) (r : Option (Nat × AV)), aFind k es i = some r → ∀ j x, r = some (j, x) → i ≤ j ∧ ∃ k', es[j - i]? = some (k', x) ∧ keyEq k k' = some true
 | [], i, r, h, j, x, e => by simp [aFind] at h; rw [← h] at e; simp at e
 | (a, y) :: es, i, r, h, j, x, e => by
  unfold aFind at h
  cases hb : keyEq k a with
  | none => rw [hb] at h; simp at h
  | some b =>
   rw [hb] at h
   cases b with
   | true =>
    simp at h; rw [← h] at e; simp at e
    obtain ⟨rfl, rfl⟩ := e
    exact ⟨Nat.le_refl _, a, by simp, hb⟩
   | false =>
    simp only at h
    obtain ⟨h1, k', h2, h3⟩ := aFind_spec es (i + 1) r h j x e
    refine ⟨by omega, k', ?_, h3⟩
    rw [show j - i = (j - (i + 1)) + 1 by omega]; simpa using h2
theorem good_mapup {ks : Bool} {t kt et : TypeId} {d : TypeDesc} {x k y : AV} {a b v : Value} (hs : SRel m loc σ w) (ht : P.underlying t = some (.map kt et))
  (hkt : P.underlying kt = some d) (hd : KindOk ks d)
  (hx : Rel m loc x a) (hk : Rel m loc k b) (hy : Rel m loc y v) (h : aMapup ks x k y σ fun σ' => K unit σ') : GoodU P m loc w K (Instr.mapUpdate t a b v) := by
 obtain ⟨hks, h⟩ := h
 cases hx with
 | map id bl hl =>
  obtain ⟨es, he, r, hf, hK⟩ := h
  obtain ⟨en, c, h1, h2⟩ := hs.obj _ _ _ hl he
  obtain ⟨r', hr1, hr2⟩ := find_rel hd hk hks es en.toList 0 r (by simpa using h2.len) (fun j a x e e1 e2 => h2.key j a x e e1 (by simpa using e2)) hf
  have hg : (getObj bl).run P w = .ok (.map en c) w := by unfold getObj; simp [Sem.run, h1]
  have hlt : bl < w.heap.size := hs.lt bl ⟨id, .inl hl⟩
  have turn : ∀ (es' : List (AV × AV)) (en' : Array MapEntry) (c' : Nat), MapRel m loc es' en' c' →
    SRel m loc (σ.set id (.map es')) { w with heap := w.heap.setIfInBounds bl (.map en' c') } ∧ Ext loc.length m loc w m loc { w with heap := w.heap.setIfInBounds bl (.map en' c') } := by
   intro es' en' c' hm
   have hb : (w.heap.setIfInBounds bl (.map en' c'))[bl]? = some (.map en' c') := by rw [Array.getElem?_setIfInBounds_self_of_lt hlt]
   have key := hs.turn loc.length (m' := m) (w' := { w with heap := w.heap.setIfInBounds bl (.map en' c') }) (l' := .blk bl) (.map es') hl he (.refl m) (.refl _)
    (fun q _ hq => Array.getElem?_setIfInBounds_ne (fun e => hq (by subst e; rfl))) (by simp) (fun _ _ _ _ => rfl) ?_ ?_ ?_ (fun b' q => .inl q) ?_ rfl rfl rfl (Nat.le_refl _)
   ·rw [set_same hl] at key; exact key
   ·intro q off u hq e
    rcases hq with hq | hq
    ·simp [own] at hq; subst hq
     have := hs.im _ _ _ e
     simp [World.cell?, h1] at this
    ·have := hs.im_lt e; omega
   ·intro q n e
    refine .inl ⟨e, fun hq => ?_⟩
    simp [own] at hq; subst hq
    obtain ⟨arr, t', fz, e1, _⟩ := hs.bs _ _ e
    rw [h1] at e1; simp at e1
   ·rintro b' ⟨sz, f, q, e, _⟩; simp at e
   ·rw [set_same hl]
    exact ⟨en', c', hb, hm⟩
  cases r with
  | none =>
   cases r' with
   | some q => exact hr2.elim
   | none =>
    simp only at hK
    have hm : MapRel m loc (es ++ [(k, y)]) (en.push { key := b, val := v, born := c }) (c + 1) := by
     refine ⟨by simp [h2.len], ?_, ?_, ?_⟩
     ·intro j k' x' e e1 e2
      rw [Array.getElem?_push] at e2
      rcases get_app e1 with e1 | ⟨e1, e3⟩
      ·have := lt_of_get e1
       rw [if_neg (by rw [h2.len]; omega)] at e2
       exact h2.key j k' x' e e1 e2
      ·rw [if_pos (by rw [h2.len]; exact e1)] at e2
       injection e2 with e2; subst e2
       injection e3 with e3 e4; subst e3; subst e4
       exact ⟨hk, hy⟩
     ·intro j e e2
      rw [Array.getElem?_push] at e2
      split at e2
      ·injection e2 with e2; subst e2; exact Nat.lt_succ_self c
      ·exact Nat.lt_succ_of_lt (h2.born j e e2)
     ·intro i j e e' e1 e2 hb
      rw [Array.getElem?_push] at e1 e2
      split at e1 <;> split at e2
      ·omega
      ·injection e1 with e1; subst e1
       have := h2.born j e' e2; simp at hb; omega
      ·injection e2 with e2; subst e2
       have := h2.born i e e1; simp at hb; omega
      ·exact h2.apart i j e e' e1 e2 hb
    obtain ⟨hs', he'⟩ := turn _ _ _ hm
    refine ⟨_, _, m, loc, ?_, hK, hs', he'⟩
    unfold Instr.mapUpdate
    simp only [Sem.run_bind, run_underlying ht, Result.andThen, hg, run_checkKey hkt hd, run_findKey hkt hr1]
    unfold setObj
    simp [Sem.run, h1]
  | some q =>
   obtain ⟨i, xo⟩ := q
   cases r' with
   | none => exact hr2.elim
   | some q' =>
    obtain ⟨i', vo⟩ := q'
    obtain ⟨rfl, hvo⟩ := hr2
    simp only at hK
    obtain ⟨_, k', hk1, hk2⟩ := aFind_spec es 0 _ hf i xo rfl
    simp only [Nat.sub_zero] at hk1
    have hi := lt_of_get hk1
    obtain ⟨e, hen⟩ : ∃ e, en[i]? = some e := ⟨en[i]'(by rw [h2.len]; exact hi), Array.getElem?_eq_getElem _⟩
    have hkey : Rel m loc k' e.key := (h2.key i k' xo e hk1 hen).1
    have hsame : e.key = b := by
     generalize e.key = ek at hkey
     cases hk <;> simp [AV.isKey] at hks <;> cases hkey <;> simp [keyEq] at hk2
     ·obtain ⟨rfl, rfl⟩ := hk2; rfl
     ·rw [(bytes_eq _ _).1 hk2]
    have hsb : Instr.sameBits 10000 b b = true := by
     cases hk <;> simp [AV.isKey] at hks
     ·simp [Instr.sameBits]
     ·simp [Instr.sameBits, (bytes_eq _ _).2]
    have hks2 : (Instr.keyThatStays (((en[i]?).map (·.key)).getD b) b).run P w = .ok b w := by
     rw [hen]; simp only [Option.map_some, Option.getD_some, hsame]
     unfold Instr.keyThatStays
     rw [if_pos hsb]; rfl
    have hm : MapRel m loc (es.set i (k, y)) (en.modify i fun e => { e with key := b, val := v }) c := by
     refine ⟨by simp [h2.len], ?_, ?_, ?_⟩
     ·intro j k2 x2 e2 e1 e3
      rw [Array.getElem?_modify] at e3
      rcases get_set e1 with ⟨rfl, e4⟩ | ⟨hne, e1⟩
      ·clear e1; have e1 := e4; clear e4
       rw [if_pos rfl, hen] at e3
       simp at e3; subst e3
       injection e1 with e1 e4; subst e1; subst e4
       exact ⟨hk, hy⟩
      ·rw [if_neg hne] at e3
       exact h2.key j k2 x2 e2 e1 e3
     ·intro j e2 e3
      rw [Array.getElem?_modify] at e3
      split at e3
      ·rename_i hj; subst hj
       rw [hen] at e3; simp at e3; subst e3
       exact h2.born i e hen
      ·exact h2.born j e2 e3
     ·have old : ∀ (j : Nat) e2, (en.modify i fun e => { e with key := b, val := v })[j]? = some e2 → ∃ e3, en[j]? = some e3 ∧ e3.born = e2.born := by
       intro j e2 e3
       rw [Array.getElem?_modify] at e3
       split at e3
       ·rename_i hj; subst hj
        rw [hen] at e3; simp at e3; subst e3
        exact ⟨e, hen, rfl⟩
       ·exact ⟨e2, e3, rfl⟩
      intro j1 j2 e1 e2 q1 q2 hb
      obtain ⟨e3, w1, w2⟩ := old j1 e1 q1
      obtain ⟨e4, w3, w4⟩ := old j2 e2 q2
      exact h2.apart j1 j2 e3 e4 w1 w3 (by rw [w2, w4, hb])
    obtain ⟨hs', he'⟩ := turn _ _ _ hm
    refine ⟨_, _, m, loc, ?_, hK, hs', he'⟩
    unfold Instr.mapUpdate
    simp only [Sem.run_bind, run_underlying ht, Result.andThen, hg, run_checkKey hkt hd, run_findKey hkt hr1, hks2]
    unfold setObj
    simp [Sem.run, h1]
 | _ => exact h.elim
end
end Go.Ahl
namespace Go.Ahl
section
variable {P : Program} {m : Mem} {loc : List Loc} {σ : Store} {w : World} {K : Cont}
def Cells (m : Mem) (loc : List Loc) (cs : List AV) (vs : List Value) : Prop :=
 vs.length = cs.length ∧ ∀ (j : Nat) x v, cs[j]? = some x → vs[j]? = some v → Rel m loc x v
theorem Cells.nil : Cells m loc [] [] := ⟨rfl, by simp⟩
theorem Cells.cons {x : AV} {v : Value} {cs : List AV} {vs : List Value} (h : Rel m loc x v) (hr : Cells m loc cs vs) : Cells m loc (x :: cs) (v :: vs) := by
 refine ⟨by simp [hr.1], fun j y u h1 h2 => ?_⟩
 cases j with
 | zero => simp at h1 h2; subst h1; subst h2; exact h
 | succ j => simp at h1 h2; exact hr.2 j y u h1 h2
theorem Cells.tail {x : AV} {v : Value} {cs : List AV} {vs : List Value} (h : Cells m loc (x :: cs) (v :: vs)) : Rel m loc x v ∧ Cells m loc cs vs :=
 ⟨h.2 0 x v rfl rfl, by simpa using h.1, fun j y u h1 h2 => h.2 (j + 1) y u (by simpa using h1) (by simpa using h2)⟩
theorem Cells.append {c1 c2 : List AV} {v1 v2 : List Value} (h1 : Cells m loc c1 v1) (h2 : Cells m loc c2 v2) : Cells m loc (c1 ++ c2) (v1 ++ v2) := by
 induction c1 generalizing v1 with
 | nil => cases v1 with
  | nil => exact h2
  | cons v v1 => simp [Cells] at h1
 | cons c c1 ih => cases v1 with
  | nil => simp [Cells] at h1
  | cons v v1 => exact .cons h1.tail.1 (ih h1.tail.2)
theorem Cells.set {cs : List AV} {vs : List Value} (h : Cells m loc cs vs) {x : AV} {v : Value} (hx : Rel m loc x v) (i : Nat) : Cells m loc (cs.set i x) (vs.set i v) := by
 refine ⟨by simp [h.1], fun j y u h1 h2 => ?_⟩
 rcases get_set h1 with ⟨rfl, rfl⟩ | ⟨hne, h1⟩
 ·rcases get_set h2 with ⟨_, rfl⟩ | ⟨q, _⟩
  ·exact hx
  ·exact absurd rfl q
 ·rw [List.getElem?_set_ne hne] at h2
  exact h.2 j y u h1 h2
theorem Cells.mono {m' : Mem} {loc' : List Loc} {cs : List AV} {vs : List Value} (h : Cells m loc cs vs) (hm : m.le m') (hl : Keep loc.length loc loc') : Cells m' loc' cs vs :=
 ⟨h.1, fun j x v h1 h2 => (h.2 j x v h1 h2).mono hm hl⟩
theorem cells_of_cellsOf {x : AV} {v : Value} {cs : List AV} (h : Rel m loc x v) (hc : cellsOf x = some cs) : Cells m loc cs v.cells.toList := by
 obtain ⟨h1, h2⟩ := rel_cells h hc
 exact ⟨by simpa using h1, fun j y u e1 e2 => h2 j y u e1 (by simpa using e2)⟩
theorem cells_lits (l : List Value) : Cells m loc (l.map avLit) l := by
 refine ⟨by simp, fun j x v h1 h2 => ?_⟩
 rw [List.getElem?_map, h2] at h1
 simp at h1; subst h1; exact rel_avLit v
def setAllV (l : List Value) (off : Nat) : List Value → List Value
 | [] => l
 | x :: r => setAllV (l.set off x) (off + 1) r
theorem cells_setAll : ∀ (ds : List AV) (us : List Value) (cs : List AV) (vs : List Value) (off : Nat), Cells m loc ds us → Cells m loc cs vs → Cells m loc (setAll cs off ds) (setAllV vs off us)
 | [], [], cs, vs, off, _, h => h
 | [], _ :: _, _, _, _, h, _ => by simp [Cells] at h
 | _ :: _, [], _, _, _, h, _ => by simp [Cells] at h
 | d :: ds, u :: us, cs, vs, off, h, h2 => cells_setAll ds us _ _ _ h.tail.2 (h2.set h.tail.1 off)
theorem foldl_setAllV : ∀ (us : List Value) (arr : Array Value) (off k : Nat), ((us.zipIdx k).foldl (fun cs (p : Value × Nat) => cs.setIfInBounds (off + p.2) p.1) arr).toList = setAllV arr.toList (off + k) us
 | [], arr, off, k => rfl
 | u :: us, arr, off, k => by
  simp only [List.zipIdx_cons, List.foldl_cons]
  rw [foldl_setAllV us]
  simp [setAllV, Nat.add_assoc]
theorem fill_rel {place : Nat → Option (Nat × Nat)} : ∀ (parts : List (Nat × Value)) (aparts : List (Nat × Nat × AV)) (cs out : List AV) (arr : Array Value), Cells m loc cs arr.toList →
  parts.length = aparts.length → (∀ (j : Nat) i v o n x, parts[j]? = some (i, v) → aparts[j]? = some (o, n, x) → place i = some (o, n) ∧ Rel m loc x v) → buildAll cs aparts = some out →
  ∃ outv, Instr.fill place arr parts = some outv ∧ Cells m loc out outv.toList
 | [], [], cs, out, arr, h, _, _, hb => by simp [buildAll] at hb; subst hb; exact ⟨arr, rfl, h⟩
 | [], _ :: _, _, _, _, _, h, _, _ => by simp at h
 | _ :: _, [], _, _, _, _, h, _, _ => by simp at h
 | (i, v) :: parts, (o, n, x) :: aparts, cs, out, arr, h, hl, hp, hb => by
  obtain ⟨h1, h2⟩ := hp 0 i v o n x rfl rfl
  simp only [buildAll] at hb
  cases hc : cellsOf x with
  | none => rw [hc] at hb; simp at hb
  | some ds =>
   rw [hc] at hb
   simp only at hb
   split at hb
   ·rename_i hn
    obtain ⟨hn1, hn2⟩ := hn
    have hd := cells_of_cellsOf h2 hc
    have hsz : v.cells.size = n := by have := hd.1; simp at this; omega
    have harr : arr.size = cs.length := by have := h.1; simpa using this
    have key := foldl_setAllV v.cells.toList arr o 0
    rw [Nat.add_zero] at key
    obtain ⟨outv, r1, r2⟩ := fill_rel (place := place) parts aparts (setAll cs o ds) out
     (v.cells.toList.zipIdx.foldl (fun cs (p : Value × Nat) => cs.setIfInBounds (o + p.2) p.1) arr) (by rw [key]; exact cells_setAll ds _ cs _ o hd h) (by simpa using hl)
     (fun j i v o n x e1 e2 => hp (j + 1) i v o n x (by simpa using e1) (by simpa using e2)) hb
    refine ⟨outv, ?_, r2⟩
    unfold Instr.fill
    rw [h1]
    simp only
    rw [if_neg (by simp [hsz, harr]; omega)]
    rw [← Array.foldl_toList, Array.toList_zipIdx]
    exact r1
   ·simp at hb
theorem allSome_get {α : Type} : ∀ (l : List (Option α)) (r : List α), allSome l = some r → l.length = r.length ∧ ∀ (j : Nat) x, r[j]? = some x → l[j]? = some (some x)
 | [], r, h => by simp [allSome] at h; subst h; exact ⟨rfl, by simp⟩
 | none :: l, r, h => by simp [allSome] at h
 | some y :: l, r, h => by
  simp only [allSome, Option.map_eq_some_iff] at h
  obtain ⟨r', h1, rfl⟩ := h
  obtain ⟨h2, h3⟩ := allSome_get l r' h1
  refine ⟨by simp [h2], fun j x hx => ?_⟩
  cases j with
  | zero => simpa using hx
  | succ j => simpa using h3 j x (by simpa using hx)
theorem good_build {t : TypeId} {i : TypeInfo} {fields : Array Field} {z : Value} {places : List (Nat × Nat)} {s : Slots} {ρ : Operand → Value} {parts : Array (Nat × Operand)} {ps : List (Nat × Nat × Opd)}
  (hs : SRel m loc σ w) (hρ : ∀ x, Rel m loc (aev s (cOpd x)) (ρ x)) (hi : P.info? t = some i) (hu : P.underlying t = some (.struct fields)) (hz : i.zero = some z)
  (hp : fields.toList.mapM (fun f => (P.info? f.type).map fun i => (f.offset, i.size)) = some places) (hps : allSome (parts.toList.map (cPlace places)) = some ps)
  (h : match buildAll (z.cells.toList.map avLit) (ps.map fun (o, n, x) => (o, n, aev s x)) with | some cs => K (.agg cs) σ | none => False) :
  GoodV P m loc w K (Instr.build t (parts.map fun (i, x) => (i, ρ x))) := by
 cases hb : buildAll (z.cells.toList.map avLit) (ps.map fun (o, n, x) => (o, n, aev s x)) with
 | none => rw [hb] at h; exact h.elim
 | some cs =>
  rw [hb] at h
  obtain ⟨g1, g2⟩ := allSome_get _ _ hps
  simp only [List.length_map] at g1
  have side : ∀ (j : Nat) i v o n x, (parts.toList.map fun (i, x) => (i, ρ x))[j]? = some (i, v) → (ps.map fun (o, n, x) => (o, n, aev s x))[j]? = some (o, n, x) →
    (places.toArray[i]? : Option (Nat × Nat)) = some (o, n) ∧ Rel m loc x v := by
   intro j i v o n x e1 e2
   simp only [List.getElem?_map, Option.map_eq_some_iff] at e1 e2
   obtain ⟨⟨o', n', x'⟩, e3, e4⟩ := e2
   simp at e4
   obtain ⟨rfl, rfl, rfl⟩ := e4
   obtain ⟨⟨i', y⟩, e5, e6⟩ := e1
   simp at e6
   obtain ⟨rfl, rfl⟩ := e6
   have := g2 j _ e3
   rw [List.getElem?_map, e5] at this
   simp [cPlace] at this
   obtain ⟨q1, q2, h1, h2, h3, h4⟩ := this
   subst h2; subst h3; subst h4
   exact ⟨by simpa using h1, hρ y⟩
  obtain ⟨outv, r1, r2⟩ := fill_rel (place := (places.toArray[·]?)) (m := m) (loc := loc) (parts.toList.map fun (i, x) => (i, ρ x)) (ps.map fun (o, n, x) => (o, n, aev s x)) _ cs z.cells
   (cells_lits _) (by simpa using g1) side hb
  refine .same hs (v := .agg outv) ?_ h (.agg cs outv (by have := r2.1; simpa using this) (fun j x v e1 e2 => r2.2 j x v e1 (by simpa using e2)))
  refine run_build w t _ outv ?_
  unfold Program.built
  simp only [hi, hu, hz, hp]
  simpa using r1
theorem good_buildA {t e : TypeId} {n : Nat} {i ie : TypeInfo} {z : Value} {s : Slots} {ρ : Operand → Value} {parts : Array (Nat × Operand)}
  (hs : SRel m loc σ w) (hρ : ∀ x, Rel m loc (aev s (cOpd x)) (ρ x)) (hi : P.info? t = some i) (hu : P.underlying t = some (.array n e)) (hz : i.zero = some z) (he : P.info? e = some ie)
  (h : match buildAll (z.cells.toList.map avLit) ((parts.toList.map fun (k, x) => (k * ie.size, ie.size, cOpd x)).map fun (o, n, x) => (o, n, aev s x)) with | some cs => K (.agg cs) σ | none => False) :
  GoodV P m loc w K (Instr.build t (parts.map fun (i, x) => (i, ρ x))) := by
 cases hb : buildAll (z.cells.toList.map avLit) ((parts.toList.map fun (k, x) => (k * ie.size, ie.size, cOpd x)).map fun (o, n, x) => (o, n, aev s x)) with
 | none => rw [hb] at h; exact h.elim
 | some cs =>
  rw [hb] at h
  have side : ∀ (j : Nat) i v o n x, (parts.toList.map fun (i, x) => (i, ρ x))[j]? = some (i, v) → ((parts.toList.map fun (k, x) => (k * ie.size, ie.size, cOpd x)).map fun (o, n, x) => (o, n, aev s x))[j]? = some (o, n, x) →
    (some (i * ie.size, ie.size) : Option (Nat × Nat)) = some (o, n) ∧ Rel m loc x v := by
   intro j i v o n x e1 e2
   simp only [List.getElem?_map, Option.map_eq_some_iff] at e1 e2
   obtain ⟨⟨o', n', x'⟩, ⟨⟨i2, y2⟩, e5, e6⟩, e4⟩ := e2
   simp at e6 e4
   obtain ⟨rfl, rfl, rfl⟩ := e6
   obtain ⟨rfl, rfl, rfl⟩ := e4
   obtain ⟨⟨i', y⟩, e7, e8⟩ := e1
   simp at e8
   obtain ⟨rfl, rfl⟩ := e8
   rw [e5] at e7
   injection e7 with e7
   injection e7 with e7 e9
   subst e7; subst e9
   exact ⟨rfl, hρ _⟩
  obtain ⟨outv, r1, r2⟩ := fill_rel (place := fun i => some (i * ie.size, ie.size)) (m := m) (loc := loc) (parts.toList.map fun (i, x) => (i, ρ x)) ((parts.toList.map fun (k, x) => (k * ie.size, ie.size, cOpd x)).map fun (o, n, x) => (o, n, aev s x)) _ cs z.cells
   (cells_lits _) (by simp) side hb
  refine .same hs (v := .agg outv) ?_ h (.agg cs outv (by have := r2.1; simpa using this) (fun j x v e1 e2 => r2.2 j x v e1 (by simpa using e2)))
  refine run_build w t _ outv ?_
  unfold Program.built
  simp only [hi, hu, hz, he]
  simpa using r1
theorem flat_get {sz : Nat} : ∀ (l : List (List AV)), (∀ e ∈ l, e.length = sz) → ∀ (i : Nat) e, l[i]? = some e → ∀ (j : Nat) x, e[j]? = some x → l.flatten[i * sz + j]? = some x
 | [], _, i, e, h, _, _, _ => by simp at h
 | a :: l, hl, i, e, h, j, x, hx => by
  have ha := hl a List.mem_cons_self
  cases i with
  | zero =>
   simp at h; subst h
   rw [Nat.zero_mul, Nat.zero_add, List.flatten_cons, List.getElem?_append_left (lt_of_get hx)]; exact hx
  | succ i =>
   simp at h
   rw [List.flatten_cons, List.getElem?_append_right (by rw [ha, Nat.succ_mul]; omega), ha, Nat.succ_mul]
   have := flat_get l (fun e he => hl e (List.mem_cons_of_mem _ he)) i e h j x hx
   rw [show i * sz + sz + j - sz = i * sz + j by omega]; exact this
theorem flat_length {sz : Nat} (l : List (List AV)) (h : ∀ e ∈ l, e.length = sz) : l.flatten.length = l.length * sz := by
 induction l with
 | nil => simp
 | cons a l ih =>
  rw [List.flatten_cons, List.length_append, ih (fun e he => h e (List.mem_cons_of_mem _ he)), h a List.mem_cons_self, List.length_cons, Nat.succ_mul]; omega
theorem flat_index {sz : Nat} (l : List (List AV)) (h : ∀ e ∈ l, e.length = sz) (k : Nat) (hk : k < l.length * sz) :
  ∃ i j e x, k = i * sz + j ∧ j < sz ∧ i < l.length ∧ l[i]? = some e ∧ e[j]? = some x ∧ l.flatten[k]? = some x := by
 have hsz : 0 < sz := by
  rcases Nat.eq_zero_or_pos sz with q | q
  ·rw [q] at hk; simp at hk
  ·exact q
 have hi : k / sz < l.length := by rw [Nat.div_lt_iff_lt_mul hsz]; exact hk
 have hj : k % sz < sz := Nat.mod_lt _ hsz
 have he : l[k / sz].length = sz := h _ (List.getElem_mem hi)
 have e1 : l[k / sz]? = some l[k / sz] := List.getElem?_eq_getElem hi
 have e2 : l[k / sz][k % sz]? = some (l[k / sz][k % sz]'(by omega)) := List.getElem?_eq_getElem _
 have ek : k = k / sz * sz + k % sz := by rw [Nat.mul_comm]; exact (Nat.div_add_mod k sz).symm
 refine ⟨k / sz, k % sz, _, _, ek, hj, hi, e1, e2, ?_⟩
 have := flat_get l h _ _ e1 _ _ e2
 rw [← ek] at this; exact this
theorem rel_slice_flat {tok : Tok} {elems : List (List AV)} {a : Option Addr} {cap sz b : Nat} {vs : List Value} (hcap : elems.length ≤ cap) (htok : TokRel m loc elems.length sz tok a cap)
  (hsz : ∀ e ∈ elems, e.length = sz) (ha : elems ≠ [] → a = some ⟨b, 0, none⟩) (hc : Cells m loc elems.flatten vs) (him : ∀ j v, vs[j]? = some v → m.im b j = some v) :
  Rel m loc (.slice tok elems) (.slice a elems.length cap) := by
 have hlen := flat_length elems hsz
 refine .slice tok elems a cap sz b 0 (fun i j => vs.getD (i * sz + j) undef) hcap htok hsz ha ?_ ?_
 ·intro i hi j hj
  have hk : i * sz + j < vs.length := by
   rw [hc.1, hlen]
   calc i * sz + j < i * sz + sz := by omega
    _ = (i + 1) * sz := by rw [Nat.succ_mul]
    _ ≤ elems.length * sz := Nat.mul_le_mul_right _ hi
  rw [Nat.zero_add]
  exact him _ _ (by rw [List.getD_eq_getElem?_getD, List.getElem?_eq_getElem hk]; rfl)
 ·intro i e hi j x hj
  have h1 := flat_get elems hsz i e hi j x hj
  have hk := lt_of_get h1
  have hk2 : i * sz + j < vs.length := by rw [hc.1]; exact hk
  exact hc.2 _ x _ h1 (by rw [List.getD_eq_getElem?_getD, List.getElem?_eq_getElem hk2]; rfl)
theorem new_grow {elems : List (List AV)} {sz : Nat} {vs rest : List Value} {t : TypeId} (hs : SRel m loc σ w) (hsz : ∀ e ∈ elems, e.length = sz) (hc : Cells m loc elems.flatten vs) (cap : Nat)
  (hcap : elems.length ≤ cap) (hfit : cap * sz ≤ (vs ++ rest).length) :
  ∃ m' loc', Rel m' loc' (.slice (.grow σ.length) elems) (.slice (some ⟨w.heap.size, 0, none⟩) elems.length cap) ∧
   SRel m' loc' (σ ++ [.grow sz elems.length]) (w.alloc (.cells (vs ++ rest).toArray t)) ∧ Ext loc.length m loc w m' loc' (w.alloc (.cells (vs ++ rest).toArray t)) := by
 have hlen := flat_length elems hsz
 have hvl : vs.length = elems.length * sz := by rw [hc.1, hlen]
 let f : Nat → Option (Option Nat) := fun k => if k = elems.length then some (some w.heap.size) else none
 have key := hs.alloc loc.length (.cells (vs ++ rest).toArray t) (fun off => vs[off]?) (some (vs ++ rest).length) (.tok sz f) (.grow sz elems.length)
  ?_ ?_ ?_ ?_
 ·refine ⟨_, _, ?_, key.1, key.2⟩
  refine rel_slice_flat (b := w.heap.size) (vs := vs) hcap ?_ hsz (fun _ => rfl) (hc.mono (hs.le_add _ _) (.app _ _ _)) ?_
  ·exact ⟨sz, f, by rw [← hs.len]; simp, fun _ => rfl, .inr ⟨w.heap.size, (vs ++ rest).length, by simp [f], rfl, by simp [Mem.add], hfit, hs.ok.low⟩⟩
  ·intro j v hj; simp [Mem.add, hj]
 ·intro off v e
  have hnb : (w.alloc (.cells (vs ++ rest).toArray t)).heap[w.heap.size]? = some (.cells (vs ++ rest).toArray t (0, 0)) := by
   show (w.heap.push _)[w.heap.size]? = _; simp
  refine ⟨?_, by simp only [World.frozen?, hnb]; simp⟩
  simp only [World.cell?_alloc_new, List.getElem?_toArray]
  rw [List.getElem?_append_left (lt_of_get e)]; exact e
 ·intro n e; injection e with e; exact ⟨(vs ++ rest).toArray, t, (0, 0), rfl, by simpa using e⟩
 ·rintro b (e | ⟨sz', g, k, e, hk⟩)
  ·simp at e
  ·injection e with e1 e2; subst e2
   simp only [f] at hk
   split at hk
   ·injection hk with hk; injection hk with hk; exact hk.symm
   ·simp at hk
 ·refine ⟨rfl, fun k hk => by simp only [f]; rw [if_neg (by omega)], .inr ⟨w.heap.size, (vs ++ rest).toArray, t, by simp [f], ?_, by simp [Mem.add], ?_⟩⟩
  ·show (w.heap.push _)[w.heap.size]? = _; simp
  ·intro o ho
   simp only [Mem.add, if_true]
   exact List.getElem?_eq_none (by rw [hvl, Nat.mul_comm]; exact ho)
theorem new_row {cs : List AV} {vs rest : List Value} {t : TypeId} (sz len cap : Nat) (hs : SRel m loc σ w) (hc : Cells m loc cs vs) (hcap : len ≤ cap) (hfit : cap * sz ≤ (vs ++ rest).length) :
  ∃ m' loc', Rel m' loc' (.ref σ.length sz 0 len) (.slice (some ⟨w.heap.size, 0, none⟩) len cap) ∧
   SRel m' loc' (σ ++ [.row cs]) (w.alloc (.cells (vs ++ rest).toArray t)) ∧ Ext loc.length m loc w m' loc' (w.alloc (.cells (vs ++ rest).toArray t)) := by
 have key := hs.alloc loc.length (.cells (vs ++ rest).toArray t) (fun _ => none) (some (vs ++ rest).length) (.blk w.heap.size) (.row cs)
  (fun _ _ e => by simp at e) (fun n e => by injection e with e; exact ⟨(vs ++ rest).toArray, t, (0, 0), rfl, by simpa using e⟩) (fun b e => by
   rcases e with e | ⟨_, _, _, e, _⟩
   ·injection e with e; exact e.symm
   ·simp at e) ?_
 ·exact ⟨_, _, .ref σ.length sz 0 len cap w.heap.size (vs ++ rest).length (by rw [← hs.len]; simp) hcap (by simp [Mem.add]) (by omega), key.1, key.2⟩
 ·refine ⟨(vs ++ rest).toArray, t, ?_, by simp [Mem.add], ?_, ?_, fun o => by simp [Mem.add]⟩
  ·show (w.heap.push _)[w.heap.size]? = _; simp
  ·simp [hc.1]
  ·intro j x v e1 e2
   have hj := lt_of_get e1
   simp only [List.getElem?_toArray] at e2
   rw [List.getElem?_append_left (by rw [hc.1]; exact hj)] at e2
   exact (hc.2 j x v e1 e2).mono (hs.le_add _ _) (.app _ _ _)
end
end Go.Ahl
namespace Go.Ahl
section
variable {P : Program} {m : Mem} {loc : List Loc} {σ : Store} {w : World} {K : Cont}
theorem setAll_mid : ∀ (ds pre cs post : List AV), cs.length = ds.length → setAll (pre ++ cs ++ post) pre.length ds = pre ++ ds ++ post
 | [], pre, cs, post, h => by
  have : cs = [] := List.eq_nil_of_length_eq_zero h
  subst this; rfl
 | d :: ds, pre, [], post, h => by simp at h
 | d :: ds, pre, c :: cs, post, h => by
  unfold setAll
  have e1 : (pre ++ c :: cs ++ post).set pre.length d = (pre ++ [d]) ++ cs ++ post := by simp
  rw [e1]
  have := setAll_mid ds (pre ++ [d]) cs post (by simpa using h)
  rw [List.length_append] at this
  simpa using this
theorem buildAll_side {sz : Nat} : ∀ (xs : List AV) (es : List (List AV)) (pre : List AV) (k : Nat), cellsAll xs = some es → (∀ e ∈ es, e.length = sz) → pre.length = k * sz →
  buildAll (pre ++ List.replicate (xs.length * sz) .any) ((xs.zipIdx k).map fun p => (p.2 * sz, sz, p.1)) = some (pre ++ es.flatten)
 | [], es, pre, k, h, _, _ => by simp [cellsAll] at h; subst h; simp [buildAll]
 | x :: xs, es, pre, k, h, hl, hp => by
  unfold cellsAll at h
  cases hc : cellsOf x with
  | none => rw [hc] at h; simp at h
  | some c =>
   cases hr : cellsAll xs with
   | none => rw [hc, hr] at h; simp at h
   | some cs =>
    rw [hc, hr] at h
    simp at h; subst h
    have hcl := hl c List.mem_cons_self
    have hlen : (x :: xs).length * sz = sz + xs.length * sz := by rw [List.length_cons, Nat.succ_mul]; omega
    simp only [List.zipIdx_cons, List.map_cons, buildAll, hc]
    rw [if_pos ⟨hcl, by simp [hp, Nat.succ_mul]; try omega⟩]
    have e1 : pre ++ List.replicate ((x :: xs).length * sz) AV.any = pre ++ List.replicate sz .any ++ List.replicate (xs.length * sz) .any := by
     rw [hlen, ← List.replicate_append_replicate, List.append_assoc]
    rw [e1, ← hp, setAll_mid c pre _ _ (by simp [hcl])]
    have := buildAll_side xs cs (pre ++ c) (k + 1) hr (fun e he => hl e (List.mem_cons_of_mem _ he)) (by simp [hp, hcl, Nat.succ_mul])
    rw [this]; simp
theorem good_bslice {t e : TypeId} {i : TypeInfo} {s : Slots} {ρ : Operand → Value} {len : Nat} {parts : Array (Nat × Operand)} {own : Bool} (hs : SRel m loc σ w) (hρ : ∀ x, Rel m loc (aev s (cOpd x)) (ρ x))
  (hu : P.underlying t = some (.slice e)) (hi : P.info? e = some i) (hidx : parts.toList.map (·.1) = List.range len) (hsm : len * i.size ≤ 2 ^ 24) (hz : i.zero.isSome = true) (hpos : 0 < i.size)
  (h : match cellsAll (evs s (parts.toList.map (cOpd ·.2))) with
   | some es => (∀ e ∈ es, e.length = i.size) ∧ (if own then (if es.isEmpty then K (.slice .zero []) σ else K (.ref σ.length i.size 0 es.length) (σ ++ [.row es.flatten])) else K (.slice (.grow σ.length) es) (σ ++ [.grow i.size es.length]))
   | none => False) : GoodV P m loc w K (Instr.buildSlice t len (parts.map fun (i, x) => (i, ρ x))) := by
 obtain ⟨z, hz⟩ := Option.isSome_iff_exists.1 hz
 cases hc : cellsAll (evs s (parts.toList.map (cOpd ·.2))) with
 | none => rw [hc] at h; exact h.elim
 | some es =>
  rw [hc] at h
  obtain ⟨hl, h⟩ := h
  have hn : parts.toList.length = len := by have := congrArg List.length hidx; simpa using this
  have hes : ∀ (xs : List AV) (es : List (List AV)), cellsAll xs = some es → es.length = xs.length := by
   intro xs
   induction xs with
   | nil => intro es h; simp [cellsAll] at h; subst h; rfl
   | cons x xs ih =>
    intro es h
    unfold cellsAll at h
    cases h1 : cellsOf x <;> cases h2 : cellsAll xs <;> rw [h1, h2] at h <;> simp at h
    subst h; simp [ih _ h2]
  have hel : es.length = len := by rw [hes _ _ hc]; simp [evs]; simpa using hn
  have run : ∃ outv : Array Value, (Instr.buildSlice t len (parts.map fun (i, x) => (i, ρ x))).run P w = .ok (.slice (some ⟨w.heap.size, 0, none⟩) len len) (w.alloc (.cells outv e)) ∧ Cells m loc es.flatten outv.toList := by
   rcases Nat.eq_zero_or_pos len with q | q
   ·subst q
    have hp : parts = #[] := by
     have : parts.toList = [] := List.eq_nil_of_length_eq_zero hn
     exact Array.toList_eq_nil_iff.1 this
    subst hp
    have he : es = [] := List.eq_nil_of_length_eq_zero hel
    subst he
    refine ⟨#[], ?_, .nil⟩
    unfold Instr.buildSlice
    have hr : ∀ f : Nat → Value, Array.map f (Array.range 0) = #[] := fun f => by have h0 : Array.range 0 = #[] := rfl; rw [h0]; exact Array.map_empty
    simp [Sem.run_bind, run_underlying hu, run_size hi, Result.andThen, Instr.fill, newRow, hr]
   ·have hside := buildAll_side (sz := i.size) (evs s (parts.toList.map (cOpd ·.2))) es [] 0 hc hl (by simp)
    have hel2 : (evs s (parts.toList.map (cOpd ·.2))).length = len := by simp [evs]; simpa using hn
    rw [hel2] at hside
    simp only [List.nil_append] at hside
    have key := fill_rel (place := fun j => some (j * i.size, i.size)) (m := m) (loc := loc) (parts.toList.map fun (i, x) => (i, ρ x)) _ _ es.flatten
     ((Array.range (len * i.size)).map (z.cells[· % z.cells.size]!)) ?_ ?_ ?_ hside
    ·obtain ⟨outv, r1, r2⟩ := key
     refine ⟨outv, run_buildSlice w t e len _ outv i z hu hi hz (by omega) (by have := Nat.mul_pos q hpos; omega) (by simpa using r1), r2⟩
    ·refine ⟨by simp, fun j x v h1 h2 => ?_⟩
     rw [List.getElem?_replicate] at h1
     split at h1
     ·injection h1 with h1; subst h1; exact .any v
     ·simp at h1
    ·simp [evs]
    ·intro j i' v o n x e1 e2
     simp only [evs, List.getElem?_map, List.getElem?_zipIdx, Option.map_eq_some_iff] at e1 e2
     obtain ⟨⟨i2, y⟩, e3, e4⟩ := e1
     simp at e4
     obtain ⟨rfl, rfl⟩ := e4
     have hij : i2 = j := by
      have := congrArg (·[j]?) hidx
      simp only [List.getElem?_map, e3, Option.map_some] at this
      rw [List.getElem?_range (by have := lt_of_get e3; omega)] at this
      injection this
     obtain ⟨⟨x2, j2⟩, ⟨a, ⟨b, ⟨c, e6, e7⟩, e8⟩, e9⟩, e5⟩ := e2
     subst hij
     rw [e3] at e6
     injection e6 with e6; subst e6
     simp at e9 e5 e7 e8
     obtain ⟨e9, e10⟩ := e9
     obtain ⟨e5, e11, e12⟩ := e5
     subst e12; subst e9; subst e8; subst e7; subst e10; subst e11; subst e5
     exact ⟨rfl, hρ _⟩
  obtain ⟨outv, r, hcell⟩ := run
  subst hel
  have hlen := flat_length es hl
  have hov : outv.toList.length = es.length * i.size := by rw [hcell.1, hlen]
  cases own with
  | false =>
   obtain ⟨m', loc', g1, g2, g3⟩ := new_grow (rest := []) (t := e) hs hl hcell es.length (Nat.le_refl _) (by simp at hov ⊢; omega)
   refine ⟨_, _, _, _, m', loc', r, h, g1, ?_, ?_⟩
   ·simpa using g2
   ·simpa using g3
  | true =>
   obtain ⟨m', loc', g1, g2, g3⟩ := new_row (rest := []) (t := e) i.size es.length es.length hs hcell (Nat.le_refl _) (by simp at hov ⊢; omega)
   cases es with
   | cons x es =>
    refine ⟨_, _, _, _, m', loc', r, h, g1, ?_, ?_⟩
    ·simpa using g2
    ·simpa using g3
   | nil =>
    have hn0 : σ.length = loc.length := hs.len.symm
    have g2' := g2.take σ.length (by rw [List.take_left']; exact hs.ids; rfl)
    refine ⟨_, _, _, _, m', loc'.take σ.length, r, h, ?_, ?_, ?_⟩
    ·exact .slice .zero [] _ 0 0 0 0 (fun _ _ => undef) (Nat.le_refl _) rfl (by simp) (fun h => absurd rfl h) (fun i hi => absurd hi (by simp)) (by simp)
    ·simpa using g2'
    ·have g4 := g3.trans (Ext.take m' loc' _ σ.length (by omega))
     simpa using g4
theorem wrap_in {n : Int} (h : -9223372036854775808 ≤ n) (h' : n < 9223372036854775808) : IntKind.i64.wrap n = n := by
 rw [IntKind.wrap_i64]; omega
theorem cells_rep (l : List Value) (z : List AV) (h : Cells m loc z l) : ∀ n : Nat, Cells m loc (List.replicate n z).flatten (List.replicate n l).flatten
 | 0 => .nil
 | n + 1 => by rw [List.replicate_succ, List.replicate_succ, List.flatten_cons, List.flatten_cons]; exact h.append (cells_rep l z h n)
theorem range_mod (z : Array Value) (hz : 0 < z.size) : ∀ n : Nat, ((Array.range (n * z.size)).map (z[· % z.size]!)).toList = (List.replicate n z.toList).flatten := by
 intro n
 apply List.ext_getElem?
 intro k
 have hl : ∀ n : Nat, ((List.replicate n z.toList).flatten).length = n * z.size := fun n => by simp
 by_cases hk : k < n * z.size
 ·have h1 : ((Array.range (n * z.size)).map (z[· % z.size]!)).toList[k]? = some z[k % z.size]! := by simp [hk]
  rw [h1]
  have hm : k % z.size < z.size := Nat.mod_lt _ hz
  have hd : k / z.size < n := by rw [Nat.div_lt_iff_lt_mul hz]; exact hk
  clear h1
  have key : ∀ (n i j : Nat), i < n → j < z.size → ((List.replicate n z.toList).flatten)[i * z.size + j]? = some z[j]! := by
   intro n
   induction n with
   | zero => intro i j h; omega
   | succ n ih =>
    intro i j hi hj
    rw [List.replicate_succ, List.flatten_cons]
    cases i with
    | zero => rw [Nat.zero_mul, Nat.zero_add, List.getElem?_append_left (by simpa using hj)]; simp [hj]
    | succ i =>
     rw [Nat.succ_mul, List.getElem?_append_right (by simp; omega)]
     have := ih i j (by omega) hj
     rw [← this]; congr 1; simp; omega
  have := key n (k / z.size) (k % z.size) hd hm
  rw [← this]; congr 1; rw [Nat.mul_comm]; exact Nat.div_add_mod k z.size
 ·rw [List.getElem?_eq_none (by simp; omega), List.getElem?_eq_none (by rw [hl]; omega)]
theorem good_mkslice {t e : TypeId} {i : TypeInfo} {z : Value} {x y : AV} {a b : Value} {own : Bool} (hs : SRel m loc σ w) (hu : P.underlying t = some (.slice e)) (hi : P.info? e = some i) (hz : i.zero = some z)
  (hpos : 0 < i.size) (hzs : z.cells.size = i.size) (hx : Rel m loc x a) (hy : Rel m loc y b)
  (h : aMkslice i.size i.bytes (z.cells.toList.map avLit) x y own σ K) : GoodV P m loc w K (Instr.makeSlice t a b) := by
 cases hx <;> try exact h.elim
 cases hy <;> try exact h.elim
 rename_i k l k' c
 obtain ⟨h0, h1, h2, h3, h4⟩ := h
 have wl : IntKind.i64.wrap l = l := wrap_in (by omega) (by omega)
 have wc : IntKind.i64.wrap c = c := wrap_in (by omega) (by omega)
 have hzc : Cells m loc (z.cells.toList.map avLit) z.cells.toList := cells_lits _
 have run : (Instr.makeSlice t (.int k l) (.int k' c)).run P w = .ok (.slice (some ⟨w.heap.size, 0, none⟩) l.toNat c.toNat) (w.alloc (.cells (List.replicate c.toNat z.cells.toList).flatten.toArray e)) := by
  unfold Instr.makeSlice
  have a1 : (asInt (.int k l)).run P w = .ok l w := rfl
  have a2 : (asInt (.int k' c)).run P w = .ok c w := rfl
  have n1 : ¬ c < 0 := by omega
  have n2 : ¬ l < 0 := by omega
  have n3 : ¬ l > c := by omega
  have n4 : ¬ (i.bytes : Int) * c > 2 ^ 48 := by omega
  have room : ∀ n, (askRoom n).run P w = .ok () w := by intro n; unfold askRoom; split <;> rfl
  have cells : ((Array.range (c.toNat * i.size)).map (z.cells[· % z.cells.size]!)) = (List.replicate c.toNat z.cells.toList).flatten.toArray := by
   have := range_mod z.cells (by omega) c.toNat
   rw [hzs] at this
   rw [hzs, ← this]
  simp only [Sem.run_bind, run_underlying hu, Result.andThen, a1, a2, run_info hi, wl, wc, n1, n2, n3, n4, decide_false, Bool.or_self, Bool.false_eq_true, if_false, room, run_size hi]
  rcases Nat.eq_zero_or_pos c.toNat with q | q
  ·have hr : ∀ f : Nat → Value, Array.map f (Array.range 0) = #[] := fun f => by have h0 : Array.range 0 = #[] := rfl; rw [h0]; exact Array.map_empty
   simp [q, newRow, newObj, Sem.run, Sem.run_bind, Result.andThen, hr]
  ·have hp := Nat.mul_pos q hpos
   have hne : ¬ c.toNat * i.size = 0 := by omega
   rw [if_neg hne]
   simp only [Sem.run_bind, run_zero hi hz, Result.andThen, Sem.run_pure]
   rw [cells]
   rfl
 have hlenz : (List.replicate c.toNat z.cells.toList).flatten.length = c.toNat * i.size := by simp [hzs]
 cases own with
 | true =>
  obtain ⟨m', loc', g1, g2, g3⟩ := new_row (rest := []) (t := e) i.size l.toNat c.toNat hs (cells_rep _ _ hzc c.toNat) (by omega) (by simp [hzs])
  refine ⟨_, _, _, _, m', loc', run, h4, g1, ?_, ?_⟩
  ·simpa using g2
  ·simpa using g3
 | false =>
  obtain ⟨rfl, hk⟩ := h4
  obtain ⟨m', loc', g1, g2, g3⟩ := new_grow (elems := []) (sz := i.size) (vs := []) (rest := (List.replicate c.toNat z.cells.toList).flatten) (t := e) hs (by simp) .nil c.toNat (by simp) (by simp [hzs])
  refine ⟨_, _, _, _, m', loc', run, hk, ?_, ?_, ?_⟩
  ·simpa using g1
  ·simpa using g2
  ·simpa using g3
end
end Go.Ahl
namespace Go.Ahl
section
variable {P : Program} {m : Mem} {loc : List Loc} {σ : Store} {w : World} {K : Cont}
theorem chunks_spec {sz : Nat} : ∀ (n : Nat) (l : List AV), n * sz ≤ l.length → (chunks sz n l).length = n ∧ (chunks sz n l).flatten = l.take (n * sz) ∧ ∀ e ∈ chunks sz n l, e.length = sz
 | 0, l, _ => by simp [chunks]
 | n + 1, l, h => by
  rw [Nat.succ_mul] at h
  obtain ⟨h1, h2, h3⟩ := chunks_spec (sz := sz) n (l.drop sz) (by simp; omega)
  refine ⟨by simp [chunks, h1], ?_, ?_⟩
  ·rw [chunks, List.flatten_cons, h2, Nat.succ_mul, Nat.add_comm, List.take_add]
  ·intro e he
   rw [chunks] at he
   rcases List.mem_cons.1 he with rfl | he
   ·simp; omega
   ·exact h3 e he
theorem read_elems {esz : Nat} {x : AV} {v : Value} {Q : List (List AV) → Prop} (hs : SRel m loc σ w) (hx : Rel m loc x v) (h : elemsOf esz x σ Q) (hq : ∀ ys, Q ys → ∀ e ∈ ys, e.length = esz) :
  ∃ ys vs, Q ys ∧ Cells m loc ys.flatten vs ∧ ∀ w2 : World, w2.heap = w.heap →
   (Builtin.lenOf v).run P w2 = .ok ys.length w2 ∧ (Builtin.firstCells esz ys.length v).run P w2 = .ok vs.toArray w2 := by
 have load0 : ∀ (a : Addr) (w : World), (loadCells a 0).run P w = .ok #[] w := fun a w => rfl
 have cellS : ∀ {w2 : World}, w2.heap = w.heap → ∀ a, w2.cell? a = w.cell? a := fun hh a => by simp [World.cell?, hh]
 cases hx with
 | slice tok elems a cap sz b o f hcap htok hsz ha hc hr =>
  simp only [elemsOf] at h
  have hl := hq _ h
  by_cases he : elems = []
  ·subst he
   refine ⟨[], [], h, .nil, fun w2 hh => ⟨rfl, ?_⟩⟩
   cases a with
   | none => rfl
   | some a => unfold Builtin.firstCells; simp only [List.length_nil, Nat.zero_mul]; exact load0 a w2
  ·have hszz : sz = esz := by
    obtain ⟨e, he'⟩ := List.exists_mem_of_ne_nil _ he
    rw [← hsz e he', hl e he']
   subst hszz
   rw [ha he]
   have hfl := flat_length elems hl
   refine ⟨elems, (List.range (elems.length * sz)).map (fun k => f (k / sz) (k % sz)), h, ?_, fun w2 hh => ⟨rfl, ?_⟩⟩
   rotate_left
   ·unfold Builtin.firstCells
    refine run_loadMany (by simp) ?_
    intro k v hk
    rw [cellS hh]
    rw [List.getElem?_map] at hk
    by_cases hk2 : k < elems.length * sz
    ·rw [List.getElem?_range hk2] at hk
     simp at hk; subst hk
     obtain ⟨i, j, e, x, hk3, hj, hi, _⟩ := flat_index elems hl k hk2
     have hsz0 : 0 < sz := by omega
     have e1 : k / sz = i := by rw [hk3, Nat.mul_comm, Nat.mul_add_div hsz0, Nat.div_eq_of_lt hj]; simp
     have e2 : k % sz = j := by rw [hk3, Nat.mul_comm, Nat.mul_add_mod, Nat.mod_eq_of_lt hj]
     rw [e1, e2]
     have := hs.im _ _ _ (hc i hi j hj)
     rw [← hk3] at this; exact this
    ·rw [List.getElem?_eq_none (by simpa using hk2)] at hk; simp at hk
   ·refine ⟨by simp [hfl], fun k x v h1 h2 => ?_⟩
    have hk2 : k < elems.length * sz := by rw [← hfl]; exact lt_of_get h1
    rw [List.getElem?_map, List.getElem?_range hk2] at h2
    simp at h2; subst h2
    obtain ⟨i, j, e, x', hk3, hj, hi, g1, g2, g3⟩ := flat_index elems hl k hk2
    have hsz0 : 0 < sz := by omega
    have e1 : k / sz = i := by rw [hk3, Nat.mul_comm, Nat.mul_add_div hsz0, Nat.div_eq_of_lt hj]; simp
    have e2 : k % sz = j := by rw [hk3, Nat.mul_comm, Nat.mul_add_mod, Nat.mod_eq_of_lt hj]
    rw [e1, e2]
    rw [h1] at g3; injection g3 with g3; subst g3
    exact hr i e g1 j x g2
 | ref id sz off len cap b n hl hcap hb hn =>
  simp only [elemsOf] at h
  obtain ⟨rfl, cells, hc, hfit, hk⟩ := h
  obtain ⟨c1, c2, c3⟩ := chunks_spec (sz := sz) len (cells.drop off) (by simp; omega)
  obtain ⟨vs, h1, h2, h3⟩ := pick_cells (m := m) (loc := loc) (g := fun j u => w.cell? ⟨b, j, none⟩ = some u) hfit (fun j x hj => by
   obtain ⟨u, e1, e2, _⟩ := hs.row hl hc hj; exact ⟨u, e1, e2⟩)
  refine ⟨_, vs, hk, ?_, fun w2 hh => ⟨by rw [c1]; rfl, ?_⟩⟩
  ·rw [c2]; exact ⟨by simp [h1]; omega, h3⟩
  ·rw [c1]; unfold Builtin.firstCells; exact run_loadMany h1 (fun j v e => by rw [cellS hh]; exact h2 j v e)
 | ref0 id sz off a hl =>
  simp only [elemsOf] at h
  obtain ⟨rfl, cells, hc, hfit, hk⟩ := h
  refine ⟨[], [], hk, .nil, fun w2 hh => ⟨rfl, ?_⟩⟩
  cases a with
  | none => rfl
  | some a => unfold Builtin.firstCells; simp only [List.length_nil, Nat.zero_mul]; exact load0 a w2
 | str s =>
  simp only [elemsOf] at h
  refine ⟨_, s.data.toList.map fun b => .int .u8 b.toNat, h, ?_, fun w2 hh => ⟨by simp [Builtin.lenOf], ?_⟩⟩
  rotate_left
  ·unfold Builtin.firstCells
   have hsz : (s.data.toList.map fun b => [AV.int .u8 b.toNat]).length = s.size := by simp
   have hex : s.extract 0 s.size = s := by
    apply ByteArray.ext; simp [ByteArray.data_extract]
   rw [hsz]
   simp only [hex]
   simp only [Sem.run_pure, Result.ok.injEq, and_true]
   apply Array.ext'; simp
  ·have : (s.data.toList.map fun b => [AV.int .u8 b.toNat]).flatten = s.data.toList.map fun b => AV.int .u8 b.toNat := by
    induction s.data.toList with
    | nil => rfl
    | cons b l ih => simp [ih]
   rw [this]
   refine ⟨by simp, fun j x v h1 h2 => ?_⟩
   rw [List.getElem?_map] at h1 h2
   cases hb : s.data.toList[j]? with
   | none => rw [hb] at h1; simp at h1
   | some b => rw [hb] at h1 h2; simp at h1 h2; subst h1; subst h2; exact .int _ _
 | _ => exact h.elim
theorem run_askRoom (n : Nat) : (askRoom n).run P w = .ok () w := by unfold askRoom; split <;> rfl
theorem run_append_new {t u e : TypeId} {d : TypeDesc} {i : TypeInfo} {ty : TypeId} {a : Option Addr} {len cap n : Nat} {xv : Value} {old new : Array Value} (hu : P.underlying t = some (.slice e)) (hd : P.underlying u = some d)
  (hni : ∀ k, d ≠ .int k) (hi : P.info? e = some i) {z : Value} (hz : i.zero = some z) (hzs : z.cells.size = i.size) (hgt : cap < len + n) (hfit : bigLen (len + n) i.bytes)
  (hlen : (Builtin.lenOf xv).run P w = .ok n w) (hnew : (Builtin.firstCells i.size n xv).run P w.drew = .ok new w.drew) (hold : (Builtin.firstCells i.size len (.slice a len cap)).run P w.drew = .ok old w.drew) :
  ∃ newCap rest, len + n ≤ newCap ∧ rest.length = (newCap - (len + n)) * i.size ∧
   (Builtin.append_ #[t, u] ty #[.slice a len cap, xv]).run P w = .ok (.slice (some ⟨w.heap.size, 0, none⟩) (len + n) newCap) (w.drew.alloc (.cells (old.toList ++ new.toList ++ rest).toArray e)) := by
 have hcut : ∃ newCap, len + n ≤ newCap ∧ (choose (.appendCap (len + n) cap e)).run P w = .ok newCap w.drew := by
  refine ⟨_, ?_, by unfold choose; simp [Sem.run, Question.forced]; exact rfl⟩
  simp only [Question.cut]; omega
 obtain ⟨newCap, hge, hcut⟩ := hcut
 refine ⟨newCap, (Builtin.zeroCells z.cells (newCap - (len + n))).toList, hge, by simp [Builtin.zeroCells, hzs], ?_⟩
 have hgrow : ¬ 281474976710656 < Builtin.nextslicecap (len + n) cap * i.bytes := by
  have := growslice_fits hgt hfit.1
  omega
 have h63 : ¬ (9223372036854775807 < ((len : Int) + (n : Int))) := by have := hfit.2; omega
 have hn : ¬ (len + n ≤ cap) := by omega
 have hzi : (zeroValue e).run P w.drew = .ok z w.drew := run_zero hi hz
 have c1 : ¬ (((len + n : Nat) : Int) > IntKind.i64.max ∧ (False ∨ i.bytes = 0)) := by
  have := hfit.2
  rintro ⟨h, _⟩
  simp [IntKind.max, IntKind.bits, IntKind.signed] at h
  omega
 have c2 : ¬ (Builtin.nextslicecap (len + n) cap * i.bytes > 2 ^ 48) := by omega
 have hrow : (newRow e (old ++ new ++ Builtin.zeroCells z.cells (newCap - (len + n)))).run P w.drew =
   .ok ⟨w.heap.size, 0, none⟩ (w.drew.alloc (.cells (old.toList ++ new.toList ++ (Builtin.zeroCells z.cells (newCap - (len + n))).toList).toArray e)) := by
  have : (old.toList ++ new.toList ++ (Builtin.zeroCells z.cells (newCap - (len + n))).toList).toArray = old ++ new ++ Builtin.zeroCells z.cells (newCap - (len + n)) := by
   apply Array.ext'; simp
  rw [this]; rfl
 unfold Builtin.append_
 simp only [List.getElem?_toArray, List.getElem?_cons_zero, List.getElem?_cons_succ, Sem.run_bind, run_underlying hu, Result.andThen_ok, run_size hi, run_underlying hd, Sem.run_pure]
 cases d <;> try exact absurd rfl (hni _)
 all_goals
  simp only [Bool.false_eq_true, if_false]
  rw [Sem.run_bind, hlen]
  simp only [Result.andThen_ok]
  rw [if_neg hn, Sem.run_bind, run_info hi]
  simp only [Result.andThen_ok]
  rw [if_neg c1, Sem.run_bind, run_info hi]
  simp only [Result.andThen_ok]
  rw [if_neg c2]
  simp only [Sem.run_bind, run_info hi, Result.andThen_ok, Sem.run_pure, hcut, run_askRoom, hold, hnew, hzi, Bool.not_false, if_true, hrow]
theorem SRel.ghost (h : SRel m loc σ w) (n0 : Nat) (l : Loc) (o : AObj) (hl : ∀ b, ¬ (l = .blk b ∨ ∃ sz g k, l = .tok sz g ∧ g k = some (some b))) (hown : ∀ b, own l o ≠ some b)
  (ho : ObjRel m (loc ++ [l]) w l o) : SRel m (loc ++ [l]) (σ ++ [o]) w ∧ Ext n0 m loc w m (loc ++ [l]) w := by
 have hnames : ∀ b, Names (loc ++ [l]) b → Names loc b := fun b e => by
  rcases e.app with e | e | e
  ·exact e
  ·exact absurd (.inl e) (hl b)
  ·exact absurd (.inr e) (hl b)
 have hmpo : ∀ (i : Nat) l' o' b, (loc ++ [l])[i]? = some l' → (σ ++ [o])[i]? = some o' → own l' o' = some b → m.mp b = none := by
  intro i l' o' b h1 h2 w1
  rcases get_app h1 with h1 | ⟨hi, h1⟩
  ·rcases get_app h2 with h2 | ⟨hi2, h2⟩
   ·exact h.mpo i l' o' b h1 h2 w1
   ·have := lt_of_get h1; have := h.len; omega
  ·rcases get_app h2 with h2 | ⟨hi2, h2⟩
   ·have := lt_of_get h2; have := h.len; omega
   ·subst h1; subst h2; exact absurd w1 (hown b)
 refine ⟨⟨by simp [h.len], h.im, h.bs, ?_, ?_, fun b e => h.lt b (hnames b e), h.mp, hmpo, h.ok.names hnames⟩, ⟨rfl, rfl, rfl, Nat.le_refl _, Nat.le_refl _, .refl m, .app _ _ _, fun b e => .inl (hnames b e), fun _ _ _ _ => rfl, fun _ _ _ e => .inl e⟩⟩
 ·intro i l' o' h1 h2
  rcases get_app h1 with h1 | ⟨hi, h1⟩
  ·have hi := lt_of_get h1
   rcases get_app h2 with h2 | ⟨hi2, h2⟩
   ·exact (h.obj i l' o' h1 h2).mono (.refl m) (.app _ _ _) (fun _ _ => rfl) (fun _ _ _ => rfl)
   ·rw [h.len] at hi; omega
  ·subst h1
   rcases get_app h2 with h2 | ⟨hi2, h2⟩
   ·have := lt_of_get h2; rw [← h.len] at this; omega
   ·subst h2; exact ho
 ·intro i j l1 l2 o1 o2 b h1 h2 h3 h4 w1 w2
  rcases get_app h1 with h1 | ⟨hi, h1⟩
  ·rcases get_app h2 with h2 | ⟨hj, h2⟩
   ·rcases get_app h3 with h3 | ⟨hi3, h3⟩
    ·rcases get_app h4 with h4 | ⟨hi4, h4⟩
     ·exact h.inj i j l1 l2 o1 o2 b h1 h2 h3 h4 w1 w2
     ·have := h.len; have := lt_of_get h2; omega
    ·have := h.len; have := lt_of_get h1; omega
   ·rcases get_app h4 with h4 | ⟨hi4, h4⟩
    ·have := lt_of_get h4; have := h.len; omega
    ·subst h2; subst h4; exact absurd w2 (hown b)
  ·rcases get_app h3 with h3 | ⟨hi4, h3⟩
   ·have := lt_of_get h3; have := h.len; omega
   ·subst h1; subst h3; exact absurd w1 (hown b)
def tok0 (k : Nat) : Option (Option Nat) := if k = 0 then some none else none
theorem SRel.tok0 (h : SRel m loc σ w) (n0 sz : Nat) : SRel m (loc ++ [.tok sz tok0]) (σ ++ [.grow sz 0]) w ∧ Ext n0 m loc w m (loc ++ [.tok sz tok0]) w := by
 refine h.ghost n0 _ _ ?_ ?_ ⟨rfl, fun k hk => by simp only [Ahl.tok0]; rw [if_neg (by omega)], .inl ⟨by simp [Ahl.tok0], rfl⟩⟩
 ·rintro b (e | ⟨sz', g, k, e, hk⟩)
  ·simp at e
  ·injection e with e1 e2; subst e2; unfold Ahl.tok0 at hk; split at hk <;> simp at hk
 ·intro b; simp [own, Ahl.tok0]
theorem rel_tok0 (sz : Nat) (a : Option Addr) (hs : SRel m loc σ w) : Rel m (loc ++ [.tok sz tok0]) (.slice (.grow σ.length) []) (.slice a 0 0) :=
 .slice _ [] a 0 0 0 0 (fun _ _ => undef) (Nat.le_refl _) ⟨sz, tok0, by rw [← hs.len]; simp, fun h => absurd h (by simp), .inl ⟨by simp [tok0], rfl⟩⟩ (by simp) (fun h => absurd rfl h) (fun i hi => absurd hi (by simp)) (by simp)
theorem SRel.row0 (h : SRel m loc σ w) (n0 : Nat) : SRel m (loc ++ [.nowhere]) (σ ++ [.row []]) w ∧ Ext n0 m loc w m (loc ++ [.nowhere]) w :=
 h.ghost n0 _ _ (by rintro b (e | ⟨sz', g, k, e, hk⟩) <;> simp at e) (by intro b; simp [own]) rfl
theorem SRel.grown (h : SRel m loc σ w) (n0 : Nat) {w' : World} {id sz len n b : Nat} {f : Nat → Option (Option Nat)} {arr' : Array Value} {t : TypeId} {vs : List Value}
  (hl : loc[id]? = some (.tok sz f)) (hs : σ[id]? = some (.grow sz len)) (hn : 0 < n)
  (hw : ∀ k, k < w.heap.size → own (.tok sz f) (.grow sz len) ≠ some k → w'.heap[k]? = w.heap[k]?) (hsize : w.heap.size ≤ w'.heap.size)
  (hb : f len = some (some b) ∨ (w.heap.size ≤ b ∧ b < w'.heap.size)) (hbk : ∀ k, w.heap.size ≤ k → k < w'.heap.size → k = b)
  (harr : w'.heap[b]? = some (.cells arr' t (0, 0))) (hbs : ∀ q, m.bs b = some q → q = arr'.size) (hvs : ∀ (j : Nat) v, vs[j]? = some v → arr'[j]? = some v) (hvl : vs.length = (len + n) * sz)
  (hkeep : ∀ off v, m.im b off = some v → vs[off]? = some v)
  (hold : ∀ k, f len = some (some k) → k ≠ b → w'.heap[k]? = w.heap[k]?)
  (h1 : w'.os = w.os) (h2 : w'.tape = w.tape) (h3 : w'.output = w.output) (h4 : w.drawn ≤ w'.drawn) :
  ∃ m' f', SRel m' (loc.set id (.tok sz f')) (σ.set id (.grow sz (len + n))) w' ∧ Ext n0 m loc w m' (loc.set id (.tok sz f')) w' ∧ f' (len + n) = some (some b) ∧
   m'.bs b = some arr'.size ∧ (∀ (j : Nat) v, vs[j]? = some v → m'.im b j = some v) ∧ m.le m' ∧ Keep loc.length loc (loc.set id (.tok sz f')) := by
 obtain ⟨_, hf, hcur⟩ := h.obj id _ _ hl hs
 let f' : Nat → Option (Option Nat) := fun k => if k = len + n then some (some b) else f k
 let m' : Mem := { im := fun k off => if k = b then vs[off]? else m.im k off, bs := fun k => if k = b then some arr'.size else m.bs k, mp := m.mp, wk := m.wk, base := m.base }
 have hle : m.le m' := by
  refine ⟨fun k off v e => ?_, fun k q e => ?_, fun k q e => ?_, fun _ _ _ e => e, rfl⟩
  ·simp only [m']; split
   ·rename_i hk; subst hk; exact hkeep _ _ e
   ·exact e
  ·simp only [m']; split
   ·rename_i hk; subst hk; rw [hbs _ e]
   ·exact e
  ·exact e
 have hll : (Loc.tok sz f).le (.tok sz f') := ⟨rfl, fun k r e => by
  simp only [f']; split
  ·rename_i hk; rw [hf k (by omega)] at e; simp at e
  ·exact e⟩
 have hown : ∀ k, own (.tok sz f) (.grow sz len) = some k ↔ f len = some (some k) := by
  intro k; simp only [own]
  cases hq : f len with
  | none => simp
  | some r => simp
 have key := h.turn n0 (m' := m') (w' := w') (l' := .tok sz f') (.grow sz (len + n)) hl hs hle hll hw hsize ?_ ?_ ?_ ?_ ?_ ?_ h1 h2 h3 h4
 ·exact ⟨m', f', key.1, key.2, by simp [f'], by simp [m'], fun j v e => by simp [m', e], hle, .set hl hll⟩
 ·intro k off hk hko
  simp only [m']; split
  ·rename_i hkb; subst hkb
   rcases hb with hb | hb
   ·exact absurd ((hown k).2 hb) hko
   ·omega
  ·rfl
 ·intro k off v hk e
  simp only [m'] at e
  split at e
  ·rename_i hkb; subst hkb
   exact ⟨by simp [World.cell?, harr, hvs _ _ e], by simp [World.frozen?, harr]⟩
  ·rename_i hkb
   have e2 := h.im _ _ _ e
   rcases hk with hk | hk
   ·refine ⟨by simpa [World.cell?, hold k ((hown k).1 hk) hkb] using e2, ?_⟩
    rw [frozen_same (hold k ((hown k).1 hk) hkb)]
    exact h.ok.fz k off v (h.tokb hl ((hown k).1 hk)) e
   ·have := h.im_lt e; omega
 ·intro k q e
  simp only [m'] at e
  split at e
  ·rename_i hkb; subst hkb; injection e with e
   exact .inr ⟨arr', t, (0, 0), harr, e⟩
  ·rename_i hkb
   by_cases hko : own (.tok sz f) (.grow sz len) = some k
   ·obtain ⟨arr, t', fz, e1, e2⟩ := h.bs _ _ e
    exact .inr ⟨arr, t', fz, by rw [hold k ((hown k).1 hko) hkb]; exact e1, e2⟩
   ·exact .inl ⟨e, hko⟩
 ·rintro k ⟨sz', g, q, e, hq⟩
  injection e with e1 e2; subst e2
  simp only [f'] at hq
  split at hq
  ·injection hq with hq; injection hq with hq; subst hq
   rcases hb with hb | hb
   ·exact .inl ⟨id, .inr ⟨sz, f, len, hl, hb⟩⟩
   ·exact .inr hb
  ·exact .inl ⟨id, .inr ⟨sz, f, q, hl, hq⟩⟩
 ·intro k e
  simp [own, f'] at e; subst e
  rcases hb with hb | hb
  ·exact .inl ((hown b).2 hb)
  ·exact .inr hb.1
 ·refine ⟨rfl, fun k hk => by simp only [f']; rw [if_neg (by omega)]; exact hf k (by omega), .inr ⟨b, arr', t, by simp [f'], harr, by simp [m'], ?_⟩⟩
  intro o ho
  simp only [m', if_true]
  exact List.getElem?_eq_none (by rw [hvl, Nat.mul_comm]; exact ho)
end
end Go.Ahl
namespace Go.Ahl
section
variable {P : Program} {m : Mem} {loc : List Loc} {σ : Store} {w : World} {K : Cont}
theorem run_append_in {t u e : TypeId} {d : TypeDesc} {i : TypeInfo} {ty : TypeId} {a : Option Addr} {len cap n : Nat} {xv : Value} {new : Array Value} (hu : P.underlying t = some (.slice e)) (hd : P.underlying u = some d)
  (hni : ∀ k, d ≠ .int k) (hi : P.info? e = some i) (hle : len + n ≤ cap) (hlen : (Builtin.lenOf xv).run P w = .ok n w) (hnew : (Builtin.firstCells i.size n xv).run P w = .ok new w) :
  (Builtin.append_ #[t, u] ty #[.slice a len cap, xv]).run P w =
   (match a with | some a => (storeCells (a.add (len * i.size)) new.toList).run P w | none => .ok () w).andThen fun _ w' => .ok (.slice a (len + n) cap) w' := by
 unfold Builtin.append_
 simp only [List.getElem?_toArray, List.getElem?_cons_zero, List.getElem?_cons_succ, Sem.run_bind, run_underlying hu, Result.andThen_ok, run_size hi, run_underlying hd, Sem.run_pure]
 cases d <;> try exact absurd rfl (hni _)
 all_goals
  simp only [Bool.false_eq_true, if_false]
  rw [Sem.run_bind, hlen]
  simp only [Result.andThen_ok]
  rw [if_pos hle]
  simp only [Sem.run_bind, Bool.not_false, if_true, hnew, Result.andThen_ok]
  cases a
  ·rfl
  ·simp only [Sem.run_bind]; rfl
theorem take_drop_get {α : Type} (l ys : List α) (k j : Nat) (h : k + ys.length ≤ l.length) :
  (l.take k ++ ys ++ l.drop (k + ys.length))[j]? = if j < k then l[j]? else if j < k + ys.length then ys[j - k]? else l[j]? := by
 have hk : (l.take k).length = k := by simp; omega
 by_cases h1 : j < k
 ·rw [if_pos h1, List.append_assoc, List.getElem?_append_left (by omega), List.getElem?_take, if_pos h1]
 ·rw [if_neg h1]
  by_cases h2 : j < k + ys.length
  ·rw [if_pos h2, List.getElem?_append_left (by simp; omega), List.getElem?_append_right (by omega), hk]
  ·rw [if_neg h2, List.getElem?_append_right (by simp; omega), List.getElem?_drop]
   congr 1; simp; omega
theorem SRel.reown (h : SRel m loc σ w) (n0 : Nat) {id b : Nat} {cells : List AV} (hl : loc[id]? = some (.blk b)) (hs : σ[id]? = some (.row cells)) :
  SRel m (loc ++ [.blk b]) (σ.set id .dead ++ [.row cells]) w ∧ Ext n0 m loc w m (loc ++ [.blk b]) w := by
 have hd := h.die id
 have hnames : ∀ k, Names (loc ++ [.blk b]) k → Names loc k := fun k e => by
  rcases e.app with e | e | e
  ·exact e
  ·injection e with e; subst e; exact ⟨id, .inl hl⟩
  ·obtain ⟨_, _, _, e, _⟩ := e; simp at e
 have halone : ∀ (i : Nat) l1 o1 k, loc[i]? = some l1 → (σ.set id .dead)[i]? = some o1 → own l1 o1 = some k → k ≠ b := by
  rintro i l1 o1 k h1 h2 w1 rfl
  rcases get_set h2 with ⟨rfl, rfl⟩ | ⟨hne, h2⟩
  ·cases l1 <;> simp [own] at w1
  ·exact hne (h.inj id i _ l1 _ o1 k hl h1 hs h2 rfl w1)
 refine ⟨⟨by simp [h.len], h.im, h.bs, ?_, ?_, fun k e => h.lt k (hnames k e), h.mp, ?_, h.ok.names hnames⟩, ⟨rfl, rfl, rfl, Nat.le_refl _, Nat.le_refl _, .refl m, .app _ _ _, fun k e => .inl (hnames k e), fun _ _ _ _ => rfl, fun _ _ _ e => .inl e⟩⟩
 ·intro i l' o' h1 h2
  rcases get_app h1 with h1 | ⟨hi, h1⟩
  ·have hi := lt_of_get h1
   rcases get_app h2 with h2 | ⟨hi2, h2⟩
   ·exact (hd.obj i l' o' h1 h2).mono (.refl m) (.app _ _ _) (fun _ _ => rfl) (fun _ _ _ => rfl)
   ·have := hd.len; omega
  ·subst h1
   rcases get_app h2 with h2 | ⟨hi2, h2⟩
   ·have := lt_of_get h2; have := hd.len; omega
   ·subst h2; exact (h.obj id _ _ hl hs).mono (.refl m) (.app _ _ _) (fun _ _ => rfl) (fun _ _ _ => rfl)
 ·intro i j l1 l2 o1 o2 k h1 h2 h3 h4 w1 w2
  have hln := hd.len
  rcases get_app h1 with h1 | ⟨hi, h1⟩ <;> rcases get_app h2 with h2 | ⟨hj, h2⟩ <;> rcases get_app h3 with h3 | ⟨hi3, h3⟩ <;> rcases get_app h4 with h4 | ⟨hi4, h4⟩
  ·exact hd.inj i j l1 l2 o1 o2 k h1 h2 h3 h4 w1 w2
  ·have := lt_of_get h2; omega
  ·have := lt_of_get h1; omega
  ·have := lt_of_get h1; omega
  ·have := lt_of_get h4; omega
  ·subst h2; subst h4; simp [own] at w2; subst w2; exact absurd rfl (halone i l1 o1 b h1 h3 w1)
  ·have := lt_of_get h1; omega
  ·have := lt_of_get h1; omega
  ·have := lt_of_get h3; omega
  ·have := lt_of_get h2; omega
  ·subst h1; subst h3; simp [own] at w1; subst w1; exact absurd rfl (halone j l2 o2 b h2 h4 w2)
  ·have := lt_of_get h2; omega
  ·omega
  ·omega
  ·omega
  ·omega
 ·intro i l' o' k h1 h2 w1
  rcases get_app h1 with h1 | ⟨hi, h1⟩
  ·rcases get_app h2 with h2 | ⟨hi2, h2⟩
   ·exact hd.mpo i l' o' k h1 h2 w1
   ·have := lt_of_get h1; have := hd.len; omega
  ·rcases get_app h2 with h2 | ⟨hi2, h2⟩
   ·have := lt_of_get h2; have := hd.len; omega
   ·subst h1; subst h2; simp [own] at w1; subst w1; exact h.mpo id _ _ b hl hs rfl
theorem SRel.vgrown (h : SRel m loc σ w) (n0 : Nat) {w' : World} {id sz len n b : Nat} {f : Nat → Option (Option Nat)} {cells cells' : List AV} {arr' : Array Value} {t : TypeId}
  (hl : loc[id]? = some (.tok sz f)) (hs : σ[id]? = some (.vec sz len cells)) (hn : 0 < n)
  (hw : ∀ k, k < w.heap.size → f len ≠ some (some k) → w'.heap[k]? = w.heap[k]?) (hsize : w.heap.size ≤ w'.heap.size)
  (hb : f len = some (some b) ∨ (w.heap.size ≤ b ∧ b < w'.heap.size))
  (harr : w'.heap[b]? = some (.cells arr' t (0, 0))) (hbs : ∀ q, m.bs b = some q → q = arr'.size)
  (hold : ∀ k, f len = some (some k) → k ≠ b → w'.heap[k]? = w.heap[k]?)
  (hcl : cells'.length = (len + n) * sz) (hca : cells'.length ≤ arr'.size) (hrel : ∀ (j : Nat) x v, cells'[j]? = some x → arr'[j]? = some v → Rel m loc x v)
  (h1 : w'.os = w.os) (h2 : w'.tape = w.tape) (h3 : w'.output = w.output) (h4 : w.drawn ≤ w'.drawn) :
  ∃ m' f', SRel m' (loc.set id (.tok sz f')) (σ.set id (.vec sz (len + n) cells')) w' ∧ Ext n0 m loc w m' (loc.set id (.tok sz f')) w' ∧ f' (len + n) = some (some b) ∧ m'.bs b = some arr'.size := by
 obtain ⟨_, hcl0, hf, hcur⟩ := h.obj id _ _ hl hs
 let f' : Nat → Option (Option Nat) := fun k => if k = len + n then some (some b) else f k
 let m' : Mem := { im := m.im, bs := fun k => if k = b then some arr'.size else m.bs k, mp := m.mp, wk := m.wk, base := m.base }
 have hle : m.le m' := by
  refine ⟨fun k off v e => e, fun k q e => ?_, fun k q e => e, fun _ _ _ e => e, rfl⟩
  simp only [m']; split
  ·rename_i hk; subst hk; rw [hbs _ e]
  ·exact e
 have hll : (Loc.tok sz f).le (.tok sz f') := ⟨rfl, fun k r e => by
  simp only [f']; split
  ·rename_i hk; rw [hf k (by omega)] at e; simp at e
  ·exact e⟩
 have hown : ∀ k, own (.tok sz f) (.vec sz len cells) = some k ↔ f len = some (some k) := by
  intro k; simp only [own]
  cases hq : f len with
  | none => simp
  | some r => simp
 have him0 : ∀ k off, f len = some (some k) → m.im k off = none := by
  intro k off hk
  rcases hcur with ⟨q, _⟩ | ⟨b', arr, t', q1, q2, q3, q4, q5, q6⟩
  ·rw [q] at hk; simp at hk
  ·rw [q1] at hk; injection hk with hk; injection hk with hk; subst hk; exact q6 off
 have hnew : ∀ off, m.im b off = none := by
  intro off
  rcases hb with hb | hb
  ·exact him0 b off hb
  ·cases hq : m.im b off with
   | none => rfl
   | some v => have := h.im_lt hq; omega
 have key := h.turn n0 (m' := m') (w' := w') (l' := .tok sz f') (.vec sz (len + n) cells') hl hs hle hll (fun k hk hko => hw k hk (fun e => hko ((hown k).2 e))) hsize (fun _ _ _ _ => rfl) ?_ ?_ ?_ ?_ ?_ h1 h2 h3 h4
 ·exact ⟨m', f', key.1, key.2, by simp [f'], by simp [m']⟩
 ·intro k off v hk e
  have e : m.im k off = some v := e
  rcases hk with hk | hk
  ·rw [him0 k off ((hown k).1 hk)] at e; simp at e
  ·have := h.im_lt e; omega
 ·intro k q e
  simp only [m'] at e
  split at e
  ·rename_i hkb; subst hkb; injection e with e
   exact .inr ⟨arr', t, (0, 0), harr, e⟩
  ·rename_i hkb
   by_cases hko : own (.tok sz f) (.vec sz len cells) = some k
   ·obtain ⟨arr, t', fz, e1, e2⟩ := h.bs _ _ e
    exact .inr ⟨arr, t', fz, by rw [hold k ((hown k).1 hko) hkb]; exact e1, e2⟩
   ·exact .inl ⟨e, hko⟩
 ·rintro k ⟨sz', g, q, e, hq⟩
  injection e with e1 e2; subst e2
  simp only [f'] at hq
  split at hq
  ·injection hq with hq; injection hq with hq; subst hq
   rcases hb with hb | hb
   ·exact .inl ⟨id, .inr ⟨sz, f, len, hl, hb⟩⟩
   ·exact .inr hb
  ·exact .inl ⟨id, .inr ⟨sz, f, q, hl, hq⟩⟩
 ·intro k e
  simp [own, f'] at e; subst e
  rcases hb with hb | hb
  ·exact .inl ((hown b).2 hb)
  ·exact .inr hb.1
 ·refine ⟨rfl, hcl, fun k hk => by simp only [f']; rw [if_neg (by omega)]; exact hf k (by omega), .inr ⟨b, arr', t, by simp [f'], harr, by simp [m'], hca, fun j x v e1 e2 => (hrel j x v e1 e2).mono hle (.set hl hll), hnew⟩⟩
theorem good_append {t u e : TypeId} {d : TypeDesc} {i : TypeInfo} {ty : TypeId} {x y : AV} {a b : Value} {own : Bool} {z : Value} (hs : SRel m loc σ w) (hu : P.underlying t = some (.slice e)) (hd : P.underlying u = some d)
  (hni : ∀ k, d ≠ .int k) (hi : P.info? e = some i) (hz : i.zero = some z) (hzs : z.cells.size = i.size) (hx : Rel m loc x a) (hy : Rel m loc y b)
  (h : aAppend i.size i.bytes x y own σ K) : GoodV P m loc w K (Builtin.append_ #[t, u] ty #[a, b]) := by
 unfold aAppend appC at h
 obtain ⟨ys, vs, ⟨hl1, hpos, hk⟩, hcell, hread⟩ := read_elems (P := P) hs hy h (fun ys q => fun e he => (q.1 e he).1)
 clear h
 obtain ⟨hlen, hnew⟩ := hread w rfl
 obtain ⟨_, hnewd⟩ := hread w.drew rfl
 have hl : ∀ e ∈ ys, e.length = i.size := fun e he => (hl1 e he).1
 have hfl := flat_length ys hl
 have hvl : vs.length = ys.length * i.size := by rw [hcell.1, hfl]
 have hone : ∀ v ∈ vs, v.oneCell' = true := by
  intro v hv
  obtain ⟨j, hj, rfl⟩ := List.mem_iff_getElem.1 hv
  have hj2 : j < ys.flatten.length := by rw [← hcell.1]; exact hj
  have h1 := hcell.2 j _ _ (List.getElem?_eq_getElem hj2) (List.getElem?_eq_getElem hj)
  refine rel_one h1 ?_
  have hm : ys.flatten[j] ∈ ys.flatten := List.getElem_mem hj2
  obtain ⟨e, he, hxe⟩ := List.mem_flatten.1 hm
  exact List.all_eq_true.1 (hl1 e he).2 _ hxe
 have hsd : SRel m loc σ w.drew := hs.heap_same rfl
 have hed : Ext loc.length m loc w m loc w.drew := .heap_same rfl rfl rfl rfl (Nat.le_succ _)
 have hfc0 : ∀ (ad : Option Addr) (w2 : World), (Builtin.firstCells i.size 0 (.slice ad 0 0)).run P w2 = .ok ([] : List Value).toArray w2 := by
  intro ad w2
  cases ad with
  | none => rfl
  | some a => unfold Builtin.firstCells; rw [Nat.zero_mul]; rfl
 have empty : ∀ (ad : Option Addr), (bigLen ys.length i.bytes ∧ (if own then K (.ref σ.length i.size 0 ys.length) (σ ++ [.row ys.flatten]) else K (.slice (.grow σ.length) ys) (σ ++ [.grow i.size ys.length]))) →
   GoodV P m loc w K (Builtin.append_ #[t, u] ty #[.slice ad 0 0, b]) := by
  rintro ad ⟨hfit, hK⟩
  rcases Nat.eq_zero_or_pos ys.length with hn | hn
  ·have hys : ys = [] := List.eq_nil_of_length_eq_zero hn
   subst hys
   have hvs : vs = [] := List.eq_nil_of_length_eq_zero (by simpa using hvl)
   subst hvs
   have r : (Builtin.append_ #[t, u] ty #[.slice ad 0 0, b]).run P w = .ok (.slice ad 0 0) w := by
    rw [run_append_in (P := P) (w := w) (n := 0) (new := #[]) hu hd hni hi (Nat.le_refl _) hlen hnew]
    cases ad <;> rfl
   cases own with
   | false =>
    obtain ⟨g1, g2⟩ := hs.tok0 loc.length i.size
    exact ⟨_, _, _, _, _, _, r, hK, rel_tok0 i.size ad hs, g1, g2⟩
   | true =>
    obtain ⟨g1, g2⟩ := hs.row0 loc.length
    exact ⟨_, _, _, _, _, _, r, hK, .ref0 _ _ _ _ (by rw [← hs.len]; simp), g1, g2⟩
  ·obtain ⟨nc, rest, h1, h2, h3⟩ := run_append_new (P := P) (w := w) (ty := ty) (a := ad) (len := 0) (cap := 0) hu hd hni hi hz hzs (by omega) (by rw [Nat.zero_add]; exact hfit) hlen hnewd (hfc0 ad _)
   simp only [Nat.zero_add, List.nil_append, List.toList_toArray] at h1 h2 h3
   have hfitc : nc * i.size ≤ (vs ++ rest).length := by
    rw [List.length_append, hvl, h2, ← Nat.add_mul]; exact Nat.mul_le_mul_right _ (by omega)
   cases own with
   | false =>
    obtain ⟨m', loc', g1, g2, g3⟩ := new_grow (rest := rest) (t := e) hsd hl hcell nc h1 hfitc
    exact ⟨_, _, _, _, m', loc', h3, hK, g1, g2, hed.trans g3⟩
   | true =>
    obtain ⟨m', loc', g1, g2, g3⟩ := new_row (rest := rest) (t := e) i.size ys.length nc hsd hcell h1 hfitc
    exact ⟨_, _, _, _, m', loc', h3, hK, g1, g2, hed.trans g3⟩
 split at hk
 ·-- nil
  cases hx with
  | slice tok elems ad cap sz bb o f hcap htok hsz ha hc hr =>
   obtain ⟨rfl, rfl⟩ := htok
   exact empty none hk
 ·-- no capacity
  cases hx with
  | slice tok elems ad cap sz bb o f hcap htok hsz ha hc hr =>
   have htok : cap = 0 := htok
   subst htok
   exact empty ad hk
 ·-- a right to append
  rename_i id xs
  obtain ⟨rfl, hσ, hfit, hK⟩ := hk
  cases hx with
  | slice tok elems ad cap sz bb o f hcap htok hsz ha hc hr =>
   obtain ⟨sz', f', hloc, hsz2, htok⟩ := htok
   obtain ⟨rfl, hff, hcur⟩ := hs.obj _ _ _ hloc hσ
   have hsz3 : ∀ e ∈ xs, e.length = i.size := fun e he => by rw [hsz e he]; exact hsz2 (List.length_pos_of_mem he)
   rcases Nat.eq_zero_or_pos ys.length with hn | hn
   ·-- nothing is appended
    have hys : ys = [] := List.eq_nil_of_length_eq_zero hn
    subst hys
    have hvs : vs = [] := List.eq_nil_of_length_eq_zero (by simpa using hvl)
    subst hvs
    have r : (Builtin.append_ #[t, u] ty #[.slice ad xs.length cap, b]).run P w = .ok (.slice ad xs.length cap) w := by
     rw [run_append_in (P := P) (w := w) (n := 0) (new := #[]) hu hd hni hi hcap hlen hnew]
     cases ad <;> rfl
    simp only [List.append_nil, List.length_nil, Nat.add_zero] at hK
    rw [set_same hσ] at hK
    exact .same hs r hK (.slice (.grow id) xs ad cap sz bb o f hcap ⟨_, f', hloc, hsz2, htok⟩ hsz ha hc hr)
   ·have hall : ∀ e ∈ xs ++ ys, e.length = i.size := by
     intro e he; rcases List.mem_append.1 he with he | he
     ·exact hsz3 e he
     ·exact hl e he
    obtain ⟨xs', olds, hxx, hco, hro⟩ := read_elems (P := P) (esz := i.size) (Q := fun l => l = xs) hs (.slice (.grow id) xs ad cap sz bb o f hcap ⟨_, f', hloc, hsz2, htok⟩ hsz ha hc hr) rfl (fun l q => by rw [q]; exact hsz3)
    have hxx : xs' = xs := hxx
    subst hxx
    have hol : olds.length = xs'.length * i.size := by rw [hco.1, flat_length xs' hsz3]
    have hcc : Cells m loc (xs' ++ ys).flatten (olds ++ vs) := by rw [List.flatten_append]; exact hco.append hcell
    have hcl : (olds ++ vs).length = (xs'.length + ys.length) * i.size := by rw [List.length_append, hol, hvl, Nat.add_mul]
    by_cases hle : xs'.length + ys.length ≤ cap
    ·-- within the capacity
     rcases htok with ⟨_, h0⟩ | ⟨bk, q, h1, h2, h3, h4⟩
     ·omega
     ·subst h2
      rcases hcur with ⟨h5, _⟩ | ⟨bk', arr, tt, h5, h6, h7, h8⟩
      ·rw [h1] at h5; simp at h5
      ·rw [h1] at h5; injection h5 with h5; injection h5 with h5; subst h5
       have hq : q = arr.size := by rw [h3] at h7; injection h7
       subst hq
       have hfitq : (xs'.length + ys.length) * i.size ≤ arr.size := Nat.le_trans (Nat.mul_le_mul_right _ hle) h4.1
       have hoa : ∀ (j : Nat) v, olds[j]? = some v → arr[j]? = some v := by
        intro j v hj
        have hj2 := lt_of_get hj
        have r1 := (hro w rfl).2
        unfold Builtin.firstCells at r1
        simp only at r1
        have hlc : ∀ k (u : Value), (arr.toList.take (xs'.length * i.size))[k]? = some u → w.cell? ⟨bk, 0 + k, none⟩ = some u := by
         intro k u hk
         rw [Nat.zero_add]
         have := (List.getElem?_take (l := arr.toList) (i := xs'.length * i.size) (j := k)).symm.trans hk
         split at this
         ·simp only [World.cell?, h6, Option.isSome_none, Bool.false_eq_true, if_false]; simpa using this
         ·simp at this
        have r2 := run_loadMany (P := P) (w := w) (b := bk) (o := 0) (n := xs'.length * i.size) (vs := arr.toList.take (xs'.length * i.size)) (by
         simp; have := Nat.mul_le_mul_right i.size (Nat.le_add_right xs'.length ys.length); omega) hlc
        rw [r1] at r2
        injection r2 with r2 _
        have r3 : olds = arr.toList.take (xs'.length * i.size) := by simpa using congrArg Array.toList r2
        rw [r3, List.getElem?_take] at hj
        split at hj
        ·simpa using hj
        ·simp at hj
       have hst := run_storeCells_at P bk (xs'.length * i.size) tt vs 0 arr w h6 (by rw [Nat.add_zero, hvl, ← Nat.add_mul]; exact hfitq) hone
       simp only [Nat.add_zero] at hst
       have hrun : (Builtin.append_ #[t, u] ty #[.slice (some ⟨bk, 0, none⟩) xs'.length cap, b]).run P w = .ok (.slice (some ⟨bk, 0, none⟩) (xs'.length + ys.length) cap)
         (w.setRow bk (arr.toList.take (xs'.length * i.size) ++ vs ++ arr.toList.drop (xs'.length * i.size + vs.length)).toArray) := by
        rw [run_append_in (P := P) (w := w) hu hd hni hi hle hlen hnew]
        simp only [add_at, Nat.zero_add, hst, Result.andThen_ok]
       have hfitv : xs'.length * i.size + vs.length ≤ arr.toList.length := by rw [hvl, ← Nat.add_mul]; simpa using hfitq
       have hsizev : (arr.toList.take (xs'.length * i.size) ++ vs ++ arr.toList.drop (xs'.length * i.size + vs.length)).toArray.size = arr.size := by
        simp at hfitv ⊢; omega
       have hbk : bk < w.heap.size := hs.lt bk ⟨id, .inr ⟨_, f', _, hloc, h1⟩⟩
       have side1 : ∀ (j : Nat) v, (olds ++ vs)[j]? = some v → (arr.toList.take (xs'.length * i.size) ++ vs ++ arr.toList.drop (xs'.length * i.size + vs.length)).toArray[j]? = some v := by
        intro j v hj
        rw [List.getElem?_toArray, take_drop_get _ _ _ _ hfitv]
        by_cases hjo : j < olds.length
        ·rw [List.getElem?_append_left hjo] at hj
         rw [if_pos (by omega)]; simpa using hoa j v hj
        ·rw [List.getElem?_append_right (by omega)] at hj
         have := lt_of_get hj
         rw [if_neg (by omega), if_pos (by omega), ← hol]; exact hj
       have side2 : ∀ off v, m.im bk off = some v → (olds ++ vs)[off]? = some v := by
        intro off v hv
        have hlt : off < xs'.length * i.size := by
         rcases Nat.lt_or_ge off (xs'.length * i.size) with q | q
         ·exact q
         ·rw [h8 off (by rw [Nat.mul_comm]; exact q)] at hv; simp at hv
        rw [List.getElem?_append_left (by omega)]
        have e1 := hs.im _ _ _ hv
        simp [World.cell?, h6] at e1
        have e2 : olds[off]? = some (olds[off]'(by omega)) := List.getElem?_eq_getElem _
        have e3 := hoa off _ e2
        rw [e3] at e1
        rw [e2]; exact e1
       obtain ⟨m', f'', g1, g2, g3, g4, g5, g6, g7⟩ := hs.grown loc.length (w' := w.setRow bk (arr.toList.take (xs'.length * i.size) ++ vs ++ arr.toList.drop (xs'.length * i.size + vs.length)).toArray)
        (b := bk) (vs := olds ++ vs) (arr' := (arr.toList.take (xs'.length * i.size) ++ vs ++ arr.toList.drop (xs'.length * i.size + vs.length)).toArray) (t := tt) hloc hσ hn
        (fun k _ hk => setRow_other w bk k _ (fun e => hk (by subst e; simp [Ahl.own, h1]))) (by rw [setRow_size]; exact Nat.le_refl _) (.inl h1) (fun k h1 h2 => by rw [setRow_size] at h2; omega) (setRow_heap w bk arr _ tt (0, 0) h6)
        (fun q hq => by rw [h3] at hq; injection hq with hq; rw [← hq, hsizev]) side1 hcl side2 (fun k hk hne => setRow_other w bk k _ hne) rfl rfl rfl (by simp)
       refine ⟨_, _, _, _, m', _, hrun, hK, ?_, g1, g2⟩
       rw [show xs'.length + ys.length = (xs' ++ ys).length by simp] at g3 hle ⊢
       exact rel_slice_flat (b := bk) (vs := olds ++ vs) hle ⟨_, f'', by rw [List.getElem?_set_self (lt_of_get hloc)], fun _ => rfl, .inr ⟨bk, _, g3, rfl, g4, by rw [hsizev]; exact h4.1, g1.tokb (List.getElem?_set_self (lt_of_get hloc)) g3⟩⟩ hall (fun _ => rfl) (hcc.mono g6 g7) g5
    ·-- a new row
     obtain ⟨nc, rest, h1, h2, h3⟩ := run_append_new (P := P) (w := w) (ty := ty) (a := ad) (len := xs'.length) (cap := cap) hu hd hni hi hz hzs (by omega) hfit hlen hnewd (hro w.drew rfl).2
     simp only [List.toList_toArray] at h3
     have hpush : ∀ k, k ≠ w.heap.size → (w.drew.alloc (.cells (olds ++ vs ++ rest).toArray e)).heap[k]? = w.heap[k]? := by
      intro k hk
      rw [show (w.drew.alloc (.cells (olds ++ vs ++ rest).toArray e)).heap = w.heap.push (.cells (olds ++ vs ++ rest).toArray e) from rfl, Array.getElem?_push, if_neg hk]
     have hnewb : (w.drew.alloc (.cells (olds ++ vs ++ rest).toArray e)).heap[w.heap.size]? = some (.cells (olds ++ vs ++ rest).toArray e (0, 0)) := by
      show (w.heap.push _)[w.heap.size]? = _; simp
     have hfitc : nc * i.size ≤ (olds ++ vs ++ rest).toArray.size := by
      simp only [List.size_toArray]
      rw [List.length_append, hcl, h2, ← Nat.add_mul]; exact Nat.mul_le_mul_right _ (by omega)
     obtain ⟨m', f'', g1, g2, g3, g4, g5, g6, g7⟩ := hsd.grown loc.length (w' := w.drew.alloc (.cells (olds ++ vs ++ rest).toArray e))
      (b := w.heap.size) (vs := olds ++ vs) (arr' := (olds ++ vs ++ rest).toArray) (t := e) hloc hσ hn
      (fun k hk _ => hpush k (by simp at hk; omega)) (by simp) (.inr ⟨by simp, by simp⟩) (fun k h1 h2 => by simp at h1 h2; omega) hnewb
      (fun q hq => by have := hs.bs_lt hq; omega) (fun j v hj => by rw [List.getElem?_toArray, List.getElem?_append_left (lt_of_get hj)]; exact hj) hcl (fun off v hv => by have := hs.im_lt hv; omega)
      (fun k _ hne => hpush k hne) rfl rfl rfl (Nat.le_refl _)
     refine ⟨_, _, _, _, m', _, h3, hK, ?_, g1, hed.trans g2⟩
     rw [show xs'.length + ys.length = (xs' ++ ys).length by simp] at g3 h1 ⊢
     exact rel_slice_flat (b := w.heap.size) (vs := olds ++ vs) h1 ⟨_, f'', by rw [List.getElem?_set_self (lt_of_get hloc)], fun _ => rfl, .inr ⟨w.heap.size, _, g3, rfl, g4, hfitc, g1.tokb (List.getElem?_set_self (lt_of_get hloc)) g3⟩⟩ hall (fun _ => rfl) (hcc.mono g6 g7) g5
 ·-- a row of one's own
  rename_i id sz len
  obtain ⟨rfl, cells, hσ, hcl, hfit, hK⟩ := hk
  have hlenσ : (σ.set id .dead).length = σ.length := by simp
  have hout : ∀ ad, len = 0 → GoodV P m loc w K (Builtin.append_ #[t, u] ty #[.slice ad 0 0, b]) := by
   rintro ad rfl
   have hc0 : cells = [] := List.eq_nil_of_length_eq_zero (by simpa using hcl)
   subst hc0
   simp only [Nat.zero_add, List.nil_append] at hK hfit
   rcases Nat.eq_zero_or_pos ys.length with hn | hn
   ·have hys : ys = [] := List.eq_nil_of_length_eq_zero hn
    subst hys
    have hvs : vs = [] := List.eq_nil_of_length_eq_zero (by simpa using hvl)
    subst hvs
    have r : (Builtin.append_ #[t, u] ty #[.slice ad 0 0, b]).run P w = .ok (.slice ad 0 0) w := by
     rw [run_append_in (P := P) (w := w) (n := 0) (new := #[]) hu hd hni hi (Nat.le_refl _) hlen hnew]
     cases ad <;> rfl
    obtain ⟨g1, g2⟩ := (hs.die id).row0 loc.length
    exact ⟨_, _, _, _, _, _, r, hK, .ref0 _ _ _ _ (by rw [← hs.len]; simp), g1, g2⟩
   ·obtain ⟨nc, rest, h1, h2, h3⟩ := run_append_new (P := P) (w := w) (ty := ty) (a := ad) (len := 0) (cap := 0) hu hd hni hi hz hzs (by omega) (by rw [Nat.zero_add]; exact hfit) hlen hnewd (hfc0 ad _)
    simp only [Nat.zero_add, List.nil_append, List.toList_toArray] at h1 h2 h3
    have hfitc : nc * i.size ≤ (vs ++ rest).length := by
     rw [List.length_append, hvl, h2, ← Nat.add_mul]; exact Nat.mul_le_mul_right _ (by omega)
    obtain ⟨m', loc', g1, g2, g3⟩ := new_row (rest := rest) (t := e) i.size ys.length nc (hsd.die id) hcell h1 hfitc
    rw [hlenσ] at g1
    exact ⟨_, _, _, _, m', loc', h3, hK, g1, g2, hed.trans g3⟩
  cases hx with
  | ref0 _ _ _ ad _ => exact hout ad rfl
  | ref _ _ _ _ cap bk n hloc hcap hbs hbn =>
   obtain ⟨arr, tt, e1, e2, e3, e4, e5⟩ := hs.obj _ _ _ hloc hσ
   have hn : n = arr.size := by rw [e2] at hbs; injection hbs with hbs; exact hbs.symm
   subst hn
   have hol : (arr.toList.take (len * i.size)).length = cells.length := by simp; omega
   have hco : Cells m loc cells (arr.toList.take (len * i.size)) := by
    refine ⟨hol, fun j x v h1 h2 => e4 j x v h1 ?_⟩
    rw [List.getElem?_take] at h2
    split at h2
    ·simpa using h2
    ·simp at h2
   have hcc : Cells m loc (cells ++ ys.flatten) (arr.toList.take (len * i.size) ++ vs) := hco.append hcell
   have hro : ∀ w2 : World, w2.heap = w.heap → (Builtin.firstCells i.size len (.slice (some ⟨bk, 0, none⟩) len cap)).run P w2 = .ok (arr.toList.take (len * i.size)).toArray w2 := by
    intro w2 hh
    unfold Builtin.firstCells
    simp only
    refine run_loadMany (by rw [hol, hcl]) ?_
    intro k u hk
    rw [Nat.zero_add]
    rw [List.getElem?_take] at hk
    split at hk
    ·simp only [World.cell?, hh, e1, Option.isSome_none, Bool.false_eq_true, if_false]; simpa using hk
    ·simp at hk
   rcases Nat.eq_zero_or_pos ys.length with hn | hn
   ·have hys : ys = [] := List.eq_nil_of_length_eq_zero hn
    subst hys
    have hvs : vs = [] := List.eq_nil_of_length_eq_zero (by simpa using hvl)
    subst hvs
    have r : (Builtin.append_ #[t, u] ty #[.slice (some ⟨bk, 0, none⟩) len cap, b]).run P w = .ok (.slice (some ⟨bk, 0, none⟩) len cap) w := by
     rw [run_append_in (P := P) (w := w) (n := 0) (new := #[]) hu hd hni hi hcap hlen hnew]
     rfl
    obtain ⟨g1, g2⟩ := hs.reown loc.length hloc hσ
    simp only [List.length_nil, Nat.add_zero, List.flatten_nil, List.append_nil] at hK
    exact ⟨_, _, _, _, _, _, r, hK, .ref _ _ _ _ cap bk arr.size (by rw [← hs.len]; simp) hcap hbs hbn, g1, g2⟩
   ·by_cases hle : len + ys.length ≤ cap
    ·have hfitq : (len + ys.length) * i.size ≤ arr.size := Nat.le_trans (Nat.mul_le_mul_right _ hle) (by omega)
     have hst := run_storeCells_at P bk (len * i.size) tt vs 0 arr w e1 (by rw [Nat.add_zero, hvl, ← Nat.add_mul]; exact hfitq) hone
     simp only [Nat.add_zero] at hst
     have hfitv : len * i.size + vs.length ≤ arr.toList.length := by rw [hvl, ← Nat.add_mul]; simpa using hfitq
     let arr' := (arr.toList.take (len * i.size) ++ vs ++ arr.toList.drop (len * i.size + vs.length)).toArray
     have hsizev : arr'.size = arr.size := by
      simp [arr'] at hfitv ⊢; omega
     have hrun : (Builtin.append_ #[t, u] ty #[.slice (some ⟨bk, 0, none⟩) len cap, b]).run P w = .ok (.slice (some ⟨bk, 0, none⟩) (len + ys.length) cap) (w.setRow bk arr') := by
      rw [run_append_in (P := P) (w := w) hu hd hni hi hle hlen hnew]
      simp only [add_at, Nat.zero_add, hst, Result.andThen_ok, arr']
     have hbk : bk < w.heap.size := hs.lt bk ⟨id, .inl hloc⟩
     have key := hs.turn loc.length (m' := m) (w' := w.setRow bk arr') (l' := .blk bk) (.row (cells ++ ys.flatten)) hloc hσ (.refl m) (.refl _)
      (fun k _ hk => setRow_other w bk k _ (fun q => hk (by subst q; rfl))) (by rw [setRow_size]; exact Nat.le_refl _) (fun _ _ _ _ => rfl) ?_ ?_ ?_ (fun b' q => .inl q) ?_ rfl rfl rfl (by simp)
     ·rw [set_same hloc] at key
      obtain ⟨k1, k2⟩ := key
      have hσ' : (σ.set id (.row (cells ++ ys.flatten)))[id]? = some (.row (cells ++ ys.flatten)) := List.getElem?_set_self (lt_of_get hσ)
      obtain ⟨g1, g2⟩ := k1.reown loc.length hloc hσ'
      rw [List.set_set] at g1
      exact ⟨_, _, _, _, _, _, hrun, hK, .ref _ _ _ _ cap bk arr.size (by rw [← hs.len]; simp) hle hbs hbn, g1, k2.trans g2⟩
     ·intro k off' v' hk e'
      rcases hk with hk | hk
      ·simp [Ahl.own] at hk; subst hk; rw [e5] at e'; simp at e'
      ·have := hs.im_lt e'; omega
     ·intro k n hn
      by_cases hk : k = bk
      ·subst hk
       rw [e2] at hn; injection hn with hn
       exact .inr ⟨_, tt, _, setRow_heap w k arr _ tt (0, 0) e1, by rw [hsizev]; exact hn⟩
      ·exact .inl ⟨hn, by simp [Ahl.own]; omega⟩
     ·rintro b' ⟨sz, f, k, q, _⟩; simp at q
     ·rw [set_same hloc]
      refine ⟨arr', tt, setRow_heap w bk arr _ tt (0, 0) e1, by rw [hsizev]; exact e2, by rw [hsizev, List.length_append, hcl, hfl, ← Nat.add_mul]; exact hfitq, ?_, e5⟩
      intro j y u hj hu
      have hu2 : (arr.toList.take (len * i.size) ++ vs ++ arr.toList.drop (len * i.size + vs.length))[j]? = some u := by simpa [arr'] using hu
      rw [List.getElem?_append_left (by rw [hcc.1]; exact lt_of_get hj)] at hu2
      exact hcc.2 j y u hj hu2
    ·obtain ⟨nc, rest, h1, h2, h3⟩ := run_append_new (P := P) (w := w) (ty := ty) (a := some ⟨bk, 0, none⟩) (len := len) (cap := cap) hu hd hni hi hz hzs (by omega) hfit hlen hnewd (hro w.drew rfl)
     simp only [List.toList_toArray] at h3
     have hfitc : nc * i.size ≤ (arr.toList.take (len * i.size) ++ vs ++ rest).length := by
      rw [List.length_append, List.length_append, hol, hcl, hvl, h2, ← Nat.add_mul, ← Nat.add_mul]; exact Nat.mul_le_mul_right _ (by omega)
     obtain ⟨m', loc', g1, g2, g3⟩ := new_row (rest := rest) (t := e) i.size (len + ys.length) nc (hsd.die id) hcc h1 hfitc
     rw [hlenσ] at g1
     exact ⟨_, _, _, _, m', loc', h3, hK, g1, g2, hed.trans g3⟩
 ·-- a row that grows in its place
  rename_i id sz len
  obtain ⟨rfl, cells, hσ, hfit, hK⟩ := hk
  cases hx with
  | vec _ _ _ cap f ad hloc hcap hh =>
   have hcur := hs.obj _ _ _ hloc hσ
   obtain ⟨_, hcl, hff, hcur⟩ := hcur
   rcases Nat.eq_zero_or_pos ys.length with hn | hn
   ·have hys : ys = [] := List.eq_nil_of_length_eq_zero hn
    subst hys
    have hvs : vs = [] := List.eq_nil_of_length_eq_zero (by simpa using hvl)
    subst hvs
    have r : (Builtin.append_ #[t, u] ty #[.slice ad len cap, b]).run P w = .ok (.slice ad len cap) w := by
     rw [run_append_in (P := P) (w := w) (n := 0) (new := #[]) hu hd hni hi hcap hlen hnew]
     cases ad <;> rfl
    simp only [List.length_nil, Nat.add_zero, List.flatten_nil, List.append_nil] at hK
    rw [set_same hσ] at hK
    exact .same hs r hK (.vec _ _ _ cap f ad hloc hcap hh)
   ·rcases hh with ⟨hf0, hc0⟩ | ⟨bk, q, hf1, hf2, hf3, hf4⟩
    ·-- there was nothing
     subst hc0
     have hl0 : len = 0 := by omega
     subst hl0
     have hcells : cells = [] := List.eq_nil_of_length_eq_zero (by simpa using hcl)
     subst hcells
     obtain ⟨nc, rest, h1, h2, h3⟩ := run_append_new (P := P) (w := w) (ty := ty) (a := ad) (len := 0) (cap := 0) hu hd hni hi hz hzs (by omega) (by rw [Nat.zero_add] at hfit ⊢; exact hfit) hlen hnewd (hfc0 ad _)
     simp only [List.nil_append, List.toList_toArray] at h1 h2 h3
     have hnewb : (w.drew.alloc (.cells (vs ++ rest).toArray e)).heap[w.heap.size]? = some (.cells (vs ++ rest).toArray e (0, 0)) := by
      show (w.heap.push _)[w.heap.size]? = _; simp
     have hpush : ∀ k, k ≠ w.heap.size → (w.drew.alloc (.cells (vs ++ rest).toArray e)).heap[k]? = w.heap[k]? := by
      intro k hk
      rw [show (w.drew.alloc (.cells (vs ++ rest).toArray e)).heap = w.heap.push (.cells (vs ++ rest).toArray e) from rfl, Array.getElem?_push, if_neg hk]
     obtain ⟨m', f'', g1, g2, g3, g4⟩ := hsd.vgrown loc.length (w' := w.drew.alloc (.cells (vs ++ rest).toArray e)) (b := w.heap.size) (cells' := [] ++ ys.flatten) (arr' := (vs ++ rest).toArray) (t := e) hloc hσ hn
      (fun k hk _ => hpush k (by simp at hk; omega)) (by simp) (.inr ⟨by simp, by simp⟩) hnewb (fun q hq => by have := hs.bs_lt hq; omega) (fun k _ hne => hpush k hne)
      (by rw [List.nil_append, hfl, Nat.zero_add]) (by rw [List.nil_append, hfl, ← hvl]; simp) (fun j x v e1 e2 => by
       rw [List.nil_append] at e1
       rw [List.getElem?_toArray, List.getElem?_append_left (by rw [hcell.1]; exact lt_of_get e1)] at e2
       exact hcell.2 j x v e1 e2) rfl rfl rfl (Nat.le_refl _)
     refine ⟨_, _, _, _, m', _, h3, hK, .vec _ _ _ nc f'' _ (by rw [List.getElem?_set_self (lt_of_get hloc)]) (by omega) (.inr ⟨w.heap.size, _, g3, rfl, g4, ?_⟩), g1, hed.trans g2⟩
     simp only [List.size_toArray]
     rw [List.length_append, hvl, h2, ← Nat.add_mul]; exact Nat.mul_le_mul_right _ (by omega)
    ·subst hf2
     rcases hcur with ⟨h5, _⟩ | ⟨bk', arr, tt, h5, e1, e2, e3, e4, e5⟩
     ·rw [hf1] at h5; simp at h5
     ·rw [hf1] at h5; injection h5 with h5; injection h5 with h5; subst h5
      have hq : q = arr.size := by rw [e2] at hf3; injection hf3 with hf3; exact hf3.symm
      subst hq
      have hol : (arr.toList.take (len * i.size)).length = cells.length := by simp; omega
      have hco : Cells m loc cells (arr.toList.take (len * i.size)) := by
       refine ⟨hol, fun j x v h1 h2 => e4 j x v h1 ?_⟩
       rw [List.getElem?_take] at h2
       split at h2
       ·simpa using h2
       ·simp at h2
      have hcc : Cells m loc (cells ++ ys.flatten) (arr.toList.take (len * i.size) ++ vs) := hco.append hcell
      have hcl2 : (cells ++ ys.flatten).length = (len + ys.length) * i.size := by rw [List.length_append, hcl, hfl, Nat.add_mul]
      have hro : ∀ w2 : World, w2.heap = w.heap → (Builtin.firstCells i.size len (.slice (some ⟨bk, 0, none⟩) len cap)).run P w2 = .ok (arr.toList.take (len * i.size)).toArray w2 := by
       intro w2 hh
       unfold Builtin.firstCells
       simp only
       refine run_loadMany (by rw [hol, hcl]) ?_
       intro k u hk
       rw [Nat.zero_add]
       rw [List.getElem?_take] at hk
       split at hk
       ·simp only [World.cell?, hh, e1, Option.isSome_none, Bool.false_eq_true, if_false]; simpa using hk
       ·simp at hk
      by_cases hle : len + ys.length ≤ cap
      ·have hfitq : (len + ys.length) * i.size ≤ arr.size := Nat.le_trans (Nat.mul_le_mul_right _ hle) hf4
       have hst := run_storeCells_at P bk (len * i.size) tt vs 0 arr w e1 (by rw [Nat.add_zero, hvl, ← Nat.add_mul]; exact hfitq) hone
       simp only [Nat.add_zero] at hst
       have hfitv : len * i.size + vs.length ≤ arr.toList.length := by rw [hvl, ← Nat.add_mul]; simpa using hfitq
       let arr' := (arr.toList.take (len * i.size) ++ vs ++ arr.toList.drop (len * i.size + vs.length)).toArray
       have hsizev : arr'.size = arr.size := by
        simp [arr'] at hfitv ⊢; omega
       have hrun : (Builtin.append_ #[t, u] ty #[.slice (some ⟨bk, 0, none⟩) len cap, b]).run P w = .ok (.slice (some ⟨bk, 0, none⟩) (len + ys.length) cap) (w.setRow bk arr') := by
        rw [run_append_in (P := P) (w := w) hu hd hni hi hle hlen hnew]
        simp only [add_at, Nat.zero_add, hst, Result.andThen_ok, arr']
       obtain ⟨m', f'', g1, g2, g3, g4⟩ := hs.vgrown loc.length (w' := w.setRow bk arr') (b := bk) (cells' := cells ++ ys.flatten) (arr' := arr') (t := tt) hloc hσ hn
        (fun k _ hk => setRow_other w bk k _ (fun e => hk (by subst e; exact hf1))) (by rw [setRow_size]; exact Nat.le_refl _) (.inl hf1) (setRow_heap w bk arr _ tt (0, 0) e1)
        (fun q hq => by rw [e2] at hq; injection hq with hq; rw [hsizev, hq]) (fun k hk hne => setRow_other w bk k _ hne) hcl2 (by rw [hcl2, hsizev]; exact hfitq)
        (fun j y u hj hu => by
         have hu2 : (arr.toList.take (len * i.size) ++ vs ++ arr.toList.drop (len * i.size + vs.length))[j]? = some u := by simpa [arr'] using hu
         rw [List.getElem?_append_left (by rw [hcc.1]; exact lt_of_get hj)] at hu2
         exact hcc.2 j y u hj hu2) rfl rfl rfl (by simp)
       exact ⟨_, _, _, _, m', _, hrun, hK, .vec _ _ _ cap f'' _ (by rw [List.getElem?_set_self (lt_of_get hloc)]) hle (.inr ⟨bk, _, g3, rfl, g4, by rw [hsizev]; exact hf4⟩), g1, g2⟩
      ·obtain ⟨nc, rest, h1, h2, h3⟩ := run_append_new (P := P) (w := w) (ty := ty) (a := some ⟨bk, 0, none⟩) (len := len) (cap := cap) hu hd hni hi hz hzs (by omega) hfit hlen hnewd (hro w.drew rfl)
       simp only [List.toList_toArray] at h3
       have hnewb : (w.drew.alloc (.cells (arr.toList.take (len * i.size) ++ vs ++ rest).toArray e)).heap[w.heap.size]? = some (.cells (arr.toList.take (len * i.size) ++ vs ++ rest).toArray e (0, 0)) := by
        show (w.heap.push _)[w.heap.size]? = _; simp
       have hpush : ∀ k, k ≠ w.heap.size → (w.drew.alloc (.cells (arr.toList.take (len * i.size) ++ vs ++ rest).toArray e)).heap[k]? = w.heap[k]? := by
        intro k hk
        rw [show (w.drew.alloc (.cells (arr.toList.take (len * i.size) ++ vs ++ rest).toArray e)).heap = w.heap.push (.cells (arr.toList.take (len * i.size) ++ vs ++ rest).toArray e) from rfl, Array.getElem?_push, if_neg hk]
       have hszn : (arr.toList.take (len * i.size) ++ vs ++ rest).toArray.size = (len + ys.length) * i.size + rest.length := by
        simp only [List.size_toArray]
        rw [List.length_append, List.length_append, hol, hcl, hvl, Nat.add_mul]
       obtain ⟨m', f'', g1, g2, g3, g4⟩ := hsd.vgrown loc.length (w' := w.drew.alloc (.cells (arr.toList.take (len * i.size) ++ vs ++ rest).toArray e)) (b := w.heap.size) (cells' := cells ++ ys.flatten) (arr' := (arr.toList.take (len * i.size) ++ vs ++ rest).toArray) (t := e) hloc hσ hn
        (fun k hk _ => hpush k (by simp at hk; omega)) (by simp) (.inr ⟨by simp, by simp⟩) hnewb (fun q hq => by have := hs.bs_lt hq; omega) (fun k _ hne => hpush k hne) hcl2 (by rw [hcl2, hszn]; omega)
        (fun j y u hj hu => by
         rw [List.getElem?_toArray, List.getElem?_append_left (by rw [hcc.1]; exact lt_of_get hj)] at hu
         exact hcc.2 j y u hj hu) rfl rfl rfl (Nat.le_refl _)
       refine ⟨_, _, _, _, m', _, h3, hK, .vec _ _ _ nc f'' _ (by rw [List.getElem?_set_self (lt_of_get hloc)]) h1 (.inr ⟨w.heap.size, _, g3, rfl, g4, ?_⟩), g1, hed.trans g2⟩
       rw [hszn, h2, ← Nat.add_mul]; exact Nat.mul_le_mul_right _ (by omega)
 ·exact hk.elim
end
end Go.Ahl
