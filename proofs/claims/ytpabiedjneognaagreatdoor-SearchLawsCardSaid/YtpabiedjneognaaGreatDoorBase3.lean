/- Contracts of the given program's functions, and an abstract layer over the model; no condition. -/
import Derived.Laws.Externs
import Derived.Attr
import Derived.WalkKit
import Derived.ProofKit
import Derived.SizedLaws
import Derived.Carry
import Derived.Test.YtpabiedjneognaaGreatDoorProg
import Derived.Lib.Bytealg
import Derived.Test.YtpabiedjneognaaGreatDoorRows
import Derived.Shelf.SlSortCmp.NoneTotal
import Derived.Ground.SlsfProg
import Derived.Shelf.SortG.Plain
import Derived.Shelf.SortG.SortNone
import Derived.Ground.SlgnProg
import Derived.Test.YtpabiedjneognaaGreatDoorBase2
set_option maxRecDepth 20000
set_option linter.unusedVariables false
set_option linter.unusedSimpArgs false
namespace Go.Ahl
section
variable {P : Program} {m : Mem} {loc : List Loc} {σ : Store} {w : World}
theorem ArgsRel.two {a b : AV} {vs : Array Value} (h : ArgsRel m loc [a, b] vs) : ∃ v u, vs = #[v, u] ∧ Rel m loc a v ∧ Rel m loc b u := by
 obtain ⟨hs, h⟩ := h
 match vs, hs, h with
 | ⟨[v, u]⟩, _, h => exact ⟨v, u, rfl, h 0 a v rfl rfl, h 1 b u rfl rfl⟩
 | ⟨[]⟩, hs, _ => simp at hs
 | ⟨[_]⟩, hs, _ => simp at hs
 | ⟨_ :: _ :: _ :: _⟩, hs, _ => simp at hs
theorem ACalls.extern {f : FuncId} {fn : Func} {args : List AV} {x : AV} {e : Array Value → Sem Value} (hf : P.funcs[f]? = some fn) (hname : (fn.name == "runtime.NumGoroutine") = false) (hb : fn.body.isNone = true) (hn : Extern.findNext fn = none) (he : Extern.find fn = some e)
  (h : ∀ m loc w vs, ArgsRel m loc args vs → ∃ v, (e vs).run P w = .ok v w ∧ Rel m loc x v) : ACalls P f args σ (isR x σ) := by
 intro m loc w vs hs ha
 obtain ⟨v, h1, h2⟩ := h m loc w vs ha
 refine .inr ⟨v, w, ?_, x, σ, m, loc, ⟨rfl, rfl⟩, h2, hs, .refl _ _ _ _⟩
 rw [run_callFunc_extern hf hname hb hn he, h1]; rfl
theorem toList_data (b : ByteArray) : b.toList = b.data.toList := by
 have key : ∀ (n i : Nat) (r : List UInt8), b.size - i = n → ByteArray.toList.loop b i r = r.reverse ++ b.data.toList.drop i := by
  intro n
  induction n with
  | zero =>
   intro i r h
   unfold ByteArray.toList.loop
   rw [if_neg (by omega), List.drop_of_length_le (by have : b.data.toList.length = b.size := rfl; omega)]; simp
  | succ n ih =>
   intro i r h
   unfold ByteArray.toList.loop
   rw [if_pos (by omega), ih (i + 1) _ (by omega)]
   have hl : i < b.data.toList.length := by have : b.data.toList.length = b.size := rfl; omega
   rw [List.drop_eq_getElem_cons hl]
   have hg : b.get! i = b.data.toList[i] := by
    unfold ByteArray.get!
    simp [getElem!_pos b.data i (by simpa using hl)]
   rw [hg]; simp
 have := key (b.size - 0) 0 [] rfl
 simpa [ByteArray.toList] using this
theorem ba_beq (a b : ByteArray) : (a == b) = decide (a = b) := by
 have e : (a == b) = (a.data == b.data) := by cases a; cases b; rfl
 rw [e]
 by_cases h : a = b
 ·subst h; simp
 ·rw [decide_eq_false h]
  refine beq_eq_false_iff_ne.2 fun e => h ?_
  cases a; cases b; simp at e; rw [e]
def encSet (l : List ByteArray) : List (AV × AV) := l.map fun s => (.str s, .bool true)
theorem find_out (s : ByteArray) : ∀ (l : List ByteArray) (k : Nat), s ∉ l → aFind (.str s) (encSet l) k = some none
 | [], k, _ => rfl
 | t :: l, k, h => by
  have h1 : s ≠ t := fun e => h (by simp [e])
  have e : keyEq (.str s) (.str t) = some false := by simp only [keyEq, ba_beq, decide_eq_false h1]
  simp only [encSet, List.map_cons, aFind, e]
  exact find_out s l (k + 1) (fun e => h (by simp [e]))
theorem find_in (s : ByteArray) : ∀ (l : List ByteArray) (k : Nat), s ∈ l → ∃ i, aFind (.str s) (encSet l) k = some (some (i, .bool true))
 | [], k, h => by simp at h
 | t :: l, k, h => by
  by_cases h1 : s = t
  ·subst h1
   have e : keyEq (.str s) (.str s) = some true := by simp only [keyEq, ba_beq, decide_true]
   exact ⟨k, by simp only [encSet, List.map_cons, aFind, e]⟩
  ·have e : keyEq (.str s) (.str t) = some false := by simp only [keyEq, ba_beq, decide_eq_false h1]
   obtain ⟨i, hi⟩ := find_in s l (k + 1) (by simpa [h1] using h)
   exact ⟨i, by simp only [encSet, List.map_cons, aFind, e]; exact hi⟩
theorem encSet_app (l : List ByteArray) (s : ByteArray) : encSet l ++ [(.str s, .bool true)] = encSet (l ++ [s]) := by simp [encSet]
theorem ids_encSet {n : Nat} (l : List ByteArray) : IdsO n (.map (encSet l)) := by
 intro j k x e
 simp only [encSet, List.getElem?_map, Option.map_eq_some_iff] at e
 obtain ⟨t, _, e⟩ := e
 injection e with e1 e2; subst e1; subst e2
 exact ⟨.str _, .bool _⟩
end
end Go.Ahl
namespace Go.Ahl
theorem ACalls.is {P : Program} {f : FuncId} {args : List AV} {σ : Store} {v : AV} {K : Cont} (h : ACalls P f args σ (isR v σ)) (k : K v σ) : ACalls P f args σ K :=
 h.mono fun _ _ e => by rw [e.1, e.2]; exact k
end Go.Ahl
instance : LawfulBEq ByteArray where
 eq_of_beq {a b} h := by rw [Go.Ahl.ba_beq] at h; exact of_decide_eq_true h
 rfl {a} := by rw [Go.Ahl.ba_beq]; simp
namespace Go.Ahl
section
variable {n0 nt : Nat} {s s' : Slots} {σ g : Store}
theorem idsS_app (l : Store) (hσ : IdsS σ.length σ) (h : ∀ o ∈ l, IdsO (σ.length + l.length) o) : IdsS (σ ++ l).length (σ ++ l) := by
 intro i x e
 rw [List.length_append]
 rcases Nat.lt_or_ge i σ.length with hi | hi
 ·rw [List.getElem?_append_left hi] at e; exact idsO_up (by omega) (hσ i x e)
 ·rw [List.getElem?_append_right hi] at e; exact h x (List.mem_of_getElem? e)
theorem idsO_row {n : Nat} {l : List AV} (h : IdsL n l) : IdsO n (.row l) := fun j x e => h x (List.mem_of_getElem? e)
theorem all_nil' {p : AObj → Prop} : ∀ o ∈ ([] : Store), p o := by simp
theorem all_cons' {p : AObj → Prop} {o : AObj} {l : Store} (h : p o) (t : ∀ o ∈ l, p o) : ∀ x ∈ o :: l, p x := by
 intro x hx
 rcases List.mem_cons.1 hx with rfl | hx
 ·exact h
 ·exact t x hx
theorem Ghost.keepL (l : Store) {k : Nat} (hk : l.length = k) (hn : n0 ≤ σ.length) (h1 : TellW s (σ.length + k) s') (h2 : IdsS (σ ++ l).length (σ ++ l)) : Ghost n0 nt s (σ ++ (l ++ g)) s' (σ ++ l) := by
 have := Ghost.keep (s := s) (s' := s') (nt := nt) (n0 := n0) (σ := σ ++ l) g (by rw [List.length_append]; omega) (by rw [List.length_append, hk]; exact h1) h2
 rwa [List.append_assoc] at this
theorem Ghost.keepL0 (l : Store) {k : Nat} (hk : l.length = k) (hn : n0 ≤ σ.length) (h1 : TellW s (σ.length + k) s') (h2 : IdsS (σ ++ l).length (σ ++ l)) : Ghost n0 nt s (σ ++ l) s' (σ ++ l) := by
 have := Ghost.keepL (g := []) (nt := nt) l hk hn h1 h2; rwa [List.append_nil] at this
theorem Ghost.same (h : ∀ i, lk s' i = lk s i) : Ghost n0 nt s σ s' σ := fun m loc w t hl hs hr => ⟨m, loc, hs, ⟨hr.size, fun i => by rw [h i]; exact hr.rel i⟩, .refl _ _ _ _⟩
theorem lk_twice (t : Nat) (a b : AV) (r : Slots) (i : Nat) : lk ((t, a) :: r) i = lk ((t, a) :: (t, b) :: r) i := by
 simp only [Ahl.lk]
 by_cases e : t = i
 ·subst e; simp
 ·have : (t == i) = false := by simpa using e
  simp [this]
theorem Ghost.begin (t sz : Nat) (r : Slots) (hn : n0 ≤ σ.length) (h1 : TellW s σ.length ((t, .slice .nil []) :: r)) (hσ : IdsS σ.length σ) :
  Ghost n0 nt s (σ ++ g) ((t, .slice (.grow σ.length) []) :: r) (σ ++ [.grow sz 0]) :=
 (Ghost.keep g hn h1 hσ).trans ((Ghost.tok t sz (.inl (by simp [Ahl.lk]))).trans (.same (lk_twice t _ _ r)))
theorem Ghost.begin0 (t sz : Nat) (r : Slots) (hn : n0 ≤ σ.length) (h1 : TellW s σ.length ((t, .slice .nil []) :: r)) (hσ : IdsS σ.length σ) :
  Ghost n0 nt s σ ((t, .slice (.grow σ.length) []) :: r) (σ ++ [.grow sz 0]) := by
 have := Ghost.begin (g := []) (nt := nt) t sz r hn h1 hσ; rwa [List.append_nil] at this
end
end Go.Ahl
namespace Go.Ahl
theorem ids_grow_map {n id : Nat} {α : Type} {f : α → List AV} (h : ∀ x, IdsL n (f x)) (hi : id < n) {l : List α} : Ids n (.slice (.grow id) (l.map f)) :=
 ids_flat (fun k e => by injection e with e; omega) fun e he x hx => by obtain ⟨y, _, rfl⟩ := List.mem_map.1 he; exact h y x hx
end Go.Ahl
namespace Go.Ahl
section
variable {σ : Store} {K : Cont}
theorem fa_nil {α : Type} {p : α → Prop} : (∀ e ∈ ([] : List α), p e) = True := by simp
theorem fa_cons {α : Type} {p : α → Prop} {x : α} {l : List α} : (∀ e ∈ x :: l, p e) = (p x ∧ ∀ e ∈ l, p e) := by simp
theorem fa_app {α : Type} {p : α → Prop} {l r : List α} : (∀ e ∈ l ++ r, p e) = ((∀ e ∈ l, p e) ∧ ∀ e ∈ r, p e) := by
 apply propext
 constructor
 ·intro h; exact ⟨fun e he => h e (List.mem_append_left _ he), fun e he => h e (List.mem_append_right _ he)⟩
 ·intro h e he; rcases List.mem_append.1 he with he | he
  ·exact h.1 e he
  ·exact h.2 e he
theorem fa_map {α β : Type} {p : β → Prop} {f : α → β} {l : List α} : (∀ e ∈ l.map f, p e) = (∀ e ∈ l, p (f e)) := by simp
theorem k_bs_f (esz : Nat) (es : List (List AV)) : bsliceK esz σ K false (some es) = ((∀ e ∈ es, e.length = esz) ∧ K (.slice (.grow σ.length) es) (σ ++ [.grow esz es.length])) := by simp [bsliceK]
theorem k_bs_t (esz : Nat) (e : List AV) (es : List (List AV)) : bsliceK esz σ K true (some (e :: es)) = ((∀ x ∈ e :: es, x.length = esz) ∧ K (.ref σ.length esz 0 (e :: es).length) (σ ++ [.row (e :: es).flatten])) := by simp [bsliceK]
theorem k_bs_0 (esz : Nat) : bsliceK esz σ K true (some []) = K (.slice .zero []) σ := by simp [bsliceK]
theorem ap_grow (esz bytes id : Nat) (xs ys : List (List AV)) : appC esz bytes (.slice (.grow id) xs) false σ K ys =
  ((∀ e ∈ ys, e.length = esz ∧ e.all AV.one = true) ∧ 0 < esz ∧ σ[id]? = some (.grow esz xs.length) ∧ bigLen (xs.length + ys.length) bytes ∧ K (.slice (.grow id) (xs ++ ys)) (σ.set id (.grow esz (xs.length + ys.length)))) := by
 simp [appC]
theorem ap_nil (esz bytes : Nat) (ys : List (List AV)) : appC esz bytes (.slice .nil []) false σ K ys =
  ((∀ e ∈ ys, e.length = esz ∧ e.all AV.one = true) ∧ 0 < esz ∧ bigLen ys.length bytes ∧ K (.slice (.grow σ.length) ys) (σ ++ [.grow esz ys.length])) := by simp [appC]
theorem ap_zero (esz bytes : Nat) (ys : List (List AV)) : appC esz bytes (.slice .zero []) false σ K ys =
  ((∀ e ∈ ys, e.length = esz ∧ e.all AV.one = true) ∧ 0 < esz ∧ bigLen ys.length bytes ∧ K (.slice (.grow σ.length) ys) (σ ++ [.grow esz ys.length])) := by simp [appC]
theorem ap_nil_t (esz bytes : Nat) (ys : List (List AV)) : appC esz bytes (.slice .nil []) true σ K ys =
  ((∀ e ∈ ys, e.length = esz ∧ e.all AV.one = true) ∧ 0 < esz ∧ bigLen ys.length bytes ∧ K (.ref σ.length esz 0 ys.length) (σ ++ [.row ys.flatten])) := by simp [appC]
theorem ap_zero_t (esz bytes : Nat) (ys : List (List AV)) : appC esz bytes (.slice .zero []) true σ K ys =
  ((∀ e ∈ ys, e.length = esz ∧ e.all AV.one = true) ∧ 0 < esz ∧ bigLen ys.length bytes ∧ K (.ref σ.length esz 0 ys.length) (σ ++ [.row ys.flatten])) := by simp [appC]
def ownK (K : List AV → Prop) : Option AObj → Prop
 | some (.row c) => K c
 | _ => False
theorem ownK_row (K : List AV → Prop) (c : List AV) : ownK K (some (.row c)) = K c := rfl
theorem ap_ref (esz bytes id len sz : Nat) (own : Bool) (ys : List (List AV)) : appC esz bytes (.ref id sz 0 len) own σ K ys =
  ((∀ e ∈ ys, e.length = esz ∧ e.all AV.one = true) ∧ 0 < esz ∧ sz = esz ∧ ownK (fun cells => cells.length = len * esz ∧ bigLen (len + ys.length) bytes ∧ K (.ref σ.length esz 0 (len + ys.length)) (σ.set id .dead ++ [.row (cells ++ ys.flatten)])) σ[id]?) := by
 simp only [appC]
 congr 3
 cases h : σ[id]? with
 | none => simp [ownK]
 | some o => cases o <;> simp [ownK]
def vecK (esz len : Nat) (K : List AV → Prop) : Option AObj → Prop
 | some (.vec s n c) => s = esz ∧ n = len ∧ K c
 | _ => False
theorem vecK_vec (esz len s n : Nat) (K : List AV → Prop) (c : List AV) : vecK esz len K (some (.vec s n c)) = (s = esz ∧ n = len ∧ K c) := rfl
theorem ap_vec (esz bytes id len sz : Nat) (own : Bool) (ys : List (List AV)) : appC esz bytes (.vec id sz len) own σ K ys =
  ((∀ e ∈ ys, e.length = esz ∧ e.all AV.one = true) ∧ 0 < esz ∧ sz = esz ∧ vecK esz len (fun cells => bigLen (len + ys.length) bytes ∧ K (.vec id esz (len + ys.length)) (σ.set id (.vec esz (len + ys.length) (cells ++ ys.flatten)))) σ[id]?) := by
 unfold appC
 congr 3
 apply propext
 constructor
 ·rintro ⟨h1, c, h2, h3⟩; rw [h2]; exact ⟨h1, rfl, rfl, h3⟩
 ·rintro ⟨h1, h2⟩
  refine ⟨h1, ?_⟩
  cases hq : σ[id]? with
  | none => rw [hq] at h2; exact h2.elim
  | some o =>
   rw [hq] at h2
   cases o <;> first | exact h2.elim | (obtain ⟨rfl, rfl, h2⟩ := h2; exact ⟨_, rfl, h2⟩)
theorem ap_i (P : Program) (s : Slots) (K : Cont) (esz bytes : Nat) (a x : Opd) (own : Bool) : aI P (.bappend esz bytes a x own) s σ K = elemsOf esz (aev s x) σ (appC esz bytes (aev s a) own σ K) := rfl
theorem big_ok {n b : Nat} (hb : b ≤ 4096) (h : n ≤ 34359738368) : bigLen n b := by
 refine ⟨Nat.le_trans (Nat.mul_le_mul h hb) (by decide), by omega⟩
end
end Go.Ahl
namespace Go.Ahl
section
variable {n0 nt : Nat} {s s' : Slots} {σ g : Store}
theorem Ghost.row0 (t sz off : Nat) (ht : lk s t = .slice .nil [] ∨ lk s t = .slice .zero []) : Ghost n0 nt s σ ((t, .ref σ.length sz off 0) :: s) (σ ++ [.row []]) := by
 intro m loc w tm hl hS hr
 obtain ⟨h1, h2⟩ := hS.row0 n0
 refine ⟨m, _, h1, ⟨hr.size, fun i => ?_⟩, h2⟩
 simp only [Ahl.lk]
 by_cases e : t = i
 ·subst e; simp only [beq_self_eq_true, cond_true]
  have hrel := hr.rel t
  have : ∃ a, tm.getD t undef = .slice a 0 0 := by
   rcases ht with ht | ht <;> rw [ht] at hrel <;> generalize tm.getD t undef = v at hrel
   ·cases hrel with
    | slice _ _ ad cap sz bb o f hcap htok => exact ⟨ad, by rw [htok.2]; rfl⟩
   ·cases hrel with
    | slice _ _ ad cap sz bb o f hcap htok => exact ⟨ad, by rw [show cap = 0 from htok]; rfl⟩
  obtain ⟨a, ha⟩ := this
  rw [ha]; exact .ref0 _ sz off a (by rw [List.length_append, ← hS.len]; simp)
 ·have : (t == i) = false := by simpa using e
  rw [this, cond_false]; exact (hr.rel i).mono (.refl m) (.app _ _ _)
end
end Go.Ahl
namespace Go.Ahl
theorem take_len_map {α β : Type} (f : α → β) (l : List α) : (l.map f).take l.length = l.map f := by
 rw [List.take_of_length_le]; simp
end Go.Ahl
namespace Go.Ahl
section
variable {m : Mem} {loc : List Loc} {σ : Store} {w : World}
theorem ObjRel.take {l : Loc} {o : AObj} (h : ObjRel m loc w l o) (n : Nat) (hi : IdsO n o) : ObjRel m (loc.take n) w l o := by
 cases l with
 | nowhere => cases o <;> exact h
 | blk b =>
  cases o with
  | dead => trivial
  | tab b vs => exact h.elim
  | grow sz n => exact h
  | vec sz n cells => exact h
  | row cells =>
   obtain ⟨arr, t, h1, h2, h3, h4, h5⟩ := h
   exact ⟨arr, t, h1, h2, h3, fun j x v e1 e2 => (h4 j x v e1 e2).take (hi j x e1), h5⟩
  | map es =>
   obtain ⟨en, c, h1, h2⟩ := h
   exact ⟨en, c, h1, h2.take hi⟩
  | loop L =>
   obtain ⟨r, h1, h2, h3, h4, h5, h6, h7⟩ := h
   exact ⟨r, h1, h2, h3, h4, h5, h6, ⟨h7.size, fun i => (h7.rel i).take (hi i)⟩⟩
  | iter es seen =>
   rcases h with ⟨h1, h2⟩ | ⟨q, en, c, sa, st, h1, h2, h3, h4⟩
   ·exact .inl ⟨h1, h2⟩
   ·exact .inr ⟨q, en, c, sa, st, h1, h2, h3.take hi, h4⟩
 | tok sz f =>
  cases o with
  | vec sz' n cells =>
   obtain ⟨h0, h1, h2, h3⟩ := h
   refine ⟨h0, h1, h2, ?_⟩
   rcases h3 with h3 | ⟨b, arr, t, g1, g2, g3, g4, g5, g6⟩
   ·exact .inl h3
   ·exact .inr ⟨b, arr, t, g1, g2, g3, g4, fun j x v e1 e2 => (g5 j x v e1 e2).take (hi j x e1), g6⟩
  | _ => exact h
theorem get_mv {α : Type} {l : List α} {x y : α} {n id i : Nat} (hn : n ≤ l.length) (hx : l[id]? = some x) (e : (l.take n ++ [x])[i]? = some y) : (i < n ∧ l[i]? = some y) ∨ (i = n ∧ l[id]? = some y) := by
 have hl : (l.take n).length = n := List.length_take_of_le hn
 rcases get_app e with e | ⟨e, rfl⟩
 ·exact .inl (get_take e)
 ·exact .inr ⟨by omega, hx⟩
theorem SRel.move (h : SRel m loc σ w) (n id : Nat) {l : Loc} {o : AObj} (hn : n ≤ id) (hl : loc[id]? = some l) (ho : σ[id]? = some o) (hi : IdsS n (σ.take n)) (hio : IdsO n o) :
  SRel m (loc.take n ++ [l]) (σ.take n ++ [o]) w := by
 have hid := lt_of_get ho
 have hid2 := lt_of_get hl
 have h0 := h.take n hi
 have hmpo : ∀ (i : Nat) l' o' b, (loc.take n ++ [l])[i]? = some l' → (σ.take n ++ [o])[i]? = some o' → own l' o' = some b → m.mp b = none := by
  intro i l' o' b e1 e2 w1
  rcases get_mv (by omega) hl e1 with ⟨a1, a2⟩ | ⟨a1, a2⟩ <;> rcases get_mv (by omega) ho e2 with ⟨b1, b2⟩ | ⟨b1, b2⟩ <;> first | omega | exact h.mpo _ _ _ b a2 b2 w1
 refine ⟨by simp [h.len], h.im, h.bs, ?_, ?_, ?_, h.mp, hmpo, h.ok.names (by
  rintro b ⟨i, e | ⟨sz, f, k, e, hk⟩⟩
  ·rcases get_mv (by omega) hl e with ⟨_, a⟩ | ⟨_, a⟩
   ·exact ⟨_, .inl a⟩
   ·exact ⟨_, .inl a⟩
  ·rcases get_mv (by omega) hl e with ⟨_, a⟩ | ⟨_, a⟩
   ·exact ⟨_, .inr ⟨sz, f, k, a, hk⟩⟩
   ·exact ⟨_, .inr ⟨sz, f, k, a, hk⟩⟩)⟩
 ·intro i l' o' e1 e2
  have hm : ∀ {l o}, ObjRel m (loc.take n) w l o → ObjRel m (loc.take n ++ [l]) w l o := fun q => q.mono (.refl m) (.app _ _ _) (fun _ _ => rfl) (fun _ _ _ => rfl)
  rcases get_mv (by omega) hl e1 with ⟨a1, a2⟩ | ⟨a1, a2⟩
  ·rcases get_mv (by omega) ho e2 with ⟨b1, b2⟩ | ⟨b1, b2⟩
   ·exact (h0.obj i l' o' (take_get a2 a1) (take_get b2 a1)).mono (.refl m) (.app _ _ _) (fun _ _ => rfl) (fun _ _ _ => rfl)
   ·omega
  ·rcases get_mv (by omega) ho e2 with ⟨b1, b2⟩ | ⟨b1, b2⟩
   ·omega
   ·rw [hl] at a2; rw [ho] at b2; injection a2 with a2; injection b2 with b2; subst a2; subst b2
    exact ((h.obj id _ _ hl ho).take n hio).mono (.refl m) (.app _ _ _) (fun _ _ => rfl) (fun _ _ _ => rfl)
 ·intro i j l1 l2 o1 o2 b e1 e2 e3 e4 w1 w2
  rcases get_mv (by omega) hl e1 with ⟨a1, a2⟩ | ⟨a1, a2⟩ <;> rcases get_mv (by omega) hl e2 with ⟨b1, b2⟩ | ⟨b1, b2⟩ <;>
   rcases get_mv (by omega) ho e3 with ⟨c1, c2⟩ | ⟨c1, c2⟩ <;> rcases get_mv (by omega) ho e4 with ⟨d1, d2⟩ | ⟨d1, d2⟩ <;>
   first | omega | (have := h.inj _ _ _ _ _ _ b a2 b2 c2 d2 w1 w2; omega)
 ·rintro b ⟨i, e | ⟨sz, f, k, e, hk⟩⟩
  ·rcases get_mv (by omega) hl e with ⟨_, a⟩ | ⟨_, a⟩
   ·exact h.lt b ⟨_, .inl a⟩
   ·exact h.lt b ⟨_, .inl a⟩
  ·rcases get_mv (by omega) hl e with ⟨_, a⟩ | ⟨_, a⟩
   ·exact h.lt b ⟨_, .inr ⟨sz, f, k, a, hk⟩⟩
   ·exact h.lt b ⟨_, .inr ⟨sz, f, k, a, hk⟩⟩
theorem Ext.move {n0 : Nat} (m : Mem) (loc : List Loc) (w : World) (n id : Nat) {l : Loc} (hn0 : n0 ≤ n) (hn : n ≤ id) (hl : loc[id]? = some l) : Ext n0 m loc w m (loc.take n ++ [l]) w := by
 have hid := lt_of_get hl
 refine ⟨rfl, rfl, rfl, Nat.le_refl _, Nat.le_refl _, .refl m, fun i l hi e => ⟨l, ?_, .refl l⟩, ?_, fun _ _ _ _ => rfl, fun _ _ _ e => .inl e⟩
 ·rw [List.getElem?_append_left (by rw [List.length_take_of_le (by omega)]; omega)]; exact take_get e (by omega)
 ·rintro b ⟨i, e | ⟨sz, f, k, e, hk⟩⟩
  ·rcases get_mv (by omega) hl e with ⟨_, a⟩ | ⟨_, a⟩
   ·exact .inl ⟨_, .inl a⟩
   ·exact .inl ⟨_, .inl a⟩
  ·rcases get_mv (by omega) hl e with ⟨_, a⟩ | ⟨_, a⟩
   ·exact .inl ⟨_, .inr ⟨sz, f, k, a, hk⟩⟩
   ·exact .inl ⟨_, .inr ⟨sz, f, k, a, hk⟩⟩
inductive Mv (id n : Nat) : AV → AV → Prop
 | keep {a b : AV} (h : Wk a b) (hi : Ids n b) : Mv id n a b
 | slice (es : List (List AV)) (hi : ∀ e ∈ es, ∀ x ∈ e, Ids n x) : Mv id n (.slice (.grow id) es) (.slice (.grow n) es)
 | ref (sz off len : Nat) : Mv id n (.ref id sz off len) (.ref n sz off len)
 | vec (sz len : Nat) : Mv id n (.vec id sz len) (.vec n sz len)
 | ptr (off : Nat) : Mv id n (.ptr id off) (.ptr n off)
 | map : Mv id n (.map id) (.map n)
theorem Mv.rel {id n : Nat} {a b : AV} {v : Value} {l : Loc} (h : Mv id n a b) (hn : n ≤ id) (hl : loc[id]? = some l) (hr : Rel m loc a v) : Rel m (loc.take n ++ [l]) b v := by
 have hid := lt_of_get hl
 have hlen : (loc.take n).length = n := List.length_take_of_le (by omega)
 have hnew : (loc.take n ++ [l])[n]? = some l := by rw [List.getElem?_append_right (by omega), hlen]; simp
 cases h with
 | keep h hi => exact ((h _ _ _ hr).take hi).mono (.refl m) (.app _ _ _)
 | slice es hi =>
  cases hr with
  | slice _ _ ad cap sz bb o f hcap htok hsz ha hc hr =>
   refine .slice _ es ad cap sz bb o f hcap ?_ hsz ha hc ?_
   ·obtain ⟨sz', f', t1, t2⟩ := htok
    rw [hl] at t1; injection t1 with t1
    exact ⟨sz', f', by rw [hnew, t1], t2⟩
   ·intro i e he j x hx
    exact ((hr i e he j x hx).take (hi e (List.mem_of_getElem? he) x (List.mem_of_getElem? hx))).mono (.refl m) (.app _ _ _)
 | ref sz off len =>
  cases hr with
  | ref _ _ _ _ cap b k h1 h2 h3 h4 => rw [hl] at h1; injection h1 with h1; exact .ref n sz off len cap b k (by rw [hnew, h1]) h2 h3 h4
  | ref0 _ _ _ a h1 => exact .ref0 n sz off a (by rw [List.length_append, hlen]; simp)
 | vec sz len =>
  cases hr with
  | vec _ _ _ cap f a h1 h2 h3 => rw [hl] at h1; injection h1 with h1; exact .vec n sz len cap f a (by rw [hnew, h1]) h2 h3
 | ptr off =>
  cases hr with
  | ptr _ _ b h1 => rw [hl] at h1; injection h1 with h1; exact .ptr n off b (by rw [hnew, h1])
 | map =>
  cases hr with
  | map _ b h1 => rw [hl] at h1; injection h1 with h1; exact .map n b (by rw [hnew, h1])
def TellM (s : Slots) (id n : Nat) : Slots → Prop
 | [] => True
 | (i, v) :: r => Mv id n (lk s i) v ∧ TellM s id n r
theorem TellM.lk {s : Slots} {id n : Nat} : ∀ {s' : Slots}, TellM s id n s' → ∀ i, lk s' i = .any ∨ Mv id n (lk s i) (lk s' i)
 | [], _, i => .inl rfl
 | (j, v) :: r, h, i => by
  simp only [Ahl.lk]
  by_cases e : j = i
  ·subst e; simp only [beq_self_eq_true, cond_true]; exact .inr h.1
  ·have : (j == i) = false := by simpa using e
   rw [this, cond_false]; exact TellM.lk h.2 i
theorem Ghost.move {n0 nt : Nat} {s : Slots} (s' : Slots) (n id : Nat) (o : AObj) (hn0 : n0 ≤ n) (hn : n ≤ id) (ho : σ[id]? = some o) (hi : IdsS n (σ.take n)) (hio : IdsO n o) (h1 : TellM s id n s') : Ghost n0 nt s σ s' (σ.take n ++ [o]) := by
 intro m loc w t hl hs hr
 have hid := lt_of_get ho
 have hlid : loc[id]? = some (loc[id]'(by rw [hs.len]; exact hid)) := List.getElem?_eq_getElem _
 refine ⟨m, _, hs.move n id hn hlid ho hi hio, ⟨hr.size, fun i => ?_⟩, Ext.move m loc w n id hn0 hn hlid⟩
 rcases h1.lk i with e | e
 ·rw [e]; exact .any _
 ·exact e.rel hn hlid (hr.rel i)
theorem Ghost.moved {n0 nt : Nat} {s : Slots} {g : Store} (s' : Slots) (k : Nat) (o : AObj) (hn0 : n0 ≤ σ.length) (ho : g[k]? = some o) (hi : IdsS σ.length σ) (hio : IdsO σ.length o) (h1 : TellM s (σ.length + k) σ.length s') : Ghost n0 nt s (σ ++ g) s' (σ ++ [o]) := by
 have := Ghost.move (nt := nt) (σ := σ ++ g) (s := s) s' σ.length (σ.length + k) o hn0 (by omega) (by rw [List.getElem?_append_right (by omega), Nat.add_sub_cancel_left]; exact ho) (by rw [g_take]; exact hi) hio h1
 rwa [g_take] at this
end
end Go.Ahl
namespace Go.Ahl
end Go.Ahl
namespace Go.Ahl
theorem bodyK_n (rs : List CRes) (n0 nt : Nat) (R : Cont) (s : Slots) (σ : Store) : bodyK rs n0 nt R .normal s σ = bodyK rs n0 nt R .ret s σ := rfl
end Go.Ahl
namespace Go.Ahl
theorem mv_map {id n : Nat} {α : Type} {f : α → List AV} (h : ∀ x, IdsL n (f x)) (l : List α) : Mv id n (.slice (.grow id) (l.map f)) (.slice (.grow n) (l.map f)) :=
 .slice _ fun e he y hy => by obtain ⟨q, _, rfl⟩ := List.mem_map.1 he; exact h q y hy
theorem Ghost.weak {n0 nt : Nat} {s : Slots} {σ : Store} (t : Nat) (v : AV) (h : Wk (lk s t) v) : Ghost n0 nt s σ ((t, v) :: s) σ := by
 intro m loc w tm hl hS hr
 refine ⟨m, loc, hS, ⟨hr.size, fun i => ?_⟩, .refl _ _ _ _⟩
 simp only [Ahl.lk]
 by_cases e : t = i
 ·subst e; simp only [beq_self_eq_true, cond_true]; exact h _ _ _ (hr.rel t)
 ·have : (t == i) = false := by simpa using e
  rw [this, cond_false]; exact hr.rel i
end Go.Ahl
namespace Go.Ahl
attribute [go_sem] oS oN oA oG i_inv e_inv_n e_inv_l i_mkif i_asrt dk_mkif dk_asrt e_asrt
attribute [go_sem] wpc_ops bodyK_n Nat.mul_one Nat.add_one_sub_one take_len_map Int.natCast_zero beq_self_eq_true bne_self_eq_false Bool.false_eq_true reduceIte wpc_seq wpc_block wpc_cond wpc_skip wpc_exit wpc_ret condK pickK newK buildK callK seqK blockK scopeK wpc_scope loopK_exit loopK_ret lk cond_true cond_false true_and and_true initS evs partV List.map_cons List.map_nil List.cons_append List.nil_append List.append_assoc
attribute [go_sem] List.append_nil Option.map_none getK_some rowK_some mapK_some loadP loadPN storeC storeP iaddrC istrC lookupC lookupM mapupC mapupM lenM clearP copyP copyP2 boolC nboolC elemsP slcC slcR sstrC e_load_ptr e_loadN_ptr e_load_rptr e_loadN_rptr e_store e_iaddr_slice e_iaddr_ref e_istr e_extract e_fieldv e_fieldvN e_lookup_map e_lookup_nil e_mapup e_len_map e_clear e_copy e_flat_eq
attribute [go_sem] e_fnil_eq e_fnil_ne e_fn_eq e_fn_ne e_flat_ne e_elems_ref e_elems_slice g_get g_get0 g_set g_set0 List.getElem?_cons_zero List.getElem?_cons_succ List.set_cons_zero List.set_cons_succ List.length_cons List.length_nil List.length_append List.length_map Nat.add_zero Nat.zero_add List.drop_succ_cons List.drop_zero List.take_succ_cons List.take_zero AV.one AV.isKey List.all_cons List.all_nil Bool.and_self Bool.true_and Bool.and_true setAll cellsOf cellsAll buildAll Nat.le_refl Int.toNat_natCast List.getElem?_map Option.map_some Int.natCast_nonneg decide_true decide_false Bool.not_true
attribute [go_sem] Bool.not_false i_move i_pick i_alloc i_box i_build i_bslice i_bsliceC k_bc i_load i_store i_nilck i_bin i_un i_conv i_mkfunc i_mkmap i_mkslice i_slc i_sstr i_faddr i_fieldv i_iaddr i_istr i_lookup i_mapup i_extract i_call i_len ap_i k_bs_f k_bs_t k_bs_0 ap_grow ap_ref ownK_row ap_nil ap_zero ap_nil_t ap_zero_t
attribute [go_sem] fa_nil fa_cons fa_app fa_map implies_true Option.some.injEq AObj.grow.injEq i_clear i_copy i_max i_min b_add b_sub b_mul b_quo b_rem b_eql b_neq b_lss b_leq b_gtr b_geq b_shl b_shr b_and b_or b_xor s_add s_eql s_neq s_lss s_gtr b_beq b_bne b_seq b_sne b_req b_rne u_not u_neg l_slice l_ref l_vec
attribute [go_sem] ap_vec vecK_vec l_str n_ptr n_rptr f_ptr f_rptr c_int m_max m_min bnd2_nn bnd2_in bnd2_ni bnd2_ii x_slc x_slr x_sl0 x_sst gv_none gv_skip gv_some gv_tt gv_tf gv_ft gv_ff gv_u d_none d_some k_app aev_tmp aev_lit o_nil o_cons o_nilD o_consD st_run st_skip sd_skip sd_run dk_move
attribute [go_sem] dk_pick dk_alloc dk_box dk_build dk_bslice dk_bsliceC dk_load dk_store dk_nilck dk_bin dk_un dk_conv dk_mkfunc dk_mkmap dk_mkslice dk_slc dk_sstr dk_faddr dk_fieldv dk_iaddr dk_istr dk_lookup dk_mapup dk_extract dk_blen dk_bappend dk_bclear dk_bcopy dk_bmax dk_bmin dk_call dk_callE callED_func ou_nil ou_cons su_run su_skip ru_0 ru_1 ru_2 obR_nil
attribute [go_sem] obR_cons obB_nil obB_cons memN_nil memN_cons isR_self AI.rank atS_app atU_app i_bstr i_rng i_nxt i_ent e_bstr e_rng e_nxt e_ent iterK_some l_wslice n_wptr f_wptr iaddrW wst_int wst_str e_store_wptr e_iaddr_wslice e_load_wptr e_loadN_wptr i_appendC apC_nil dk_bappendC
class IdE {α : Type} (f : α → List AV) : Prop where
 ids : ∀ n x, IdsL n (f x)
instance : IdE encI := ⟨fun _ => ids_encI⟩
instance : IdE encB := ⟨fun _ => ids_encB⟩
instance : IdE encT := ⟨fun _ => ids_encT⟩
instance : IdE encLit := ⟨fun _ => ids_encLit⟩
instance : IdE encC := ⟨fun _ => ids_encC⟩
instance : IdE encL := ⟨fun _ => ids_encL⟩
instance : IdE encCf := ⟨fun _ => ids_encCf⟩
instance : IdE encLf := ⟨fun _ => ids_encLf⟩
instance : IdE encE := ⟨fun _ => ids_encE⟩
instance : IdE encA := ⟨fun _ => ids_encA⟩
instance : IdE encTask := ⟨fun _ => ids_encTask⟩
def encS {α : Type} (f : α → List AV) (l : List α) : List AV := [.slice .unk (l.map f)]
section
variable {n : Nat} {α : Type} {f : α → List AV} [h : IdE f]
theorem ids_mapE (l : List α) : Ids n (.slice .unk (l.map f)) := ids_map (h.ids n) l
theorem ids_mapF (l : List α) : Ids n (.slice .fresh (l.map f)) := ids_mapf (h.ids n) l
theorem ids_growE {id : Nat} (hi : id < n) (l : List α) : Ids n (.slice (.grow id) (l.map f)) := ids_grow_map (h.ids n) hi
theorem ids_aggE (x : α) : Ids n (.agg (f x)) := ids_agg (h.ids n x)
theorem mv_mapE {id : Nat} (l : List α) : Mv id n (.slice (.grow id) (l.map f)) (.slice (.grow n) (l.map f)) := mv_map (h.ids n) l
instance : IdE (encS f) := ⟨fun n l => idsL_cons (ids_map (h.ids n) l) idsL_nil⟩
end
theorem idsT {n : Nat} {v : AV} (h : Ids n v := by first | assumption | exact .int _ _ | exact .bool _ | exact .str _ | exact .any | exact .mapnil | exact .ptr _ _ (by omega) | exact .ref _ _ _ _ (by omega) | exact .vec _ _ _ (by omega) | exact .map _ (by omega) | exact ids_mapE _ | exact ids_mapF _ | exact ids_growE (by omega) _ | exact ids_aggE _ | (refine ids_up ?_ (by assumption); omega) | exact ids_func0 _ | exact ids_nil _ (by simp) | (simp only [encLit, encI, encT, encC, encA, encE, encL, encTask, encB]; done)) : Ids n v := h
theorem wkS {a b : AV} (h : Wk a b := by first | exact Wk.refl _ | exact Wk.unk _ _ | exact Wk.fresh _ _ | exact Wk.fresh0 _ | exact Wk.any _) : Wk a b := h
theorem tellT {s s' : Slots} {n : Nat} (h : TellW s n s' := by simp only [TellW, lk, Nat.reduceBEq, cond_true, cond_false, and_true, List.length_cons, List.length_nil, Nat.reduceAdd]; and_intros <;> first | exact Wk.refl _ | exact Wk.unk _ _ | exact Wk.fresh _ _ | exact Wk.fresh0 _ | exact Wk.slice _ (WkLL.one (WkL.one (Wk.unk _ _))) | exact Wk.slice _ (WkLL.one (WkL.one (Wk.fresh _ _))) | exact Wk.any _ | exact idsT) : TellW s n s' := h
theorem wrapS {i : Nat} (h : i < 4611686018427387904) : IntKind.i64.wrap ((i : Int) + 1) = ((i + 1 : Nat) : Int) := by rw [wrap_ok (by omega)]; omega
theorem om {p : Prop} (h : p := by first | omega | (simp only []; omega) | (simp; omega)) : p := h
section
variable {nt : Nat} {s s' : Slots} {σ g : Store}
theorem ghA {S : Store} (h1 : TellW s σ.length s' := by exact tellT) (h2 : IdsS σ.length σ := by assumption) (ht : S.take σ.length = σ := by first | exact List.take_left | exact List.take_length) : Ghost σ.length nt s S s' σ := by
 have := Ghost.cut (σ := S) (n0 := σ.length) (nt := nt) (s := s) s' σ.length (Nat.le_refl _) h1 (by rw [ht]; exact h2)
 rwa [ht] at this
theorem ghk1 {o : AObj} (h1 : TellW s (σ.length + 1) s' := by exact tellT) (h2 : IdsS (σ ++ [o]).length (σ ++ [o]) := by assumption) : Ghost σ.length nt s (σ ++ o :: g) s' (σ ++ [o]) := .keep1 o (Nat.le_refl _) h1 h2
theorem ghL {l : Store} (h2 : IdsS (σ ++ l).length (σ ++ l)) (h1 : TellW s (σ.length + l.length) s' := by exact tellT) : Ghost σ.length nt s (σ ++ (l ++ g)) s' (σ ++ l) := .keepL l rfl (Nat.le_refl _) h1 h2
theorem ghL0 {l : Store} (h2 : IdsS (σ ++ l).length (σ ++ l)) (h1 : TellW s (σ.length + l.length) s' := by exact tellT) : Ghost σ.length nt s (σ ++ l) s' (σ ++ l) := .keepL0 l rfl (Nat.le_refl _) h1 h2
variable {R : Cont} {t u : Nat}
theorem rt {S : Store} (v : AV) (h : R v σ) (ht : S.take σ.length = σ := by first | exact List.take_left | exact List.take_length) (hσ : IdsS σ.length σ := by assumption) (hw : Wk (lk s t) v := by exact wkS) (hi : Ids σ.length v := by exact idsT) : bodyK [.tmp t] σ.length nt R .ret s S := by
 rw [← List.take_append_drop σ.length S, ht]; exact ret_k v hσ hw hi h
theorem rT {S : Store} (v x : AV) (h : R (.tuple [v, x]) σ) (ht : S.take σ.length = σ := by first | exact List.take_left | exact List.take_length) (hσ : IdsS σ.length σ := by assumption) (htu : (t == u) = false := by rfl) (hw : Wk (lk s t) v := by exact wkS) (hx : Wk (lk s u) x := by exact wkS) (hi : Ids σ.length v := by exact idsT) (hj : Ids σ.length x := by exact idsT) :
  bodyK [.tmp t, .tmp u] σ.length nt R .ret s S := by
 rw [← List.take_append_drop σ.length S, ht]; exact ret_l v x hσ htu hw hx hi hj h
theorem rtw {v : AV} (hw : Wk (lk s t) v) (h : R v σ) (hσ : IdsS σ.length σ := by assumption) (hi : Ids σ.length v := by exact idsT) : bodyK [.tmp t] σ.length nt R .ret s (σ ++ g) := ret_k v hσ hw hi h
theorem rtw0 {v : AV} (hw : Wk (lk s t) v) (h : R v σ) (hσ : IdsS σ.length σ := by assumption) (hi : Ids σ.length v := by exact idsT) : bodyK [.tmp t] σ.length nt R .ret s σ := ret_k0 v hσ hw hi h
theorem rtx {v x : AV} (hw : Wk (lk s t) v) (hx : Wk (lk s u) x) (h : R (.tuple [v, x]) σ) (hσ : IdsS σ.length σ := by assumption) (htu : (t == u) = false := by rfl) (hi : Ids σ.length v := by exact idsT) (hj : Ids σ.length x := by exact idsT) :
  bodyK [.tmp t, .tmp u] σ.length nt R .ret s (σ ++ g) := ret_l v x hσ htu hw hx hi hj h
theorem rtx0 {v x : AV} (hw : Wk (lk s t) v) (hx : Wk (lk s u) x) (h : R (.tuple [v, x]) σ) (hσ : IdsS σ.length σ := by assumption) (htu : (t == u) = false := by rfl) (hi : Ids σ.length v := by exact idsT) (hj : Ids σ.length x := by exact idsT) :
  bodyK [.tmp t, .tmp u] σ.length nt R .ret s σ := ret_l0 v x hσ htu hw hx hi hj h
end
end Go.Ahl
namespace Go.Ahl
theorem ACalls.calls {P : Program} {f : FuncId} {fn : Func} {args : List AV} {σ : Store} {R : Cont} (h : ACalls P f args σ R) (hf : P.funcs[f]? = some fn) (hb : fn.body.isSome = true) (hn : fn.name ≠ "runtime.NumGoroutine")
  {m : Mem} {loc : List Loc} {w : World} {vs : Array Value} (hs : SRel m loc σ w) (ha : ArgsRel m loc args vs) : Calls P f vs w fun e w' => ∃ v, e = .returned v ∧ ARet loc m w R v w' := by
 rcases h m loc w vs hs ha with ⟨_, _, _, _, h⟩ | ⟨v, w', h, _⟩
 ·exact h
 ·have he : (callFunc f vs).run P w = .ok (.enter f vs) w := by
   unfold callFunc
   have hp : (program : Sem Program).run P w = .ok P w := rfl
   rw [Sem.run_bind, hp]
   simp only [Result.andThen_ok, hf]
   have hb2 : fn.body.isNone = false := by cases hq : fn.body <;> rw [hq] at hb <;> simp at hb ⊢
   rw [if_neg (by simpa using hn), hb2]
   rfl
  rw [he] at h; simp at h
end Go.Ahl
namespace Go.Ahl
def memOf (w : World) : Mem where
 im b o := w.cell? ⟨b, o, none⟩
 bs b := match w.heap[b]? with
  | some (.cells arr _ _) => some arr.size
  | _ => none
 mp _ := none
 wk _ _ := none
 base := w.heap.size
theorem srel_memOf (w : World) : SRel (memOf w) [] [] w where
 len := rfl
 im := fun _ _ _ h => h
 bs := fun b n h => by
  simp only [memOf] at h
  split at h
  ·rename_i arr t fz hb
   injection h with h
   exact ⟨arr, t, fz, hb, h⟩
  ·simp at h
 obj := by intro i l o h; simp at h
 inj := by intro i j l l' o o' b h; simp at h
 lt := by rintro b ⟨i, e | ⟨_, _, _, e, _⟩⟩ <;> simp at e
 mp := fun b e h => by simp [memOf] at h
 mpo := by intro i l o b h; simp at h
 ok := ⟨Nat.le_refl _, by rintro b ⟨i, e | ⟨_, _, _, e, _⟩⟩ <;> simp at e, fun b o K h => by simp [memOf] at h, fun b o v q e => by
  have := World.block_lt_of_cell? w ⟨b, o, none⟩ e
  have q : w.heap.size ≤ b := q
  simp only at this; omega⟩
def Reads (P : Program) (t : TypeId) {α : Type} (f : α → List AV) (ok : α → Prop) : Prop :=
 ∀ (H : Type) (enc : TypeId × Value → H) (w : World) (fuel : Nat) (cs : List Value) (d : DataW H) (ps : List MemPlace),
  DataW.trod enc P w 0 (fun _ => true) true fuel t cs = some (d, ps) → (∀ x ∈ d.weights P t, x ≤ reachBytes) → ∃ x, ok x ∧ Cells (memOf w) [] (f x) cs
section
variable {P : Program} {t e : TypeId}
theorem Reads.conv {α β : Type} {f : α → List AV} {g : β → List AV} {ok : α → Prop} {ok' : β → Prop} (h : Reads P t f ok) (c : α → β) (hc : ∀ x, g (c x) = f x) (ho : ∀ x, ok x → ok' (c x)) : Reads P t g ok' := by
 intro H enc w fuel cs d ps ht hw
 obtain ⟨x, h1, h2⟩ := h H enc w fuel cs d ps ht hw
 exact ⟨c x, ho x h1, by rw [hc]; exact h2⟩
theorem cells_one {m : Mem} {x : AV} {v : Value} (h : Rel m [] x v) : Cells m [] [x] [v] := .cons h .nil
theorem Reads.bool (ht : P.underlying t = some .bool) : Reads P t encB (fun _ => True) := by
 intro H enc w fuel cs d ps h hw
 cases fuel with
 | zero => simp [DataW.trod] at h
 | succ n =>
  simp only [DataW.trod, ht] at h
  split at h <;> simp_all
  rename_i b
  cases b
  ·exact .inl (cells_one (.bool _))
  ·exact .inr (cells_one (.bool _))
theorem Reads.int (ht : P.underlying t = some (.int .i64)) : Reads P t encI (fun n => -9223372036854775808 ≤ n ∧ n ≤ 9223372036854775807) := by
 intro H enc w fuel cs d ps h hw
 cases fuel with
 | zero => simp [DataW.trod] at h
 | succ n =>
  simp only [DataW.trod, ht] at h
  split at h <;> try (simp_all; done)
  rename_i k k' nn hk
  have hk : IntKind.i64 = k := by injection hk with q; injection q
  subst hk
  split at h
  ·rename_i hc
   obtain ⟨rfl, hwf⟩ := hc
   refine ⟨nn, ?_, cells_one (.int _ _)⟩
   simpa [Lit.wf, IntKind.min, IntKind.max, IntKind.signed, IntKind.bits] using hwf
  ·simp at h
theorem Reads.str (ht : P.underlying t = some .string) : Reads P t encT (fun s => s.size ≤ 140737488355328) := by
 intro H enc w fuel cs d ps h hw
 cases fuel with
 | zero => simp [DataW.trod] at h
 | succ n =>
  simp only [DataW.trod, ht] at h
  split at h <;> simp_all
  rename_i s
  obtain ⟨_, rfl, _⟩ := h
  refine ⟨s, ?_, cells_one (.str _)⟩
  have := hw s.data.toList.length (by simp [DataW.weights])
  have h2 : s.size = s.data.toList.length := rfl
  simp only [reachBytes] at this
  omega
theorem mapM_get {α β : Type} (f : α → Option β) : ∀ (l : List α) (r : List β), l.mapM f = some r → r.length = l.length ∧ ∀ (i : Nat) x, l[i]? = some x → ∃ y, f x = some y ∧ r[i]? = some y
 | [], r, h => by simp at h; subst h; simp
 | a :: l, r, h => by
  rw [List.mapM_cons] at h
  cases ha : f a with
  | none => rw [ha] at h; simp at h
  | some y =>
   cases hl : l.mapM f with
   | none => rw [ha, hl] at h; simp at h
   | some r' =>
    rw [ha, hl] at h; simp at h; subst h
    obtain ⟨q1, q2⟩ := mapM_get f l r' hl
    refine ⟨by simp [q1], ?_⟩
    intro i x hx
    cases i with
    | zero => simp at hx; subst hx; exact ⟨y, ha, by simp⟩
    | succ i => simp at hx; simpa using q2 i x hx
theorem weightsAll_mem {H : Type} {d : DataW H} : ∀ {l : List (DataW H)}, d ∈ l → ∀ x ∈ d.weights P e, x ∈ DataW.weightsAll P e l
 | [], h, _, _ => by simp at h
 | a :: l, h, x, hx => by
  rw [DataW.weightsAll, List.mem_append]
  rcases List.mem_cons.1 h with rfl | h
  ·exact .inl hx
  ·exact .inr (weightsAll_mem h x hx)
theorem choose_list {α : Type} {p : Nat → α → Prop} : ∀ n : Nat, (∀ i, i < n → ∃ x, p i x) → ∃ l : List α, l.length = n ∧ ∀ (i : Nat) x, l[i]? = some x → p i x
 | 0, _ => ⟨[], rfl, by simp⟩
 | n + 1, h => by
  obtain ⟨l, h1, h2⟩ := choose_list n (fun i hi => h i (by omega))
  obtain ⟨x, hx⟩ := h n (by omega)
  refine ⟨l ++ [x], by simp [h1], ?_⟩
  intro i y hy
  rw [List.getElem?_append] at hy
  split at hy
  ·exact h2 i y hy
  ·have := lt_of_get hy; simp at this
   have hi : i = n := by omega
   subst hi; rw [h1, Nat.sub_self] at hy; simp at hy; subst hy; exact hx
theorem cells?_some {w : World} {a : Addr} {n : Nat} {cs : List Value} (h : w.cells? 0 a n = some cs) : cs.length = n ∧ ∀ (j : Nat) v, cs[j]? = some v → w.cell? (a.add j) = some v := by
 unfold World.cells? at h
 rw [if_pos (Nat.zero_le _)] at h
 obtain ⟨h1, h2⟩ := mapM_get _ _ _ h
 refine ⟨by simpa using h1, ?_⟩
 intro j v hv
 have hj : j < n := by have := lt_of_get hv; simp at h1; omega
 obtain ⟨y, h3, h4⟩ := h2 j j (by rw [List.getElem?_range hj])
 rw [hv] at h4; injection h4 with h4; subst h4; exact h3
def okL {α : Type} (ok : α → Prop) (l : List α) : Prop := l.length ≤ 140737488355328 ∧ ∀ x ∈ l, ok x
theorem Reads.slice {α : Type} {f : α → List AV} {ok : α → Prop} (ht : P.underlying t = some (.slice e)) (hb : 0 < P.bytesOf e) (hc0 : 0 < P.cellsOf e) (he : Reads P e f ok) :
  Reads P t (encS f) (okL ok) := by
 intro H enc w fuel cs d ps h hw
 cases fuel with
 | zero => simp [DataW.trod] at h
 | succ n =>
  simp only [DataW.trod, ht] at h
  split at h
  all_goals first | (simp at h; done) | skip
  all_goals try (rename_i heq; simp at heq; done)
  ·simp at h
   refine ⟨[], ⟨by simp, by simp⟩, cells_one ?_⟩
   exact .slice .unk [] none 0 0 0 0 (fun _ _ => undef) (Nat.le_refl _) trivial (by simp) (fun h => absurd rfl h) (fun i hi => absurd hi (by simp)) (by simp)
  ·rename_i e' a len cap heq
   have heq' : e = e' := by injection heq with q; injection q
   subst heq'
   split at h
   ·rename_i hc
    obtain ⟨_, hcap, _⟩ := hc
    cases hm : (List.range len).mapM (fun i => (w.cells? 0 (a.add (i * P.cellsOf e)) (P.cellsOf e)).bind (DataW.trod enc P w 0 (fun _ => true) true n e)) with
    | none => rw [hm] at h; simp at h
    | some elems =>
     rw [hm] at h
     simp only [Option.bind_some, if_true, Option.map_eq_some_iff] at h
     obtain ⟨rest, hr, hd⟩ := h
     injection hd with hd1 hd2
     subst hd1
     obtain ⟨q1, q2⟩ := mapM_get _ _ _ hm
     simp only [List.length_range] at q1
     have hwt : ∀ x ∈ ((elems.map (·.1)).length + (rest.map (·.1)).length) * P.bytesOf e :: (DataW.weightsAll P e (elems.map (·.1)) ++ DataW.weightsAll P e (rest.map (·.1))), x ≤ reachBytes := by
      intro x hx; apply hw x; simp only [DataW.weights, ht]; exact hx
     have hlen : len ≤ 140737488355328 := by
      have h1 := hwt _ List.mem_cons_self
      simp only [List.length_map, q1, reachBytes] at h1
      have h2 : len + rest.length ≤ (len + rest.length) * P.bytesOf e := Nat.le_mul_of_pos_right _ hb
      omega
     have key : ∀ i, i < len → ∃ x, ok x ∧ ∃ cs, Cells (memOf w) [] (f x) cs ∧ cs.length = P.cellsOf e ∧ ∀ (j : Nat) v, cs[j]? = some v → w.cell? ((a.add (i * P.cellsOf e)).add j) = some v := by
      intro i hi
      obtain ⟨y, h3, h4⟩ := q2 i i (by rw [List.getElem?_range hi])
      cases hcs : w.cells? 0 (a.add (i * P.cellsOf e)) (P.cellsOf e) with
      | none => rw [hcs] at h3; simp at h3
      | some cs =>
       rw [hcs] at h3
       obtain ⟨y1, y2⟩ := y
       simp only [Option.bind_some] at h3
       obtain ⟨x, hx1, hx2⟩ := he H enc w n cs y1 y2 h3 (fun z hz => hwt z (List.mem_cons_of_mem _ (List.mem_append_left _ (weightsAll_mem (List.mem_map.2 ⟨_, List.mem_of_getElem? h4, rfl⟩) z hz))))
       obtain ⟨c1, c2⟩ := cells?_some hcs
       exact ⟨x, hx1, cs, hx2, c1, c2⟩
     obtain ⟨l, hl1, hl2⟩ := choose_list len key
     refine ⟨l, ⟨by omega, fun x hx => ?_⟩, cells_one ?_⟩
     ·obtain ⟨i, hi, rfl⟩ := List.mem_iff_getElem.1 hx
      exact (hl2 i _ (List.getElem?_eq_getElem hi)).1
     ·obtain ⟨ab, ao, ap⟩ := a
      by_cases hz : len = 0
      ·have : l = [] := List.length_eq_zero_iff.1 (by omega)
       subst this; subst hz
       exact .slice .unk [] (some ⟨ab, ao, ap⟩) cap 0 0 0 (fun _ _ => undef) (Nat.zero_le _) trivial (by simp) (fun h => absurd rfl h) (fun i hi => absurd hi (by simp)) (by simp)
      have hap : ap = none := by
       obtain ⟨x, hx⟩ : ∃ x, l[0]? = some x := get_ex (by omega)
       obtain ⟨_, cs, _, c1, c2⟩ := hl2 0 x hx
       obtain ⟨v, hv⟩ : ∃ v, cs[0]? = some v := get_ex (by omega)
       have := c2 0 v hv
       cases ap with
       | none => rfl
       | some q => simp [World.cell?, Addr.add] at this; split at this <;> simp at this
      subst hap
      have hadd : ∀ i j, ((⟨ab, ao, none⟩ : Addr).add (i * P.cellsOf e)).add j = ⟨ab, ao + (i * P.cellsOf e + j), none⟩ := by
       intro i j; rw [add_at, add_at]; congr 1; omega
      have hcl : ∀ (i : Nat) x, l[i]? = some x → (f x).length = P.cellsOf e := by
       intro i x hx
       obtain ⟨_, cs, c0, c1, _⟩ := hl2 i x hx
       rw [← c0.1, c1]
      have hval : ∀ i, i < len → ∀ j, j < P.cellsOf e → ∃ v, w.cell? ⟨ab, ao + (i * P.cellsOf e + j), none⟩ = some v := by
       intro i hi j hj
       obtain ⟨x, hx⟩ : ∃ x, l[i]? = some x := get_ex (by omega)
       obtain ⟨_, cs, _, c1, c2⟩ := hl2 i x hx
       obtain ⟨v, hv⟩ : ∃ v, cs[j]? = some v := get_ex (by omega)
       exact ⟨v, by rw [← hadd]; exact c2 j v hv⟩
      have hR := Rel.slice (m := memOf w) (loc := []) .unk (l.map f) (some ⟨ab, ao, none⟩) cap (P.cellsOf e) ab ao (fun i j => (w.cell? ⟨ab, ao + (i * P.cellsOf e + j), none⟩).getD undef)
       (by simp; omega) trivial ?_ (fun _ => rfl) ?_ ?_
      ·rw [List.length_map, hl1] at hR; exact hR
      ·intro y hy
       obtain ⟨x, hx, rfl⟩ := List.mem_map.1 hy
       obtain ⟨i, hi, rfl⟩ := List.mem_iff_getElem.1 hx
       exact hcl i _ (List.getElem?_eq_getElem hi)
      ·intro i hi j hj
       simp only [List.length_map, hl1] at hi
       obtain ⟨v, hv⟩ := hval i hi j hj
       show w.cell? _ = _
       rw [hv]; rfl
      ·intro i y hy j z hz'
       rw [List.getElem?_map] at hy
       cases hx : l[i]? with
       | none => rw [hx] at hy; simp at hy
       | some x =>
        rw [hx] at hy; simp at hy; subst hy
        obtain ⟨_, cs, c0, c1, c2⟩ := hl2 i x hx
        have hj : j < P.cellsOf e := by have := lt_of_get hz'; rw [hcl i x hx] at this; exact this
        obtain ⟨v, hv⟩ : ∃ v, cs[j]? = some v := get_ex (by omega)
        have h5 := c2 j v hv
        rw [hadd] at h5
        simp only [h5, Option.getD_some]
        exact c0.2 j z v hz' hv
   ·simp at h
def ReadsFs (P : Program) (off : Nat) (fs : List Field) {α : Type} (f : α → List AV) (ok : α → Prop) : Prop :=
 ∀ (H : Type) (enc : TypeId × Value → H) (w : World) (fuel : Nat) (cs : List Value) (xs : List (DataW H × List MemPlace)),
  cs.length = off + (fs.map fun f => P.cellsOf f.type).sum →
  fs.mapM (fun f => DataW.trod enc P w 0 (fun _ => true) true fuel f.type ((cs.drop f.offset).take (P.cellsOf f.type))) = some xs → (∀ x ∈ DataW.weightsEach P (fs.map (·.type)) (xs.map (·.1)), x ≤ reachBytes) →
  ∃ x, ok x ∧ Cells (memOf w) [] (f x) (cs.drop off)
theorem ReadsFs.nil (off : Nat) : ReadsFs P off [] (fun _ : Unit => []) (fun _ => True) := by
 intro H enc w fuel cs xs hl hm hw
 refine ⟨(), trivial, ?_⟩
 rw [List.drop_eq_nil_of_le (by simp at hl; omega)]
 exact .nil
theorem ReadsFs.cons {off : Nat} {fd : Field} {fs : List Field} {α β : Type} {f : α → List AV} {g : β → List AV} {ok : α → Prop} {ok' : β → Prop} (ho : fd.offset = off) (h : Reads P fd.type f ok) (hr : ReadsFs P (off + P.cellsOf fd.type) fs g ok') :
  ReadsFs P off (fd :: fs) (fun x : α × β => f x.1 ++ g x.2) (fun x => ok x.1 ∧ ok' x.2) := by
 intro H enc w fuel cs xs hl hm hw
 rw [List.mapM_cons] at hm
 cases ha : DataW.trod enc P w 0 (fun _ => true) true fuel fd.type ((cs.drop fd.offset).take (P.cellsOf fd.type)) with
 | none => rw [ha] at hm; simp at hm
 | some y =>
  cases hb : fs.mapM (fun f => DataW.trod enc P w 0 (fun _ => true) true fuel f.type ((cs.drop f.offset).take (P.cellsOf f.type))) with
  | none => rw [ha, hb] at hm; simp at hm
  | some ys =>
   rw [ha, hb] at hm; simp at hm; subst hm
   obtain ⟨d, ps⟩ := y
   have hw' : ∀ x ∈ d.weights P fd.type ++ DataW.weightsEach P (fs.map (·.type)) (ys.map (·.1)), x ≤ reachBytes := by
    intro x hx; apply hw x; simp only [List.map_cons, DataW.weightsEach]; exact hx
   obtain ⟨x, h1, h2⟩ := h H enc w fuel _ d ps ha (fun z hz => hw' z (List.mem_append_left _ hz))
   obtain ⟨y, h3, h4⟩ := hr H enc w fuel cs ys (by simp only [List.map_cons, List.sum_cons] at hl; omega) hb (fun z hz => hw' z (List.mem_append_right _ hz))
   refine ⟨(x, y), ⟨h1, h3⟩, ?_⟩
   have := h2.append h4
   rw [ho, ← List.drop_drop, List.take_append_drop] at this
   exact this
theorem Reads.struct {fs : Array Field} {α : Type} {f : α → List AV} {ok : α → Prop} (ht : P.underlying t = some (.struct fs)) (hc : P.cellsOf t = (fs.toList.map fun f => P.cellsOf f.type).sum) (h : ReadsFs P 0 fs.toList f ok) : Reads P t f ok := by
 intro H enc w fuel cs d ps hx hw
 cases fuel with
 | zero => simp [DataW.trod] at hx
 | succ n =>
  simp only [DataW.trod, ht] at hx
  split at hx
  ·rename_i hl
   cases hm : fs.toList.mapM (fun f => DataW.trod enc P w 0 (fun _ => true) true n f.type ((cs.drop f.offset).take (P.cellsOf f.type))) with
   | none => rw [hm] at hx; simp at hx
   | some xs =>
    rw [hm] at hx
    simp only [Option.map_some, Option.some.injEq, Prod.mk.injEq] at hx
    obtain ⟨rfl, _⟩ := hx
    obtain ⟨x, h1, h2⟩ := h H enc w n cs xs (by omega) hm (fun z hz => hw z (by simp only [DataW.weights, ht]; exact hz))
    exact ⟨x, h1, by simpa using h2⟩
  ·simp at hx
theorem Reads.arg {α : Type} {f : α → AV} {ok : α → Prop} (h : Reads P t (fun x => [f x]) ok) (hag : ∀ d, P.underlying t = some d → aggB d = false) {H : Type} {enc : TypeId × Value → H} {w : World} {base : Nat} {v : Value} {d : DataW H} {ps : List MemPlace}
  (hv : Value.okWide P w .any base t v) (hd : DataW.Trod enc P w 0 (fun _ => true) true t v d ps) (hw : ∀ x ∈ d.weights P t, x ≤ reachBytes) : ∃ x, ok x ∧ Rel (memOf w) [] (f x) v := by
 obtain ⟨fuel, hf⟩ := hd
 obtain ⟨x, h1, h2⟩ := h H enc w fuel _ d ps hf hw
 refine ⟨x, h1, ?_⟩
 have hone : v.cells = #[v] := by
  cases hu : P.underlying t with
  | none => simp [Value.okWide, hu, Cell.okWide, Cell.ok] at hv
  | some dd =>
   have := hag dd hu
   cases v <;> first | rfl | (cases dd <;> simp [aggB] at this <;> simp [Value.okWide, hu, Cell.okWide, Cell.ok] at hv)
 rw [hone] at h2
 exact h2.2 0 _ _ rfl rfl
theorem Reads.argS {fs : Array Field} {α : Type} {f : α → List AV} {ok : α → Prop} (h : Reads P t f ok) (hu : P.underlying t = some (.struct fs)) {H : Type} {enc : TypeId × Value → H} {w : World} {base : Nat} {v : Value} {d : DataW H} {ps : List MemPlace}
  (hv : Value.okWide P w .any base t v) (hd : DataW.Trod enc P w 0 (fun _ => true) true t v d ps) (hw : ∀ x ∈ d.weights P t, x ≤ reachBytes) : ∃ x, ok x ∧ Rel (memOf w) [] (.agg (f x)) v := by
 obtain ⟨fuel, hf⟩ := hd
 obtain ⟨x, h1, h2⟩ := h H enc w fuel _ d ps hf hw
 refine ⟨x, h1, ?_⟩
 unfold Value.okWide at hv
 rw [hu] at hv
 obtain ⟨cs, rfl, _, _⟩ := hv
 exact .agg _ cs (by have := h2.1; simpa [Value.cells] using this) (fun j x v e1 e2 => h2.2 j x v e1 (by simpa [Value.cells] using e2))
end
open Go.ChangeShapes Go.WideShapes Go.ChangeAt Go.RowKit
section
variable {P : Program}
def RArg (P : Program) (t : TypeId) {α : Type} (f : α → AV) (ok : α → Prop) : Prop :=
 ∀ (H : Type) (enc : TypeId × Value → H) (w : World) (base : Nat) (v : Value) (d : DataW H) (ps : List MemPlace), Value.okWide P w .any base t v → DataW.Trod enc P w 0 (fun _ => true) true t v d ps →
  (∀ x ∈ d.weights P t, x ≤ reachBytes) → ∃ x, ok x ∧ Rel (memOf w) [] (f x) v
theorem RArg.one {t : TypeId} {α : Type} {f : α → AV} {ok : α → Prop} (h : Reads P t (fun x => [f x]) ok) (hag : ∀ d, P.underlying t = some d → aggB d = false) : RArg P t f ok := fun H enc w base v d ps hv hd hw => h.arg hag hv hd hw
theorem RArg.agg {t : TypeId} {α : Type} {f : α → List AV} {ok : α → Prop} {fs : Array Field} (h : Reads P t f ok) (hu : P.underlying t = some (.struct fs)) : RArg P t (fun x => .agg (f x)) ok := fun H enc w base v d ps hv hd hw => h.argS hu hv hd hw
def ReadsAll (P : Program) (ts : List TypeId) (Q : List AV → Prop) : Prop :=
 ∀ (H : Type) (enc : TypeId × Value → H) (w : World) (base : Nat) (vs : List Value) (ds : List (DataW H)) (ps : List MemPlace),
  (∀ (j : Nat) t v, ts[j]? = some t → vs[j]? = some v → Value.okWide P w .any base t v) → DataW.TrodAll enc P w 0 (fun _ => true) true ts vs ds ps → (∀ x ∈ DataW.weightsEach P ts ds, x ≤ reachBytes) →
  ∃ avs, Q avs ∧ vs.length = avs.length ∧ ∀ (j : Nat) x v, avs[j]? = some x → vs[j]? = some v → Rel (memOf w) [] x v
theorem ReadsAll.nil {Q : List AV → Prop} (h : Q []) : ReadsAll P [] Q := by
 intro H enc w base vs ds ps hv ht hw
 obtain ⟨rfl, _, _⟩ := trodAll_nil ht
 exact ⟨[], h, rfl, by simp⟩
theorem ReadsAll.cons {t : TypeId} {ts : List TypeId} {α : Type} {f : α → AV} {ok : α → Prop} {Q : List AV → Prop} (h : RArg P t f ok) (hr : ∀ x, ok x → ReadsAll P ts (fun l => Q (f x :: l))) : ReadsAll P (t :: ts) Q := by
 intro H enc w base vs ds ps hv ht hw
 obtain ⟨v, vs', d, ds', p, q, rfl, rfl, rfl, h1, h2⟩ := trodAll_cons ht
 have hw' : ∀ x ∈ d.weights P t ++ DataW.weightsEach P ts ds', x ≤ reachBytes := by intro x hx; apply hw x; simp only [DataW.weightsEach]; exact hx
 obtain ⟨x, o1, r1⟩ := h H enc w base v d p (hv 0 t v rfl rfl) h1 (fun z hz => hw' z (List.mem_append_left _ hz))
 obtain ⟨avs, q1, q2, q3⟩ := hr x o1 H enc w base vs' ds' q (fun j t v a b => hv (j + 1) t v (by simpa using a) (by simpa using b)) h2 (fun z hz => hw' z (List.mem_append_right _ hz))
 refine ⟨f x :: avs, q1, by simp [q2], ?_⟩
 intro j y u hy hu
 cases j with
 | zero => simp at hy hu; subst hy; subst hu; exact r1
 | succ j => simp at hy hu; exact q3 j y u hy hu
theorem trodAll_stays {H : Type} {enc : TypeId × Value → H} (hl : laidOutB P = true) {W W' : World} {sp : Nat → Bool} : ∀ {ts : List TypeId} {vs : List Value} {ds : List (DataW H)} {ps : List MemPlace}, (∀ t ∈ ts, P.readableRec t = true ∧ t < P.types.size) →
  DataW.TrodAll enc P W 0 (fun _ => true) true ts vs ds ps → (∀ x ∈ ps, W.sameAt W' x) → (∀ x ∈ ps, sp x.block = true) → DataW.TrodAll enc P W' 0 sp true ts vs ds ps
 | [], vs, ds, ps, hr, h, hs, hp => by
  obtain ⟨rfl, rfl, rfl⟩ := trodAll_nil h
  exact trodAll_mk0
 | t :: ts, vs, ds, ps, hr, h, hs, hp => by
  obtain ⟨v, vs', d, ds', p, q, rfl, rfl, rfl, h1, h2⟩ := trodAll_cons h
  have ht := hr t List.mem_cons_self
  refine ⟨p, q, WideElems.Trod_stays hl ht.1 ht.2 h1 (fun x hx => hs x (List.mem_append_left _ hx)) (fun x hx => hp x (List.mem_append_left _ hx)), ?_, rfl⟩
  exact trodAll_stays hl (fun t ht => hr t (List.mem_cons_of_mem _ ht)) h2 (fun x hx => hs x (List.mem_append_right _ hx)) (fun x hx => hp x (List.mem_append_right _ hx))
theorem post_same {H : Type} {enc : TypeId × Value → H} {f : Func} {s : ChangeSpec} {apart fresh handsOn again : Bool} {W W' : World} {args : Array Value} {v : Value} {ds gs : List (DataW H)} {before pa pv : List MemPlace}
  (hW : DataW.Whole enc P f.params.toList s.vars apart W args.toList ds gs before)
  (hres : ∀ (b : Nat) (sp : Nat → Bool) (hd : Bool), DataW.TrodAll enc P W' b sp hd f.resultTypes.toList (v.resultList f.resultTypes.size) (s.fn H (ds ++ gs)).results [])
  (hargs : ∀ sp : Nat → Bool, (∀ p ∈ before, sp p.block = true) → DataW.TrodAll enc P W' 0 sp true f.params.toList args.toList (s.fn H (ds ++ gs)).args pa)
  (hvars : ∀ sp : Nat → Bool, (∀ p ∈ before, sp p.block = true) → DataW.TrodVars enc P W' sp s.vars (s.fn H (ds ++ gs)).vars pv)
  (hps : before = pa ++ pv) (hk : W.keptBut W' (· ∈ before)) (hfz : ∀ a : Addr, a.block < W.heap.size → W'.frozen? a = W.frozen? a)
  (hok : ∀ (j : Nat) (t : TypeId) (r : Value), f.resultTypes[j]? = some t → (v.resultList f.resultTypes.size)[j]? = some r → Value.okWide P W' .any 0 t r) :
  s.post enc P f apart fresh handsOn again W args v W' := by
 have hold : ∀ p ∈ before, (fun b => decide (b < W.heap.size)) p.block = true := fun p hp => by simpa using hW.lt p hp
 have hlt := hW.lt
 refine ⟨ds, gs, before, [], pa, pv, hW, hres _ _ _, hargs _ hold, hvars _ hold, World.keptBut_mono (fun p hp => ⟨hp, ?_⟩) hk, fun _ => ?_⟩
 ·rw [hps, List.mem_append] at hp
  exact Or.inr hp
 ·obtain ⟨_, _, _, _, _, hz, hn⟩ := hW
  refine ⟨hok, _, _, ([] ++ pa) ++ pv, ⟨[] ++ pa, pv, trodAll_append (hargs _ (fun _ _ => rfl)) (hres _ _ _), hvars _ (fun _ _ => rfl), rfl, ?_, ?_⟩, ?_⟩
  ·intro b off hp
   have hb : MemPlace.cell b off ∈ before := by rw [hps]; simpa using hp
   rw [hfz _ (hlt _ hb)]
   exact hz b off hb
  ·intro ha
   have := hn ha
   rw [hps] at this
   simpa using this
  ·intro p hp _
   rw [hps]
   simpa using hp
end
end Go.Ahl
namespace Go.Proofs.YtpabiedjneognaaGreatDoor
open Go.Ahl
def c_has : CCode := .seq (.ops [oS 4 (.move (.lit (.bool false)))]) (.seq (.seq (.ops [oS 7 (.move (.tmp 0)), oS 8 (.blen 1 (.tmp 7)), oS 9 (.move (.lit (.int .i64 0)))]) (.block 0 (.loop (.seq (.ops [oS 10 (.bin .lss .none (.tmp 9) (.tmp 8))]) (.seq (.cond (.tmp 10) .skip (.exit 0)) (.seq (.block 1 (.seq (.ops [oS 11 (.iaddr 1 (.tmp 7) (.tmp 9)), oS 12 (.load none (.tmp 11)), oS 6 (.move (.tmp 12))]) (.seq (.ops [oS 13 (.move (.tmp 6)), oS 14 (.move (.tmp 1)), oS 15 (.bin .eql .none (.tmp 13) (.tmp 14))]) (.cond (.tmp 15) (.seq (.ops [oS 4 (.move (.lit (.bool true)))]) .ret) .skip)))) (.ops [oS 16 (.bin .add .none (.tmp 9) (.lit (.int .i64 1))), oS 9 (.move (.tmp 16))]))))))) (.seq (.ops [oS 4 (.move (.lit (.bool false)))]) .ret))
theorem has_spec (s : List Int) (x : Int) (tok : Tok) (σ : Store) (hl : s.length ≤ 140737488355328) :
  ACalls Tryz.prog 78 [.slice tok (s.map Ahl.encI), .int .i64 x] σ (isR (.bool (s.contains x)) σ) := by
 refine ACalls.intro (rs := [(.tmp 4)]) (by kernel_rfl) { own := [], ghosts := [] } Tryz.func78 (c := Tryz.f78.body.getD .skip) (by kernel_rfl) (by decide) (by rw [show Tryz.f78.ntmps = 17 by kernel_rfl]; exact Nat.le_of_ble_eq_true rfl) (by kernel_rfl) ?_
 intro hσ hids
 rw [show comp Tryz.prog { own := [], ghosts := [] } (Tryz.f78.body.getD .skip) = c_has by kernel_rfl, show Tryz.f78.ntmps = 17 by kernel_rfl]
 unfold c_has
 have hil : Ids σ.length (.slice tok (s.map Ahl.encI)) := hids _ (by simp)
 simp only [go_sem, simprocAttr]
 refine wpc_while (fun i => [(1, .int .i64 x), (7, .slice tok (s.map Ahl.encI)), (8, .int .i64 s.length), (9, .int .i64 (i : Nat))]) (fun _ => σ) (fun i => i ≤ s.length ∧ s.contains x = (s.drop i).contains x) (fun i => s.length - i) 0 ⟨Nat.zero_le _, rfl⟩ (by (try dsimp only); exact ghA) ?_
 rintro i ⟨hi, hv⟩ K hK hE hR
 by_cases h : i < s.length
 ·obtain ⟨y, hx⟩ := get_ex h
  have hlt : ((i : Int) < (s.length : Int)) := by omega
  have hw := wrapS (i := i) (by omega)
  rw [drop_cons hx, List.contains_cons] at hv
  by_cases h1 : y = x
  ·subst h1
   simp only [go_sem, simprocAttr, hlt, hx, Ahl.encI, beq_self_eq_true]
   rw [hR]
   exact rt (.bool true) ⟨by rw [hv]; simp, rfl⟩
  ·have h1' : (y == x) = false := by simpa using h1
   have h1'' : (x == y) = false := by simpa using Ne.symm h1
   simp only [go_sem, simprocAttr, hlt, hx, Ahl.encI, h1']
   rw [h1'', Bool.false_or] at hv
   refine hK _ _ (i + 1) (⟨by omega, hv⟩) om ?_; (try dsimp only); (try simp only [ hw]); exact ghA
 ·have hlt : ¬ ((i : Int) < (s.length : Int)) := by omega
  rw [drop_len h] at hv
  simp only [go_sem, simprocAttr, hlt, hE]
  exact rt (.bool false) ⟨by rw [hv]; rfl, rfl⟩
def condHolds (s : List Int) (l : List FLit) : Bool := l.all fun x => s.contains x.fact != x.neg
theorem condHolds_cons (s : List Int) (x : FLit) (l : List FLit) : condHolds s (x :: l) = ((s.contains x.fact != x.neg) && condHolds s l) := rfl
def e_holds02_0 : List COp := [oS 13 (.move (.tmp 0)), oS 14 (.faddr 0 (.tmp 6)), oA 15 (.load none (.tmp 14)) [1], oA 16 (.call (.lit (.func 78 [])) [.tmp 13, .tmp 15]) [0, 2], oS 17 (.faddr 1 (.tmp 6)), oA 18 (.load none (.tmp 17)) [4], oA 19 (.bin .eql .bool (.tmp 16) (.tmp 18)) [3, 5]]
def d_holds02_0 : List COp := e_holds02_0
theorem dr_holds02_0 (P : Program) (nt n0 : Nat) (Q : Post) (s : Slots) (σ : Store) : wpc P nt n0 (.draw d_holds02_0) Q s σ = aOpsD P nt e_holds02_0 (Q .normal) s σ := wpc_draw _ (by decide)
attribute [local go_sem] dr_holds02_0 e_holds02_0
def c_holds02 : CCode := .seq (.ops [oS 4 (.move (.lit (.bool false)))]) (.seq (.seq (.ops [oS 7 (.move (.tmp 1)), oS 8 (.blen 1 (.tmp 7)), oS 9 (.move (.lit (.int .i64 0)))]) (.block 0 (.loop (.seq (.ops [oS 10 (.bin .lss .none (.tmp 9) (.tmp 8))]) (.seq (.cond (.tmp 10) .skip (.exit 0)) (.seq (.block 1 (.seq (.ops [oS 11 (.iaddr 2 (.tmp 7) (.tmp 9)), oS 12 (.load (some 2) (.tmp 11)), oS 6 (.alloc (.agg [.int .i64 0, .bool false])), oN (.store 2 (.tmp 6) (.tmp 12))]) (.seq (.draw d_holds02_0) (.cond (.tmp 19) (.seq (.ops [oS 4 (.move (.lit (.bool false)))]) .ret) .skip)))) (.ops [oS 20 (.bin .add .none (.tmp 9) (.lit (.int .i64 1))), oS 9 (.move (.tmp 20))]))))))) (.seq (.ops [oS 4 (.move (.lit (.bool true)))]) .ret))
theorem holds02_spec (s : List Int) (l : List FLit) (tok tok' : Tok) (σ : Store) (hs : s.length ≤ 140737488355328) (hl : l.length ≤ 140737488355328) :
  ACalls Tryz.prog 43 [.slice tok (s.map Ahl.encI), .slice tok' (l.map encLit)] σ (isR (.bool (condHolds s l)) σ) := by
 refine ACalls.intro (rs := [(.tmp 4)]) (by kernel_rfl) { own := [], ghosts := [] } Tryz.func43 (c := Tryz.f43.body.getD .skip) (by kernel_rfl) (by decide) (by rw [show Tryz.f43.ntmps = 21 by kernel_rfl]; exact Nat.le_of_ble_eq_true rfl) (by kernel_rfl) ?_
 intro hσ hids
 rw [show comp Tryz.prog { own := [], ghosts := [] } (Tryz.f43.body.getD .skip) = c_holds02 by kernel_rfl, show Tryz.f43.ntmps = 21 by kernel_rfl]
 unfold c_holds02
 have hil : Ids σ.length (.slice tok (s.map Ahl.encI)) := hids _ (by simp)
 have hil' : Ids σ.length (.slice tok' (l.map encLit)) := hids _ (by simp)
 simp only [go_sem, simprocAttr]
 refine wpc_while (fun i => [(0, .slice tok (s.map Ahl.encI)), (7, .slice tok' (l.map encLit)), (8, .int .i64 l.length), (9, .int .i64 (i : Nat))]) (fun _ => σ) (fun i => i ≤ l.length ∧ condHolds s l = condHolds s (l.drop i)) (fun i => l.length - i) 0 ⟨Nat.zero_le _, rfl⟩ (by (try dsimp only); exact ghA) ?_
 rintro i ⟨hi, hv⟩ K hK hE hR
 by_cases h : i < l.length
 ·obtain ⟨y, hx⟩ := get_ex h
  have hlt : ((i : Int) < (l.length : Int)) := by omega
  have hw := wrapS (i := i) (by omega)
  rw [drop_cons hx, condHolds_cons] at hv
  simp only [go_sem, simprocAttr, hlt, hx, encLit]
  refine ⟨_, has_spec s y.fact tok _ hs, ?_⟩
  by_cases h1 : s.contains y.fact = y.neg
  ·have h1' : (s.contains y.fact == y.neg) = true := by simpa using h1
   simp only [go_sem, simprocAttr, h1']
   rw [hR]
   exact rt (.bool false) ⟨by rw [hv, h1, show (y.neg != y.neg) = false by simp]; rfl, rfl⟩
  ·have h1' : (s.contains y.fact == y.neg) = false := by simpa using h1
   simp only [go_sem, simprocAttr, h1']
   have h2 : (s.contains y.fact != y.neg) = true := by simpa using h1
   rw [h2, Bool.true_and] at hv
   refine hK _ _ (i + 1) (⟨by omega, hv⟩) om ?_; (try dsimp only); (try simp only [ hw]); exact ghA
 ·have hlt : ¬ ((i : Int) < (l.length : Int)) := by omega
  rw [drop_len h] at hv
  simp only [go_sem, simprocAttr, hlt, hE]
  exact rt (.bool true) ⟨by rw [hv]; rfl, rfl⟩
def risingB (n : Int) : Int → List Int → Bool
 | _, [] => true
 | p, x :: l => decide (p < x) && decide (x < n) && risingB n x l
def prevI (s : List Int) (i : Nat) (p : Int) : Prop := -1 ≤ p ∧ (i = 0 → p = -1) ∧ (0 < i → s[i - 1]? = some p)
def c_rising : CCode := .seq (.ops [oS 4 (.move (.lit (.bool false)))]) (.seq (.seq (.ops [oS 7 (.move (.tmp 1)), oS 8 (.blen 1 (.tmp 7)), oS 9 (.move (.lit (.int .i64 0)))]) (.block 0 (.loop (.seq (.ops [oS 10 (.bin .lss .none (.tmp 9) (.tmp 8))]) (.seq (.cond (.tmp 10) .skip (.exit 0)) (.seq (.block 1 (.seq (.ops [oS 11 (.move (.tmp 9)), oS 12 (.iaddr 1 (.tmp 7) (.tmp 9)), oS 13 (.load none (.tmp 12)), oS 5 (.move (.tmp 11)), oS 6 (.move (.tmp 13))]) (.seq (.ops [oS 14 (.move (.tmp 6)), oS 15 (.bin .lss .none (.tmp 14) (.lit (.int .i64 0))), oS 16 (.move (.tmp 15)), oG 17 16 false (.move (.tmp 6)), oG 18 16 false (.move (.tmp 0)), oG 19 16 false (.bin .geq .none (.tmp 17) (.tmp 18)), oS 20 (.pick (.tmp 16) (.lit (.bool true)) (.tmp 19)), oS 21 (.move (.tmp 20)), oG 22 21 false (.move (.tmp 5)), oG 23 21 false (.bin .gtr .none (.tmp 22) (.lit (.int .i64 0))), oG 24 21 false (.move (.tmp 23)), oG 25 24 true (.move (.tmp 1)), oG 26 24 true (.move (.tmp 5)), oG 27 24 true (.bin .sub .none (.tmp 26) (.lit (.int .i64 1))), oG 28 24 true (.iaddr 1 (.tmp 25) (.tmp 27)), oG 29 24 true (.load none (.tmp 28)), oG 30 24 true (.move (.tmp 6)), oG 31 24 true (.bin .geq .none (.tmp 29) (.tmp 30)), oG 32 21 false (.pick (.tmp 24) (.tmp 31) (.lit (.bool false))), oS 33 (.pick (.tmp 21) (.lit (.bool true)) (.tmp 32))]) (.cond (.tmp 33) (.seq (.ops [oS 4 (.move (.lit (.bool false)))]) .ret) .skip)))) (.ops [oS 34 (.bin .add .none (.tmp 9) (.lit (.int .i64 1))), oS 9 (.move (.tmp 34))]))))))) (.seq (.ops [oS 4 (.move (.lit (.bool true)))]) .ret))
theorem rising_spec (s : List Int) (n : Int) (tok : Tok) (σ : Store) (hs : s.length ≤ 140737488355328) :
  ACalls Tryz.prog 97 [.int .i64 n, .slice tok (s.map Ahl.encI)] σ (isR (.bool (risingB n (-1) s)) σ) := by
 refine ACalls.intro (rs := [(.tmp 4)]) (by kernel_rfl) { own := [], ghosts := [] } Tryz.func97 (c := Tryz.f97.body.getD .skip) (by kernel_rfl) (by decide) (by rw [show Tryz.f97.ntmps = 35 by kernel_rfl]; exact Nat.le_of_ble_eq_true rfl) (by kernel_rfl) ?_
 intro hσ hids
 rw [show comp Tryz.prog { own := [], ghosts := [] } (Tryz.f97.body.getD .skip) = c_rising by kernel_rfl, show Tryz.f97.ntmps = 35 by kernel_rfl]
 unfold c_rising
 have hil : Ids σ.length (.slice tok (s.map Ahl.encI)) := hids _ (by simp)
 simp only [go_sem, simprocAttr]
 refine wpc_while (fun (q : Nat × Int) => [(0, .int .i64 n), (1, .slice tok (s.map Ahl.encI)), (7, .slice tok (s.map Ahl.encI)), (8, .int .i64 s.length), (9, .int .i64 q.1)]) (fun _ => σ) (fun q => q.1 ≤ s.length ∧ prevI s q.1 q.2 ∧ risingB n (-1) s = risingB n q.2 (s.drop q.1)) (fun q => s.length - q.1) (0, -1) ⟨Nat.zero_le _, ⟨by omega, by simp, by simp⟩, rfl⟩ (by (try dsimp only); exact ghA) ?_
 rintro ⟨i, p⟩ ⟨hi, ⟨hp1, hp2, hp3⟩, hv⟩ K hK hE hR
 dsimp only at hi hp1 hp2 hp3 hv ⊢
 by_cases h : i < s.length
 ·obtain ⟨y, hx⟩ := get_ex h
  have hlt : ((i : Int) < (s.length : Int)) := by omega
  have hw := wrapS (i := i) (by omega)
  rw [drop_cons hx, risingB] at hv
  by_cases h1 : y < 0
  ·simp only [go_sem, simprocAttr, hlt, hx, Ahl.encI, h1]
   rw [hR]
   exact rt (.bool false) ⟨by rw [hv]; simp; omega, rfl⟩
  by_cases h2 : y ≥ n
  ·simp only [go_sem, simprocAttr, hlt, hx, Ahl.encI, h1, h2]
   rw [hR]
   exact rt (.bool false) ⟨by rw [hv]; simp; omega, rfl⟩
  by_cases h3 : (i : Int) > 0
  ·have hw1 : IntKind.i64.wrap ((i : Int) - 1) = ((i - 1 : Nat) : Int) := by rw [wrap_ok (by omega)]; omega
   have hy := hp3 (by omega)
   by_cases h4 : p ≥ y
   ·simp only [go_sem, simprocAttr, hlt, hx, Ahl.encI, h1, h2, h3, hw1, hy, h4]
    rw [hR]
    exact rt (.bool false) ⟨by rw [hv]; simp; omega, rfl⟩
   ·simp only [go_sem, simprocAttr, hlt, hx, Ahl.encI, h1, h2, h3, hw1, hy, h4]
    have h5 : decide (p < y) = true := by simpa using h4
    have h6 : decide (y < n) = true := by simpa using h2
    rw [h5, h6, Bool.true_and, Bool.true_and] at hv
    refine hK _ _ ((i + 1, y)) (⟨by simp only []; omega, ⟨by simp only []; omega, by simp, fun _ => hx⟩, hv⟩) om ?_; (try dsimp only); (try simp only [ hw]); exact ghA
  ·have h5 : decide (p < y) = true := by have := hp2 (by omega); simp; omega
   have h6 : decide (y < n) = true := by simpa using h2
   rw [h5, h6, Bool.true_and, Bool.true_and] at hv
   simp only [go_sem, simprocAttr, hlt, hx, Ahl.encI, h1, h2, h3]
   refine hK _ _ ((i + 1, y)) (⟨by simp only []; omega, ⟨by simp only []; omega, by simp, fun _ => hx⟩, hv⟩) om ?_; (try dsimp only); (try simp only [ hw]); exact ghA
 ·have hlt : ¬ ((i : Int) < (s.length : Int)) := by omega
  rw [drop_len h] at hv
  simp only [go_sem, simprocAttr, hlt, hE]
  exact rt (.bool true) ⟨by rw [hv]; rfl, rfl⟩
def c_rising01 : CCode := .seq (.ops [oS 4 (.move (.lit (.bool false)))]) (.seq (.seq (.ops [oS 7 (.move (.tmp 0)), oS 8 (.blen 1 (.tmp 7)), oS 9 (.move (.lit (.int .i64 0)))]) (.block 0 (.loop (.seq (.ops [oS 10 (.bin .lss .none (.tmp 9) (.tmp 8))]) (.seq (.cond (.tmp 10) .skip (.exit 0)) (.seq (.block 1 (.seq (.ops [oS 11 (.move (.tmp 9)), oS 12 (.iaddr 1 (.tmp 7) (.tmp 9)), oS 13 (.load none (.tmp 12)), oS 5 (.move (.tmp 11)), oS 6 (.move (.tmp 13))]) (.seq (.ops [oS 14 (.move (.tmp 6)), oS 15 (.bin .lss .none (.tmp 14) (.lit (.int .i64 0))), oS 16 (.move (.tmp 15)), oG 17 16 false (.move (.tmp 6)), oG 18 16 false (.move (.tmp 1)), oG 19 16 false (.bin .geq .none (.tmp 17) (.tmp 18)), oS 20 (.pick (.tmp 16) (.lit (.bool true)) (.tmp 19)), oS 21 (.move (.tmp 20)), oG 22 21 false (.move (.tmp 5)), oG 23 21 false (.bin .gtr .none (.tmp 22) (.lit (.int .i64 0))), oG 24 21 false (.move (.tmp 23)), oG 25 24 true (.move (.tmp 0)), oG 26 24 true (.move (.tmp 5)), oG 27 24 true (.bin .sub .none (.tmp 26) (.lit (.int .i64 1))), oG 28 24 true (.iaddr 1 (.tmp 25) (.tmp 27)), oG 29 24 true (.load none (.tmp 28)), oG 30 24 true (.move (.tmp 6)), oG 31 24 true (.bin .geq .none (.tmp 29) (.tmp 30)), oG 32 21 false (.pick (.tmp 24) (.tmp 31) (.lit (.bool false))), oS 33 (.pick (.tmp 21) (.lit (.bool true)) (.tmp 32))]) (.cond (.tmp 33) (.seq (.ops [oS 4 (.move (.lit (.bool false)))]) .ret) .skip)))) (.ops [oS 34 (.bin .add .none (.tmp 9) (.lit (.int .i64 1))), oS 9 (.move (.tmp 34))]))))))) (.seq (.ops [oS 4 (.move (.lit (.bool true)))]) .ret))
theorem rising01_spec (s : List Int) (n : Int) (tok : Tok) (σ : Store) (hs : s.length ≤ 140737488355328) :
  ACalls Tryz.prog 74 [.slice tok (s.map Ahl.encI), .int .i64 n] σ (isR (.bool (risingB n (-1) s)) σ) := by
 refine ACalls.intro (rs := [(.tmp 4)]) (by kernel_rfl) { own := [], ghosts := [] } Tryz.func74 (c := Tryz.f74.body.getD .skip) (by kernel_rfl) (by decide) (by rw [show Tryz.f74.ntmps = 35 by kernel_rfl]; exact Nat.le_of_ble_eq_true rfl) (by kernel_rfl) ?_
 intro hσ hids
 rw [show comp Tryz.prog { own := [], ghosts := [] } (Tryz.f74.body.getD .skip) = c_rising01 by kernel_rfl, show Tryz.f74.ntmps = 35 by kernel_rfl]
 unfold c_rising01
 have hil : Ids σ.length (.slice tok (s.map Ahl.encI)) := hids _ (by simp)
 simp only [go_sem, simprocAttr]
 refine wpc_while (fun (q : Nat × Int) => [(1, .int .i64 n), (0, .slice tok (s.map Ahl.encI)), (7, .slice tok (s.map Ahl.encI)), (8, .int .i64 s.length), (9, .int .i64 q.1)]) (fun _ => σ) (fun q => q.1 ≤ s.length ∧ prevI s q.1 q.2 ∧ risingB n (-1) s = risingB n q.2 (s.drop q.1)) (fun q => s.length - q.1) (0, -1) ⟨Nat.zero_le _, ⟨by omega, by simp, by simp⟩, rfl⟩ (by (try dsimp only); exact ghA) ?_
 rintro ⟨i, p⟩ ⟨hi, ⟨hp1, hp2, hp3⟩, hv⟩ K hK hE hR
 dsimp only at hi hp1 hp2 hp3 hv ⊢
 by_cases h : i < s.length
 ·obtain ⟨y, hx⟩ := get_ex h
  have hlt : ((i : Int) < (s.length : Int)) := by omega
  have hw := wrapS (i := i) (by omega)
  rw [drop_cons hx, risingB] at hv
  by_cases h1 : y < 0
  ·simp only [go_sem, simprocAttr, hlt, hx, Ahl.encI, h1]
   rw [hR]
   exact rt (.bool false) ⟨by rw [hv]; simp; omega, rfl⟩
  by_cases h2 : y ≥ n
  ·simp only [go_sem, simprocAttr, hlt, hx, Ahl.encI, h1, h2]
   rw [hR]
   exact rt (.bool false) ⟨by rw [hv]; simp; omega, rfl⟩
  by_cases h3 : (i : Int) > 0
  ·have hw1 : IntKind.i64.wrap ((i : Int) - 1) = ((i - 1 : Nat) : Int) := by rw [wrap_ok (by omega)]; omega
   have hy := hp3 (by omega)
   by_cases h4 : p ≥ y
   ·simp only [go_sem, simprocAttr, hlt, hx, Ahl.encI, h1, h2, h3, hw1, hy, h4]
    rw [hR]
    exact rt (.bool false) ⟨by rw [hv]; simp; omega, rfl⟩
   ·simp only [go_sem, simprocAttr, hlt, hx, Ahl.encI, h1, h2, h3, hw1, hy, h4]
    have h5 : decide (p < y) = true := by simpa using h4
    have h6 : decide (y < n) = true := by simpa using h2
    rw [h5, h6, Bool.true_and, Bool.true_and] at hv
    refine hK _ _ ((i + 1, y)) (⟨by simp only []; omega, ⟨by simp only []; omega, by simp, fun _ => hx⟩, hv⟩) om ?_; (try dsimp only); (try simp only [ hw]); exact ghA
  ·have h5 : decide (p < y) = true := by have := hp2 (by omega); simp; omega
   have h6 : decide (y < n) = true := by simpa using h2
   rw [h5, h6, Bool.true_and, Bool.true_and] at hv
   simp only [go_sem, simprocAttr, hlt, hx, Ahl.encI, h1, h2, h3]
   refine hK _ _ ((i + 1, y)) (⟨by simp only []; omega, ⟨by simp only []; omega, by simp, fun _ => hx⟩, hv⟩) om ?_; (try dsimp only); (try simp only [ hw]); exact ghA
 ·have hlt : ¬ ((i : Int) < (s.length : Int)) := by omega
  rw [drop_len h] at hv
  simp only [go_sem, simprocAttr, hlt, hE]
  exact rt (.bool true) ⟨by rw [hv]; rfl, rfl⟩
def condB (n : Int) : Int → List FLit → Bool
 | _, [] => true
 | p, x :: l => decide (p < x.fact) && decide (x.fact < n) && condB n x.fact l
def prevC (s : List FLit) (i : Nat) (p : Int) : Prop := -1 ≤ p ∧ (i = 0 → p = -1) ∧ (0 < i → ∃ b, s[i - 1]? = some ⟨p, b⟩)
def e_cond_0 : List COp := [oS 14 (.faddr 0 (.tmp 6)), oA 15 (.load none (.tmp 14)) [0], oA 16 (.bin .lss .none (.tmp 15) (.lit (.int .i64 0))) [1], oA 17 (.move (.tmp 16)) [2], ⟨some 18, .faddr 0 (.tmp 6), some (some 17, false), [3]⟩, ⟨some 19, .load none (.tmp 18), some (some 17, false), [4, 3]⟩, ⟨some 20, .move (.tmp 0), some (some 17, false), [3]⟩, ⟨some 21, .bin .geq .none (.tmp 19) (.tmp 20), some (some 17, false), [5, 6, 3]⟩, oA 22 (.pick (.tmp 17) (.lit (.bool true)) (.tmp 21)) [3, 7], oA 23 (.move (.tmp 22)) [8, 3], ⟨some 24, .move (.tmp 5), some (some 23, false), [9]⟩, ⟨some 25, .bin .gtr .none (.tmp 24) (.lit (.int .i64 0)), some (some 23, false), [10, 9]⟩, ⟨some 26, .move (.tmp 25), some (some 23, false), [11, 9, 9]⟩, ⟨some 27, .move (.tmp 1), some (some 26, true), [12]⟩, ⟨some 28, .move (.tmp 5), some (some 26, true), [12]⟩, ⟨some 29, .bin .sub .none (.tmp 28) (.lit (.int .i64 1)), some (some 26, true), [14, 12]⟩, ⟨some 30, .iaddr 2 (.tmp 27) (.tmp 29), some (some 26, true), [13, 15, 12]⟩, ⟨some 31, .faddr 0 (.tmp 30), some (some 26, true), [16, 12]⟩, ⟨some 32, .load none (.tmp 31), some (some 26, true), [17, 12]⟩, ⟨some 33, .faddr 0 (.tmp 6), some (some 26, true), [12]⟩, ⟨some 34, .load none (.tmp 33), some (some 26, true), [19, 12]⟩, ⟨some 35, .bin .geq .none (.tmp 32) (.tmp 34), some (some 26, true), [18, 20, 12]⟩, ⟨some 36, .pick (.tmp 26) (.tmp 35) (.lit (.bool false)), some (some 23, false), [12, 21, 9]⟩, oA 37 (.pick (.tmp 23) (.lit (.bool true)) (.tmp 36)) [9, 22]]
def d_cond_0 : List COp := e_cond_0
theorem dr_cond_0 (P : Program) (nt n0 : Nat) (Q : Post) (s : Slots) (σ : Store) : wpc P nt n0 (.draw d_cond_0) Q s σ = aOpsD P nt e_cond_0 (Q .normal) s σ := wpc_draw _ (by decide)
attribute [local go_sem] dr_cond_0 e_cond_0
def c_cond : CCode := .seq (.ops [oS 4 (.move (.lit (.bool false)))]) (.seq (.seq (.ops [oS 7 (.move (.tmp 1)), oS 8 (.blen 1 (.tmp 7)), oS 9 (.move (.lit (.int .i64 0)))]) (.block 0 (.loop (.seq (.ops [oS 10 (.bin .lss .none (.tmp 9) (.tmp 8))]) (.seq (.cond (.tmp 10) .skip (.exit 0)) (.seq (.block 1 (.seq (.ops [oS 11 (.move (.tmp 9)), oS 12 (.iaddr 2 (.tmp 7) (.tmp 9)), oS 13 (.load (some 2) (.tmp 12)), oS 6 (.alloc (.agg [.int .i64 0, .bool false])), oS 5 (.move (.tmp 11)), oN (.store 2 (.tmp 6) (.tmp 13))]) (.seq (.draw d_cond_0) (.cond (.tmp 37) (.seq (.ops [oS 4 (.move (.lit (.bool false)))]) .ret) .skip)))) (.ops [oS 38 (.bin .add .none (.tmp 9) (.lit (.int .i64 1))), oS 9 (.move (.tmp 38))]))))))) (.seq (.ops [oS 4 (.move (.lit (.bool true)))]) .ret))
theorem cond_spec (s : List FLit) (n : Int) (tok : Tok) (σ : Store) (hs : s.length ≤ 140737488355328) :
  ACalls Tryz.prog 70 [.int .i64 n, .slice tok (s.map encLit)] σ (isR (.bool (condB n (-1) s)) σ) := by
 refine ACalls.intro (rs := [(.tmp 4)]) (by kernel_rfl) { own := [], ghosts := [] } Tryz.func70 (c := Tryz.f70.body.getD .skip) (by kernel_rfl) (by decide) (by rw [show Tryz.f70.ntmps = 39 by kernel_rfl]; exact Nat.le_of_ble_eq_true rfl) (by kernel_rfl) ?_
 intro hσ hids
 rw [show comp Tryz.prog { own := [], ghosts := [] } (Tryz.f70.body.getD .skip) = c_cond by kernel_rfl, show Tryz.f70.ntmps = 39 by kernel_rfl]
 unfold c_cond
 have hil : Ids σ.length (.slice tok (s.map encLit)) := hids _ (by simp)
 simp only [go_sem, simprocAttr]
 refine wpc_while (fun (q : Nat × Int) => [(0, .int .i64 n), (1, .slice tok (s.map encLit)), (7, .slice tok (s.map encLit)), (8, .int .i64 s.length), (9, .int .i64 q.1)]) (fun _ => σ) (fun q => q.1 ≤ s.length ∧ prevC s q.1 q.2 ∧ condB n (-1) s = condB n q.2 (s.drop q.1)) (fun q => s.length - q.1) (0, -1) ⟨Nat.zero_le _, ⟨by omega, by simp, by simp⟩, rfl⟩ (by (try dsimp only); exact ghA) ?_
 rintro ⟨i, p⟩ ⟨hi, ⟨hp1, hp2, hp3⟩, hv⟩ K hK hE hR
 dsimp only at hi hp1 hp2 hp3 hv ⊢
 by_cases h : i < s.length
 ·obtain ⟨⟨y, nb⟩, hx⟩ := get_ex h
  have hlt : ((i : Int) < (s.length : Int)) := by omega
  have hw := wrapS (i := i) (by omega)
  rw [drop_cons hx, condB] at hv
  dsimp only at hv
  by_cases h1 : y < 0
  ·simp only [go_sem, simprocAttr, hlt, hx, encLit, h1]
   rw [hR]
   exact rt (.bool false) ⟨by rw [hv]; simp; omega, rfl⟩
  by_cases h2 : y ≥ n
  ·simp only [go_sem, simprocAttr, hlt, hx, encLit, h1, h2]
   rw [hR]
   exact rt (.bool false) ⟨by rw [hv]; simp; omega, rfl⟩
  by_cases h3 : (i : Int) > 0
  ·have hw1 : IntKind.i64.wrap ((i : Int) - 1) = ((i - 1 : Nat) : Int) := by rw [wrap_ok (by omega)]; omega
   obtain ⟨pb, hy⟩ := hp3 (by omega)
   by_cases h4 : p ≥ y
   ·simp only [go_sem, simprocAttr, hlt, hx, encLit, h1, h2, h3, hw1, hy, h4]
    rw [hR]
    exact rt (.bool false) ⟨by rw [hv]; simp; omega, rfl⟩
   ·simp only [go_sem, simprocAttr, hlt, hx, encLit, h1, h2, h3, hw1, hy, h4]
    have h5 : decide (p < y) = true := by simpa using h4
    have h6 : decide (y < n) = true := by simpa using h2
    rw [h5, h6, Bool.true_and, Bool.true_and] at hv
    refine hK _ _ ((i + 1, y)) (⟨by simp only []; omega, ⟨by simp only []; omega, by simp, fun _ => ⟨nb, hx⟩⟩, hv⟩) om ?_; (try dsimp only); (try simp only [ hw]); exact ghA
  ·have h5 : decide (p < y) = true := by have := hp2 (by omega); simp; omega
   have h6 : decide (y < n) = true := by simpa using h2
   rw [h5, h6, Bool.true_and, Bool.true_and] at hv
   simp only [go_sem, simprocAttr, hlt, hx, encLit, h1, h2, h3]
   refine hK _ _ ((i + 1, y)) (⟨by simp only []; omega, ⟨by simp only []; omega, by simp, fun _ => ⟨nb, hx⟩⟩, hv⟩) om ?_; (try dsimp only); (try simp only [ hw]); exact ghA
 ·have hlt : ¬ ((i : Int) < (s.length : Int)) := by omega
  rw [drop_len h] at hv
  simp only [go_sem, simprocAttr, hlt, hE]
  exact rt (.bool true) ⟨by rw [hv]; rfl, rfl⟩
def e_cond01_0 : List COp := [oS 14 (.faddr 0 (.tmp 6)), oA 15 (.load none (.tmp 14)) [0], oA 16 (.bin .lss .none (.tmp 15) (.lit (.int .i64 0))) [1], oA 17 (.move (.tmp 16)) [2], ⟨some 18, .faddr 0 (.tmp 6), some (some 17, false), [3]⟩, ⟨some 19, .load none (.tmp 18), some (some 17, false), [4, 3]⟩, ⟨some 20, .move (.tmp 1), some (some 17, false), [3]⟩, ⟨some 21, .bin .geq .none (.tmp 19) (.tmp 20), some (some 17, false), [5, 6, 3]⟩, oA 22 (.pick (.tmp 17) (.lit (.bool true)) (.tmp 21)) [3, 7], oA 23 (.move (.tmp 22)) [8, 3], ⟨some 24, .move (.tmp 5), some (some 23, false), [9]⟩, ⟨some 25, .bin .gtr .none (.tmp 24) (.lit (.int .i64 0)), some (some 23, false), [10, 9]⟩, ⟨some 26, .move (.tmp 25), some (some 23, false), [11, 9, 9]⟩, ⟨some 27, .move (.tmp 0), some (some 26, true), [12]⟩, ⟨some 28, .move (.tmp 5), some (some 26, true), [12]⟩, ⟨some 29, .bin .sub .none (.tmp 28) (.lit (.int .i64 1)), some (some 26, true), [14, 12]⟩, ⟨some 30, .iaddr 2 (.tmp 27) (.tmp 29), some (some 26, true), [13, 15, 12]⟩, ⟨some 31, .faddr 0 (.tmp 30), some (some 26, true), [16, 12]⟩, ⟨some 32, .load none (.tmp 31), some (some 26, true), [17, 12]⟩, ⟨some 33, .faddr 0 (.tmp 6), some (some 26, true), [12]⟩, ⟨some 34, .load none (.tmp 33), some (some 26, true), [19, 12]⟩, ⟨some 35, .bin .geq .none (.tmp 32) (.tmp 34), some (some 26, true), [18, 20, 12]⟩, ⟨some 36, .pick (.tmp 26) (.tmp 35) (.lit (.bool false)), some (some 23, false), [12, 21, 9]⟩, oA 37 (.pick (.tmp 23) (.lit (.bool true)) (.tmp 36)) [9, 22]]
def d_cond01_0 : List COp := e_cond01_0
theorem dr_cond01_0 (P : Program) (nt n0 : Nat) (Q : Post) (s : Slots) (σ : Store) : wpc P nt n0 (.draw d_cond01_0) Q s σ = aOpsD P nt e_cond01_0 (Q .normal) s σ := wpc_draw _ (by decide)
attribute [local go_sem] dr_cond01_0 e_cond01_0
def c_cond01 : CCode := .seq (.ops [oS 4 (.move (.lit (.bool false)))]) (.seq (.seq (.ops [oS 7 (.move (.tmp 0)), oS 8 (.blen 1 (.tmp 7)), oS 9 (.move (.lit (.int .i64 0)))]) (.block 0 (.loop (.seq (.ops [oS 10 (.bin .lss .none (.tmp 9) (.tmp 8))]) (.seq (.cond (.tmp 10) .skip (.exit 0)) (.seq (.block 1 (.seq (.ops [oS 11 (.move (.tmp 9)), oS 12 (.iaddr 2 (.tmp 7) (.tmp 9)), oS 13 (.load (some 2) (.tmp 12)), oS 6 (.alloc (.agg [.int .i64 0, .bool false])), oS 5 (.move (.tmp 11)), oN (.store 2 (.tmp 6) (.tmp 13))]) (.seq (.draw d_cond01_0) (.cond (.tmp 37) (.seq (.ops [oS 4 (.move (.lit (.bool false)))]) .ret) .skip)))) (.ops [oS 38 (.bin .add .none (.tmp 9) (.lit (.int .i64 1))), oS 9 (.move (.tmp 38))]))))))) (.seq (.ops [oS 4 (.move (.lit (.bool true)))]) .ret))
theorem cond01_spec (s : List FLit) (n : Int) (tok : Tok) (σ : Store) (hs : s.length ≤ 140737488355328) :
  ACalls Tryz.prog 75 [.slice tok (s.map encLit), .int .i64 n] σ (isR (.bool (condB n (-1) s)) σ) := by
 refine ACalls.intro (rs := [(.tmp 4)]) (by kernel_rfl) { own := [], ghosts := [] } Tryz.func75 (c := Tryz.f75.body.getD .skip) (by kernel_rfl) (by decide) (by rw [show Tryz.f75.ntmps = 39 by kernel_rfl]; exact Nat.le_of_ble_eq_true rfl) (by kernel_rfl) ?_
 intro hσ hids
 rw [show comp Tryz.prog { own := [], ghosts := [] } (Tryz.f75.body.getD .skip) = c_cond01 by kernel_rfl, show Tryz.f75.ntmps = 39 by kernel_rfl]
 unfold c_cond01
 have hil : Ids σ.length (.slice tok (s.map encLit)) := hids _ (by simp)
 simp only [go_sem, simprocAttr]
 refine wpc_while (fun (q : Nat × Int) => [(1, .int .i64 n), (0, .slice tok (s.map encLit)), (7, .slice tok (s.map encLit)), (8, .int .i64 s.length), (9, .int .i64 q.1)]) (fun _ => σ) (fun q => q.1 ≤ s.length ∧ prevC s q.1 q.2 ∧ condB n (-1) s = condB n q.2 (s.drop q.1)) (fun q => s.length - q.1) (0, -1) ⟨Nat.zero_le _, ⟨by omega, by simp, by simp⟩, rfl⟩ (by (try dsimp only); exact ghA) ?_
 rintro ⟨i, p⟩ ⟨hi, ⟨hp1, hp2, hp3⟩, hv⟩ K hK hE hR
 dsimp only at hi hp1 hp2 hp3 hv ⊢
 by_cases h : i < s.length
 ·obtain ⟨⟨y, nb⟩, hx⟩ := get_ex h
  have hlt : ((i : Int) < (s.length : Int)) := by omega
  have hw := wrapS (i := i) (by omega)
  rw [drop_cons hx, condB] at hv
  dsimp only at hv
  by_cases h1 : y < 0
  ·simp only [go_sem, simprocAttr, hlt, hx, encLit, h1]
   rw [hR]
   exact rt (.bool false) ⟨by rw [hv]; simp; omega, rfl⟩
  by_cases h2 : y ≥ n
  ·simp only [go_sem, simprocAttr, hlt, hx, encLit, h1, h2]
   rw [hR]
   exact rt (.bool false) ⟨by rw [hv]; simp; omega, rfl⟩
  by_cases h3 : (i : Int) > 0
  ·have hw1 : IntKind.i64.wrap ((i : Int) - 1) = ((i - 1 : Nat) : Int) := by rw [wrap_ok (by omega)]; omega
   obtain ⟨pb, hy⟩ := hp3 (by omega)
   by_cases h4 : p ≥ y
   ·simp only [go_sem, simprocAttr, hlt, hx, encLit, h1, h2, h3, hw1, hy, h4]
    rw [hR]
    exact rt (.bool false) ⟨by rw [hv]; simp; omega, rfl⟩
   ·simp only [go_sem, simprocAttr, hlt, hx, encLit, h1, h2, h3, hw1, hy, h4]
    have h5 : decide (p < y) = true := by simpa using h4
    have h6 : decide (y < n) = true := by simpa using h2
    rw [h5, h6, Bool.true_and, Bool.true_and] at hv
    refine hK _ _ ((i + 1, y)) (⟨by simp only []; omega, ⟨by simp only []; omega, by simp, fun _ => ⟨nb, hx⟩⟩, hv⟩) om ?_; (try dsimp only); (try simp only [ hw]); exact ghA
  ·have h5 : decide (p < y) = true := by have := hp2 (by omega); simp; omega
   have h6 : decide (y < n) = true := by simpa using h2
   rw [h5, h6, Bool.true_and, Bool.true_and] at hv
   simp only [go_sem, simprocAttr, hlt, hx, encLit, h1, h2, h3]
   refine hK _ _ ((i + 1, y)) (⟨by simp only []; omega, ⟨by simp only []; omega, by simp, fun _ => ⟨nb, hx⟩⟩, hv⟩) om ?_; (try dsimp only); (try simp only [ hw]); exact ghA
 ·have hlt : ¬ ((i : Int) < (s.length : Int)) := by omega
  rw [drop_len h] at hv
  simp only [go_sem, simprocAttr, hlt, hE]
  exact rt (.bool true) ⟨by rw [hv]; rfl, rfl⟩
def c_state02 : CCode := .seq (.ops [oS 2 (.box (.tmp 0)), oS 4 (.move (.lit (.bool false)))]) (.seq (.ops [oS 5 (.move (.tmp 1)), oS 6 (.faddr 0 (.tmp 2)), oS 7 (.load none (.tmp 6)), oS 8 (.blen 1 (.tmp 7)), oS 9 (.call (.lit (.func 74 [])) [.tmp 5, .tmp 8]), oS 4 (.move (.tmp 9))]) .ret)
theorem state02_spec (t : FTask) (s : List Int) (tok : Tok) (σ : Store) (hs : s.length ≤ 140737488355328) :
  ACalls Tryz.prog 36 [.agg (encTask t), .slice tok (s.map Ahl.encI)] σ (isR (.bool (risingB t.facts.length (-1) s)) σ) := by
 refine ACalls.intro (rs := [(.tmp 4)]) (by kernel_rfl) { own := [], ghosts := [] } Tryz.func36 (c := Tryz.f36.body.getD .skip) (by kernel_rfl) (by decide) (by rw [show Tryz.f36.ntmps = 10 by kernel_rfl]; exact Nat.le_of_ble_eq_true rfl) (by kernel_rfl) ?_
 intro hσ hids
 rw [show comp Tryz.prog { own := [], ghosts := [] } (Tryz.f36.body.getD .skip) = c_state02 by kernel_rfl, show Tryz.f36.ntmps = 10 by kernel_rfl]
 unfold c_state02
 have hil : Ids σ.length (.slice tok (s.map Ahl.encI)) := hids _ (by simp)
 simp only [go_sem, simprocAttr, encTask]
 refine (rising01_spec s t.facts.length tok _ hs).is ?_
 simp only [go_sem, simprocAttr]
 first | exact rtw (v := .bool _) wkS ⟨rfl, rfl⟩ | exact rtw0 (v := .bool _) wkS ⟨rfl, rfl⟩
theorem mulTop {j n T : Nat} (h : j ≤ n) : j * T ≤ n * T := Nat.mul_le_mul_right _ h
theorem sum_cons (f : List FLit) (r : List (List FLit)) : (((f :: r).map List.length).sum : Nat) = f.length + (r.map List.length).sum := by simp
theorem bget (b : ByteArray) (i : Nat) : b[i]? = b.data.toList[i]? := by
 rw [Array.getElem?_toList]
 by_cases h : i < b.size
 ·rw [getElem?_pos b i h, Array.getElem?_eq_getElem (by exact h)]; rfl
 ·rw [getElem?_neg b i h, Array.getElem?_eq_none (by simpa using h)]
def letterB (c : Int) : Bool := (decide (97 ≤ c) && decide (c ≤ 122)) || (decide (65 ≤ c) && decide (c ≤ 90))
def digitB (c : Int) : Bool := decide (48 ≤ c) && decide (c ≤ 57)
def c_letter : CCode := .seq (.ops [oS 2 (.move (.lit (.bool false)))]) (.seq (.ops [oS 3 (.move (.tmp 0)), oS 4 (.bin .geq .none (.tmp 3) (.lit (.int .u8 97))), oS 5 (.move (.tmp 4)), oG 6 5 true (.move (.tmp 0)), oG 7 5 true (.bin .leq .none (.tmp 6) (.lit (.int .u8 122))), oS 8 (.pick (.tmp 5) (.tmp 7) (.lit (.bool false))), oS 9 (.move (.tmp 8)), oG 10 9 false (.move (.tmp 0)), oG 11 9 false (.bin .geq .none (.tmp 10) (.lit (.int .u8 65))), oG 12 9 false (.move (.tmp 11)), oG 13 12 true (.move (.tmp 0)), oG 14 12 true (.bin .leq .none (.tmp 13) (.lit (.int .u8 90))), oG 15 9 false (.pick (.tmp 12) (.tmp 14) (.lit (.bool false))), oS 16 (.pick (.tmp 9) (.lit (.bool true)) (.tmp 15)), oS 2 (.move (.tmp 16))]) .ret)
theorem letter_spec (c : Int) (σ : Store) : ACalls Tryz.prog 150 [.int .u8 c] σ (isR (.bool (letterB c)) σ) := by
 refine ACalls.intro (rs := [(.tmp 2)]) (by kernel_rfl) { own := [], ghosts := [] } Tryz.func150 (c := Tryz.f150.body.getD .skip) (by kernel_rfl) (by decide) (by rw [show Tryz.f150.ntmps = 17 by kernel_rfl]; exact Nat.le_of_ble_eq_true rfl) (by kernel_rfl) ?_
 intro hσ hids
 rw [show comp Tryz.prog { own := [], ghosts := [] } (Tryz.f150.body.getD .skip) = c_letter by kernel_rfl, show Tryz.f150.ntmps = 17 by kernel_rfl]
 unfold c_letter
 by_cases h1 : c ≥ 97 <;> by_cases h2 : c ≤ 122 <;> by_cases h3 : c ≥ 65 <;> by_cases h4 : c ≤ 90
 all_goals
  simp only [go_sem, simprocAttr, h1, h2, h3, h4]
  first | exact rtw (v := .bool _) wkS ⟨by simp only [letterB, ge_iff_le] at *; simp only [h1, h2, h3, h4]; rfl, rfl⟩ | exact rtw0 (v := .bool _) wkS ⟨by simp only [letterB, ge_iff_le] at *; simp only [h1, h2, h3, h4]; rfl, rfl⟩
def c_letter01 : CCode := .seq (.ops [oS 2 (.move (.lit (.bool false)))]) (.seq (.ops [oS 3 (.move (.tmp 0)), oS 4 (.bin .geq .none (.tmp 3) (.lit (.int .u8 97))), oS 5 (.move (.tmp 4)), oG 6 5 true (.move (.tmp 0)), oG 7 5 true (.bin .leq .none (.tmp 6) (.lit (.int .u8 122))), oS 8 (.pick (.tmp 5) (.tmp 7) (.lit (.bool false))), oS 9 (.move (.tmp 8)), oG 10 9 false (.move (.tmp 0)), oG 11 9 false (.bin .geq .none (.tmp 10) (.lit (.int .u8 65))), oG 12 9 false (.move (.tmp 11)), oG 13 12 true (.move (.tmp 0)), oG 14 12 true (.bin .leq .none (.tmp 13) (.lit (.int .u8 90))), oG 15 9 false (.pick (.tmp 12) (.tmp 14) (.lit (.bool false))), oS 16 (.pick (.tmp 9) (.lit (.bool true)) (.tmp 15)), oS 2 (.move (.tmp 16))]) .ret)
theorem letter01_spec (c : Int) (σ : Store) : ACalls Tryz.prog 122 [.int .u8 c] σ (isR (.bool (letterB c)) σ) := by
 refine ACalls.intro (rs := [(.tmp 2)]) (by kernel_rfl) { own := [], ghosts := [] } Tryz.func122 (c := Tryz.f122.body.getD .skip) (by kernel_rfl) (by decide) (by rw [show Tryz.f122.ntmps = 17 by kernel_rfl]; exact Nat.le_of_ble_eq_true rfl) (by kernel_rfl) ?_
 intro hσ hids
 rw [show comp Tryz.prog { own := [], ghosts := [] } (Tryz.f122.body.getD .skip) = c_letter01 by kernel_rfl, show Tryz.f122.ntmps = 17 by kernel_rfl]
 unfold c_letter01
 by_cases h1 : c ≥ 97 <;> by_cases h2 : c ≤ 122 <;> by_cases h3 : c ≥ 65 <;> by_cases h4 : c ≤ 90
 all_goals
  simp only [go_sem, simprocAttr, h1, h2, h3, h4]
  first | exact rtw (v := .bool _) wkS ⟨by simp only [letterB, ge_iff_le] at *; simp only [h1, h2, h3, h4]; rfl, rfl⟩ | exact rtw0 (v := .bool _) wkS ⟨by simp only [letterB, ge_iff_le] at *; simp only [h1, h2, h3, h4]; rfl, rfl⟩
def c_digit01 : CCode := .seq (.ops [oS 2 (.move (.lit (.bool false)))]) (.seq (.ops [oS 3 (.move (.tmp 0)), oS 4 (.bin .geq .none (.tmp 3) (.lit (.int .u8 48))), oS 5 (.move (.tmp 4)), oG 6 5 true (.move (.tmp 0)), oG 7 5 true (.bin .leq .none (.tmp 6) (.lit (.int .u8 57))), oS 8 (.pick (.tmp 5) (.tmp 7) (.lit (.bool false))), oS 2 (.move (.tmp 8))]) .ret)
theorem digit01_spec (c : Int) (σ : Store) : ACalls Tryz.prog 123 [.int .u8 c] σ (isR (.bool (digitB c)) σ) := by
 refine ACalls.intro (rs := [(.tmp 2)]) (by kernel_rfl) { own := [], ghosts := [] } Tryz.func123 (c := Tryz.f123.body.getD .skip) (by kernel_rfl) (by decide) (by rw [show Tryz.f123.ntmps = 9 by kernel_rfl]; exact Nat.le_of_ble_eq_true rfl) (by kernel_rfl) ?_
 intro hσ hids
 rw [show comp Tryz.prog { own := [], ghosts := [] } (Tryz.f123.body.getD .skip) = c_digit01 by kernel_rfl, show Tryz.f123.ntmps = 9 by kernel_rfl]
 unfold c_digit01
 by_cases h1 : c ≥ 48 <;> by_cases h2 : c ≤ 57
 all_goals
  simp only [go_sem, simprocAttr, h1, h2]
  first | exact rtw (v := .bool _) wkS ⟨by simp only [digitB, ge_iff_le] at *; simp only [h1, h2]; rfl, rfl⟩ | exact rtw0 (v := .bool _) wkS ⟨by simp only [digitB, ge_iff_le] at *; simp only [h1, h2]; rfl, rfl⟩
theorem toNat_eq (a b : UInt8) : ((a.toNat : Int) == (b.toNat : Int)) = (a == b) := by
 by_cases h : a = b
 ·subst h; simp
 ·have h1 : (a == b) = false := by simpa using h
  have h2 : ¬ (a.toNat : Int) = (b.toNat : Int) := fun e => h (UInt8.toNat_inj.1 (by omega))
  rw [h1]; simpa using h2
def c_within01 : CCode := .seq (.ops [oS 4 (.move (.lit (.bool false)))]) (.seq (.seq (.ops [oS 6 (.move (.tmp 0)), oS 7 (.blen 0 (.tmp 6)), oS 8 (.move (.lit (.int .i64 0)))]) (.block 0 (.loop (.seq (.ops [oS 9 (.bin .lss .none (.tmp 8) (.tmp 7))]) (.seq (.cond (.tmp 9) .skip (.exit 0)) (.seq (.block 1 (.seq (.ops [oS 10 (.move (.tmp 8)), oS 5 (.move (.tmp 10))]) (.seq (.ops [oS 11 (.move (.tmp 0)), oS 12 (.move (.tmp 5)), oS 13 (.istr (.tmp 11) (.tmp 12)), oS 14 (.move (.tmp 1)), oS 15 (.bin .eql .none (.tmp 13) (.tmp 14))]) (.cond (.tmp 15) (.seq (.ops [oS 4 (.move (.lit (.bool true)))]) .ret) .skip)))) (.ops [oS 16 (.bin .add .none (.tmp 8) (.lit (.int .i64 1))), oS 8 (.move (.tmp 16))]))))))) (.seq (.ops [oS 4 (.move (.lit (.bool false)))]) .ret))
theorem within01_spec (b : ByteArray) (c : UInt8) (σ : Store) (hb : b.data.toList.length ≤ 140737488355328) : ACalls Tryz.prog 124 [.str b, .int .u8 c.toNat] σ (isR (.bool (b.data.toList.contains c)) σ) := by
 refine ACalls.intro (rs := [(.tmp 4)]) (by kernel_rfl) { own := [], ghosts := [] } Tryz.func124 (c := Tryz.f124.body.getD .skip) (by kernel_rfl) (by decide) (by rw [show Tryz.f124.ntmps = 17 by kernel_rfl]; exact Nat.le_of_ble_eq_true rfl) (by kernel_rfl) ?_
 intro hσ hids
 rw [show comp Tryz.prog { own := [], ghosts := [] } (Tryz.f124.body.getD .skip) = c_within01 by kernel_rfl, show Tryz.f124.ntmps = 17 by kernel_rfl]
 unfold c_within01
 have hs : b.size = b.data.toList.length := rfl
 simp only [go_sem, simprocAttr]
 rw [hs]
 refine wpc_while (fun i => [(0, .str b), (1, .int .u8 c.toNat), (7, .int .i64 b.data.toList.length), (8, .int .i64 (i : Nat))]) (fun _ => σ) (fun i => i ≤ b.data.toList.length ∧ b.data.toList.contains c = (b.data.toList.drop i).contains c) (fun i => b.data.toList.length - i) 0 ⟨Nat.zero_le _, rfl⟩ (by (try dsimp only); exact ghA) ?_
 rintro i ⟨hi, hv⟩ K hK hE hR
 by_cases h : i < b.data.toList.length
 ·obtain ⟨y, hx⟩ := get_ex h; have hlt : ((i : Int) < (b.data.toList.length : Int)) := (by omega); have hw := wrapS (i := i) (by omega)
  rw [drop_cons hx, List.contains_cons] at hv
  rw [← bget] at hx
  by_cases h1 : c = y
  ·subst h1
   simp only [go_sem, simprocAttr, hlt, hx, toNat_eq, beq_self_eq_true]
   rw [hR]
   exact rt (.bool true) ⟨by rw [hv]; simp, rfl⟩
  ·have h1' : (y == c) = false := by simpa using Ne.symm h1
   have h1'' : (c == y) = false := by simpa using h1
   simp only [go_sem, simprocAttr, hlt, hx, toNat_eq, h1']
   rw [h1'', Bool.false_or] at hv
   refine hK _ _ (i + 1) (⟨by omega, hv⟩) om ?_; (try dsimp only); (try simp only [ hw]); exact ghA
 ·have hlt : ¬ ((i : Int) < (b.data.toList.length : Int)) := by omega
  rw [drop_len h] at hv
  simp only [go_sem, simprocAttr, hlt, hE]
  exact rt (.bool false) ⟨by rw [hv]; rfl, rfl⟩
def okC (c : UInt8) : Bool := letterB c.toNat || digitB c.toNat || [45, 95, 40, 41, 44].contains c
def nameL : List UInt8 → Bool
 | [] => false
 | c :: l => decide (l.length + 1 ≤ 40) && letterB c.toNat && (c :: l).all okC
def nameB (b : ByteArray) : Bool := nameL b.data.toList
theorem nameL_len {l : List UInt8} (h : ¬ (l.length : Int) < 1) (h2 : ¬ (l.length : Int) > 40) {c : UInt8} (hc : l[0]? = some c) : nameL l = (letterB c.toNat && l.all okC) := by
 cases l with
 | nil => simp at h
 | cons d l =>
  simp only [List.getElem?_cons_zero, Option.some.injEq] at hc
  subst hc
  rw [nameL, decide_eq_true (by simp at h2; omega : l.length + 1 ≤ 40), Bool.true_and]
theorem nameL_short {l : List UInt8} (h : (l.length : Int) < 1) : nameL l = false := by
 cases l with
 | nil => rfl
 | cons c l => simp at h; omega
theorem nameL_long {l : List UInt8} (h : (l.length : Int) > 40) : nameL l = false := by
 cases l with
 | nil => rfl
 | cons c l => rw [nameL, decide_eq_false (by simp at h; omega)]; rfl
def c_name01 : CCode := .seq (.ops [oS 2 (.move (.lit (.bool false)))]) (.seq (.seq (.ops [oS 4 (.move (.tmp 0)), oS 5 (.blen 0 (.tmp 4)), oS 6 (.bin .lss .none (.tmp 5) (.lit (.int .i64 1))), oS 7 (.move (.tmp 6)), oG 8 7 false (.move (.tmp 0)), oG 9 7 false (.blen 0 (.tmp 8)), oG 10 7 false (.bin .gtr .none (.tmp 9) (.lit (.int .i64 40))), oS 11 (.pick (.tmp 7) (.lit (.bool true)) (.tmp 10)), oS 12 (.move (.tmp 11)), oG 13 12 false (.move (.tmp 0)), oG 14 12 false (.istr (.tmp 13) (.lit (.int .i64 0))), oG 15 12 false (.call (.lit (.func 122 [])) [.tmp 14]), oG 16 12 false (.un .not (.tmp 15)), oS 17 (.pick (.tmp 12) (.lit (.bool true)) (.tmp 16))]) (.cond (.tmp 17) (.seq (.ops [oS 2 (.move (.lit (.bool false)))]) .ret) .skip)) (.seq (.seq (.ops [oS 18 (.move (.tmp 0)), oS 19 (.blen 0 (.tmp 18)), oS 20 (.move (.lit (.int .i64 0)))]) (.block 0 (.loop (.seq (.ops [oS 21 (.bin .lss .none (.tmp 20) (.tmp 19))]) (.seq (.cond (.tmp 21) .skip (.exit 0)) (.seq (.block 1 (.seq (.ops [oS 22 (.move (.tmp 20)), oS 3 (.move (.tmp 22))]) (.seq (.ops [oS 23 (.move (.tmp 0)), oS 24 (.move (.tmp 3)), oS 25 (.istr (.tmp 23) (.tmp 24)), oS 26 (.call (.lit (.func 122 [])) [.tmp 25]), oS 27 (.un .not (.tmp 26)), oS 28 (.move (.tmp 27)), oG 29 28 true (.move (.tmp 0)), oG 30 28 true (.move (.tmp 3)), oG 31 28 true (.istr (.tmp 29) (.tmp 30)), oG 32 28 true (.call (.lit (.func 123 [])) [.tmp 31]), oG 33 28 true (.un .not (.tmp 32)), oS 34 (.pick (.tmp 28) (.tmp 33) (.lit (.bool false))), oS 35 (.move (.tmp 34)), oG 36 35 true (.move (.tmp 0)), oG 37 35 true (.move (.tmp 3)), oG 38 35 true (.istr (.tmp 36) (.tmp 37)), oG 39 35 true (.call (.lit (.func 124 [])) [.lit (.str (bys [45, 95, 40, 41, 44])), .tmp 38]), oG 40 35 true (.un .not (.tmp 39)), oS 41 (.pick (.tmp 35) (.tmp 40) (.lit (.bool false)))]) (.cond (.tmp 41) (.seq (.ops [oS 2 (.move (.lit (.bool false)))]) .ret) .skip)))) (.ops [oS 42 (.bin .add .none (.tmp 20) (.lit (.int .i64 1))), oS 20 (.move (.tmp 42))]))))))) (.seq (.ops [oS 2 (.move (.lit (.bool true)))]) .ret)))
theorem name01_spec (b : ByteArray) (σ : Store) (hb : b.data.toList.length ≤ 140737488355328) : ACalls Tryz.prog 101 [.str b] σ (isR (.bool (nameB b)) σ) := by
 refine ACalls.intro (rs := [(.tmp 2)]) (by kernel_rfl) { own := [], ghosts := [] } Tryz.func101 (c := Tryz.f101.body.getD .skip) (by kernel_rfl) (by decide) (by rw [show Tryz.f101.ntmps = 43 by kernel_rfl]; exact Nat.le_of_ble_eq_true rfl) (by kernel_rfl) ?_
 intro hσ hids
 rw [show comp Tryz.prog { own := [], ghosts := [] } (Tryz.f101.body.getD .skip) = c_name01 by kernel_rfl, show Tryz.f101.ntmps = 43 by kernel_rfl]
 unfold c_name01
 have hs : b.size = b.data.toList.length := rfl
 unfold nameB
 by_cases h1 : (b.data.toList.length : Int) < 1
 ·simp only [go_sem, simprocAttr, hs, h1]
  exact rt (.bool false) ⟨by rw [nameL_short h1], rfl⟩
 by_cases h2 : (b.data.toList.length : Int) > 40
 ·simp only [go_sem, simprocAttr, hs, h1, h2]
  exact rt (.bool false) ⟨by rw [nameL_long h2], rfl⟩
 obtain ⟨c0, hc0⟩ : ∃ c, b.data.toList[0]? = some c := get_ex (by omega)
 have hn := nameL_len h1 h2 hc0
 rw [← bget] at hc0
 simp only [go_sem, simprocAttr, hs, h1, h2, hc0, Int.toNat_zero, Int.le_refl]
 refine (letter01_spec c0.toNat σ).is ?_
 cases hl : letterB c0.toNat
 ·simp only [go_sem, simprocAttr, hs]
  exact rt (.bool false) ⟨by rw [hn, hl]; rfl, rfl⟩
 rw [hl, Bool.true_and] at hn
 simp only [go_sem, simprocAttr, hs]
 refine wpc_while (fun i => [(0, .str b), (19, .int .i64 b.data.toList.length), (20, .int .i64 (i : Nat))]) (fun _ => σ) (fun i => i ≤ b.data.toList.length ∧ nameL b.data.toList = (b.data.toList.drop i).all okC) (fun i => b.data.toList.length - i) 0 ⟨Nat.zero_le _, hn⟩ (by (try dsimp only); exact ghA) ?_
 rintro i ⟨hi, hv⟩ K hK hE hR
 by_cases h : i < b.data.toList.length
 ·obtain ⟨y, hx⟩ := get_ex h; have hlt : ((i : Int) < (b.data.toList.length : Int)) := (by omega); have hw := wrapS (i := i) (by omega)
  rw [drop_cons hx, List.all_cons] at hv
  rw [← bget] at hx
  simp only [go_sem, simprocAttr, hlt, hx]
  refine (letter01_spec y.toNat σ).is ?_
  cases h1 : letterB y.toNat
  ·simp only [go_sem, simprocAttr, hx]
   refine (digit01_spec y.toNat σ).is ?_
   cases h2 : digitB y.toNat
   ·simp only [go_sem, simprocAttr, hx]
    refine (within01_spec (bys [45, 95, 40, 41, 44]) y σ (by decide)).is ?_
    have hok : okC y = (bys [45, 95, 40, 41, 44]).data.toList.contains y := by rw [okC, h1, h2]; rfl
    cases h3 : (bys [45, 95, 40, 41, 44]).data.toList.contains y
    ·simp only [go_sem, simprocAttr]
     rw [hR]
     exact rt (.bool false) ⟨by rw [hv, hok, h3]; rfl, rfl⟩
    ·simp only [go_sem, simprocAttr]
     rw [hok, h3, Bool.true_and] at hv
     refine hK _ _ (i + 1) (⟨by omega, hv⟩) om ?_; (try dsimp only); (try simp only [ hw]); exact ghA
   ·simp only [go_sem, simprocAttr]
    have hok : okC y = true := by rw [okC, h1, h2]; rfl
    rw [hok, Bool.true_and] at hv
    refine hK _ _ (i + 1) (⟨by omega, hv⟩) om ?_; (try dsimp only); (try simp only [ hw]); exact ghA
  ·simp only [go_sem, simprocAttr]
   have hok : okC y = true := by rw [okC, h1]; rfl
   rw [hok, Bool.true_and] at hv
   refine hK _ _ (i + 1) (⟨by omega, hv⟩) om ?_; (try dsimp only); (try simp only [ hw]); exact ghA
 ·have hlt : ¬ ((i : Int) < (b.data.toList.length : Int)) := by omega
  rw [drop_len h] at hv
  simp only [go_sem, simprocAttr, hlt, hE]
  exact rt (.bool true) ⟨by rw [hv]; rfl, rfl⟩
theorem indexByteString_spec (b : ByteArray) (c : UInt8) (σ : Store) : ACalls Tryz.prog 170 [.str b, .int .u8 c.toNat] σ (isR (.int .i64 (Lib.indexByte b.data.toList c)) σ) := by
 refine .extern Tryz.func170 (by kernel_rfl) (by kernel_rfl) (by kernel_rfl) (by kernel_rfl) (e := Extern.BytealgIndexByte.indexByte) ?_
 intro m loc w vs ha
 obtain ⟨v0, v1, rfl, h0, h1⟩ := ha.two
 cases h0; cases h1
 refine ⟨_, Lib.run_indexByteString _ _ _, ?_⟩
 rw [Int.toNat_natCast, show c.toNat.toUInt8 = c by simp]
 exact .int _ _
def c_indexByte2 : CCode := .seq (.ops [oS 4 (.move (.lit (.int .i64 0)))]) (.seq (.ops [oS 5 (.move (.tmp 0)), oS 6 (.move (.tmp 1)), oS 7 (.call (.lit (.func 170 [])) [.tmp 5, .tmp 6]), oS 4 (.move (.tmp 7))]) .ret)
theorem indexByte2_spec (b : ByteArray) (c : UInt8) (σ : Store) : ACalls Tryz.prog 163 [.str b, .int .u8 c.toNat] σ (isR (.int .i64 (Lib.indexByte b.data.toList c)) σ) := by
 refine ACalls.intro (rs := [(.tmp 4)]) (by kernel_rfl) { own := [], ghosts := [] } Tryz.func163 (c := Tryz.f163.body.getD .skip) (by kernel_rfl) (by decide) (by rw [show Tryz.f163.ntmps = 8 by kernel_rfl]; exact Nat.le_of_ble_eq_true rfl) (by kernel_rfl) ?_
 intro hσ hids
 rw [show comp Tryz.prog { own := [], ghosts := [] } (Tryz.f163.body.getD .skip) = c_indexByte2 by kernel_rfl, show Tryz.f163.ntmps = 8 by kernel_rfl]
 unfold c_indexByte2
 simp only [go_sem, simprocAttr]
 refine (indexByteString_spec b c σ).is ?_
 simp only [go_sem, simprocAttr]
 first | exact rtw (v := .int .i64 _) wkS ⟨rfl, rfl⟩ | exact rtw0 (v := .int .i64 _) wkS ⟨rfl, rfl⟩
def c_indexByte : CCode := .seq (.ops [oS 4 (.move (.lit (.int .i64 0)))]) (.seq (.ops [oS 5 (.move (.tmp 0)), oS 6 (.move (.tmp 1)), oS 7 (.call (.lit (.func 163 [])) [.tmp 5, .tmp 6]), oS 4 (.move (.tmp 7))]) .ret)
theorem indexByte_spec (b : ByteArray) (c : UInt8) (σ : Store) : ACalls Tryz.prog 151 [.str b, .int .u8 c.toNat] σ (isR (.int .i64 (Lib.indexByte b.data.toList c)) σ) := by
 refine ACalls.intro (rs := [(.tmp 4)]) (by kernel_rfl) { own := [], ghosts := [] } Tryz.func151 (c := Tryz.f151.body.getD .skip) (by kernel_rfl) (by decide) (by rw [show Tryz.f151.ntmps = 8 by kernel_rfl]; exact Nat.le_of_ble_eq_true rfl) (by kernel_rfl) ?_
 intro hσ hids
 rw [show comp Tryz.prog { own := [], ghosts := [] } (Tryz.f151.body.getD .skip) = c_indexByte by kernel_rfl, show Tryz.f151.ntmps = 8 by kernel_rfl]
 unfold c_indexByte
 simp only [go_sem, simprocAttr]
 refine (indexByte2_spec b c σ).is ?_
 simp only [go_sem, simprocAttr]
 first | exact rtw (v := .int .i64 _) wkS ⟨rfl, rfl⟩ | exact rtw0 (v := .int .i64 _) wkS ⟨rfl, rfl⟩
theorem indexByte_neg : ∀ (l : List UInt8) (c : UInt8), (Lib.indexByte l c < 0) = (l.contains c = false)
 | [], c => by simp [Lib.indexByte]
 | b :: l, c => by
  have ih := indexByte_neg l c
  have h1 := Lib.indexByte_ge l c
  unfold Lib.indexByte
  rw [List.contains_cons]
  by_cases hb : b = c
  ·subst hb; simp
  ·have e1 : (b == c) = false := by simpa using hb
   have e2 : (c == b) = false := by simpa using Ne.symm hb
   rw [e1, e2, Bool.false_or, ← ih, if_neg (by simp)]
   by_cases hm : Lib.indexByte l c = -1
   ·rw [if_pos (by simpa using hm), hm]
   ·rw [if_neg (by simpa using hm)]; exact propext ⟨fun _ => by omega, fun _ => by omega⟩
def c_name : CCode := .seq (.ops [oS 2 (.move (.lit (.bool false)))]) (.seq (.seq (.ops [oS 5 (.move (.tmp 0)), oS 6 (.bin .eql .none (.tmp 5) (.lit (.str (bys [])))), oS 7 (.move (.tmp 6)), oG 8 7 false (.move (.tmp 0)), oG 9 7 false (.blen 0 (.tmp 8)), oG 10 7 false (.bin .gtr .none (.tmp 9) (.lit (.int .i64 40))), oS 11 (.pick (.tmp 7) (.lit (.bool true)) (.tmp 10)), oS 12 (.move (.tmp 11)), oG 13 12 false (.move (.tmp 0)), oG 14 12 false (.istr (.tmp 13) (.lit (.int .i64 0))), oG 15 12 false (.call (.lit (.func 150 [])) [.tmp 14]), oG 16 12 false (.un .not (.tmp 15)), oS 17 (.pick (.tmp 12) (.lit (.bool true)) (.tmp 16))]) (.cond (.tmp 17) (.seq (.ops [oS 2 (.move (.lit (.bool false)))]) .ret) .skip)) (.seq (.seq (.ops [oS 18 (.move (.tmp 0)), oS 19 (.blen 0 (.tmp 18)), oS 20 (.move (.lit (.int .i64 0)))]) (.block 0 (.loop (.seq (.ops [oS 21 (.bin .lss .none (.tmp 20) (.tmp 19))]) (.seq (.cond (.tmp 21) .skip (.exit 0)) (.seq (.block 1 (.seq (.ops [oS 22 (.move (.tmp 20)), oS 3 (.move (.tmp 22))]) (.seq (.ops [oS 23 (.move (.tmp 0)), oS 24 (.move (.tmp 3)), oS 25 (.istr (.tmp 23) (.tmp 24)), oS 4 (.move (.tmp 25))]) (.seq (.ops [oS 26 (.move (.tmp 4)), oS 27 (.call (.lit (.func 150 [])) [.tmp 26]), oS 28 (.un .not (.tmp 27)), oS 29 (.move (.tmp 28)), oG 30 29 true (.move (.tmp 4)), oG 31 29 true (.bin .lss .none (.tmp 30) (.lit (.int .u8 48))), oG 32 29 true (.move (.tmp 31)), oG 33 32 false (.move (.tmp 4)), oG 34 32 false (.bin .gtr .none (.tmp 33) (.lit (.int .u8 57))), oG 35 29 true (.pick (.tmp 32) (.lit (.bool true)) (.tmp 34)), oS 36 (.pick (.tmp 29) (.tmp 35) (.lit (.bool false))), oS 37 (.move (.tmp 36)), oG 38 37 true (.move (.tmp 4)), oG 39 37 true (.call (.lit (.func 151 [])) [.lit (.str (bys [45, 95, 40, 41, 44])), .tmp 38]), oG 40 37 true (.bin .lss .none (.tmp 39) (.lit (.int .i64 0))), oS 41 (.pick (.tmp 37) (.tmp 40) (.lit (.bool false)))]) (.cond (.tmp 41) (.seq (.ops [oS 2 (.move (.lit (.bool false)))]) .ret) .skip))))) (.ops [oS 42 (.bin .add .none (.tmp 20) (.lit (.int .i64 1))), oS 20 (.move (.tmp 42))]))))))) (.seq (.ops [oS 2 (.move (.lit (.bool true)))]) .ret)))
theorem name_spec (b : ByteArray) (σ : Store) (hb : b.data.toList.length ≤ 140737488355328) : ACalls Tryz.prog 119 [.str b] σ (isR (.bool (nameB b)) σ) := by
 refine ACalls.intro (rs := [(.tmp 2)]) (by kernel_rfl) { own := [], ghosts := [] } Tryz.func119 (c := Tryz.f119.body.getD .skip) (by kernel_rfl) (by decide) (by rw [show Tryz.f119.ntmps = 43 by kernel_rfl]; exact Nat.le_of_ble_eq_true rfl) (by kernel_rfl) ?_
 intro hσ hids
 rw [show comp Tryz.prog { own := [], ghosts := [] } (Tryz.f119.body.getD .skip) = c_name by kernel_rfl, show Tryz.f119.ntmps = 43 by kernel_rfl]
 unfold c_name
 have hs : b.size = b.data.toList.length := rfl
 unfold nameB
 have hem : (b.toList == (bys []).toList) = decide (b.data.toList.length = 0) := by
  by_cases he : b = .empty
  ·subst he; rw [toList_data, toList_data]; rfl
  ·rw [decide_eq_false (fun e => he (by cases b; simp at e; subst e; rfl))]
   refine beq_eq_false_iff_ne.2 fun e => he ?_
   rw [toList_data, toList_data] at e
   cases b; simp [bys] at e; subst e; rfl
 by_cases h1 : (b.data.toList.length : Int) < 1
 ·have h1' : b.data.toList.length = 0 := by omega
  simp only [go_sem, simprocAttr, hs, hem, h1']
  exact rt (.bool false) ⟨by rw [nameL_short h1], rfl⟩
 have h1' : ¬ b.data.toList.length = 0 := by omega
 by_cases h2 : (b.data.toList.length : Int) > 40
 ·simp only [go_sem, simprocAttr, hs, hem, h1', h2]
  exact rt (.bool false) ⟨by rw [nameL_long h2], rfl⟩
 obtain ⟨c0, hc0⟩ : ∃ c, b.data.toList[0]? = some c := get_ex (by omega)
 have hn := nameL_len h1 h2 hc0
 rw [← bget] at hc0
 simp only [go_sem, simprocAttr, hs, hem, h1', h2, hc0, Int.toNat_zero, Int.le_refl]
 refine (letter_spec c0.toNat σ).is ?_
 cases hl : letterB c0.toNat
 ·simp only [go_sem, simprocAttr, hs]
  exact rt (.bool false) ⟨by rw [hn, hl]; rfl, rfl⟩
 rw [hl, Bool.true_and] at hn
 simp only [go_sem, simprocAttr, hs]
 refine wpc_while (fun i => [(0, .str b), (19, .int .i64 b.data.toList.length), (20, .int .i64 (i : Nat))]) (fun _ => σ) (fun i => i ≤ b.data.toList.length ∧ nameL b.data.toList = (b.data.toList.drop i).all okC) (fun i => b.data.toList.length - i) 0 ⟨Nat.zero_le _, hn⟩ (by (try dsimp only); exact ghA) ?_
 rintro i ⟨hi, hv⟩ K hK hE hR
 by_cases h : i < b.data.toList.length
 ·obtain ⟨y, hx⟩ := get_ex h; have hlt : ((i : Int) < (b.data.toList.length : Int)) := (by omega); have hw := wrapS (i := i) (by omega)
  rw [drop_cons hx, List.all_cons] at hv
  rw [← bget] at hx
  simp only [go_sem, simprocAttr, hlt, hx]
  refine (letter_spec y.toNat σ).is ?_
  cases h1 : letterB y.toNat
  ·have hdig : digitB y.toNat = (!(decide ((y.toNat : Int) < 48)) && !(decide ((y.toNat : Int) > 57))) := by
    unfold digitB
    by_cases a : (y.toNat : Int) < 48 <;> by_cases b : (y.toNat : Int) > 57
    ·rw [decide_eq_true a, decide_eq_true b, decide_eq_false (by omega)]; rfl
    ·rw [decide_eq_true a, decide_eq_false b, decide_eq_false (by omega)]; rfl
    ·rw [decide_eq_false a, decide_eq_true b, decide_eq_true (by omega), decide_eq_false (by omega)]; rfl
    ·rw [decide_eq_false a, decide_eq_false b, decide_eq_true (by omega), decide_eq_true (by omega)]; rfl
   by_cases h2 : digitB y.toNat = true
   ·rw [h2] at hdig
    have a1 : ¬ (y.toNat : Int) < 48 := fun a => by rw [decide_eq_true a] at hdig; simp at hdig
    have a2 : ¬ (y.toNat : Int) > 57 := fun a => by rw [decide_eq_true a, Bool.not_true, Bool.and_false] at hdig; simp at hdig
    have hok : okC y = true := by rw [okC, h1, h2]; rfl
    rw [hok, Bool.true_and] at hv
    simp only [go_sem, simprocAttr, a1, a2]
    refine hK _ _ (i + 1) (⟨by omega, hv⟩) om ?_; (try dsimp only); (try simp only [ hw]); exact ghA
   ·have h2 : digitB y.toNat = false := by simpa using h2
    rw [h2] at hdig
    have hor : (y.toNat : Int) < 48 ∨ (¬ (y.toNat : Int) < 48 ∧ (y.toNat : Int) > 57) := by
     by_cases a : (y.toNat : Int) < 48
     ·exact .inl a
     ·refine .inr ⟨a, ?_⟩
      rw [decide_eq_false a, Bool.not_false, Bool.true_and] at hdig
      simpa using hdig.symm
    have hok : okC y = [45, 95, 40, 41, 44].contains y := by rw [okC, h1, h2]; rfl
    have hi := indexByte_neg [45, 95, 40, 41, 44] y
    rcases hor with a1 | ⟨a1, a2⟩
    ·simp only [go_sem, simprocAttr, a1]
     refine (indexByte_spec (bys [45, 95, 40, 41, 44]) y σ).is ?_
     rw [show (bys [45, 95, 40, 41, 44]).data.toList = [45, 95, 40, 41, 44] from rfl]
     cases h3 : [45, 95, 40, 41, 44].contains y
     ·rw [h3] at hi
      have hi : Lib.indexByte [45, 95, 40, 41, 44] y < 0 := by rw [hi]
      simp only [go_sem, simprocAttr, hi]
      rw [hR]
      exact rt (.bool false) ⟨by rw [hv, hok, h3]; rfl, rfl⟩
     ·rw [h3] at hi
      have hi : ¬ Lib.indexByte [45, 95, 40, 41, 44] y < 0 := by rw [hi]; simp
      simp only [go_sem, simprocAttr, hi]
      rw [hok, h3, Bool.true_and] at hv
      refine hK _ _ (i + 1) (⟨by omega, hv⟩) om ?_; (try dsimp only); (try simp only [ hw]); exact ghA
    ·simp only [go_sem, simprocAttr, a1, a2]
     refine (indexByte_spec (bys [45, 95, 40, 41, 44]) y σ).is ?_
     rw [show (bys [45, 95, 40, 41, 44]).data.toList = [45, 95, 40, 41, 44] from rfl]
     cases h3 : [45, 95, 40, 41, 44].contains y
     ·rw [h3] at hi
      have hi : Lib.indexByte [45, 95, 40, 41, 44] y < 0 := by rw [hi]
      simp only [go_sem, simprocAttr, hi]
      rw [hR]
      exact rt (.bool false) ⟨by rw [hv, hok, h3]; rfl, rfl⟩
     ·rw [h3] at hi
      have hi : ¬ Lib.indexByte [45, 95, 40, 41, 44] y < 0 := by rw [hi]; simp
      simp only [go_sem, simprocAttr, hi]
      rw [hok, h3, Bool.true_and] at hv
      refine hK _ _ (i + 1) (⟨by omega, hv⟩) om ?_; (try dsimp only); (try simp only [ hw]); exact ghA
  ·simp only [go_sem, simprocAttr]
   have hok : okC y = true := by rw [okC, h1]; rfl
   rw [hok, Bool.true_and] at hv
   refine hK _ _ (i + 1) (⟨by omega, hv⟩) om ?_; (try dsimp only); (try simp only [ hw]); exact ghA
 ·have hlt : ¬ ((i : Int) < (b.data.toList.length : Int)) := by omega
  rw [drop_len h] at hv
  simp only [go_sem, simprocAttr, hlt, hE]
  exact rt (.bool true) ⟨by rw [hv]; rfl, rfl⟩
theorem take_succ' {α : Type} {l : List α} {i : Nat} {x : α} (h : l[i]? = some x) : l.take (i + 1) = l.take i ++ [x] := by
 rw [List.take_add_one, h]; rfl
def namesFrom (seen : List ByteArray) : List ByteArray → Bool
 | [] => true
 | s :: l => nameB s && !(decide (s ∈ seen)) && namesFrom (seen ++ [s]) l
def c_names01 : CCode := .seq (.ops [oS 2 (.move (.lit (.bool false)))]) (.seq (.ops [oS 6 .mkmap, oS 3 (.move (.tmp 6))]) (.seq (.seq (.ops [oS 7 (.move (.tmp 0)), oS 8 (.blen 1 (.tmp 7)), oS 9 (.move (.lit (.int .i64 0)))]) (.block 0 (.loop (.seq (.ops [oS 10 (.bin .lss .none (.tmp 9) (.tmp 8))]) (.seq (.cond (.tmp 10) .skip (.exit 0)) (.seq (.block 1 (.seq (.ops [oS 11 (.iaddr 1 (.tmp 7) (.tmp 9)), oS 12 (.load none (.tmp 11)), oS 5 (.move (.tmp 12))]) (.seq (.seq (.ops [oS 13 (.move (.tmp 5)), oS 14 (.call (.lit (.func 101 [])) [.tmp 13]), oS 15 (.un .not (.tmp 14)), oS 16 (.move (.tmp 15)), oG 17 16 false (.move (.tmp 3)), oG 18 16 false (.move (.tmp 5)), oG 19 16 false (.lookup true (.bool false) (.tmp 17) (.tmp 18) false), oS 20 (.pick (.tmp 16) (.lit (.bool true)) (.tmp 19))]) (.cond (.tmp 20) (.seq (.ops [oS 2 (.move (.lit (.bool false)))]) .ret) .skip)) (.ops [oS 21 (.move (.tmp 3)), oS 22 (.move (.tmp 5)), oN (.mapup true (.tmp 21) (.tmp 22) (.lit (.bool true)))])))) (.ops [oS 23 (.bin .add .none (.tmp 9) (.lit (.int .i64 1))), oS 9 (.move (.tmp 23))]))))))) (.seq (.ops [oS 2 (.move (.lit (.bool true)))]) .ret)))
theorem names01_spec (l : List ByteArray) (tok : Tok) (σ : Store) (hl : l.length ≤ 140737488355328) (hb : ∀ b ∈ l, b.data.toList.length ≤ 140737488355328) :
  ACalls Tryz.prog 73 [.slice tok (l.map encT)] σ (isR (.bool (namesFrom [] l)) σ) := by
 refine ACalls.intro (rs := [(.tmp 2)]) (by kernel_rfl) { own := [], ghosts := [] } Tryz.func73 (c := Tryz.f73.body.getD .skip) (by kernel_rfl) (by decide) (by rw [show Tryz.f73.ntmps = 24 by kernel_rfl]; exact Nat.le_of_ble_eq_true rfl) (by kernel_rfl) ?_
 intro hσ hids
 rw [show comp Tryz.prog { own := [], ghosts := [] } (Tryz.f73.body.getD .skip) = c_names01 by kernel_rfl, show Tryz.f73.ntmps = 24 by kernel_rfl]
 unfold c_names01
 have hil : Ids σ.length (.slice tok (l.map encT)) := hids _ (by simp)
 simp only [go_sem, simprocAttr]
 refine wpc_while (fun i => [(3, .map σ.length), (7, .slice tok (l.map encT)), (8, .int .i64 l.length), (9, .int .i64 (i : Nat))]) (fun i => σ ++ [.map (encSet (l.take i))]) (fun i => i ≤ l.length ∧ namesFrom [] l = namesFrom (l.take i) (l.drop i)) (fun i => l.length - i) 0 ⟨Nat.zero_le _, rfl⟩ (have hσ1 := idsS_push hσ (ids_encSet (l.take 0)); (by (try dsimp only); exact ghk1)) ?_
 rintro i ⟨hi, hv⟩ K hK hE hR
 by_cases h : i < l.length
 ·obtain ⟨y, hx⟩ := get_ex h; have hlt : ((i : Int) < (l.length : Int)) := (by omega); have hw := wrapS (i := i) (by omega)
  rw [drop_cons hx, namesFrom] at hv
  simp only [go_sem, simprocAttr, hlt, hx, encT]
  refine (name01_spec y _ (hb y (List.mem_of_getElem? hx))).is ?_
  cases h1 : nameB y
  ·simp only [go_sem, simprocAttr]
   rw [hR]
   exact rt (.bool false) ⟨by rw [hv, h1]; rfl, rfl⟩
  by_cases h2 : y ∈ l.take i
  ·obtain ⟨j, hj⟩ := find_in y _ 0 h2
   simp only [go_sem, simprocAttr, hj]
   rw [hR]
   exact rt (.bool false) ⟨by rw [hv, h1, decide_eq_true h2]; rfl, rfl⟩
  ·have hj := find_out y _ 0 h2
   simp only [go_sem, simprocAttr, hj, encSet_app, ← take_succ' hx]
   rw [h1, decide_eq_false h2, Bool.not_false, Bool.true_and, Bool.true_and, ← take_succ' hx] at hv
   have hσ1 := idsS_push hσ (ids_encSet (l.take (i + 1)))
   refine hK _ _ (i + 1) (⟨by omega, hv⟩) om ?_; (try dsimp only); (try simp only [ hw]); exact ghk1
 ·have hlt : ¬ ((i : Int) < (l.length : Int)) := by omega
  rw [drop_len h] at hv
  simp only [go_sem, simprocAttr, hlt, hE]
  exact rt (.bool true) ⟨by rw [hv]; rfl, rfl⟩
def effB (n : Int) (e : FEff) : Bool := condB n (-1) e.when_ && (decide (0 ≤ e.lit.fact) && decide (e.lit.fact < n))
def actB (n : Int) (a : FAct) : Bool := decide (0 ≤ a.cost) && (decide (a.cost ≤ 100000) && (condB n (-1) a.pre && (decide (a.effects.length ≤ 100) && a.effects.all (effB n))))
def validB (t : FTask) : Bool :=
 decide (t.facts.length ≤ 200) && (decide (t.actions.length ≤ 1000) && (risingB t.facts.length (-1) t.init && (condB t.facts.length (-1) t.goal && (namesFrom [] t.facts && (namesFrom [] (t.actions.map (·.name)) && t.actions.all (actB t.facts.length))))))
structure TB (t : FTask) : Prop where
 facts : t.facts.length ≤ 140737488355328
 names : ∀ b ∈ t.facts, b.data.toList.length ≤ 140737488355328
 init : t.init.length ≤ 140737488355328
 goal : t.goal.length ≤ 140737488355328
 actions : t.actions.length ≤ 140737488355328
 name : ∀ a ∈ t.actions, a.name.data.toList.length ≤ 140737488355328
 pre : ∀ a ∈ t.actions, a.pre.length ≤ 140737488355328
 effects : ∀ a ∈ t.actions, a.effects.length ≤ 140737488355328
 whens : ∀ a ∈ t.actions, ∀ e ∈ a.effects, e.when_.length ≤ 140737488355328
def c_is01 : CCode := .seq (.ops [oS 1 (.box (.tmp 0)), oS 2 (.move (.lit (.bool false)))]) (.seq (.ops [oS 9 (.faddr 0 (.tmp 1)), oS 10 (.load none (.tmp 9)), oS 11 (.blen 1 (.tmp 10)), oS 3 (.move (.tmp 11))]) (.seq (.seq (.ops [oS 12 (.move (.tmp 3)), oS 13 (.bin .gtr .none (.tmp 12) (.lit (.int .i64 200))), oS 14 (.move (.tmp 13)), oG 15 14 false (.faddr 0 (.tmp 1)), oG 16 14 false (.load none (.tmp 15)), oG 17 14 false (.call (.lit (.func 73 [])) [.tmp 16]), oG 18 14 false (.un .not (.tmp 17)), oS 19 (.pick (.tmp 14) (.lit (.bool true)) (.tmp 18)), oS 20 (.move (.tmp 19)), oG 21 20 false (.faddr 1 (.tmp 1)), oG 22 20 false (.load none (.tmp 21)), oG 23 20 false (.move (.tmp 3)), oG 24 20 false (.call (.lit (.func 74 [])) [.tmp 22, .tmp 23]), oG 25 20 false (.un .not (.tmp 24)), oS 26 (.pick (.tmp 20) (.lit (.bool true)) (.tmp 25)), oS 27 (.move (.tmp 26)), oG 28 27 false (.faddr 2 (.tmp 1)), oG 29 27 false (.load none (.tmp 28)), oG 30 27 false (.move (.tmp 3)), oG 31 27 false (.call (.lit (.func 75 [])) [.tmp 29, .tmp 30]), oG 32 27 false (.un .not (.tmp 31)), oS 33 (.pick (.tmp 27) (.lit (.bool true)) (.tmp 32)), oS 34 (.move (.tmp 33)), oG 35 34 false (.faddr 3 (.tmp 1)), oG 36 34 false (.load none (.tmp 35)), oG 37 34 false (.blen 1 (.tmp 36)), oG 38 34 false (.bin .gtr .none (.tmp 37) (.lit (.int .i64 1000))), oS 39 (.pick (.tmp 34) (.lit (.bool true)) (.tmp 38))]) (.cond (.tmp 39) (.seq (.ops [oS 2 (.move (.lit (.bool false)))]) .ret) .skip)) (.seq (.ops [oS 4 (.move (.lit (.slice .nil [])))]) (.seq (.seq (.ops [oS 40 (.faddr 3 (.tmp 1)), oS 41 (.load none (.tmp 40)), oS 42 (.blen 1 (.tmp 41)), oS 43 (.move (.lit (.int .i64 0)))]) (.block 0 (.loop (.seq (.ops [oS 44 (.bin .lss .none (.tmp 43) (.tmp 42))]) (.seq (.cond (.tmp 44) .skip (.exit 0)) (.seq (.block 1 (.seq (.ops [oS 45 (.iaddr 4 (.tmp 41) (.tmp 43)), oS 46 (.load (some 4) (.tmp 45)), oS 6 (.alloc (.agg [.str (bys []), .int .i64 0, .slice .nil [], .slice .nil []])), oN (.store 4 (.tmp 6) (.tmp 46))]) (.seq (.seq (.ops [oS 47 (.faddr 1 (.tmp 6)), oS 48 (.load none (.tmp 47)), oS 49 (.bin .lss .none (.tmp 48) (.lit (.int .i64 0))), oS 50 (.move (.tmp 49)), oG 51 50 false (.faddr 1 (.tmp 6)), oG 52 50 false (.load none (.tmp 51)), oG 53 50 false (.bin .gtr .none (.tmp 52) (.lit (.int .i64 100000))), oS 54 (.pick (.tmp 50) (.lit (.bool true)) (.tmp 53)), oS 55 (.move (.tmp 54)), oG 56 55 false (.faddr 2 (.tmp 6)), oG 57 55 false (.load none (.tmp 56)), oG 58 55 false (.move (.tmp 3)), oG 59 55 false (.call (.lit (.func 75 [])) [.tmp 57, .tmp 58]), oG 60 55 false (.un .not (.tmp 59)), oS 61 (.pick (.tmp 55) (.lit (.bool true)) (.tmp 60)), oS 62 (.move (.tmp 61)), oG 63 62 false (.faddr 3 (.tmp 6)), oG 64 62 false (.load none (.tmp 63)), oG 65 62 false (.blen 1 (.tmp 64)), oG 66 62 false (.bin .gtr .none (.tmp 65) (.lit (.int .i64 100))), oS 67 (.pick (.tmp 62) (.lit (.bool true)) (.tmp 66))]) (.cond (.tmp 67) (.seq (.ops [oS 2 (.move (.lit (.bool false)))]) .ret) .skip)) (.seq (.seq (.ops [oS 68 (.faddr 3 (.tmp 6)), oS 69 (.load none (.tmp 68)), oS 70 (.blen 1 (.tmp 69)), oS 71 (.move (.lit (.int .i64 0)))]) (.block 2 (.loop (.seq (.ops [oS 72 (.bin .lss .none (.tmp 71) (.tmp 70))]) (.seq (.cond (.tmp 72) .skip (.exit 2)) (.seq (.block 3 (.seq (.ops [oS 73 (.iaddr 3 (.tmp 69) (.tmp 71)), oS 74 (.load (some 3) (.tmp 73)), oS 8 (.alloc (.agg [.slice .nil [], .int .i64 0, .bool false])), oN (.store 3 (.tmp 8) (.tmp 74))]) (.seq (.ops [oS 75 (.faddr 0 (.tmp 8)), oS 76 (.load none (.tmp 75)), oS 77 (.move (.tmp 3)), oS 78 (.call (.lit (.func 75 [])) [.tmp 76, .tmp 77]), oS 79 (.un .not (.tmp 78)), oS 80 (.move (.tmp 79)), oG 81 80 false (.faddr 1 (.tmp 8)), oG 82 80 false (.faddr 0 (.tmp 81)), oG 83 80 false (.load none (.tmp 82)), oG 84 80 false (.bin .lss .none (.tmp 83) (.lit (.int .i64 0))), oS 85 (.pick (.tmp 80) (.lit (.bool true)) (.tmp 84)), oS 86 (.move (.tmp 85)), oG 87 86 false (.faddr 1 (.tmp 8)), oG 88 86 false (.faddr 0 (.tmp 87)), oG 89 86 false (.load none (.tmp 88)), oG 90 86 false (.move (.tmp 3)), oG 91 86 false (.bin .geq .none (.tmp 89) (.tmp 90)), oS 92 (.pick (.tmp 86) (.lit (.bool true)) (.tmp 91))]) (.cond (.tmp 92) (.seq (.ops [oS 2 (.move (.lit (.bool false)))]) .ret) .skip)))) (.ops [oS 93 (.bin .add .none (.tmp 71) (.lit (.int .i64 1))), oS 71 (.move (.tmp 93))]))))))) (.ops [oS 94 (.move (.tmp 4)), oS 95 (.faddr 0 (.tmp 6)), oS 96 (.load none (.tmp 95)), oS 97 (.bslice 1 [.tmp 96] false), oS 98 (.bappend 1 16 (.tmp 94) (.tmp 97) false), oS 4 (.move (.tmp 98))]))))) (.ops [oS 99 (.bin .add .none (.tmp 43) (.lit (.int .i64 1))), oS 43 (.move (.tmp 99))]))))))) (.seq (.ops [oS 100 (.move (.tmp 4)), oS 101 (.call (.lit (.func 73 [])) [.tmp 100]), oS 2 (.move (.tmp 101))]) .ret)))))
theorem is01_spec (t : FTask) (σ : Store) (hb : TB t) : ACalls Tryz.prog 35 [.agg (encTask t)] σ (isR (.bool (validB t)) σ) := by
 refine ACalls.intro (rs := [(.tmp 2)]) (by kernel_rfl) { own := [], ghosts := [] } Tryz.func35 (c := Tryz.f35.body.getD .skip) (by kernel_rfl) (by decide) (by rw [show Tryz.f35.ntmps = 102 by kernel_rfl]; exact Nat.le_of_ble_eq_true rfl) (by kernel_rfl) ?_
 intro hσ hids
 rw [show comp Tryz.prog { own := [], ghosts := [] } (Tryz.f35.body.getD .skip) = c_is01 by kernel_rfl, show Tryz.f35.ntmps = 102 by kernel_rfl]
 unfold c_is01
 unfold validB
 by_cases h1 : (t.facts.length : Int) > 200
 ·simp only [go_sem, simprocAttr, encTask, h1]
  exact rt (.bool false) ⟨by rw [decide_eq_false (by omega : ¬ t.facts.length ≤ 200)]; rfl, rfl⟩
 rw [decide_eq_true (by omega : t.facts.length ≤ 200), Bool.true_and]
 simp only [go_sem, simprocAttr, encTask, h1]
 refine (names01_spec t.facts _ _ hb.facts hb.names).is ?_
 cases h2 : namesFrom [] t.facts
 ·simp only [go_sem, simprocAttr]
  exact rt (.bool false) ⟨by simp only [Bool.false_and, Bool.and_false], rfl⟩
 simp only [go_sem, simprocAttr]
 refine (rising01_spec t.init t.facts.length _ _ hb.init).is ?_
 cases h3 : risingB t.facts.length (-1) t.init
 ·simp only [go_sem, simprocAttr]
  exact rt (.bool false) ⟨by simp only [Bool.false_and, Bool.and_false], rfl⟩
 simp only [go_sem, simprocAttr]
 refine (cond01_spec t.goal t.facts.length _ _ hb.goal).is ?_
 cases h4 : condB t.facts.length (-1) t.goal
 ·simp only [go_sem, simprocAttr]
  exact rt (.bool false) ⟨by simp only [Bool.false_and, Bool.and_false], rfl⟩
 by_cases h5 : (t.actions.length : Int) > 1000
 ·simp only [go_sem, simprocAttr, h5]
  exact rt (.bool false) ⟨by rw [decide_eq_false (by omega : ¬ t.actions.length ≤ 1000)]; rfl, rfl⟩
 rw [decide_eq_true (by omega : t.actions.length ≤ 1000)]
 simp only [Bool.true_and]
 simp only [go_sem, simprocAttr, h5]
 refine wpc_while (fun i => [(4, .slice (.grow σ.length) (((t.actions.take i).map (·.name)).map encT)), (3, .int .i64 t.facts.length), (41, .slice .unk (t.actions.map encA)), (42, .int .i64 t.actions.length), (43, .int .i64 (i : Nat))])
  (fun i => σ ++ [.grow 1 i]) (fun i => i ≤ t.actions.length ∧ (namesFrom [] (t.actions.map (·.name)) && t.actions.all (actB t.facts.length)) = (namesFrom [] (t.actions.map (·.name)) && (t.actions.drop i).all (actB t.facts.length))) (fun i => t.actions.length - i) 0 ⟨Nat.zero_le _, rfl⟩ (.begin 4 1 _ (Nat.le_refl _) tellT hσ) ?_
 rintro i ⟨hi, hv⟩ K hK hE hR
 by_cases h : i < t.actions.length
 ·obtain ⟨a, hx⟩ := get_ex h; have hlt : ((i : Int) < (t.actions.length : Int)) := (by omega); have hw := wrapS (i := i) (by omega)
  have ha := List.mem_of_getElem? hx
  rw [drop_cons hx, List.all_cons] at hv
  by_cases a1 : a.cost < 0
  ·simp only [go_sem, simprocAttr, hlt, hx, encA, a1]
   rw [hR]
   exact rt (.bool false) ⟨by rw [hv, actB, decide_eq_false (by omega : ¬ 0 ≤ a.cost), Bool.false_and, Bool.false_and, Bool.and_false], rfl⟩
  by_cases a2 : a.cost > 100000
  ·simp only [go_sem, simprocAttr, hlt, hx, encA, a1, a2]
   rw [hR]
   exact rt (.bool false) ⟨by rw [hv, actB, decide_eq_false (by omega : ¬ a.cost ≤ 100000), Bool.false_and, Bool.and_false, Bool.false_and, Bool.and_false], rfl⟩
  rw [actB, decide_eq_true (by omega : 0 ≤ a.cost), decide_eq_true (by omega : a.cost ≤ 100000), Bool.true_and, Bool.true_and] at hv
  simp only [go_sem, simprocAttr, hlt, hx, encA, a1, a2]
  refine (cond01_spec a.pre t.facts.length _ _ (hb.pre a ha)).is ?_
  cases a3 : condB t.facts.length (-1) a.pre
  ·simp only [go_sem, simprocAttr]
   rw [hR]
   exact rt (.bool false) ⟨by rw [hv, a3, Bool.false_and, Bool.false_and, Bool.and_false], rfl⟩
  rw [a3, Bool.true_and] at hv
  by_cases a4 : (a.effects.length : Int) > 100
  ·simp only [go_sem, simprocAttr, a4]
   rw [hR]
   exact rt (.bool false) ⟨by rw [hv, decide_eq_false (by omega : ¬ a.effects.length ≤ 100), Bool.false_and, Bool.false_and, Bool.and_false], rfl⟩
  rw [decide_eq_true (by omega : a.effects.length ≤ 100), Bool.true_and] at hv
  simp only [go_sem, simprocAttr, a4]
  have hσ2 : IdsS (σ ++ [AObj.grow 1 i, AObj.row (encA a)]).length (σ ++ [AObj.grow 1 i, AObj.row (encA a)]) := idsS_app _ hσ (all_cons' trivial (all_cons' (idsO_row (ids_encA a)) all_nil'))
  refine wpc_while (fun j => [(4, .slice (.grow σ.length) (((t.actions.take i).map (·.name)).map encT)), (3, .int .i64 t.facts.length), (6, .ptr (σ.length + 1) 0), (41, .slice .unk (t.actions.map encA)), (42, .int .i64 t.actions.length), (43, .int .i64 (i : Nat)), (69, .slice .unk (a.effects.map encE)), (70, .int .i64 a.effects.length), (71, .int .i64 (j : Nat))])
   (fun j => σ ++ [.grow 1 i, .row (encA a)]) (fun j => j ≤ a.effects.length ∧ (namesFrom [] (t.actions.map (·.name)) && t.actions.all (actB t.facts.length)) = (namesFrom [] (t.actions.map (·.name)) && ((a.effects.drop j).all (effB t.facts.length) && (t.actions.drop (i + 1)).all (actB t.facts.length)))) (fun j => a.effects.length - j) 0 ⟨Nat.zero_le _, hv⟩ (by (try dsimp only); first | exact ghL (hσ2) | exact ghL0 (hσ2)) ?_
  rintro j ⟨hj', hvj⟩ K' hK' hE' hR'
  by_cases hj : j < a.effects.length
  ·obtain ⟨e, hxj⟩ := get_ex hj; have hltj : ((j : Int) < (a.effects.length : Int)) := (by omega); have hwj := wrapS (i := j) (by omega)
   have he := List.mem_of_getElem? hxj
   rw [drop_cons hxj, List.all_cons] at hvj
   simp only [go_sem, simprocAttr, hltj, hxj, encE]
   refine (cond01_spec e.when_ t.facts.length _ _ (hb.whens a ha e he)).is ?_
   cases b1 : condB t.facts.length (-1) e.when_
   ·simp only [go_sem, simprocAttr, hR', hR]
    exact rt (.bool false) ⟨by rw [hvj, effB, b1, Bool.false_and, Bool.false_and, Bool.false_and, Bool.and_false], rfl⟩
   rw [effB, b1, Bool.true_and] at hvj
   by_cases b2 : e.lit.fact < 0
   ·simp only [go_sem, simprocAttr, b2, hR', hR]
    exact rt (.bool false) ⟨by rw [hvj, decide_eq_false (by omega : ¬ 0 ≤ e.lit.fact), Bool.false_and, Bool.false_and, Bool.false_and, Bool.and_false], rfl⟩
   by_cases b3 : e.lit.fact ≥ t.facts.length
   ·simp only [go_sem, simprocAttr, b2, b3, hR', hR]
    exact rt (.bool false) ⟨by rw [hvj, decide_eq_false (by omega : ¬ e.lit.fact < t.facts.length), Bool.and_false, Bool.false_and, Bool.false_and, Bool.and_false], rfl⟩
   rw [decide_eq_true (by omega : 0 ≤ e.lit.fact), decide_eq_true (by omega : e.lit.fact < t.facts.length), Bool.true_and, Bool.true_and] at hvj
   simp only [go_sem, simprocAttr, b2, b3]
   refine hK' _ _ (j + 1) ⟨by omega, hvj⟩ (by omega) ?_
   exact (by (try dsimp only); (try simp only [ hwj]); first | exact ghL (hσ2) | exact ghL0 (hσ2))
  ·have hltj : ¬ ((j : Int) < (a.effects.length : Int)) := by omega
   rw [drop_len hj, List.all_nil, Bool.true_and] at hvj
   have hc : List.map encT (List.map (fun x => x.name) (List.take i t.actions)) ++ [[AV.str a.name]] = List.map encT (List.map (fun x => x.name) (List.take (i + 1) t.actions)) := by rw [take_succ' hx]; simp [encT]
   have hn : (List.take i t.actions).length = i := List.length_take_of_le (by omega)
   have hbig : bigLen (i + 1) 16 := big_ok (by omega) (by omega)
   simp only [go_sem, simprocAttr, hltj, hE', encA, encT, hc, hn, hbig]
   have hσ1 := idsS_push hσ (o := .grow 1 (i + 1)) trivial
   refine hK _ _ (i + 1) (⟨by omega, hvj⟩) om ?_; (try dsimp only); (try simp only [ hw]); exact ghk1
 ·have hlt : ¬ ((i : Int) < (t.actions.length : Int)) := by omega
  rw [drop_len h, List.all_nil, Bool.and_true] at hv
  have ht : t.actions.take i = t.actions := List.take_of_length_le (by omega)
  rw [ht]
  simp only [go_sem, simprocAttr, hlt, hE]
  refine (names01_spec (t.actions.map (·.name)) _ _ (by rw [List.length_map]; exact hb.actions) (fun b hb' => by obtain ⟨a, ha, rfl⟩ := List.mem_map.1 hb'; exact hb.name a ha)).is ?_
  simp only [go_sem, simprocAttr]
  first | exact rtw (v := .bool _) wkS ⟨by rw [hv], rfl⟩ | exact rtw0 (v := .bool _) wkS ⟨by rw [hv], rfl⟩
def actsFrom (n : Int) (seen : List ByteArray) : List FAct → Bool
 | [] => true
 | a :: l => nameB a.name && (!(decide (a.name ∈ seen)) && (actB n a && actsFrom n (seen ++ [a.name]) l))
theorem actsFrom_eq (n : Int) : ∀ (l : List FAct) (seen : List ByteArray), actsFrom n seen l = (namesFrom seen (l.map (·.name)) && l.all (actB n))
 | [], seen => rfl
 | a :: l, seen => by
  rw [actsFrom, List.map_cons, namesFrom, List.all_cons, actsFrom_eq n l]
  cases nameB a.name <;> cases decide (a.name ∈ seen) <;> cases actB n a <;> simp
def c_valid : CCode := .seq (.ops [oS 1 (.box (.tmp 0)), oS 2 (.move (.lit (.bool false)))]) (.seq (.ops [oS 11 (.faddr 0 (.tmp 1)), oS 12 (.load none (.tmp 11)), oS 13 (.blen 1 (.tmp 12)), oS 3 (.move (.tmp 13))]) (.seq (.seq (.ops [oS 14 (.move (.tmp 3)), oS 15 (.bin .gtr .none (.tmp 14) (.lit (.int .i64 200))), oS 16 (.move (.tmp 15)), oG 17 16 false (.faddr 3 (.tmp 1)), oG 18 16 false (.load none (.tmp 17)), oG 19 16 false (.blen 1 (.tmp 18)), oG 20 16 false (.bin .gtr .none (.tmp 19) (.lit (.int .i64 1000))), oS 21 (.pick (.tmp 16) (.lit (.bool true)) (.tmp 20)), oS 22 (.move (.tmp 21)), oG 23 22 false (.move (.tmp 3)), oG 24 22 false (.faddr 1 (.tmp 1)), oG 25 22 false (.load none (.tmp 24)), oG 26 22 false (.call (.lit (.func 97 [])) [.tmp 23, .tmp 25]), oG 27 22 false (.un .not (.tmp 26)), oS 28 (.pick (.tmp 22) (.lit (.bool true)) (.tmp 27)), oS 29 (.move (.tmp 28)), oG 30 29 false (.move (.tmp 3)), oG 31 29 false (.faddr 2 (.tmp 1)), oG 32 29 false (.load none (.tmp 31)), oG 33 29 false (.call (.lit (.func 70 [])) [.tmp 30, .tmp 32]), oG 34 29 false (.un .not (.tmp 33)), oS 35 (.pick (.tmp 29) (.lit (.bool true)) (.tmp 34))]) (.cond (.tmp 35) (.seq (.ops [oS 2 (.move (.lit (.bool false)))]) .ret) .skip)) (.seq (.ops [oS 36 .mkmap, oS 4 (.move (.tmp 36))]) (.seq (.seq (.ops [oS 37 (.faddr 0 (.tmp 1)), oS 38 (.load none (.tmp 37)), oS 39 (.blen 1 (.tmp 38)), oS 40 (.move (.lit (.int .i64 0)))]) (.block 0 (.loop (.seq (.ops [oS 41 (.bin .lss .none (.tmp 40) (.tmp 39))]) (.seq (.cond (.tmp 41) .skip (.exit 0)) (.seq (.block 1 (.seq (.ops [oS 42 (.iaddr 1 (.tmp 38) (.tmp 40)), oS 43 (.load none (.tmp 42)), oS 6 (.move (.tmp 43))]) (.seq (.seq (.ops [oS 44 (.move (.tmp 6)), oS 45 (.call (.lit (.func 119 [])) [.tmp 44]), oS 46 (.un .not (.tmp 45)), oS 47 (.move (.tmp 46)), oG 48 47 false (.move (.tmp 4)), oG 49 47 false (.move (.tmp 6)), oG 50 47 false (.lookup true (.bool false) (.tmp 48) (.tmp 49) false), oS 51 (.pick (.tmp 47) (.lit (.bool true)) (.tmp 50))]) (.cond (.tmp 51) (.seq (.ops [oS 2 (.move (.lit (.bool false)))]) .ret) .skip)) (.ops [oS 52 (.move (.tmp 4)), oS 53 (.move (.tmp 6)), oN (.mapup true (.tmp 52) (.tmp 53) (.lit (.bool true)))])))) (.ops [oS 54 (.bin .add .none (.tmp 40) (.lit (.int .i64 1))), oS 40 (.move (.tmp 54))]))))))) (.seq (.ops [oS 55 .mkmap, oS 4 (.move (.tmp 55))]) (.seq (.seq (.ops [oS 56 (.faddr 3 (.tmp 1)), oS 57 (.load none (.tmp 56)), oS 58 (.blen 1 (.tmp 57)), oS 59 (.move (.lit (.int .i64 0)))]) (.block 2 (.loop (.seq (.ops [oS 60 (.bin .lss .none (.tmp 59) (.tmp 58))]) (.seq (.cond (.tmp 60) .skip (.exit 2)) (.seq (.block 3 (.seq (.ops [oS 61 (.iaddr 4 (.tmp 57) (.tmp 59)), oS 62 (.load (some 4) (.tmp 61)), oS 8 (.alloc (.agg [.str (bys []), .int .i64 0, .slice .nil [], .slice .nil []])), oN (.store 4 (.tmp 8) (.tmp 62))]) (.seq (.seq (.ops [oS 63 (.faddr 0 (.tmp 8)), oS 64 (.load none (.tmp 63)), oS 65 (.call (.lit (.func 119 [])) [.tmp 64]), oS 66 (.un .not (.tmp 65)), oS 67 (.move (.tmp 66)), oG 68 67 false (.move (.tmp 4)), oG 69 67 false (.faddr 0 (.tmp 8)), oG 70 67 false (.load none (.tmp 69)), oG 71 67 false (.lookup true (.bool false) (.tmp 68) (.tmp 70) false), oS 72 (.pick (.tmp 67) (.lit (.bool true)) (.tmp 71)), oS 73 (.move (.tmp 72)), oG 74 73 false (.faddr 1 (.tmp 8)), oG 75 73 false (.load none (.tmp 74)), oG 76 73 false (.bin .lss .none (.tmp 75) (.lit (.int .i64 0))), oS 77 (.pick (.tmp 73) (.lit (.bool true)) (.tmp 76)), oS 78 (.move (.tmp 77)), oG 79 78 false (.faddr 1 (.tmp 8)), oG 80 78 false (.load none (.tmp 79)), oG 81 78 false (.bin .gtr .none (.tmp 80) (.lit (.int .i64 100000))), oS 82 (.pick (.tmp 78) (.lit (.bool true)) (.tmp 81)), oS 83 (.move (.tmp 82)), oG 84 83 false (.move (.tmp 3)), oG 85 83 false (.faddr 2 (.tmp 8)), oG 86 83 false (.load none (.tmp 85)), oG 87 83 false (.call (.lit (.func 70 [])) [.tmp 84, .tmp 86]), oG 88 83 false (.un .not (.tmp 87)), oS 89 (.pick (.tmp 83) (.lit (.bool true)) (.tmp 88)), oS 90 (.move (.tmp 89)), oG 91 90 false (.faddr 3 (.tmp 8)), oG 92 90 false (.load none (.tmp 91)), oG 93 90 false (.blen 1 (.tmp 92)), oG 94 90 false (.bin .gtr .none (.tmp 93) (.lit (.int .i64 100))), oS 95 (.pick (.tmp 90) (.lit (.bool true)) (.tmp 94))]) (.cond (.tmp 95) (.seq (.ops [oS 2 (.move (.lit (.bool false)))]) .ret) .skip)) (.seq (.ops [oS 96 (.move (.tmp 4)), oS 97 (.faddr 0 (.tmp 8)), oS 98 (.load none (.tmp 97)), oN (.mapup true (.tmp 96) (.tmp 98) (.lit (.bool true)))]) (.seq (.ops [oS 99 (.faddr 3 (.tmp 8)), oS 100 (.load none (.tmp 99)), oS 101 (.blen 1 (.tmp 100)), oS 102 (.move (.lit (.int .i64 0)))]) (.block 4 (.loop (.seq (.ops [oS 103 (.bin .lss .none (.tmp 102) (.tmp 101))]) (.seq (.cond (.tmp 103) .skip (.exit 4)) (.seq (.block 5 (.seq (.ops [oS 104 (.iaddr 3 (.tmp 100) (.tmp 102)), oS 105 (.load (some 3) (.tmp 104)), oS 10 (.alloc (.agg [.slice .nil [], .int .i64 0, .bool false])), oN (.store 3 (.tmp 10) (.tmp 105))]) (.seq (.ops [oS 106 (.move (.tmp 3)), oS 107 (.faddr 0 (.tmp 10)), oS 108 (.load none (.tmp 107)), oS 109 (.call (.lit (.func 70 [])) [.tmp 106, .tmp 108]), oS 110 (.un .not (.tmp 109)), oS 111 (.move (.tmp 110)), oG 112 111 false (.faddr 1 (.tmp 10)), oG 113 111 false (.faddr 0 (.tmp 112)), oG 114 111 false (.load none (.tmp 113)), oG 115 111 false (.bin .lss .none (.tmp 114) (.lit (.int .i64 0))), oS 116 (.pick (.tmp 111) (.lit (.bool true)) (.tmp 115)), oS 117 (.move (.tmp 116)), oG 118 117 false (.faddr 1 (.tmp 10)), oG 119 117 false (.faddr 0 (.tmp 118)), oG 120 117 false (.load none (.tmp 119)), oG 121 117 false (.move (.tmp 3)), oG 122 117 false (.bin .geq .none (.tmp 120) (.tmp 121)), oS 123 (.pick (.tmp 117) (.lit (.bool true)) (.tmp 122))]) (.cond (.tmp 123) (.seq (.ops [oS 2 (.move (.lit (.bool false)))]) .ret) .skip)))) (.ops [oS 124 (.bin .add .none (.tmp 102) (.lit (.int .i64 1))), oS 102 (.move (.tmp 124))]))))))))))) (.ops [oS 125 (.bin .add .none (.tmp 59) (.lit (.int .i64 1))), oS 59 (.move (.tmp 125))]))))))) (.seq (.ops [oS 2 (.move (.lit (.bool true)))]) .ret)))))))
theorem valid_spec (t : FTask) (σ : Store) (hb : TB t) : ACalls Tryz.prog 96 [.agg (encTask t)] σ (isR (.bool (validB t)) σ) := by
 refine ACalls.intro (rs := [(.tmp 2)]) (by kernel_rfl) { own := [], ghosts := [] } Tryz.func96 (c := Tryz.f96.body.getD .skip) (by kernel_rfl) (by decide) (by rw [show Tryz.f96.ntmps = 126 by kernel_rfl]; exact Nat.le_of_ble_eq_true rfl) (by kernel_rfl) ?_
 intro hσ hids
 rw [show comp Tryz.prog { own := [], ghosts := [] } (Tryz.f96.body.getD .skip) = c_valid by kernel_rfl, show Tryz.f96.ntmps = 126 by kernel_rfl]
 unfold c_valid
 unfold validB
 rw [← actsFrom_eq]
 by_cases h1 : (t.facts.length : Int) > 200
 ·simp only [go_sem, simprocAttr, encTask, h1]
  exact rt (.bool false) ⟨by rw [decide_eq_false (by omega : ¬ t.facts.length ≤ 200)]; rfl, rfl⟩
 rw [decide_eq_true (by omega : t.facts.length ≤ 200), Bool.true_and]
 by_cases h5 : (t.actions.length : Int) > 1000
 ·simp only [go_sem, simprocAttr, encTask, h1, h5]
  exact rt (.bool false) ⟨by rw [decide_eq_false (by omega : ¬ t.actions.length ≤ 1000)]; rfl, rfl⟩
 rw [decide_eq_true (by omega : t.actions.length ≤ 1000)]
 simp only [go_sem, simprocAttr, encTask, h1, h5]
 refine (rising_spec t.init t.facts.length _ _ hb.init).is ?_
 cases h3 : risingB t.facts.length (-1) t.init
 ·simp only [go_sem, simprocAttr]
  exact rt (.bool false) ⟨by simp only [Bool.false_and, Bool.and_false], rfl⟩
 simp only [go_sem, simprocAttr]
 refine (cond_spec t.goal t.facts.length _ _ hb.goal).is ?_
 cases h4 : condB t.facts.length (-1) t.goal
 ·simp only [go_sem, simprocAttr]
  exact rt (.bool false) ⟨by simp only [Bool.false_and, Bool.and_false], rfl⟩
 simp only [Bool.true_and]
 simp only [go_sem, simprocAttr]
 have hs1 : ∀ i, IdsS (σ ++ [AObj.row (encTask t), AObj.map (encSet (t.facts.take i))]).length (σ ++ [AObj.row (encTask t), AObj.map (encSet (t.facts.take i))]) := fun i => idsS_app _ hσ (all_cons' (idsO_row (ids_encTask t)) (all_cons' (ids_encSet _) all_nil'))
 refine wpc_while (fun i => [(1, .ptr σ.length 0), (3, .int .i64 t.facts.length), (4, .map (σ.length + 1)), (38, .slice .unk (t.facts.map encT)), (39, .int .i64 t.facts.length), (40, .int .i64 (i : Nat))]) (fun i => σ ++ [.row (encTask t), .map (encSet (t.facts.take i))])
  (fun i => i ≤ t.facts.length ∧ namesFrom [] t.facts = namesFrom (t.facts.take i) (t.facts.drop i)) (fun i => t.facts.length - i) 0 ⟨Nat.zero_le _, rfl⟩ (by (try dsimp only); first | exact ghL (hs1 0) | exact ghL0 (hs1 0)) ?_
 rintro i ⟨hi, hv⟩ K hK hE hR
 by_cases h : i < t.facts.length
 ·obtain ⟨y, hx⟩ := get_ex h; have hlt : ((i : Int) < (t.facts.length : Int)) := (by omega); have hw := wrapS (i := i) (by omega)
  rw [drop_cons hx, namesFrom] at hv
  simp only [go_sem, simprocAttr, hlt, hx, encT, hR]
  refine (name_spec y _ (hb.names y (List.mem_of_getElem? hx))).is ?_
  cases h1 : nameB y
  ·simp only [go_sem, simprocAttr, hR]
   exact rt (.bool false) ⟨by rw [hv, h1, Bool.false_and, Bool.false_and, Bool.false_and], rfl⟩
  by_cases h2 : y ∈ t.facts.take i
  ·obtain ⟨j, hj⟩ := find_in y _ 0 h2
   simp only [go_sem, simprocAttr, hj, hR]
   exact rt (.bool false) ⟨by rw [hv, h1, decide_eq_true h2, Bool.not_true, Bool.and_false, Bool.false_and, Bool.false_and], rfl⟩
  ·have hj := find_out y _ 0 h2
   simp only [go_sem, simprocAttr, hj, encSet_app, ← take_succ' hx]
   rw [h1, decide_eq_false h2, Bool.not_false, Bool.true_and, Bool.true_and, ← take_succ' hx] at hv
   refine hK _ _ (i + 1) (⟨by omega, hv⟩) om ?_; (try dsimp only); (try simp only [ hw]); first | exact ghL (hs1 (i + 1)) | exact ghL0 (hs1 (i + 1))
 ·have hlt : ¬ ((i : Int) < (t.facts.length : Int)) := by omega
  rw [drop_len h, namesFrom] at hv
  simp only [go_sem, simprocAttr, hlt, hE, encTask]
  rw [hv, Bool.true_and]
  clear hK hE hR
  have hs2 : ∀ i, IdsS (σ ++ [AObj.row (encTask t), AObj.map (encSet t.facts), AObj.map (encSet ((t.actions.take i).map (·.name)))]).length (σ ++ [AObj.row (encTask t), AObj.map (encSet t.facts), AObj.map (encSet ((t.actions.take i).map (·.name)))]) := fun i => idsS_app _ hσ (all_cons' (idsO_row (ids_encTask t)) (all_cons' (ids_encSet _) (all_cons' (ids_encSet _) all_nil')))
  have ht : t.facts.take i = t.facts := List.take_of_length_le (by omega)
  rw [ht]
  refine wpc_while (fun i => [(3, .int .i64 t.facts.length), (4, .map (σ.length + 2)), (57, .slice .unk (t.actions.map encA)), (58, .int .i64 t.actions.length), (59, .int .i64 (i : Nat))])
   (fun i => σ ++ [.row (encTask t), .map (encSet t.facts), .map (encSet ((t.actions.take i).map (·.name)))]) (fun i => i ≤ t.actions.length ∧ actsFrom t.facts.length [] t.actions = actsFrom t.facts.length ((t.actions.take i).map (·.name)) (t.actions.drop i)) (fun i => t.actions.length - i) 0 ⟨Nat.zero_le _, rfl⟩ (by (try dsimp only); first | exact ghL (hs2 0) | exact ghL0 (hs2 0)) ?_
  clear hv h hi
  rintro i ⟨hi, hv⟩ K hK hE hR
  by_cases h : i < t.actions.length
  ·obtain ⟨a, hx⟩ := get_ex h; have hlt : ((i : Int) < (t.actions.length : Int)) := (by omega); have hw := wrapS (i := i) (by omega)
   have ha := List.mem_of_getElem? hx
   rw [drop_cons hx, actsFrom] at hv
   simp only [go_sem, simprocAttr, hlt, hx, encA]
   refine (name_spec a.name _ (hb.name a ha)).is ?_
   cases n1 : nameB a.name
   ·simp only [go_sem, simprocAttr, hR]
    exact rt (.bool false) ⟨by rw [hv, n1]; rfl, rfl⟩
   rw [n1, Bool.true_and] at hv
   by_cases n2 : a.name ∈ (t.actions.take i).map (·.name)
   ·obtain ⟨j, hj⟩ := find_in a.name _ 0 n2
    simp only [go_sem, simprocAttr, hj, hR]
    exact rt (.bool false) ⟨by rw [hv, decide_eq_true n2]; rfl, rfl⟩
   have hj := find_out a.name _ 0 n2
   rw [decide_eq_false n2, Bool.not_false, Bool.true_and, actB] at hv
   by_cases a1 : a.cost < 0
   ·simp only [go_sem, simprocAttr, hj, a1, hR]
    exact rt (.bool false) ⟨by rw [hv, decide_eq_false (by omega : ¬ 0 ≤ a.cost)]; rfl, rfl⟩
   by_cases a2 : a.cost > 100000
   ·simp only [go_sem, simprocAttr, hj, a1, a2, hR]
    exact rt (.bool false) ⟨by rw [hv, decide_eq_false (by omega : ¬ a.cost ≤ 100000), Bool.false_and, Bool.and_false]; rfl, rfl⟩
   rw [decide_eq_true (by omega : 0 ≤ a.cost), decide_eq_true (by omega : a.cost ≤ 100000), Bool.true_and, Bool.true_and] at hv
   simp only [go_sem, simprocAttr, hj, a1, a2]
   refine (cond_spec a.pre t.facts.length _ _ (hb.pre a ha)).is ?_
   cases a3 : condB t.facts.length (-1) a.pre
   ·simp only [go_sem, simprocAttr, hR]
    exact rt (.bool false) ⟨by rw [hv, a3]; rfl, rfl⟩
   rw [a3, Bool.true_and] at hv
   by_cases a4 : (a.effects.length : Int) > 100
   ·simp only [go_sem, simprocAttr, a4, hR]
    exact rt (.bool false) ⟨by rw [hv, decide_eq_false (by omega : ¬ a.effects.length ≤ 100)]; rfl, rfl⟩
   rw [decide_eq_true (by omega : a.effects.length ≤ 100), Bool.true_and] at hv
   have hc : (t.actions.take i).map (·.name) ++ [a.name] = (t.actions.take (i + 1)).map (·.name) := by rw [take_succ' hx]; simp
   rw [hc] at hv
   simp only [go_sem, simprocAttr, a4, hj, encSet_app, hc]
   refine wpc_while (fun j => [(3, .int .i64 t.facts.length), (4, .map (σ.length + 2)), (57, .slice .unk (t.actions.map encA)), (58, .int .i64 t.actions.length), (59, .int .i64 (i : Nat)), (100, .slice .unk (a.effects.map encE)), (101, .int .i64 a.effects.length), (102, .int .i64 (j : Nat))])
    (fun j => σ ++ [.row (encTask t), .map (encSet t.facts), .map (encSet ((t.actions.take (i + 1)).map (·.name)))]) (fun j => j ≤ a.effects.length ∧ actsFrom t.facts.length [] t.actions = ((a.effects.drop j).all (effB t.facts.length) && actsFrom t.facts.length ((t.actions.take (i + 1)).map (·.name)) (t.actions.drop (i + 1)))) (fun j => a.effects.length - j) 0 ⟨Nat.zero_le _, hv⟩ (by (try dsimp only); first | exact ghL (hs2 (i + 1)) | exact ghL0 (hs2 (i + 1))) ?_
   rintro j ⟨hj', hvj⟩ K' hK' hE' hR'
   by_cases hj : j < a.effects.length
   ·obtain ⟨e, hxj⟩ := get_ex hj; have hltj : ((j : Int) < (a.effects.length : Int)) := (by omega); have hwj := wrapS (i := j) (by omega)
    have he := List.mem_of_getElem? hxj
    rw [drop_cons hxj, List.all_cons] at hvj
    simp only [go_sem, simprocAttr, hltj, hxj, encE]
    refine (cond_spec e.when_ t.facts.length _ _ (hb.whens a ha e he)).is ?_
    cases b1 : condB t.facts.length (-1) e.when_
    ·simp only [go_sem, simprocAttr, hR', hR]
     exact rt (.bool false) ⟨by rw [hvj, effB, b1]; rfl, rfl⟩
    rw [effB, b1, Bool.true_and] at hvj
    by_cases b2 : e.lit.fact < 0
    ·simp only [go_sem, simprocAttr, b2, hR', hR]
     exact rt (.bool false) ⟨by rw [hvj, decide_eq_false (by omega : ¬ 0 ≤ e.lit.fact)]; rfl, rfl⟩
    by_cases b3 : e.lit.fact ≥ t.facts.length
    ·simp only [go_sem, simprocAttr, b2, b3, hR', hR]
     exact rt (.bool false) ⟨by rw [hvj, decide_eq_false (by omega : ¬ e.lit.fact < t.facts.length), Bool.and_false]; rfl, rfl⟩
    rw [decide_eq_true (by omega : 0 ≤ e.lit.fact), decide_eq_true (by omega : e.lit.fact < t.facts.length), Bool.true_and, Bool.true_and] at hvj
    simp only [go_sem, simprocAttr, b2, b3]
    refine hK' _ _ (j + 1) ⟨by omega, hvj⟩ (by omega) ?_
    exact (by (try dsimp only); (try simp only [ hwj]); first | exact ghL (hs2 (i + 1)) | exact ghL0 (hs2 (i + 1)))
   ·have hltj : ¬ ((j : Int) < (a.effects.length : Int)) := by omega
    rw [drop_len hj, List.all_nil, Bool.true_and] at hvj
    simp only [go_sem, simprocAttr, hltj, hE']
    refine hK _ _ (i + 1) (⟨by omega, hvj⟩) om ?_; (try dsimp only); (try simp only [ hw]); first | exact ghL (hs2 (i + 1)) | exact ghL0 (hs2 (i + 1))
  ·have hlt : ¬ ((i : Int) < (t.actions.length : Int)) := by omega
   rw [drop_len h] at hv
   simp only [go_sem, simprocAttr, hlt, hE]
   exact rt (.bool true) ⟨by rw [hv]; rfl, rfl⟩
def idxFrom {α : Type} (p : α → Bool) : Int → List α → Int
 | _, [] => -1
 | k, x :: l => if p x then k else idxFrom p (k + 1) l
theorem idxFrom_ge {α : Type} (p : α → Bool) : ∀ (l : List α) (k : Int), 0 ≤ k → decide (idxFrom p k l ≥ 0) = l.any p
 | [], k, h => by simp [idxFrom]
 | x :: l, k, h => by
  rw [idxFrom, List.any_cons]
  cases hx : p x
  ·simp only [Bool.false_eq_true, if_false, Bool.false_or]; exact idxFrom_ge p l (k + 1) (by omega)
  ·simp [h]
def c_indexFuncL : CCode := .seq (.ops [oS 4 (.move (.lit (.int .i64 0)))]) (.seq (.seq (.ops [oS 6 (.move (.tmp 0)), oS 7 (.blen 1 (.tmp 6)), oS 8 (.move (.lit (.int .i64 0)))]) (.block 0 (.loop (.seq (.ops [oS 9 (.bin .lss .none (.tmp 8) (.tmp 7))]) (.seq (.cond (.tmp 9) .skip (.exit 0)) (.seq (.block 1 (.seq (.ops [oS 10 (.move (.tmp 8)), oS 5 (.move (.tmp 10))]) (.seq (.ops [oS 11 (.move (.tmp 1)), oS 12 (.move (.tmp 0)), oS 13 (.move (.tmp 5)), oS 14 (.iaddr 2 (.tmp 12) (.tmp 13)), oS 15 (.load (some 2) (.tmp 14)), oS 16 (.call (.tmp 11) [.tmp 15])]) (.cond (.tmp 16) (.seq (.ops [oS 17 (.move (.tmp 5)), oS 4 (.move (.tmp 17))]) .ret) .skip)))) (.ops [oS 18 (.bin .add .none (.tmp 8) (.lit (.int .i64 1))), oS 8 (.move (.tmp 18))]))))))) (.seq (.ops [oS 4 (.move (.lit (.int .i64 (-1))))]) .ret))
theorem indexFuncL_spec (l : List FLit) (g : FuncId) (cap : List AV) (p : FLit → Bool) (tok : Tok) (σ : Store) (hl : l.length ≤ 140737488355328)
  (hp : ∀ x ∈ l, ACalls Tryz.prog g (.agg (encLit x) :: cap) σ (isR (.bool (p x)) σ)) :
  ACalls Tryz.prog 103 [.slice tok (l.map encLit), .func g cap] σ (isR (.int .i64 (idxFrom p 0 l)) σ) := by
 refine ACalls.intro (rs := [(.tmp 4)]) (by kernel_rfl) { own := [], ghosts := [] } Tryz.func103 (c := Tryz.f103.body.getD .skip) (by kernel_rfl) (by decide) (by rw [show Tryz.f103.ntmps = 19 by kernel_rfl]; exact Nat.le_of_ble_eq_true rfl) (by kernel_rfl) ?_
 intro hσ hids
 rw [show comp Tryz.prog { own := [], ghosts := [] } (Tryz.f103.body.getD .skip) = c_indexFuncL by kernel_rfl, show Tryz.f103.ntmps = 19 by kernel_rfl]
 unfold c_indexFuncL
 have hil : Ids σ.length (.slice tok (l.map encLit)) := hids _ (by simp)
 have hif : Ids σ.length (.func g cap) := hids _ (by simp)
 simp only [go_sem, simprocAttr]
 refine wpc_while (fun i => [(0, .slice tok (l.map encLit)), (1, .func g cap), (7, .int .i64 l.length), (8, .int .i64 (i : Nat))]) (fun _ => σ) (fun i => i ≤ l.length ∧ idxFrom p 0 l = idxFrom p i (l.drop i)) (fun i => l.length - i) 0 ⟨Nat.zero_le _, rfl⟩ (by (try dsimp only); exact ghA) ?_
 rintro i ⟨hi, hv⟩ K hK hE hR
 by_cases h : i < l.length
 ·obtain ⟨y, hx⟩ := get_ex h; have hlt : ((i : Int) < (l.length : Int)) := (by omega); have hw := wrapS (i := i) (by omega)
  rw [drop_cons hx, idxFrom] at hv
  simp only [go_sem, simprocAttr, hlt, hx, encLit]
  refine (hp y (List.mem_of_getElem? hx)).is ?_
  cases h1 : p y
  ·simp only [go_sem, simprocAttr]
   rw [h1, if_neg (by simp)] at hv
   refine hK _ _ (i + 1) (⟨by omega, by rw [hv]; norm_cast⟩) om ?_; (try dsimp only); (try simp only [ hw]); exact ghA
  ·rw [h1, if_pos rfl] at hv
   simp only [go_sem, simprocAttr, hR]
   exact rt (.int .i64 i) ⟨by rw [hv], rfl⟩
 ·have hlt : ¬ ((i : Int) < (l.length : Int)) := by omega
  rw [drop_len h] at hv
  simp only [go_sem, simprocAttr, hlt, hE]
  exact rt (.int .i64 (-1)) ⟨by rw [hv]; rfl, rfl⟩
def c_containsFuncL : CCode := .seq (.ops [oS 4 (.move (.lit (.bool false)))]) (.seq (.ops [oS 5 (.move (.tmp 0)), oS 6 (.move (.tmp 1)), oS 7 (.call (.lit (.func 103 [])) [.tmp 5, .tmp 6]), oS 8 (.bin .geq .none (.tmp 7) (.lit (.int .i64 0))), oS 4 (.move (.tmp 8))]) .ret)
theorem containsFuncL_spec (l : List FLit) (g : FuncId) (cap : List AV) (p : FLit → Bool) (tok : Tok) (σ : Store) (hl : l.length ≤ 140737488355328)
  (hp : ∀ x ∈ l, ACalls Tryz.prog g (.agg (encLit x) :: cap) σ (isR (.bool (p x)) σ)) :
  ACalls Tryz.prog 83 [.slice tok (l.map encLit), .func g cap] σ (isR (.bool (l.any p)) σ) := by
 refine ACalls.intro (rs := [(.tmp 4)]) (by kernel_rfl) { own := [], ghosts := [] } Tryz.func83 (c := Tryz.f83.body.getD .skip) (by kernel_rfl) (by decide) (by rw [show Tryz.f83.ntmps = 9 by kernel_rfl]; exact Nat.le_of_ble_eq_true rfl) (by kernel_rfl) ?_
 intro hσ hids
 rw [show comp Tryz.prog { own := [], ghosts := [] } (Tryz.f83.body.getD .skip) = c_containsFuncL by kernel_rfl, show Tryz.f83.ntmps = 9 by kernel_rfl]
 unfold c_containsFuncL
 simp only [go_sem, simprocAttr]
 refine (indexFuncL_spec l g cap p tok σ hl hp).is ?_
 simp only [go_sem, simprocAttr, idxFrom_ge p l 0 (Int.le_refl _)]
 first | exact rtw (v := .bool _) wkS ⟨rfl, rfl⟩ | exact rtw0 (v := .bool _) wkS ⟨rfl, rfl⟩
def withinB (a b : List FLit) : Bool := !(a.any fun x => !(b.contains x))
def lessI (a b : FLit) : Int := if a.fact = b.fact then (if a.neg = b.neg then 0 else if b.neg then -1 else 1) else a.fact - b.fact
def litOk (x : FLit) : Prop := 0 ≤ x.fact ∧ x.fact ≤ 1073741824
def cmpLits : List FLit → List FLit → Int
 | [], [] => 0
 | [], _ :: _ => -1
 | _ :: _, [] => 1
 | a :: l, b :: r => if lessI a b = 0 then cmpLits l r else lessI a b
def orderI (a b : List FLit) : Int := if a.length = b.length then cmpLits a b else (a.length : Int) - b.length
def okI (n : Int) : Prop := -9223372036854775808 ≤ n ∧ n ≤ 9223372036854775807
theorem rd_int : Reads Tryz.prog 3 Ahl.encI okI := .int Tryz.underlying3
theorem rd_str : Reads Tryz.prog 9 encT (fun s => s.size ≤ 140737488355328) := .str Tryz.underlying9
theorem rd_lit : Reads Tryz.prog 137 encLit (fun _ => True) :=
 (Reads.struct Tryz.underlying137 (by kernel_rfl) (ReadsFs.cons (by rfl) rd_int (.cons (by kernel_rfl) (.bool Tryz.underlying4) (.nil _)))).conv (fun x => ⟨x.1, x.2.1⟩) (fun x => rfl) (fun _ _ => trivial)
theorem rd_strs : Reads Tryz.prog 22 (Ahl.encS encT) (okL fun s => s.size ≤ 140737488355328) := .slice Tryz.underlying22 (Nat.le_of_ble_eq_true (by kernel_rfl)) (Nat.le_of_ble_eq_true (by kernel_rfl)) rd_str
theorem rd_ints : Reads Tryz.prog 23 (Ahl.encS Ahl.encI) (okL okI) := .slice Tryz.underlying23 (Nat.le_of_ble_eq_true (by kernel_rfl)) (Nat.le_of_ble_eq_true (by kernel_rfl)) rd_int
theorem rd_lits : Reads Tryz.prog 24 (Ahl.encS encLit) (okL fun _ => True) := .slice Tryz.underlying24 (Nat.le_of_ble_eq_true (by kernel_rfl)) (Nat.le_of_ble_eq_true (by kernel_rfl)) rd_lit
theorem rd_eff : Reads Tryz.prog 139 encE (fun e => e.when_.length ≤ 140737488355328) :=
 (Reads.struct Tryz.underlying139 (by kernel_rfl) (ReadsFs.cons (by rfl) rd_lits (.cons (by kernel_rfl) rd_lit (.nil _)))).conv (fun x => ⟨x.1, x.2.1⟩) (fun x => rfl) (fun x h => h.1.1)
theorem rd_effs : Reads Tryz.prog 86 (Ahl.encS encE) (okL fun e => e.when_.length ≤ 140737488355328) := .slice Tryz.underlying86 (Nat.le_of_ble_eq_true (by kernel_rfl)) (Nat.le_of_ble_eq_true (by kernel_rfl)) rd_eff
structure AB (a : FAct) : Prop where
 name : a.name.data.toList.length ≤ 140737488355328
 pre : a.pre.length ≤ 140737488355328
 effects : a.effects.length ≤ 140737488355328
 whens : ∀ e ∈ a.effects, e.when_.length ≤ 140737488355328
theorem rd_act : Reads Tryz.prog 88 encA AB :=
 (Reads.struct Tryz.underlying88 (by kernel_rfl) (ReadsFs.cons (by rfl) rd_str (.cons (by kernel_rfl) rd_int (.cons (by kernel_rfl) rd_lits (.cons (by kernel_rfl) rd_effs (.nil _)))))).conv (fun x => ⟨x.1, x.2.1, x.2.2.1, x.2.2.2.1⟩) (fun x => rfl) (fun x h => ⟨h.1, h.2.2.1.1, h.2.2.2.1.1, h.2.2.2.1.2⟩)
theorem rd_acts : Reads Tryz.prog 25 (Ahl.encS encA) (okL AB) := .slice Tryz.underlying25 (Nat.le_of_ble_eq_true (by kernel_rfl)) (Nat.le_of_ble_eq_true (by kernel_rfl)) rd_act
theorem rd_task : Reads Tryz.prog 27 encTask TB :=
 (Reads.struct Tryz.underlying27 (by kernel_rfl) (ReadsFs.cons (by rfl) rd_strs (.cons (by kernel_rfl) rd_ints (.cons (by kernel_rfl) rd_lits (.cons (by kernel_rfl) rd_acts (.nil _)))))).conv (fun x => ⟨x.1, x.2.1, x.2.2.1, x.2.2.2.1⟩) (fun x => rfl)
  (fun x h => ⟨h.1.1, h.1.2, h.2.1.1, h.2.2.1.1, h.2.2.2.1.1, fun a ha => (h.2.2.2.1.2 a ha).name, fun a ha => (h.2.2.2.1.2 a ha).pre, fun a ha => (h.2.2.2.1.2 a ha).effects, fun a ha => (h.2.2.2.1.2 a ha).whens⟩)
theorem ra_task : RArg Tryz.prog 27 (fun t => .agg (encTask t)) TB := .agg rd_task Tryz.underlying27
theorem ra_ints : RArg Tryz.prog 23 (fun l : List Int => .slice .unk (l.map Ahl.encI)) (okL okI) := .one rd_ints (by intro d h; rw [Tryz.underlying23] at h; injection h with h; subst h; rfl)
theorem laidOut : laidOutB Tryz.prog = true := by kernel_rfl
theorem own : ownKnob Tryz.prog.godebug = none := by kernel_rfl
theorem rdble {ts : List TypeId} (h : (ts.all fun t => Tryz.prog.readableRec t && decide (t < Tryz.prog.types.size)) = true) : ∀ t ∈ ts, Tryz.prog.readableRec t = true ∧ t < Tryz.prog.types.size := by
 intro t ht
 have := List.all_eq_true.1 h t ht
 rw [Bool.and_eq_true] at this
 exact ⟨this.1, of_decide_eq_true this.2⟩
end Go.Proofs.YtpabiedjneognaaGreatDoor
namespace Go.Proofs.YtpabiedjneognaaGreatDoor
open Go.Ahl
end Go.Proofs.YtpabiedjneognaaGreatDoor
namespace Go.Ahl
open Go.Sort Go.Shelf Go.RowKit Go.Lib Go.Proofs
def Mem.strip (m : Mem) : Mem := { m with wk := fun _ _ => none }
theorem SRel.strip {m : Mem} {loc : List Loc} {σ : Store} {w : World} (h : SRel m loc σ w) (hr : ∀ a v, Rel m loc a v → Rel m.strip loc a v) : SRel m.strip loc σ w where
 len := h.len
 im := h.im
 bs := h.bs
 obj i l o h1 h2 := by
  have := h.obj i l o h1 h2
  cases l with
  | nowhere => cases o <;> exact this
  | blk b =>
   cases o with
   | dead => trivial
   | tab b vs => exact this
   | grow sz n => exact this
   | vec sz n cells => exact this
   | row cells =>
    obtain ⟨arr, t, h1, h2, h3, h4, h5⟩ := this
    exact ⟨arr, t, h1, h2, h3, fun j x v e1 e2 => hr _ _ (h4 j x v e1 e2), h5⟩
   | map es =>
    obtain ⟨en, c, h1, h2⟩ := this
    exact ⟨en, c, h1, ⟨h2.len, fun i k x e a b => ⟨hr _ _ (h2.key i k x e a b).1, hr _ _ (h2.key i k x e a b).2⟩, h2.born, h2.apart⟩⟩
   | loop L =>
    obtain ⟨r, h1, h2, h3, h4, h5, h6, h7⟩ := this
    exact ⟨r, h1, h2, h3, h4, h5, h6, ⟨h7.size, fun i => hr _ _ (h7.rel i)⟩⟩
   | iter es seen =>
    rcases this with ⟨h1, h2⟩ | ⟨q, en, c, sa, st, h1, h2, h3, h4⟩
    ·exact .inl ⟨h1, h2⟩
    ·exact .inr ⟨q, en, c, sa, st, h1, h2, ⟨h3.len, fun i k x e a b => ⟨hr _ _ (h3.key i k x e a b).1, hr _ _ (h3.key i k x e a b).2⟩, h3.born, h3.apart⟩, h4⟩
  | tok sz f =>
   cases o with
   | vec sz' n cells =>
    obtain ⟨h0, h1, h2, h3⟩ := this
    refine ⟨h0, h1, h2, ?_⟩
    rcases h3 with h3 | ⟨b, arr, t, g1, g2, g3, g4, g5, g6⟩
    ·exact .inl h3
    ·exact .inr ⟨b, arr, t, g1, g2, g3, g4, fun j x v e1 e2 => hr _ _ (g5 j x v e1 e2), g6⟩
   | _ => exact this
 inj := h.inj
 lt := h.lt
 mp := h.mp
 mpo := h.mpo
 ok := ⟨h.ok.low, h.ok.own, fun _ _ _ e => by simp [Mem.strip] at e, h.ok.fz⟩
theorem Rel.strip {m : Mem} {a : AV} {v : Value} (h : Rel m [] a v) : Rel m.strip [] a v := by
 generalize hl : ([] : List Loc) = loc at h
 induction h with
 | any v => exact .any v
 | bool b => exact .bool b
 | int k n => exact .int k n
 | str s => exact .str s
 | slice tok elems a cap sz b o f hcap htok hsz ha hc hr ih =>
  refine .slice tok elems a cap sz b o f hcap ?_ hsz ha hc ih
  cases tok <;> exact htok
 | ref id sz off len cap b n h1 h2 h3 h4 => exact .ref id sz off len cap b n h1 h2 h3 h4
 | ref0 id sz off a h1 => exact .ref0 id sz off a h1
 | vec id sz len cap f a h1 h2 h3 => exact .vec id sz len cap f a h1 h2 h3
 | ptr id off b h1 => exact .ptr id off b h1
 | rptr cells b o f hc hr ih => exact .rptr cells b o f hc ih
 | map id b h1 => exact .map id b h1
 | mapnil => exact .mapnil
 | func fn c vs h1 h2 ih => exact .func fn c vs h1 ih
 | agg c vs h1 h2 ih => exact .agg c vs h1 ih
 | tuple c vs h1 h2 ih => exact .tuple c vs h1 ih
 | conc v => exact .conc v
 | yld id b h1 => exact .yld id b h1
 | iface t x v _ ih => exact .iface t x v ih
 | cell K v h => exact .cell K v h
 | wslice elems a cap sz b o f hl' => subst hl; simp at hl'
 | wptr cells b o f hl' => subst hl; simp at hl'
theorem world_of_ext {m m' : Mem} {loc' : List Loc} {w w' : World} (h : Ext 0 m [] w m' loc' w') (hz : ∀ b o, m.wk b o = none) : ∃ q os', w' = grow (w.drewN q) os' := by
 refine ⟨w'.drawn - w.drawn, w'.heap.extract w.heap.size w'.heap.size, ?_⟩
 have hn : ∀ b, ¬ Names [] b := by rintro b ⟨i, e | ⟨_, _, _, e, _⟩⟩ <;> simp at e
 have h1 := h.os; have h2 := h.tape; have h3 := h.output; have h4 := h.drawn
 have hh : w'.heap = w.heap ++ w'.heap.extract w.heap.size w'.heap.size := by
  apply Array.ext_getElem?
  intro k
  rw [Array.getElem?_append]
  by_cases hk : k < w.heap.size
  ·rw [if_pos hk]; exact h.frame k hk (hn k) (hz k)
  ·rw [if_neg hk, Array.getElem?_extract]
   by_cases hk2 : k < w'.heap.size
   ·rw [if_pos (by omega)]; congr 1; omega
   ·rw [if_neg (by omega), Array.getElem?_eq_none (by omega)]
 cases w; cases w'
 simp only at h1 h2 h3 h4 hh
 subst h1; subst h2; subst h3
 simp only [grow, World.drewN, World.mk.injEq, true_and, and_true]
 exact ⟨hh, by omega⟩
theorem srel_base {m : Mem} {loc : List Loc} {σ : Store} {w : World} (h : SRel m loc σ w) : SRel m [] [] w := by
 have := h.take 0 (fun i o e => by simp at e)
 simpa using this
section
variable {α : Type} [Inhabited α] (enc : α → Value) (w : World) (blk off n : Nat) (d : Array α) (os : Array Obj)
theorem size_sortWorld : (sortWorld enc w blk off n d os).heap.size = w.heap.size + os.size := by
 simp [sortWorld, Sort.ahead]
theorem sortWorld_other {k : Nat} (hk : k < w.heap.size) (hne : k ≠ blk) : (sortWorld enc w blk off n d os).heap[k]? = w.heap[k]? := by
 show ((putRow enc (Sort.ahead w n) blk off d).heap ++ os)[k]? = _
 rw [Array.getElem?_append_left (by simpa [Sort.ahead] using hk)]
 show (w.heap.modify blk _)[k]? = _
 rw [Array.getElem?_modify, if_neg (fun e => hne e.symm)]
theorem sortWorld_own {arr : Array Value} {t : TypeId} {fz : Nat × Nat} (h : w.heap[blk]? = some (.cells arr t fz)) : (sortWorld enc w blk off n d os).heap[blk]? = some (.cells (putCells enc off d arr) t fz) := by
 have hk : blk < w.heap.size := by
  rcases Nat.lt_or_ge blk w.heap.size with q | q
  ·exact q
  ·rw [Array.getElem?_eq_none q] at h; simp at h
 show ((putRow enc (Sort.ahead w n) blk off d).heap ++ os)[blk]? = _
 rw [Array.getElem?_append_left (by simpa [Sort.ahead] using hk)]
 show (w.heap.modify blk _)[blk]? = _
 rw [Array.getElem?_modify, if_pos rfl, h]; rfl
theorem size_putCells (arr : Array Value) : (putCells enc off d arr).size = arr.size := by simp [putCells]
end
theorem srel_sorted {α : Type} [Inhabited α] (enc : α → Value) {m : Mem} {w : World} (blk off n : Nat) (d : Array α) (os : Array Obj) (h : SRel m [] [] w) (hb : ∀ o, m.im blk o = none) (hbm : m.mp blk = none) (hz : ∀ b o, m.wk b o = none) : SRel m [] [] (sortWorld enc w blk off n d os) := by
 refine ⟨rfl, ?_, ?_, by intro i l o e; simp at e, by intro i j l l' o o' b e; simp at e, by rintro b ⟨i, e | ⟨_, _, _, e, _⟩⟩ <;> simp at e, ?_, by intro i l o b e; simp at e, ?_⟩
 ·intro b o v e
  have hne : b ≠ blk := fun q => by subst q; rw [hb] at e; simp at e
  have := h.im b o v e
  have hlt := h.im_lt e
  unfold World.cell? at this ⊢
  rw [sortWorld_other enc w blk off n d os hlt hne]; exact this
 ·intro b k e
  obtain ⟨arr, t, fz, h1, h2⟩ := h.bs b k e
  by_cases hne : b = blk
  ·subst hne; exact ⟨_, t, fz, sortWorld_own enc w b off n d os h1, by rw [size_putCells]; exact h2⟩
  ·exact ⟨arr, t, fz, by rw [sortWorld_other enc w blk off n d os (h.bs_lt e) hne]; exact h1, h2⟩
 ·intro b e q
  have hne : b ≠ blk := fun q' => by subst q'; rw [hbm] at q; simp at q
  rw [sortWorld_other enc w blk off n d os (h.mp_lt q) hne]; exact h.mp b e q
 ·refine ⟨by rw [size_sortWorld]; exact Nat.le_trans h.ok.low (Nat.le_add_right _ _), by rintro b ⟨i, e | ⟨_, _, _, e, _⟩⟩ <;> simp at e, fun b o K e => by rw [hz] at e; simp at e, fun b o v q e => ?_⟩
  have hne : b ≠ blk := fun q' => by subst q'; rw [hb] at e; simp at e
  rw [frozen_same (sortWorld_other enc w blk off n d os (h.im_lt e) hne)]; exact h.ok.fz b o v q e
theorem rel_ref {m : Mem} {loc : List Loc} {id sz off len : Nat} {v : Value} (h : Rel m loc (.ref id sz off len) v) :
  (∃ cap b n, v = .slice (some ⟨b, off, none⟩) len cap ∧ loc[id]? = some (.blk b) ∧ len ≤ cap ∧ m.bs b = some n ∧ off + cap * sz ≤ n) ∨ (len = 0 ∧ ∃ a, v = .slice a 0 0) := by
 cases h with
 | ref _ _ _ _ cap b n h1 h2 h3 h4 => exact .inl ⟨cap, b, n, rfl, h1, h2, h3, h4⟩
 | ref0 _ _ _ a _ => exact .inr ⟨rfl, a, rfl⟩
section
variable {P : Program} {ρ : Ren} {β : Type}
theorem sort1 (L : SlLaysF.n6 P ρ) {fn gn : Func} (hf : P.funcs[ρ.f 6]? = some fn) (hfb : fn.body.isSome = true) (hfn : fn.name ≠ "runtime.NumGoroutine") (av : β → AV) (ok : β → Prop) (cf : β → β → Int)
  (hone : ∀ b, (av b).one = true) (hids : ∀ b, Ids 0 (av b)) (b0 : β) (v0 : Value) (hb0 : ok b0) (hv0 : ∀ m, Rel m [] (av b0) v0)
  (irr : ∀ x, ok x → ¬ cf x x < 0) (tr : ∀ x y z, ok x → ok y → ok z → cf x y < 0 → cf y z < 0 → cf x z < 0) (ntr : ∀ x y z, ok x → ok y → ok z → ¬ cf x y < 0 → ¬ cf y z < 0 → ¬ cf x z < 0)
  (g : FuncId) (hg : P.funcs[g]? = some gn) (hgb : gn.body.isSome = true) (hgn : (gn.name == "runtime.NumGoroutine") = false) (hcmp : ∀ x y, ok x → ok y → ACalls P g [av x, av y] [] (isR (.int .i64 (cf x y)) []))
  (id : Nat) (l : List β) (hl : ∀ x ∈ l, ok x) (σ : Store) (hσ : σ[id]? = some (.row (l.map av))) (hlen : l.length < 4611686018427387904) :
  ACalls P (ρ.f 6) [.ref id 1 0 l.length, .func g []] σ fun r σ' => r = .tuple [] ∧ ∃ l' : List β, l'.Perm l ∧ l'.Pairwise (fun x y => ¬ cf y x < 0) ∧ σ' = σ.set id (.row (l'.map av)) := by
 intro m loc w vs hs ha
 refine .inl ⟨fn, hf, hfb, hfn, ?_⟩
 obtain ⟨v, u, rfl, h1, h2⟩ := ha.two
 cases h2 with
 | func _ _ us hlenu _ =>
 have hus : us = #[] := Array.size_eq_zero_iff.1 hlenu
 subst hus
 have hid := lt_of_get hσ
 have hloc : loc[id]? = some (loc[id]'(by rw [hs.len]; exact hid)) := List.getElem?_eq_getElem _
 by_cases hl0 : l.length = 0
 ·have hlnil : l = [] := List.length_eq_zero_iff.1 hl0
  subst hlnil
  have key : ∀ a c, v = .slice a 0 c → Calls P (ρ.f 6) #[v, .func (.func g) #[] #[]] w fun e w' => ∃ v', e = .returned v' ∧ ARet loc m w (fun r σ' => r = .tuple [] ∧ ∃ l' : List β, l'.Perm [] ∧ l'.Pairwise (fun x y => ¬ cf y x < 0) ∧ σ' = σ.set id (.row (l'.map av))) v' w' := by
   rintro a c rfl
   refine (AnyF.slices_SortFunc_none (P := P) (ρ := ρ) { L with } a c _ w).mono ?_
   rintro e w' ⟨rfl, rfl⟩
   refine ⟨_, rfl, .tuple [], σ, m, loc, ⟨rfl, [], .refl _, .nil, ?_⟩, .tuple [] #[] rfl (by simp), hs, .refl _ _ _ _⟩
   rw [← set_same hσ]; simp
  rcases rel_ref h1 with ⟨cap, b, n, q0, _⟩ | ⟨_, a, q0⟩
  ·exact key _ _ q0
  ·exact key _ _ q0
 ·rcases rel_ref h1 with ⟨cap, blk, n, q0, q1, q2, q3, q4⟩ | ⟨q0, _⟩
  rotate_left
  ·exact absurd q0 hl0
  ·subst q0
   obtain ⟨arr, t, e1, e2, e3, e4, e5⟩ := hs.obj id _ _ q1 hσ
   have e3 : l.length ≤ arr.size := by simpa using e3
   let A := { p : β × Value // ok p.1 ∧ Rel m [] (av p.1) p.2 }
   letI : Inhabited A := ⟨⟨(b0, v0), hb0, hv0 m⟩⟩
   let enc : A → Value := fun x => x.1.2
   let cfA : A → A → Int := fun x y => cf x.1.1 y.1.1
   have hrel : ∀ j (hj : j < l.length), Rel m [] (av l[j]) (arr[j]'(by omega)) := by
    intro j hj
    have := e4 j (av l[j]) (arr[j]'(by omega)) (by rw [List.getElem?_map, List.getElem?_eq_getElem hj]; rfl) (Array.getElem?_eq_getElem _)
    have := this.take (n := 0) (hids _)
    simpa using this
   let d : Array A := Array.ofFn fun j : Fin l.length => ⟨(l[j.1], arr[j.1]'(by omega)), hl _ (List.getElem_mem _), hrel j.1 j.2⟩
   have hds : d.size = l.length := by simp [d]
   have hdj : ∀ j (hj : j < l.length), (d[j]!).1 = (l[j], arr[j]'(by omega)) := by
    intro j hj
    rw [getElem!_pos d j (by rw [hds]; exact hj)]
    simp [d]
   have hdl : d.toList.map (·.1.1) = l := by
    apply List.ext_getElem (by simp [hds])
    intro j h1 h2
    simp [d]
   have hO : SWO (ltOf cfA) := by
    refine ⟨fun x => ?_, fun x y z a b => ?_, fun x y z a b => ?_⟩
    ·exact decide_eq_false (irr _ x.2.1)
    ·exact decide_eq_true (tr _ _ _ x.2.1 y.2.1 z.2.1 (of_decide_eq_true a) (of_decide_eq_true b))
    ·exact decide_eq_false (ntr _ _ _ x.2.1 y.2.1 z.2.1 (of_decide_eq_false a) (of_decide_eq_false b))
   have hgc : ∃ c, gn.body = some c := Option.isSome_iff_exists.1 hgb
   obtain ⟨gc, hgc⟩ := hgc
   have hH : Holds enc w blk 0 d := by
    intro j hj
    rw [hds] at hj
    have : enc d[j]! = arr[j]'(by omega) := by show (d[j]!).1.2 = _; rw [hdj j hj]
    rw [this, Nat.zero_add]
    refine ⟨by simp [World.cell?, e1], by simp [World.frozen?, e1]⟩
   have hblk : blk < w.heap.size := hs.lt blk ⟨id, .inl q1⟩
   have hbase := srel_base hs
   have hlays : CmpLays1 P g #[] enc cfA blk 0 d.size w := by
    intro n' os dk hsz x y
    have hS := srel_sorted (m := m.strip) enc blk 0 n' dk os (hbase.strip fun _ _ q => q.strip) e5 (hs.mpo id _ _ blk q1 hσ rfl) (fun _ _ => rfl)
    have hA : ArgsRel m.strip [] [av x.1.1, av y.1.1] (#[enc x, enc y] ++ #[]) := by
     refine ⟨rfl, fun j a v => ?_⟩
     match j with
     | 0 => intro r1 r2; simp at r1 r2; subst r1; subst r2; exact x.2.2.strip
     | 1 => intro r1 r2; simp at r1 r2; subst r1; subst r2; exact y.2.2.strip
     | j + 2 => intro r1; simp at r1
    refine ((hcmp x.1.1 y.1.1 x.2.1 y.2.1).calls hg hgb (by simpa using hgn) hS hA).mono ?_
    rintro e w' ⟨v, rfl, r, σ', m', loc', ⟨rfl, rfl⟩, r1, r2, r3⟩
    cases r1
    exact ⟨rfl, world_of_ext r3 (fun _ _ => rfl)⟩
   have hmain := Any.slices_SortFunc L enc (fun x => rel_one x.2.2 (hone _)) cfA hO g #[] blk 0 cap d w (enters_of hg hgn hgc) hlays hH hblk (by rw [hds]; exact hlen)
   rw [hds] at hmain
   refine hmain.mono ?_
   rintro e w' ⟨rfl, d', n', os, hperm, hsorted, rfl⟩
   obtain ⟨p1, _, p3⟩ := hperm
   have hd's : d'.size = l.length := p1.trans hds
   have ex : ∀ x : Array A, x.size = l.length → (x.extract 0 l.length).toList = x.toList := fun x hx => by rw [← hx]; simp
   rw [ex d' hd's, ex d hds] at p3
   let l' : List β := d'.toList.map (·.1.1)
   have hl's : l'.length = l.length := by simp [l', hd's]
   have hset : loc.set id (.blk blk) = loc := set_same q1
   have key := hs.turn loc.length (m' := m) (w' := sortWorld enc w blk 0 n' d' os) (l' := .blk blk) (.row (l'.map av)) q1 hσ (.refl m) (.refl _)
    (fun k hk hne => sortWorld_other enc w blk 0 n' d' os hk (fun q => hne (by subst q; rfl))) (by rw [size_sortWorld]; omega) (fun _ _ _ _ => rfl) ?_ ?_ ?_ (fun b q => .inl q) ?_ rfl rfl rfl (by simp [sortWorld, grow, putRow, mapBlock, Sort.ahead])
   ·rw [hset] at key
    refine ⟨_, rfl, .tuple [], _, m, loc, ⟨rfl, l', ?_, ?_, rfl⟩, .tuple [] #[] rfl (by simp), key.1, key.2⟩
    ·have := p3.map (fun x : A => x.1.1); rw [hdl] at this; exact this
    ·rw [List.pairwise_iff_getElem]
     intro i j hi hj hij
     have := hsorted i j (Nat.zero_le _) hij (by rw [← hl's]; exact hj)
     rw [getElem!_pos d' j (by rw [hd's, ← hl's]; exact hj), getElem!_pos d' i (by rw [hd's, ← hl's]; exact hi)] at this
     have := of_decide_eq_false this
     simpa [l', cfA] using this
   ·intro k o v hk e'
    rcases hk with hk | hk
    ·simp [own] at hk; subst hk; rw [e5] at e'; simp at e'
    ·have := hs.im_lt e'; omega
   ·intro k z hz
    by_cases hk : k = blk
    ·subst hk
     refine .inr ⟨_, t, _, sortWorld_own enc w k 0 n' d' os e1, ?_⟩
     rw [size_putCells]
     rw [e2] at hz; injection hz
    ·exact .inl ⟨hz, by simp [own]; exact fun q => hk q.symm⟩
   ·rintro b ⟨_, _, _, e, _⟩; simp at e
   ·refine ⟨_, t, sortWorld_own enc w blk 0 n' d' os e1, by rw [size_putCells]; exact e2, by rw [size_putCells, List.length_map, hl's]; exact e3, ?_, e5⟩
    rw [hset]
    intro j x v hj hv'
    have hjl : j < l.length := by have := lt_of_get hj; simpa [hl's] using this
    have hjd : j < d'.size := by rw [hd's]; exact hjl
    have hx : x = av (d'[j]).1.1 := by
     simp only [l', List.getElem?_map, Array.getElem?_toList, Array.getElem?_eq_getElem hjd, Option.map_some, Option.some.injEq] at hj
     exact hj.symm
    have hvv : v = (d'[j]).1.2 := by
     simp only [putCells, Array.getElem?_mapIdx, Array.getElem?_eq_getElem (by omega : j < arr.size), Option.map_some, Option.some.injEq] at hv'
     rw [if_pos (by omega), Nat.sub_zero, getElem!_pos d' j hjd] at hv'
     exact hv'.symm
    subst hx; subst hvv
    exact (d'[j]).2.2.mono (.refl m) (fun i l hi => by simp at hi)
end
end Go.Ahl
namespace Go.Proofs
open Go.Shelf Go.RowKit Go.Lib Go.Sort
end Go.Proofs
namespace Go.Proofs.YtpabiedjneognaaGreatDoor
open Go.Ahl
def cOk (l : List FLit) : Prop := l.length ≤ 1073741824 ∧ ∀ x ∈ l, litOk x
def cV (n : Int) (l : List FLit) : Prop := condB n (-1) l = true
theorem condB_cons {n p : Int} {x : FLit} {l : List FLit} (h : condB n p (x :: l) = true) : p < x.fact ∧ x.fact < n ∧ condB n x.fact l = true := by
 rw [condB, Bool.and_eq_true, Bool.and_eq_true] at h
 exact ⟨of_decide_eq_true h.1.1, of_decide_eq_true h.1.2, h.2⟩
theorem condB_len {n : Int} : ∀ {l : List FLit} {p : Int}, condB n p l = true → l = [] ∨ (l.length : Int) ≤ n - 1 - p
 | [], _, _ => .inl rfl
 | x :: l, p, h => by
  obtain ⟨h1, h2, h3⟩ := condB_cons h
  rcases condB_len h3 with rfl | h4
  ·right; simp; omega
  ·right; simp; omega
theorem condB_mem {n : Int} : ∀ {l : List FLit} {p : Int}, condB n p l = true → ∀ x ∈ l, p < x.fact ∧ x.fact < n
 | [], _, _, x, hx => by simp at hx
 | y :: l, p, h, x, hx => by
  obtain ⟨h1, h2, h3⟩ := condB_cons h
  rcases List.mem_cons.1 hx with rfl | hx
  ·exact ⟨h1, h2⟩
  ·have := condB_mem h3 x hx; exact ⟨by omega, this.2⟩
theorem cV.ok {n : Int} (hn : n ≤ 1000000) {l : List FLit} (h : cV n l) : cOk l := by
 refine ⟨?_, fun x hx => ?_⟩
 ·rcases condB_len h with rfl | h
  ·simp
  ·omega
 ·have := condB_mem h x hx; exact ⟨by omega, by omega⟩
end Go.Proofs.YtpabiedjneognaaGreatDoor
namespace Go.Proofs.YtpabiedjneognaaGreatDoor
open Go.Ahl
structure AV_ (n : Int) (a : FAct) : Prop where
 pre : cV n a.pre
 whens : ∀ e ∈ a.effects, cV n e.when_
 many : a.effects.length ≤ 1000
end Go.Proofs.YtpabiedjneognaaGreatDoor
namespace Go.Proofs.YtpabiedjneognaaGreatDoor
open Go.Ahl
theorem valid_facts {t : FTask} (h : validB t = true) : (t.facts.length : Int) ≤ 200 := by
 rw [validB, Bool.and_eq_true] at h
 have := of_decide_eq_true h.1; omega
theorem valid_act {t : FTask} (h : validB t = true) {a : FAct} (ha : a ∈ t.actions) : AV_ t.facts.length a := by
 simp only [validB, Bool.and_eq_true] at h
 have := List.all_eq_true.1 h.2.2.2.2.2.2 a ha
 simp only [actB, Bool.and_eq_true] at this
 obtain ⟨_, _, h3, h4, h5⟩ := this
 refine ⟨h3, fun e he => ?_, by have := of_decide_eq_true h4; omega⟩
 have := List.all_eq_true.1 h5 e he
 simp only [effB, Bool.and_eq_true] at this
 exact this.1
end Go.Proofs.YtpabiedjneognaaGreatDoor
namespace Go.Proofs.YtpabiedjneognaaGreatDoor
open Go.Ahl
end Go.Proofs.YtpabiedjneognaaGreatDoor
namespace Go.Proofs.YtpabiedjneognaaGreatDoor
open Go.Ahl
end Go.Proofs.YtpabiedjneognaaGreatDoor
namespace Go.Proofs.YtpabiedjneognaaGreatDoor
open Go.Ahl
def apart (a b : List FLit) : Prop := orderI a b ≤ 0 ∧ ¬ withinB a b = true
end Go.Proofs.YtpabiedjneognaaGreatDoor
namespace Go.Proofs.YtpabiedjneognaaGreatDoor
open Go.Ahl
def whenSize (es : List FEff) : Nat := (es.map fun e => e.when_.length).sum
def actSize (a : FAct) : Nat := a.pre.length + a.effects.length + whenSize a.effects
def taskSize (t : FTask) : Nat := t.facts.length + t.init.length + t.goal.length + t.actions.length + (t.actions.map actSize).sum
def fewT (n : Nat) (t : FTask) : Bool := decide (taskSize t ≤ n) && (t.facts.all (fun s => decide (s.data.toList.length ≤ n)) && t.actions.all (fun a => decide (a.name.data.toList.length ≤ n)))
theorem actSum_cons (a : FAct) (l : List FAct) : ((a :: l).map actSize).sum = actSize a + (l.map actSize).sum := by simp
theorem whenSize_cons (e : FEff) (l : List FEff) : whenSize (e :: l) = e.when_.length + whenSize l := by simp [whenSize]
theorem fewT_big {n : Nat} {t : FTask} (h : n < taskSize t) : fewT n t = false := by unfold fewT; rw [decide_eq_false (by omega)]; rfl
def c_few01 : CCode := .seq (.ops [oS 2 (.box (.tmp 0)), oS 4 (.move (.lit (.bool false)))]) (.seq (.ops [oS 12 (.faddr 0 (.tmp 2)), oS 13 (.load none (.tmp 12)), oS 14 (.blen 1 (.tmp 13)), oS 15 (.faddr 1 (.tmp 2)), oS 16 (.load none (.tmp 15)), oS 17 (.blen 1 (.tmp 16)), oS 18 (.bin .add .none (.tmp 14) (.tmp 17)), oS 19 (.faddr 2 (.tmp 2)), oS 20 (.load none (.tmp 19)), oS 21 (.blen 1 (.tmp 20)), oS 22 (.bin .add .none (.tmp 18) (.tmp 21)), oS 23 (.faddr 3 (.tmp 2)), oS 24 (.load none (.tmp 23)), oS 25 (.blen 1 (.tmp 24)), oS 26 (.bin .add .none (.tmp 22) (.tmp 25)), oS 5 (.move (.tmp 26))]) (.seq (.seq (.ops [oS 27 (.move (.tmp 5)), oS 28 (.move (.tmp 1)), oS 29 (.bin .gtr .none (.tmp 27) (.tmp 28))]) (.cond (.tmp 29) (.seq (.ops [oS 4 (.move (.lit (.bool false)))]) .ret) .skip)) (.seq (.seq (.ops [oS 30 (.faddr 0 (.tmp 2)), oS 31 (.load none (.tmp 30)), oS 32 (.blen 1 (.tmp 31)), oS 33 (.move (.lit (.int .i64 0)))]) (.block 0 (.loop (.seq (.ops [oS 34 (.bin .lss .none (.tmp 33) (.tmp 32))]) (.seq (.cond (.tmp 34) .skip (.exit 0)) (.seq (.block 1 (.seq (.ops [oS 35 (.iaddr 1 (.tmp 31) (.tmp 33)), oS 36 (.load none (.tmp 35)), oS 7 (.move (.tmp 36))]) (.seq (.ops [oS 37 (.move (.tmp 7)), oS 38 (.blen 0 (.tmp 37)), oS 39 (.move (.tmp 1)), oS 40 (.bin .gtr .none (.tmp 38) (.tmp 39))]) (.cond (.tmp 40) (.seq (.ops [oS 4 (.move (.lit (.bool false)))]) .ret) .skip)))) (.ops [oS 41 (.bin .add .none (.tmp 33) (.lit (.int .i64 1))), oS 33 (.move (.tmp 41))]))))))) (.seq (.seq (.ops [oS 42 (.faddr 3 (.tmp 2)), oS 43 (.load none (.tmp 42)), oS 44 (.blen 1 (.tmp 43)), oS 45 (.move (.lit (.int .i64 0)))]) (.block 2 (.loop (.seq (.ops [oS 46 (.bin .lss .none (.tmp 45) (.tmp 44))]) (.seq (.cond (.tmp 46) .skip (.exit 2)) (.seq (.block 3 (.seq (.ops [oS 47 (.iaddr 4 (.tmp 43) (.tmp 45)), oS 48 (.load (some 4) (.tmp 47)), oS 9 (.alloc (.agg [.str (bys []), .int .i64 0, .slice .nil [], .slice .nil []])), oN (.store 4 (.tmp 9) (.tmp 48))]) (.seq (.ops [oS 49 (.move (.tmp 5)), oS 50 (.faddr 2 (.tmp 9)), oS 51 (.load none (.tmp 50)), oS 52 (.blen 1 (.tmp 51)), oS 53 (.faddr 3 (.tmp 9)), oS 54 (.load none (.tmp 53)), oS 55 (.blen 1 (.tmp 54)), oS 56 (.bin .add .none (.tmp 52) (.tmp 55)), oS 57 (.bin .add .none (.tmp 49) (.tmp 56)), oS 5 (.move (.tmp 57))]) (.seq (.seq (.ops [oS 58 (.move (.tmp 5)), oS 59 (.move (.tmp 1)), oS 60 (.bin .gtr .none (.tmp 58) (.tmp 59)), oS 61 (.move (.tmp 60)), oG 62 61 false (.faddr 0 (.tmp 9)), oG 63 61 false (.load none (.tmp 62)), oG 64 61 false (.blen 0 (.tmp 63)), oG 65 61 false (.move (.tmp 1)), oG 66 61 false (.bin .gtr .none (.tmp 64) (.tmp 65)), oS 67 (.pick (.tmp 61) (.lit (.bool true)) (.tmp 66))]) (.cond (.tmp 67) (.seq (.ops [oS 4 (.move (.lit (.bool false)))]) .ret) .skip)) (.seq (.ops [oS 68 (.faddr 3 (.tmp 9)), oS 69 (.load none (.tmp 68)), oS 70 (.blen 1 (.tmp 69)), oS 71 (.move (.lit (.int .i64 0)))]) (.block 4 (.loop (.seq (.ops [oS 72 (.bin .lss .none (.tmp 71) (.tmp 70))]) (.seq (.cond (.tmp 72) .skip (.exit 4)) (.seq (.block 5 (.seq (.ops [oS 73 (.iaddr 3 (.tmp 69) (.tmp 71)), oS 74 (.load (some 3) (.tmp 73)), oS 11 (.alloc (.agg [.slice .nil [], .int .i64 0, .bool false])), oN (.store 3 (.tmp 11) (.tmp 74))]) (.ops [oS 75 (.move (.tmp 5)), oS 76 (.faddr 0 (.tmp 11)), oS 77 (.load none (.tmp 76)), oS 78 (.blen 1 (.tmp 77)), oS 79 (.bin .add .none (.tmp 75) (.tmp 78)), oS 5 (.move (.tmp 79))]))) (.ops [oS 80 (.bin .add .none (.tmp 71) (.lit (.int .i64 1))), oS 71 (.move (.tmp 80))]))))))))))) (.ops [oS 81 (.bin .add .none (.tmp 45) (.lit (.int .i64 1))), oS 45 (.move (.tmp 81))]))))))) (.seq (.ops [oS 82 (.move (.tmp 5)), oS 83 (.move (.tmp 1)), oS 84 (.bin .leq .none (.tmp 82) (.tmp 83)), oS 4 (.move (.tmp 84))]) .ret)))))
set_option maxHeartbeats 1000000 in
theorem few01_spec (t : FTask) (n : Nat) (σ : Store) (ht : TB t) (hn : n ≤ 4096) :
  ACalls Tryz.prog 34 [.agg (encTask t), .int .i64 n] σ (isR (.bool (fewT n t)) σ) := by
 refine ACalls.intro (rs := [(.tmp 4)]) (by kernel_rfl) { own := [], ghosts := [] } Tryz.func34 (c := Tryz.f34.body.getD .skip) (by kernel_rfl) (by decide) (by rw [show Tryz.f34.ntmps = 85 by kernel_rfl]; exact Nat.le_of_ble_eq_true rfl) (by kernel_rfl) ?_
 intro hσ hids
 rw [show comp Tryz.prog { own := [], ghosts := [] } (Tryz.f34.body.getD .skip) = c_few01 by kernel_rfl, show Tryz.f34.ntmps = 85 by kernel_rfl]
 unfold c_few01
 have hσ1 := ids_grow hσ (ids_encTask t)
 obtain ⟨T, hT⟩ : ∃ T : Nat, T = 140737488355328 := ⟨_, rfl⟩
 have hnT := mulTop (T := T) hn
 have b1 := ht.facts; have b2 := ht.init; have b3 := ht.goal; have b4 := ht.actions
 have hsz : taskSize t = t.facts.length + t.init.length + t.goal.length + t.actions.length + (t.actions.map actSize).sum := rfl
 have w1 : IntKind.i64.wrap ((t.facts.length : Int) + t.init.length) = ((t.facts.length + t.init.length : Nat) : Int) := by rw [wrap_ok (by omega)]; omega
 have w2 : IntKind.i64.wrap (((t.facts.length + t.init.length : Nat) : Int) + t.goal.length) = ((t.facts.length + t.init.length + t.goal.length : Nat) : Int) := by rw [wrap_ok (by omega)]; omega
 have w3 : IntKind.i64.wrap (((t.facts.length + t.init.length + t.goal.length : Nat) : Int) + t.actions.length) = ((t.facts.length + t.init.length + t.goal.length + t.actions.length : Nat) : Int) := by rw [wrap_ok (by omega)]; omega
 by_cases h1 : ((t.facts.length + t.init.length + t.goal.length + t.actions.length : Nat) : Int) > n
 ·simp only [go_sem, simprocAttr, encTask, w1, w2, w3, h1]
  exact rt (.bool false) ⟨by rw [fewT_big (by omega)], rfl⟩
 simp only [go_sem, simprocAttr, encTask, w1, w2, w3, h1]
 generalize hs0 : t.facts.length + t.init.length + t.goal.length + t.actions.length = s0 at *
 refine wpc_while (fun i => [(1, .int .i64 n), (2, .ptr σ.length 0), (5, .int .i64 s0), (31, .slice .unk (t.facts.map encT)), (32, .int .i64 t.facts.length), (33, .int .i64 (i : Nat))]) (fun _ => σ ++ [.row (encTask t)])
  (fun i => i ≤ t.facts.length ∧ t.facts.all (fun s => decide (s.data.toList.length ≤ n)) = (t.facts.drop i).all (fun s => decide (s.data.toList.length ≤ n))) (fun i => t.facts.length - i) 0 ⟨Nat.zero_le _, rfl⟩ (by (try dsimp only); exact ghk1) ?_
 rintro i ⟨hi, hv⟩ K hK hE hR
 by_cases h : i < t.facts.length
 ·obtain ⟨y, hx⟩ := get_ex h; have hlt : ((i : Int) < (t.facts.length : Int)) := (by omega); have hw := wrapS (i := i) (by omega)
  have hb : y.size = y.data.toList.length := rfl
  have hyb := ht.names y (List.mem_of_getElem? hx)
  rw [drop_cons hx, List.all_cons] at hv
  by_cases h2 : ((y.data.toList.length : Nat) : Int) > n
  ·simp only [go_sem, simprocAttr, hlt, hx, encT, hb, h2, hR]
   rw [decide_eq_false (by omega), Bool.false_and] at hv
   exact rt (.bool false) ⟨by rw [fewT, hv, Bool.false_and, Bool.and_false], rfl⟩
  ·simp only [go_sem, simprocAttr, hlt, hx, encT, hb, h2]
   rw [decide_eq_true (by omega), Bool.true_and] at hv
   refine hK _ _ (i + 1) (⟨by omega, hv⟩) om ?_; (try dsimp only); (try simp only [ hw]); exact ghk1
 ·have hlt : ¬ ((i : Int) < (t.facts.length : Int)) := by omega
  rw [drop_len h, List.all_nil] at hv
  simp only [go_sem, simprocAttr, hlt, hE, encTask]
  have hfv : fewT n t = (decide (taskSize t ≤ n) && t.actions.all (fun a => decide (a.name.data.toList.length ≤ n))) := by rw [fewT, hv, Bool.true_and]
  clear hK hE hR hv
  refine wpc_while (fun (q : Nat × Nat) => [(1, .int .i64 n), (5, .int .i64 q.2), (43, .slice .unk (t.actions.map encA)), (44, .int .i64 t.actions.length), (45, .int .i64 q.1)]) (fun _ => σ)
   (fun q => q.1 ≤ t.actions.length ∧ q.2 ≤ n + n * T ∧ taskSize t = q.2 + ((t.actions.drop q.1).map actSize).sum ∧ t.actions.all (fun a => decide (a.name.data.toList.length ≤ n)) = (t.actions.drop q.1).all (fun a => decide (a.name.data.toList.length ≤ n))) (fun q => t.actions.length - q.1) (0, s0) ⟨Nat.zero_le _, by simp only []; omega, by rw [hsz]; rfl, rfl⟩ (by (try dsimp only); exact ghA) ?_
  rintro ⟨j, a⟩ ⟨hj', haa, hva, hvn⟩ K hK hE hR
  dsimp only at hj' haa hva hvn ⊢
  by_cases hj : j < t.actions.length
  ·obtain ⟨x, hxj⟩ := get_ex hj; have hltj : ((j : Int) < (t.actions.length : Int)) := (by omega); have hwj := wrapS (i := j) (by omega)
   have hb : x.name.size = x.name.data.toList.length := rfl
   have hxm := List.mem_of_getElem? hxj
   have c1 := ht.pre x hxm; have c2 := ht.effects x hxm; have c3 := ht.whens x hxm; have c4 := ht.name x hxm
   rw [drop_cons hxj, actSum_cons, actSize] at hva
   rw [drop_cons hxj, List.all_cons] at hvn
   have w4 : IntKind.i64.wrap ((x.pre.length : Int) + x.effects.length) = ((x.pre.length + x.effects.length : Nat) : Int) := by rw [wrap_ok (by omega)]; omega
   have w5 : IntKind.i64.wrap ((a : Int) + ((x.pre.length + x.effects.length : Nat) : Int)) = ((a + (x.pre.length + x.effects.length) : Nat) : Int) := by rw [wrap_ok (by omega)]; omega
   by_cases h3 : ((a + (x.pre.length + x.effects.length) : Nat) : Int) > n
   ·simp only [go_sem, simprocAttr, hltj, hxj, encA, w4, w5, h3, hR]
    exact rt (.bool false) ⟨by rw [fewT_big (by omega)], rfl⟩
   by_cases h4 : ((x.name.data.toList.length : Nat) : Int) > n
   ·simp only [go_sem, simprocAttr, hltj, hxj, encA, w4, w5, h3, hb, h4, hR]
    rw [decide_eq_false (by omega), Bool.false_and] at hvn
    exact rt (.bool false) ⟨by rw [hfv, hvn, Bool.and_false], rfl⟩
   rw [decide_eq_true (by omega), Bool.true_and] at hvn
   simp only [go_sem, simprocAttr, hltj, hxj, encA, w4, w5, h3, hb, h4]
   refine wpc_while (fun (q : Nat × Nat) => [(1, .int .i64 n), (5, .int .i64 q.2), (43, .slice .unk (t.actions.map encA)), (44, .int .i64 t.actions.length), (45, .int .i64 j), (69, .slice .unk (x.effects.map encE)), (70, .int .i64 x.effects.length), (71, .int .i64 q.1)]) (fun _ => σ)
    (fun q => q.1 ≤ x.effects.length ∧ q.2 ≤ n + q.1 * T ∧ taskSize t = q.2 + whenSize (x.effects.drop q.1) + ((t.actions.drop (j + 1)).map actSize).sum) (fun q => x.effects.length - q.1) (0, a + (x.pre.length + x.effects.length)) ⟨Nat.zero_le _, by simp only []; omega, by rw [List.drop_zero]; omega⟩ (by (try dsimp only); exact ghA) ?_
   rintro ⟨k, b⟩ ⟨hk', hbb, hvb⟩ K' hK' hE' hR'
   dsimp only at hk' hbb hvb ⊢
   have hfn : x.effects.length ≤ n := by omega
   have hjm := mulTop (T := T) (Nat.le_trans hk' hfn)
   by_cases hk : k < x.effects.length
   ·obtain ⟨e, hxk⟩ := get_ex hk; have hltk : ((k : Int) < (x.effects.length : Int)) := (by omega); have hwk := wrapS (i := k) (by omega)
    have c5 := c3 e (List.mem_of_getElem? hxk)
    rw [drop_cons hxk, whenSize_cons] at hvb
    have w6 : IntKind.i64.wrap ((b : Int) + e.when_.length) = ((b + e.when_.length : Nat) : Int) := by rw [wrap_ok (by omega)]; omega
    simp only [go_sem, simprocAttr, hltk, hxk, encE, w6]
    refine hK' _ _ (k + 1, b + e.when_.length) ⟨by simp only []; omega, by simp only [Nat.add_mul]; omega, by simp only []; omega⟩ (by simp only []; omega) ?_
    exact (by (try dsimp only); (try simp only [hwk]); exact ghA)
   ·have hltk : ¬ ((k : Int) < (x.effects.length : Int)) := by omega
    rw [drop_len hk] at hvb
    simp only [go_sem, simprocAttr, hltk, hE']
    refine hK _ _ ((j + 1, b)) (⟨by simp only []; omega, by simp only []; omega, by simpa [whenSize] using hvb, hvn⟩) om ?_; (try dsimp only); (try simp only [ hwj]); exact ghA
  ·have hltj : ¬ ((j : Int) < (t.actions.length : Int)) := by omega
   rw [drop_len hj, List.map_nil, List.sum_nil] at hva
   rw [drop_len hj, List.all_nil] at hvn
   simp only [go_sem, simprocAttr, hltj, hE]
   exact rt (.bool (decide ((a : Int) ≤ n))) ⟨by rw [hfv, hvn, Bool.and_true]; congr 1; apply decide_eq_decide.2; omega, rfl⟩
end Go.Proofs.YtpabiedjneognaaGreatDoor
namespace Go.Proofs.YtpabiedjneognaaGreatDoor
open Go.Ahl
def c_cNaN : CCode := .seq (.ops [oS 2 (.move (.lit (.bool false)))]) (.seq (.ops [oS 3 (.move (.tmp 0)), oS 4 (.move (.tmp 0)), oS 5 (.bin .neq .none (.tmp 3) (.tmp 4)), oS 2 (.move (.tmp 5))]) .ret)
theorem cNaN_spec (x : Int) (σ : Store) : ACalls Tryz.prog 141 [.int .i64 x] σ (isR (.bool false) σ) := by
 refine ACalls.intro (rs := [(.tmp 2)]) (by kernel_rfl) { own := [], ghosts := [] } Tryz.func141 (c := Tryz.f141.body.getD .skip) (by kernel_rfl) (by decide) (by rw [show Tryz.f141.ntmps = 6 by kernel_rfl]; exact Nat.le_of_ble_eq_true rfl) (by kernel_rfl) ?_
 intro hσ hids
 rw [show comp Tryz.prog { own := [], ghosts := [] } (Tryz.f141.body.getD .skip) = c_cNaN by kernel_rfl, show Tryz.f141.ntmps = 6 by kernel_rfl]
 unfold c_cNaN
 have hx : (x != x) = false := by simp
 simp only [go_sem, simprocAttr, hx]
 exact rt (.bool false) ⟨rfl, rfl⟩
def c_sNaN : CCode := .seq (.ops [oS 2 (.move (.lit (.bool false)))]) (.seq (.ops [oS 3 (.move (.tmp 0)), oS 4 (.move (.tmp 0)), oS 5 (.bin .neq .none (.tmp 3) (.tmp 4)), oS 2 (.move (.tmp 5))]) .ret)
theorem sNaN_spec (x : Int) (σ : Store) : ACalls Tryz.prog 127 [.int .i64 x] σ (isR (.bool false) σ) := by
 refine ACalls.intro (rs := [(.tmp 2)]) (by kernel_rfl) { own := [], ghosts := [] } Tryz.func127 (c := Tryz.f127.body.getD .skip) (by kernel_rfl) (by decide) (by rw [show Tryz.f127.ntmps = 6 by kernel_rfl]; exact Nat.le_of_ble_eq_true rfl) (by kernel_rfl) ?_
 intro hσ hids
 rw [show comp Tryz.prog { own := [], ghosts := [] } (Tryz.f127.body.getD .skip) = c_sNaN by kernel_rfl, show Tryz.f127.ntmps = 6 by kernel_rfl]
 unfold c_sNaN
 have hx : (x != x) = false := by simp
 simp only [go_sem, simprocAttr, hx]
 exact rt (.bool false) ⟨rfl, rfl⟩
def c_cLess : CCode := .seq (.ops [oS 4 (.move (.lit (.bool false)))]) (.seq (.ops [oS 5 (.move (.tmp 0)), oS 6 (.call (.lit (.func 141 [])) [.tmp 5]), oS 7 (.move (.tmp 6)), oG 8 7 true (.move (.tmp 1)), oG 9 7 true (.call (.lit (.func 141 [])) [.tmp 8]), oG 10 7 true (.un .not (.tmp 9)), oS 11 (.pick (.tmp 7) (.tmp 10) (.lit (.bool false))), oS 12 (.move (.tmp 11)), oG 13 12 false (.move (.tmp 0)), oG 14 12 false (.move (.tmp 1)), oG 15 12 false (.bin .lss .none (.tmp 13) (.tmp 14)), oS 16 (.pick (.tmp 12) (.lit (.bool true)) (.tmp 15)), oS 4 (.move (.tmp 16))]) .ret)
theorem cLess_spec (x y : Int) (σ : Store) : ACalls Tryz.prog 126 [.int .i64 x, .int .i64 y] σ (isR (.bool (decide (x < y))) σ) := by
 refine ACalls.intro (rs := [(.tmp 4)]) (by kernel_rfl) { own := [], ghosts := [] } Tryz.func126 (c := Tryz.f126.body.getD .skip) (by kernel_rfl) (by decide) (by rw [show Tryz.f126.ntmps = 17 by kernel_rfl]; exact Nat.le_of_ble_eq_true rfl) (by kernel_rfl) ?_
 intro hσ hids
 rw [show comp Tryz.prog { own := [], ghosts := [] } (Tryz.f126.body.getD .skip) = c_cLess by kernel_rfl, show Tryz.f126.ntmps = 17 by kernel_rfl]
 unfold c_cLess
 simp only [go_sem, simprocAttr]
 refine (cNaN_spec x σ).is ?_
 simp only [go_sem, simprocAttr]
 first | exact rtw (v := .bool _) wkS ⟨rfl, rfl⟩ | exact rtw0 (v := .bool _) wkS ⟨rfl, rfl⟩
theorem wrap_u64 {x : Int} (h : 0 ≤ x) (h2 : x < 18446744073709551616) : IntKind.u64.wrap x = x := by
 unfold IntKind.wrap
 simp only [IntKind.bits, IntKind.signed, Bool.false_and, Bool.false_eq_true, if_false]
 exact Int.emod_eq_of_lt h h2
def BsInv (l : List Int) (x : Int) (p : Nat × Nat) : Prop :=
 p.1 ≤ p.2 ∧ p.2 ≤ l.length ∧ (∀ k, k < p.1 → ∀ y, l[k]? = some y → y < x) ∧ (∀ k, p.2 ≤ k → ∀ y, l[k]? = some y → x ≤ y)
theorem pw_get {l : List Int} (h : l.Pairwise (· < ·)) {i j : Nat} {a b : Int} (hi : l[i]? = some a) (hj : l[j]? = some b) (hij : i < j) : a < b := by
 obtain ⟨h1, rfl⟩ := List.getElem?_eq_some_iff.1 hi
 obtain ⟨h2, rfl⟩ := List.getElem?_eq_some_iff.1 hj
 exact List.pairwise_iff_getElem.1 h i j h1 h2 hij
theorem bs_lo {l : List Int} {x y : Int} {a b m : Nat} (hs : l.Pairwise (· < ·)) (h : BsInv l x (a, b)) (hm : l[m]? = some y) (hma : a ≤ m) (hmb : m < b) (hy : y < x) : BsInv l x (m + 1, b) := by
 obtain ⟨h1, h2, h3, h4⟩ := h
 refine ⟨by simp only; omega, h2, fun k hk z hz => ?_, h4⟩
 by_cases hkm : k = m
 ·subst hkm; rw [hm] at hz; injection hz with hz; omega
 ·have := pw_get hs hz hm (by simp only at hk; omega); omega
theorem bs_hi {l : List Int} {x y : Int} {a b m : Nat} (hs : l.Pairwise (· < ·)) (h : BsInv l x (a, b)) (hm : l[m]? = some y) (hma : a ≤ m) (hmb : m < b) (hy : ¬ y < x) : BsInv l x (a, m) := by
 obtain ⟨h1, h2, h3, h4⟩ := h
 refine ⟨hma, by have := lt_of_get hm; simp only; omega, h3, fun k hk z hz => ?_⟩
 by_cases hkm : k = m
 ·subst hkm; rw [hm] at hz; injection hz with hz; omega
 ·have := pw_get hs hm hz (by simp only at hk; omega); omega
theorem bs_end {l : List Int} {x y : Int} {a : Nat} (hs : l.Pairwise (· < ·)) (h : BsInv l x (a, a)) (hy : l[a]? = some y) : l.contains x = decide (y = x) := by
 obtain ⟨h1, h2, h3, h4⟩ := h
 by_cases hyx : y = x
 ·subst hyx; rw [decide_eq_true rfl]; exact List.contains_iff_mem.2 (List.mem_of_getElem? hy)
 ·rw [decide_eq_false hyx]
  cases hc : l.contains x with
  | false => rfl
  | true =>
   obtain ⟨k, hk⟩ := List.mem_iff_getElem?.1 (List.contains_iff_mem.1 hc)
   have hxy := h4 a (Nat.le_refl _) y hy
   rcases Nat.lt_trichotomy k a with hka | hka | hka
   ·have := h3 k hka x hk; omega
   ·subst hka; rw [hy] at hk; injection hk with hk; omega
   ·have := pw_get hs hy hk hka; omega
theorem bs_out {l : List Int} {x : Int} (h : BsInv l x (l.length, l.length)) : l.contains x = false := by
 obtain ⟨h1, h2, h3, h4⟩ := h
 cases hc : l.contains x with
 | false => rfl
 | true =>
  obtain ⟨k, hk⟩ := List.mem_iff_getElem?.1 (List.contains_iff_mem.1 hc)
  have := h3 k (lt_of_get hk) x hk; omega
theorem rising_pw {n : Int} : ∀ {s : List Int} {p : Int}, risingB n p s = true → s.Pairwise (· < ·) ∧ ∀ x ∈ s, p < x ∧ x < n
 | [], _, _ => ⟨.nil, by simp⟩
 | x :: s, p, h => by
  simp only [risingB, Bool.and_eq_true, decide_eq_true_eq] at h
  obtain ⟨h1, h2⟩ := rising_pw (s := s) (p := x) (by simpa using h.2)
  refine ⟨List.pairwise_cons.2 ⟨fun y hy => (h2 y hy).1, h1⟩, ?_⟩
  intro y hy
  rcases List.mem_cons.1 hy with rfl | hy
  ·omega
  ·have := h2 y hy; omega
def c_bsearch : CCode := .seq (.ops [oS 4 (.move (.lit (.int .i64 0))), oS 5 (.move (.lit (.bool false)))]) (.seq (.ops [oS 10 (.move (.tmp 0)), oS 11 (.blen 1 (.tmp 10)), oS 6 (.move (.tmp 11))]) (.seq (.ops [oS 12 (.move (.tmp 6)), oS 7 (.move (.lit (.int .i64 0))), oS 8 (.move (.tmp 12))]) (.seq (.block 0 (.loop (.seq (.seq (.ops [oS 13 (.move (.tmp 7)), oS 14 (.move (.tmp 8)), oS 15 (.bin .lss .none (.tmp 13) (.tmp 14))]) (.cond (.tmp 15) .skip (.exit 0))) (.block 1 (.seq (.ops [oS 16 (.move (.tmp 7)), oS 17 (.move (.tmp 8)), oS 18 (.bin .add .none (.tmp 16) (.tmp 17)), oS 19 (.conv .u64 (.tmp 18)), oS 20 (.bin .shr .none (.tmp 19) (.lit (.int .u64 1))), oS 21 (.conv .i64 (.tmp 20)), oS 9 (.move (.tmp 21))]) (.seq (.ops [oS 22 (.move (.tmp 0)), oS 23 (.move (.tmp 9)), oS 24 (.iaddr 1 (.tmp 22) (.tmp 23)), oS 25 (.load none (.tmp 24)), oS 26 (.move (.tmp 1)), oS 27 (.call (.lit (.func 126 [])) [.tmp 25, .tmp 26])]) (.cond (.tmp 27) (.ops [oS 28 (.move (.tmp 9)), oS 29 (.bin .add .none (.tmp 28) (.lit (.int .i64 1))), oS 7 (.move (.tmp 29))]) (.ops [oS 30 (.move (.tmp 9)), oS 8 (.move (.tmp 30))])))))))) (.seq (.ops [oS 31 (.move (.tmp 7)), oS 32 (.move (.tmp 7)), oS 33 (.move (.tmp 6)), oS 34 (.bin .lss .none (.tmp 32) (.tmp 33)), oS 35 (.move (.tmp 34)), oG 36 35 true (.move (.tmp 0)), oG 37 35 true (.move (.tmp 7)), oG 38 35 true (.iaddr 1 (.tmp 36) (.tmp 37)), oG 39 35 true (.load none (.tmp 38)), oG 40 35 true (.move (.tmp 1)), oG 41 35 true (.bin .eql .none (.tmp 39) (.tmp 40)), oG 42 35 true (.move (.tmp 41)), oG 43 42 false (.move (.tmp 0)), oG 44 42 false (.move (.tmp 7)), oG 45 42 false (.iaddr 1 (.tmp 43) (.tmp 44)), oG 46 42 false (.load none (.tmp 45)), oG 47 42 false (.call (.lit (.func 127 [])) [.tmp 46]), oG 48 42 false (.move (.tmp 47)), oG 49 48 true (.move (.tmp 1)), oG 50 48 true (.call (.lit (.func 127 [])) [.tmp 49]), oG 51 42 false (.pick (.tmp 48) (.tmp 50) (.lit (.bool false))), oG 52 35 true (.pick (.tmp 42) (.lit (.bool true)) (.tmp 51)), oS 53 (.pick (.tmp 35) (.tmp 52) (.lit (.bool false))), oS 4 (.move (.tmp 31)), oS 5 (.move (.tmp 53))]) .ret))))
set_option maxHeartbeats 1000000 in
theorem bsearch_spec (l : List Int) (x : Int) (tok : Tok) (σ : Store) (hl : l.length ≤ 140737488355328) (hs : l.Pairwise (· < ·)) :
  ACalls Tryz.prog 104 [.slice tok (l.map Ahl.encI), .int .i64 x] σ (isR (.tuple [.any, .bool (l.contains x)]) σ) := by
 refine ACalls.intro (rs := [(.tmp 4), (.tmp 5)]) (by kernel_rfl) { own := [], ghosts := [] } Tryz.func104 (c := Tryz.f104.body.getD .skip) (by kernel_rfl) (by decide) (by rw [show Tryz.f104.ntmps = 54 by kernel_rfl]; exact Nat.le_of_ble_eq_true rfl) (by kernel_rfl) ?_
 intro hσ hids
 rw [show comp Tryz.prog { own := [], ghosts := [] } (Tryz.f104.body.getD .skip) = c_bsearch by kernel_rfl, show Tryz.f104.ntmps = 54 by kernel_rfl]
 unfold c_bsearch
 have hil : Ids σ.length (.slice tok (l.map Ahl.encI)) := hids _ (by simp)
 simp only [go_sem, simprocAttr]
 refine wpc_while (fun p => [(0, .slice tok (l.map Ahl.encI)), (1, .int .i64 x), (6, .int .i64 l.length), (7, .int .i64 (p.1 : Nat)), (8, .int .i64 (p.2 : Nat))]) (fun _ => σ) (BsInv l x) (fun p => p.2 - p.1) (0, l.length) ⟨Nat.zero_le _, Nat.le_refl _, fun k hk => absurd hk (Nat.not_lt_zero _), fun k hk y hy => by have := lt_of_get hy; simp only at hk; omega⟩ (by (try dsimp only); exact ghA) ?_
 rintro ⟨a, b⟩ hv K hK hE hR
 have hab := hv.1
 have hbl := hv.2.1
 simp only at hab hbl
 by_cases h : a < b
 ·obtain ⟨y, hx⟩ := get_ex (show (a + b) / 2 < l.length by omega)
  have hlt : ((a : Int) < (b : Int)) := by omega
  have hm : IntKind.i64.wrap ((IntKind.u64.wrap (IntKind.i64.wrap ((a : Int) + b))).fdiv (2 ^ min 1 64)) = (((a + b) / 2 : Nat) : Int) := by
   have h1 : IntKind.i64.wrap ((a : Int) + b) = ((a + b : Nat) : Int) := by rw [wrap_ok (by omega)]; omega
   rw [h1, wrap_u64 (by omega) (by omega), show (2 : Int) ^ min 1 64 = 2 from rfl, show ((a + b : Nat) : Int).fdiv 2 = (((a + b) / 2 : Nat) : Int) by rw [Int.fdiv_eq_ediv_of_nonneg _ (by omega)]; omega, wrap_ok (by omega)]
  have hw : IntKind.i64.wrap ((((a + b) / 2 : Nat) : Int) + 1) = (((a + b) / 2 + 1 : Nat) : Int) := by rw [wrap_ok (by omega)]; omega
  simp only [go_sem, simprocAttr, hlt, hm, hx, Ahl.encI]
  refine (cLess_spec y x σ).is ?_
  by_cases hy : y < x
  ·simp only [go_sem, simprocAttr, hy]
   refine hK _ _ (((a + b) / 2 + 1, b)) (bs_lo hs hv hx (by omega) (by omega) hy) om ?_; (try dsimp only); (try simp only [ hw]); exact ghA
  ·simp only [go_sem, simprocAttr, hy]
   refine hK _ _ ((a, (a + b) / 2)) (bs_hi hs hv hx (by omega) (by omega) hy) om ?_; (try dsimp only); (try simp only [ hw]); exact ghA
 ·have hlt : ¬ ((a : Int) < (b : Int)) := by omega
  obtain rfl : a = b := by omega
  by_cases hb : a < l.length
  ·obtain ⟨y, hx⟩ := get_ex hb
   have hb' : ((a : Int) < (l.length : Int)) := by omega
   have hc := bs_end hs hv hx
   by_cases hy : y = x
   ·have hy' : (y == x) = true := by simpa using hy
    simp only [go_sem, simprocAttr, hlt, hE, hb', hx, Ahl.encI, hy']
    exact rT (.any) (.bool true) ⟨by rw [hc, decide_eq_true hy], rfl⟩
   ·have hy' : (y == x) = false := by simpa using hy
    simp only [go_sem, simprocAttr, hlt, hE, hb', hx, Ahl.encI, hy']
    refine (sNaN_spec y σ).is ?_
    simp only [go_sem, simprocAttr]
    exact rT (.any) (.bool false) ⟨by rw [hc, decide_eq_false hy], rfl⟩
  ·obtain rfl : a = l.length := by omega
   simp only [go_sem, simprocAttr, hlt, hE]
   exact rT (.any) (.bool false) ⟨by rw [bs_out hv], rfl⟩
def c_shas : CCode := .seq (.ops [oS 4 (.move (.lit (.bool false)))]) (.seq (.ops [oS 8 (.move (.tmp 0)), oS 9 (.move (.tmp 1)), oS 10 (.call (.lit (.func 104 [])) [.tmp 8, .tmp 9]), oS 7 (.move (.tmp 10)), oS 11 (.extract (.tmp 7) 0), oS 12 (.extract (.tmp 7) 1), oS 5 (.move (.tmp 11)), oS 6 (.move (.tmp 12))]) (.seq (.ops [oS 13 (.move (.tmp 6)), oS 4 (.move (.tmp 13))]) .ret))
theorem shas_spec (l : List Int) (x : Int) (tok : Tok) (σ : Store) (hl : l.length ≤ 140737488355328) (hs : l.Pairwise (· < ·)) :
  ACalls Tryz.prog 85 [.slice tok (l.map Ahl.encI), .int .i64 x] σ (isR (.bool (l.contains x)) σ) := by
 refine ACalls.intro (rs := [(.tmp 4)]) (by kernel_rfl) { own := [], ghosts := [] } Tryz.func85 (c := Tryz.f85.body.getD .skip) (by kernel_rfl) (by decide) (by rw [show Tryz.f85.ntmps = 14 by kernel_rfl]; exact Nat.le_of_ble_eq_true rfl) (by kernel_rfl) ?_
 intro hσ hids
 rw [show comp Tryz.prog { own := [], ghosts := [] } (Tryz.f85.body.getD .skip) = c_shas by kernel_rfl, show Tryz.f85.ntmps = 14 by kernel_rfl]
 unfold c_shas
 simp only [go_sem, simprocAttr]
 refine (bsearch_spec l x tok σ hl hs).is ?_
 simp only [go_sem, simprocAttr]
 first | exact rtw (v := .bool _) wkS ⟨rfl, rfl⟩ | exact rtw0 (v := .bool _) wkS ⟨rfl, rfl⟩
def e_sTrue1_0 : List COp := [oS 4 (.load none (.tmp 1)), oS 5 (.faddr 0 (.tmp 2)), oA 6 (.load none (.tmp 5)) [1], oA 7 (.call (.lit (.func 85 [])) [.tmp 4, .tmp 6]) [0, 2], oS 8 (.faddr 1 (.tmp 2)), oA 9 (.load none (.tmp 8)) [4], oA 10 (.bin .eql .bool (.tmp 7) (.tmp 9)) [3, 5], oA 3 (.move (.tmp 10)) [6, 3, 0, 1, 2, 3, 4, 5, 6]]
def d_sTrue1_0 : List COp := e_sTrue1_0
theorem dr_sTrue1_0 (P : Program) (nt n0 : Nat) (Q : Post) (s : Slots) (σ : Store) : wpc P nt n0 (.draw d_sTrue1_0) Q s σ = aOpsD P nt e_sTrue1_0 (Q .normal) s σ := wpc_draw _ (by decide)
attribute [local go_sem] dr_sTrue1_0 e_sTrue1_0
def c_sTrue1 : CCode := .seq (.ops [oS 2 (.box (.tmp 0)), oS 3 (.move (.lit (.bool false)))]) (.seq (.draw d_sTrue1_0) .ret)
theorem sTrue1_spec (s : List Int) (x : FLit) (tok : Tok) (V : Nat) (σ : Store) (hl : s.length ≤ 140737488355328) (hs : s.Pairwise (· < ·)) (hV : σ[V]? = some (.row [.slice tok (s.map Ahl.encI)])) :
  ACalls Tryz.prog 84 [.agg (encLit x), .ptr V 0] σ (isR (.bool (s.contains x.fact == x.neg)) σ) := by
 refine ACalls.intro (rs := [(.tmp 3)]) (by kernel_rfl) { own := [], ghosts := [] } Tryz.func84 (c := Tryz.f84.body.getD .skip) (by kernel_rfl) (by decide) (by rw [show Tryz.f84.ntmps = 11 by kernel_rfl]; exact Nat.le_of_ble_eq_true rfl) (by kernel_rfl) ?_
 intro hσ hids
 rw [show comp Tryz.prog { own := [], ghosts := [] } (Tryz.f84.body.getD .skip) = c_sTrue1 by kernel_rfl, show Tryz.f84.ntmps = 11 by kernel_rfl]
 unfold c_sTrue1
 have hV' : ∀ l, (σ ++ l)[V]? = some (.row [.slice tok (s.map Ahl.encI)]) := fun l => by rw [List.getElem?_append_left (lt_of_get hV)]; exact hV
 simp only [go_sem, simprocAttr, encLit, hV']
 refine ⟨_, shas_spec s x.fact tok _ hl hs, ?_⟩
 simp only [go_sem, simprocAttr, encLit]
 first | exact rtw (v := .bool _) wkS ⟨rfl, rfl⟩ | exact rtw0 (v := .bool _) wkS ⟨rfl, rfl⟩
theorem condHolds_any (s : List Int) (l : List FLit) : (!(l.any fun x => s.contains x.fact == x.neg)) = condHolds s l := by
 unfold condHolds
 induction l with
 | nil => rfl
 | cons x l ih => rw [List.any_cons, List.all_cons, ← ih, Bool.not_or]; rfl
def c_sTrue : CCode := .seq (.ops [oS 2 (.box (.tmp 0)), oS 4 (.move (.lit (.bool false)))]) (.seq (.ops [oS 5 (.move (.tmp 1)), oS 6 (.mkfunc 84 [.tmp 2]), oS 7 (.call (.lit (.func 83 [])) [.tmp 5, .tmp 6]), oS 8 (.un .not (.tmp 7)), oS 4 (.move (.tmp 8))]) .ret)
theorem sTrue_spec (s : List Int) (l : List FLit) (tok tok' : Tok) (σ : Store) (hl : s.length ≤ 140737488355328) (hs : s.Pairwise (· < ·)) (hll : l.length ≤ 140737488355328) :
  ACalls Tryz.prog 54 [.slice tok (s.map Ahl.encI), .slice tok' (l.map encLit)] σ (isR (.bool (condHolds s l)) σ) := by
 refine ACalls.intro (rs := [(.tmp 4)]) (by kernel_rfl) { own := [], ghosts := [] } Tryz.func54 (c := Tryz.f54.body.getD .skip) (by kernel_rfl) (by decide) (by rw [show Tryz.f54.ntmps = 9 by kernel_rfl]; exact Nat.le_of_ble_eq_true rfl) (by kernel_rfl) ?_
 intro hσ hids
 rw [show comp Tryz.prog { own := [], ghosts := [] } (Tryz.f54.body.getD .skip) = c_sTrue by kernel_rfl, show Tryz.f54.ntmps = 9 by kernel_rfl]
 unfold c_sTrue
 simp only [go_sem, simprocAttr]
 refine (containsFuncL_spec l _ _ (fun x => s.contains x.fact == x.neg) tok' _ hll (fun x _ => sTrue1_spec s x tok _ _ hl hs (by simp))).is ?_
 simp only [go_sem, simprocAttr]
 first | exact rtw (v := .bool _) wkS ⟨by rw [condHolds_any], rfl⟩ | exact rtw0 (v := .bool _) wkS ⟨by rw [condHolds_any], rfl⟩
def stE (t : FTask) (s : List Int) : Int := if validB t then (if risingB t.facts.length (-1) s then 0 else 20) else 10
def c_sFine : CCode := .seq (.ops [oS 2 (.box (.tmp 0)), oS 4 (.move (.lit (.int .i64 0)))]) (.seq (.seq (.ops [oS 5 (.load (some 4) (.tmp 2)), oS 6 (.call (.lit (.func 96 [])) [.tmp 5]), oS 7 (.un .not (.tmp 6))]) (.cond (.tmp 7) (.seq (.ops [oS 4 (.move (.lit (.int .i64 10)))]) .ret) .skip)) (.seq (.seq (.ops [oS 8 (.faddr 0 (.tmp 2)), oS 9 (.load none (.tmp 8)), oS 10 (.blen 1 (.tmp 9)), oS 11 (.move (.tmp 1)), oS 12 (.call (.lit (.func 97 [])) [.tmp 10, .tmp 11]), oS 13 (.un .not (.tmp 12))]) (.cond (.tmp 13) (.seq (.ops [oS 4 (.move (.lit (.int .i64 20)))]) .ret) .skip)) (.seq (.ops [oS 4 (.move (.lit (.int .i64 0)))]) .ret)))
theorem sFine_spec (t : FTask) (s : List Int) (tok : Tok) (σ : Store) (ht : TB t) (hl : s.length ≤ 140737488355328) :
  ACalls Tryz.prog 69 [.agg (encTask t), .slice tok (s.map Ahl.encI)] σ (isR (.int .i64 (stE t s)) σ) := by
 refine ACalls.intro (rs := [(.tmp 4)]) (by kernel_rfl) { own := [], ghosts := [] } Tryz.func69 (c := Tryz.f69.body.getD .skip) (by kernel_rfl) (by decide) (by rw [show Tryz.f69.ntmps = 14 by kernel_rfl]; exact Nat.le_of_ble_eq_true rfl) (by kernel_rfl) ?_
 intro hσ hids
 rw [show comp Tryz.prog { own := [], ghosts := [] } (Tryz.f69.body.getD .skip) = c_sFine by kernel_rfl, show Tryz.f69.ntmps = 14 by kernel_rfl]
 unfold c_sFine
 simp only [go_sem, simprocAttr, encTask]
 refine (valid_spec t _ ht).is ?_
 cases h1 : validB t
 ·simp only [go_sem, simprocAttr]
  exact rt (.int .i64 10) ⟨by rw [stE, h1]; rfl, rfl⟩
 simp only [go_sem, simprocAttr, encTask]
 refine (rising_spec s t.facts.length tok _ hl).is ?_
 cases h2 : risingB t.facts.length (-1) s
 ·simp only [go_sem, simprocAttr]
  exact rt (.int .i64 20) ⟨by rw [stE, h1, h2]; rfl, rfl⟩
 simp only [go_sem, simprocAttr]
 exact rt (.int .i64 0) ⟨by rw [stE, h1, h2]; rfl, rfl⟩
end Go.Proofs.YtpabiedjneognaaGreatDoor
namespace Go.Ahl
def ai (n : Int) : AV := .int .i64 n
section
variable {S : Store} {R L : Nat}
theorem ids_ai {n : Nat} (w : List Int) : IdsO n (.row (w.map ai)) := idsO_row (by intro x hx; obtain ⟨y, _, rfl⟩ := List.mem_map.1 hx; exact .int _ _)
end
section
variable {n0 nt : Nat} {s s' : Slots} {σ : Store}
end
section -- ghosts
variable {S : Store} {R L : Nat} {nt : Nat} {s s' : Slots} {g : Store} {w w1 : List Int} {n n1 : Int}
end
section
variable {nt t u x : Nat} {s : Slots} {σ S : Store} {R : Cont}
end
end Go.Ahl
namespace Go.Ahl
open Go.Sort Go.Shelf Go.RowKit Go.Lib Go.Proofs
def sortI (l : List Int) : List Int := l.mergeSort fun x y => decide (x ≤ y)
theorem sortI_len (l : List Int) : (sortI l).length = l.length := List.length_mergeSort l
theorem sortI_perm (l : List Int) : (sortI l).Perm l := List.mergeSort_perm l _
theorem sortI_sorted (l : List Int) : (sortI l).Pairwise (· ≤ ·) := by
 have := List.pairwise_mergeSort (le := fun x y : Int => decide (x ≤ y)) (fun a b c h k => by simp at h k ⊢; omega) (fun a b => by simp; omega) l
 exact this.imp (fun h => by simpa using h)
theorem sortI_eq {l k : List Int} (hp : k.Perm l) (hk : k.Pairwise (· ≤ ·)) : sortI l = k := by
 exact List.Perm.eq_of_pairwise (le := fun a b : Int => a ≤ b) (fun a b _ _ h1 h2 => by omega) (sortI_sorted l) hk ((sortI_perm l).trans hp.symm)
theorem rel_int_eq {m : Mem} {loc : List Loc} {n : Int} {v : Value} (h : Rel m loc (ai n) v) : v = .int .i64 n := by
 unfold ai at h; cases h; rfl
variable {P : Program} {ρ : Ren}
theorem sortInts (L : SlLaysN.n53 P ρ) {fn : Func} (hf : P.funcs[ρ.f 53]? = some fn) (hfb : fn.body.isSome = true) (hfn : fn.name ≠ "runtime.NumGoroutine")
  (id : Nat) (l : List Int) (σ : Store) (hσ : σ[id]? = some (.row (l.map ai))) (hlen : l.length < 4611686018427387904) :
  ACalls P (ρ.f 53) [.ref id 1 0 l.length] σ fun r σ' => r = .tuple [] ∧ σ' = σ.set id (.row ((sortI l).map ai)) := by
 intro m loc w vs hs ha
 refine .inl ⟨fn, hf, hfb, hfn, ?_⟩
 obtain ⟨v, rfl, h1⟩ : ∃ v, vs = #[v] ∧ Rel m loc (.ref id 1 0 l.length) v := by
  obtain ⟨h1, h2⟩ := ha
  have h1 : vs.size = 1 := h1
  refine ⟨vs[0], ?_, h2 0 _ _ rfl (Array.getElem?_eq_getElem _)⟩
  apply Array.ext (by simp [h1])
  intro i hi _
  have : i = 0 := by omega
  subst this; rfl
 have hid := lt_of_get hσ
 by_cases hl0 : l.length = 0
 ·have hlnil : l = [] := List.length_eq_zero_iff.1 hl0
  subst hlnil
  have key : ∀ a c, v = .slice a 0 c → Calls P (ρ.f 53) #[v] w fun e w' => ∃ v', e = .returned v' ∧ ARet loc m w (fun r σ' => r = .tuple [] ∧ σ' = σ.set id (.row ((sortI []).map ai))) v' w' := by
   rintro a c rfl
   refine (AnyG.slices_Sort_int_none L a c w).mono ?_
   rintro e w' ⟨rfl, rfl⟩
   refine ⟨_, rfl, .tuple [], σ, m, loc, ⟨rfl, ?_⟩, .tuple [] #[] rfl (by simp), hs, .refl _ _ _ _⟩
   rw [← set_same hσ]; simp [sortI]
  rcases rel_ref h1 with ⟨cap, b, n, q0, _⟩ | ⟨_, a, q0⟩
  ·exact key _ _ q0
  ·exact key _ _ q0
 ·rcases rel_ref h1 with ⟨cap, blk, n, q0, q1, q2, q3, q4⟩ | ⟨q0, _⟩
  rotate_left
  ·exact absurd q0 hl0
  ·subst q0
   obtain ⟨arr, t, e1, e2, e3, e4, e5⟩ := hs.obj id _ _ q1 hσ
   have e3 : l.length ≤ arr.size := by simpa using e3
   have hH : Holds (Value.int .i64) w blk 0 l.toArray := by
    intro j hj
    have hj : j < l.length := by simpa using hj
    have hr := e4 j (ai l[j]) (arr[j]'(by omega)) (by rw [List.getElem?_map, List.getElem?_eq_getElem hj]; rfl) (Array.getElem?_eq_getElem _)
    have hv : arr[j]'(by omega) = .int .i64 l[j] := by
     exact rel_int_eq hr
    rw [getElem!_pos l.toArray j (by simpa using hj), Nat.zero_add]
    refine ⟨?_, by simp [World.frozen?, e1]⟩
    simp only [World.cell?, e1, Option.isSome_none, Bool.false_eq_true, if_false]
    rw [Array.getElem?_eq_getElem (by omega), hv]; simp
   have hblk : blk < w.heap.size := hs.lt blk ⟨id, .inl q1⟩
   refine (AnyG.slices_Sort_int L blk 0 cap l w hH hblk hlen).mono ?_
   rintro e w' ⟨rfl, n', os, rfl⟩
   have hset : loc.set id (.blk blk) = loc := set_same q1
   have hs1 : (sortI l).toArray.size = l.length := by simp [sortI_len]
   have key := hs.turn loc.length (m' := m) (w' := sortWorld (Value.int .i64) w blk 0 n' (sortI l).toArray os) (l' := .blk blk) (.row ((sortI l).map ai)) q1 hσ (.refl m) (.refl _)
    (fun k hk hne => sortWorld_other (Value.int .i64) w blk 0 n' _ os hk (fun q => hne (by subst q; rfl))) (by rw [size_sortWorld]; omega) (fun _ _ _ _ => rfl) ?_ ?_ ?_ (fun b q => .inl q) ?_ rfl rfl rfl (by simp [sortWorld, grow, putRow, mapBlock, Sort.ahead])
   ·rw [hset] at key
    exact ⟨_, rfl, .tuple [], _, m, loc, ⟨rfl, rfl⟩, .tuple [] #[] rfl (by simp), key.1, key.2⟩
   ·intro k o v hk e'
    rcases hk with hk | hk
    ·simp [own] at hk; subst hk; rw [e5] at e'; simp at e'
    ·have := hs.im_lt e'; omega
   ·intro k z hz
    by_cases hk : k = blk
    ·subst hk
     refine .inr ⟨_, t, _, sortWorld_own (Value.int .i64) w k 0 n' _ os e1, ?_⟩
     rw [size_putCells]
     rw [e2] at hz; injection hz
    ·exact .inl ⟨hz, by simp [own]; exact fun q => hk q.symm⟩
   ·rintro b ⟨_, _, _, e, _⟩; simp at e
   ·refine ⟨_, t, sortWorld_own (Value.int .i64) w blk 0 n' _ os e1, by rw [size_putCells]; exact e2, by rw [size_putCells, List.length_map, sortI_len]; exact e3, ?_, e5⟩
    rw [hset]
    intro j x v hj hv'
    have hjl : j < (sortI l).length := by have := lt_of_get hj; simpa using this
    have hx : x = ai ((sortI l)[j]) := by
     rw [List.getElem?_map, List.getElem?_eq_getElem hjl] at hj; simpa using hj.symm
    have hvv : v = .int .i64 ((sortI l)[j]) := by
     simp only [putCells, Array.getElem?_mapIdx, Array.getElem?_eq_getElem (by rw [sortI_len] at hjl; omega : j < arr.size), Option.map_some, Option.some.injEq] at hv'
     rw [if_pos (by rw [hs1, ← sortI_len]; omega), Nat.sub_zero, getElem!_pos (sortI l).toArray j (by simpa using hjl)] at hv'
     rw [← hv']; simp
    subst hx; subst hvv
    exact .int _ _
def encSI (l : List Int) : List (AV × AV) := l.map fun s => (.int .i64 s, .bool true)
theorem findI_out (s : Int) : ∀ (l : List Int) (k : Nat), l.contains s = false → aFind (.int .i64 s) (encSI l) k = some none
 | [], k, _ => rfl
 | t :: l, k, h => by
  simp only [List.contains_cons, Bool.or_eq_false_iff] at h
  have e : keyEq (.int .i64 s) (.int .i64 t) = some false := by simp only [keyEq, h.1, if_true]
  simp only [encSI, List.map_cons, aFind, e]
  exact findI_out s l (k + 1) h.2
theorem findI_in (s : Int) : ∀ (l : List Int) (k : Nat), l.contains s = true → ∃ i, aFind (.int .i64 s) (encSI l) k = some (some (k + i, .bool true)) ∧ l[i]? = some s
 | [], k, h => by simp at h
 | t :: l, k, h => by
  by_cases h1 : s = t
  ·subst h1
   have e : keyEq (.int .i64 s) (.int .i64 s) = some true := by simp only [keyEq, beq_self_eq_true, if_true]
   exact ⟨0, by simp only [encSI, List.map_cons, aFind, e]; rfl, rfl⟩
  ·have h1' : (s == t) = false := by simpa using h1
   have e : keyEq (.int .i64 s) (.int .i64 t) = some false := by simp only [keyEq, h1', if_true]
   obtain ⟨i, hi, hx⟩ := findI_in s l (k + 1) (by rw [List.contains_cons, h1', Bool.false_or] at h; exact h)
   exact ⟨i + 1, by simp only [encSI, List.map_cons, aFind, e]; rw [show k + (i + 1) = k + 1 + i by omega]; exact hi, by simpa using hx⟩
theorem encSI_app (l : List Int) (s : Int) : encSI l ++ [(.int .i64 s, .bool true)] = encSI (l ++ [s]) := by simp [encSI]
theorem encSI_set {l : List Int} {s : Int} {i : Nat} (h : l[i]? = some s) : (encSI l).set i (.int .i64 s, .bool true) = encSI l := set_same (by simp [encSI, h])
theorem encSI_get {l : List Int} {i : Nat} {s : Int} (h : l[i]? = some s) : (encSI l)[i]? = some (.int .i64 s, .bool true) := by simp [encSI, h]
theorem ids_encSI {n : Nat} (l : List Int) : IdsO n (.map (encSI l)) := by
 intro j k x e
 simp only [encSI, List.getElem?_map, Option.map_eq_some_iff] at e
 obtain ⟨t, _, e⟩ := e
 injection e with e1 e2; subst e1; subst e2
 exact ⟨.int _ _, .bool _⟩
def insI (l : List Int) (s : Int) : List Int := if l.contains s then l else l ++ [s]
theorem insI_mem {l : List Int} {s x : Int} : x ∈ insI l s ↔ x ∈ l ∨ x = s := by
 unfold insI; split
 ·rename_i h; have := List.contains_iff_mem.1 h
  constructor
  ·exact .inl
  ·rintro (h | rfl)
   ·exact h
   ·exact this
 ·simp
theorem insI_nodup {l : List Int} {s : Int} (h : l.Nodup) : (insI l s).Nodup := by
 unfold insI; split
 ·exact h
 ·rename_i hc
  rw [List.nodup_append]
  refine ⟨h, by simp, fun a ha b hb => ?_⟩
  simp only [List.mem_singleton] at hb; subst hb
  rintro rfl; exact hc (List.contains_iff_mem.2 ha)
end Go.Ahl
namespace Go.Ahl
theorem Ghost.reown {n0 nt : Nat} {s : Slots} {σ : Store} (t : Nat) {id sz off len : Nat} {cells : List AV} (ht : lk s t = .ref id sz off len) (hs : σ[id]? = some (.row cells)) :
  Ghost n0 nt s σ ((t, .ref σ.length sz off len) :: s) (σ.set id .dead ++ [.row cells]) := by
 intro m loc w tm hl hS hr
 have hid : id < loc.length := by rw [hS.len]; exact lt_of_get hs
 have hrel := hr.rel t
 rw [ht] at hrel
 have hloc : loc[id]? = some loc[id] := List.getElem?_eq_getElem hid
 have hobj := hS.obj id _ _ hloc hs
 have hlen : (σ.set id .dead).length = loc.length := by simp [hS.len]
 have fin : ∀ l, SRel m (loc ++ [l]) (σ.set id .dead ++ [.row cells]) w → Ext n0 m loc w m (loc ++ [l]) w → Rel m (loc ++ [l]) (.ref σ.length sz off len) (tm.getD t undef) →
   ∃ m' loc', SRel m' loc' (σ.set id .dead ++ [.row cells]) w ∧ SlotRel m' loc' nt ((t, .ref σ.length sz off len) :: s) tm ∧ Ext n0 m loc w m' loc' w := by
  intro l g1 g2 g3
  refine ⟨m, _, g1, ⟨hr.size, fun i => ?_⟩, g2⟩
  simp only [Ahl.lk]
  by_cases e : t = i
  ·subst e; simp only [beq_self_eq_true, cond_true]; exact g3
  ·have : (t == i) = false := by simpa using e
   rw [this, cond_false]; exact (hr.rel i).mono (.refl m) (.app _ _ _)
 generalize hv : tm.getD t undef = v at hrel fin
 generalize loc[id] = l at hloc hobj
 cases l with
 | blk b =>
  obtain ⟨g1, g2⟩ := hS.reown n0 hloc hs
  refine fin _ g1 g2 ?_
  cases hrel with
  | ref _ _ _ _ cap b' n h1 h2 h3 h4 =>
   rw [hloc] at h1; injection h1 with h1; injection h1 with h1; subst h1
   exact .ref _ _ _ _ cap b n (by rw [← hS.len]; simp) h2 h3 h4
  | ref0 _ _ _ a _ => exact .ref0 _ _ _ a (by rw [← hS.len]; simp)
 | nowhere =>
  have hc : cells = [] := hobj
  subst hc
  obtain ⟨g1, g2⟩ := (hS.die id).row0 n0
  refine fin _ g1 g2 ?_
  cases hrel with
  | ref _ _ _ _ cap b' n h1 h2 h3 h4 => rw [hloc] at h1; simp at h1
  | ref0 _ _ _ a _ => exact .ref0 _ _ _ a (by rw [← hS.len]; simp)
 | tok _ _ => exact hobj.elim
theorem places_all {α : Type} : ∀ (l p : List α), (List.range' p.length l.length).filterMap (fun i => (p ++ l)[i]?) = l
 | [], p => rfl
 | x :: l, p => by
  have ih := places_all l (p ++ [x])
  rw [List.length_cons, List.range'_succ, List.filterMap_cons]
  rw [show (p ++ x :: l)[p.length]? = some x by rw [List.getElem?_append_right (Nat.le_refl _), Nat.sub_self]; rfl]
  simp only [List.append_assoc, List.singleton_append, List.length_append, List.length_singleton] at ih
  rw [ih]
theorem perm_places {α : Type} (l : List α) (seen : List Nat) (h1 : seen.Nodup) (h2 : ∀ i ∈ seen, i < l.length) (h3 : ∀ i, i < l.length → i ∈ seen) : (seen.filterMap fun i => l[i]?).Perm l := by
 have hp : seen.Perm (List.range l.length) := by
  rw [List.perm_ext_iff_of_nodup h1 List.nodup_range]
  intro i; rw [List.mem_range]; exact ⟨h2 i, h3 i⟩
 refine (hp.filterMap _).trans ?_
 have := places_all l []
 rw [List.range_eq_range']
 simp only [List.nil_append, List.length_nil] at this
 rw [this]
end Go.Ahl
namespace Go.Ahl
section
variable {n0 nt t : Nat} {s s' : Slots} {S σ g : Store} {R : Cont}
theorem ghP {l : Store} (h2 : IdsS (S ++ l).length (S ++ l)) (h1 : TellW s (S.length + l.length) s' := by simp only [TellW, lk, Nat.reduceBEq, cond_true, cond_false, and_true, List.length_cons, List.length_nil, Nat.reduceAdd]; and_intros <;> first | exact Wk.refl _ | exact Wk.unk _ _ | exact Wk.slice _ (WkLL.one (WkL.one (Wk.unk _ _))) | exact Wk.any _ | first | assumption | exact .int _ _ | exact .bool _ | exact .str _ | exact .any | exact .mapnil | exact .ptr _ _ (by omega) | exact .ref _ _ _ _ (by omega) | exact .vec _ _ _ (by omega) | exact .map _ (by omega) | exact ids_mapE _ | exact ids_growE (by omega) _ | exact ids_aggE _ | (refine ids_up ?_ (by assumption); omega) | exact ids_func0 _ | exact ids_nil _ (by simp) | (simp only [encLit, encI, encT, encC, encA, encE, encL, encTask, encB]; done)) (hn : n0 ≤ S.length := by first | exact Nat.le_refl _ | omega) : Ghost n0 nt s (S ++ (l ++ g)) s' (S ++ l) := .keepL l rfl hn h1 h2
theorem ghP0 {l : Store} (h2 : IdsS (S ++ l).length (S ++ l)) (h1 : TellW s (S.length + l.length) s' := by simp only [TellW, lk, Nat.reduceBEq, cond_true, cond_false, and_true, List.length_cons, List.length_nil, Nat.reduceAdd]; and_intros <;> first | exact Wk.refl _ | exact Wk.unk _ _ | exact Wk.slice _ (WkLL.one (WkL.one (Wk.unk _ _))) | exact Wk.any _ | first | assumption | exact .int _ _ | exact .bool _ | exact .str _ | exact .any | exact .mapnil | exact .ptr _ _ (by omega) | exact .ref _ _ _ _ (by omega) | exact .vec _ _ _ (by omega) | exact .map _ (by omega) | exact ids_mapE _ | exact ids_growE (by omega) _ | exact ids_aggE _ | (refine ids_up ?_ (by assumption); omega) | exact ids_func0 _ | exact ids_nil _ (by simp) | (simp only [encLit, encI, encT, encC, encA, encE, encL, encTask, encB]; done)) (hn : n0 ≤ S.length := by first | exact Nat.le_refl _ | omega) : Ghost n0 nt s (S ++ l) s' (S ++ l) := .keepL0 l rfl hn h1 h2
theorem ghPM (k : Nat) {o : AObj} (ho : g[k]? = some o := by rfl) (hi : IdsS S.length S := by assumption) (hio : IdsO S.length o := by trivial) (h1 : TellM s (S.length + k) S.length s' := by simp only [TellM, lk, Nat.reduceBEq, cond_true, cond_false, and_true, List.length_cons, List.length_nil, Nat.reduceAdd]; and_intros <;> first | exact mv_mapE _ | exact .ref _ _ _ | exact .ptr _ | exact .map | exact .keep (.refl _) (by first | assumption | exact .int _ _ | exact .bool _ | exact .str _ | exact .any | exact .mapnil | exact .ptr _ _ (by omega) | exact .ref _ _ _ _ (by omega) | exact .vec _ _ _ (by omega) | exact .map _ (by omega) | exact ids_mapE _ | exact ids_growE (by omega) _ | exact ids_aggE _ | (refine ids_up ?_ (by assumption); omega) | exact ids_func0 _ | exact ids_nil _ (by simp) | (simp only [encLit, encI, encT, encC, encA, encE, encL, encTask, encB]; done)) | exact .keep (Wk.unk _ _) (by first | assumption | exact .int _ _ | exact .bool _ | exact .str _ | exact .any | exact .mapnil | exact .ptr _ _ (by omega) | exact .ref _ _ _ _ (by omega) | exact .vec _ _ _ (by omega) | exact .map _ (by omega) | exact ids_mapE _ | exact ids_growE (by omega) _ | exact ids_aggE _ | (refine ids_up ?_ (by assumption); omega) | exact ids_func0 _ | exact ids_nil _ (by simp) | (simp only [encLit, encI, encT, encC, encA, encE, encL, encTask, encB]; done))) (hn : n0 ≤ S.length := by first | exact Nat.le_refl _ | omega) : Ghost n0 nt s (S ++ g) s' (S ++ [o]) :=
 .moved _ k _ hn ho hi hio h1
theorem retRowF {id len : Nat} {l : List Int} (ht : S.take σ.length = σ) (hs : lk s t = .ref id 1 0 len) (hid : S[id]? = some (.row (l.map ai))) (hlen : l.length = len) (hge : σ.length ≤ id) (h : R (.slice .fresh (l.map encI)) σ) (hσ : IdsS σ.length σ := by assumption) :
  bodyK [.tmp t] σ.length nt R .ret s S := by
 refine ret_gh (v := .slice .fresh (l.map encI)) (σ' := σ) ?_ (Nat.le_refl _) hσ ((ids_mapf ids_encI _)) h
 refine Ghost.trans (Ghost.freezeF t (l.map encI) hs hid (by simpa using hlen) ?_) ?_
 ·intro i e he
  rw [List.getElem?_map] at he
  obtain ⟨x, hx, rfl⟩ := Option.map_eq_some_iff.1 he
  refine ⟨rfl, fun j hj => ?_⟩
  obtain rfl : j = 0 := by omega
  rw [List.getElem?_map]
  simp [hx, encI, ai]
 ·have ht' : (S.set id .dead).take σ.length = σ := by rw [List.take_set_of_le hge, ht]
  have := Ghost.cut (n0 := σ.length) (nt := nt) (σ := S.set id .dead) (s := (t, .slice .fresh (l.map encI)) :: s) [(t, .slice .fresh (l.map encI))] σ.length (Nat.le_refl _) ⟨⟨by simp only [Ahl.lk, beq_self_eq_true, cond_true]; exact Wk.refl _, (ids_mapf ids_encI _)⟩, trivial⟩ (by rw [ht']; exact hσ)
  rwa [ht'] at this
end
theorem idsS_dead {n : Nat} {σ : Store} (h : IdsS n σ) (i : Nat) : IdsS n (σ.set i .dead) := by
 intro j o ho
 rcases get_set ho with ⟨rfl, rfl⟩ | ⟨_, ho⟩
 ·trivial
 ·exact h j o ho
theorem unseen_lt {α : Type} (p q : α → Bool) (h : ∀ x, q x = true → p x = true) (i : α) (hp : p i = true) (hq : q i = false) : ∀ l : List α, i ∈ l → (l.filter q).length < (l.filter p).length
 | x :: l, hi => by
  have hle : (l.filter q).length ≤ (l.filter p).length := by
   clear hi
   induction l with
   | nil => simp
   | cons y l ih =>
    rw [List.filter_cons, List.filter_cons]
    cases hy : q y
    ·simp only [Bool.false_eq_true, if_false]; split
     ·simp only [List.length_cons]; omega
     ·exact ih
    ·rw [if_pos rfl, if_pos (h y hy)]; simp only [List.length_cons]; omega
  rw [List.filter_cons, List.filter_cons]
  rcases List.mem_cons.1 hi with rfl | hi
  ·rw [hp, hq]; simp only [if_true, Bool.false_eq_true, if_false, List.length_cons]; omega
  ·have := unseen_lt p q h i hp hq l hi
   cases hx : q x
   ·simp only [Bool.false_eq_true, if_false]; split
    ·simp only [List.length_cons]; omega
    ·exact this
   ·rw [if_pos rfl, if_pos (h x hx)]; simp only [List.length_cons]; omega
def unseen (n : Nat) (seen : List Nat) : Nat := ((List.range n).filter fun i => !(seen.contains i)).length
theorem unseen_snoc {n i : Nat} {seen : List Nat} (hi : i < n) (hs : i ∉ seen) : unseen n (seen ++ [i]) < unseen n seen := by
 refine unseen_lt _ _ ?_ i ?_ ?_ _ (List.mem_range.2 hi)
 ·intro x hx
  simp only [Bool.not_eq_true', List.contains_eq_mem, List.mem_append, decide_eq_false_iff_not] at hx ⊢
  exact fun q => hx (.inl q)
 ·simpa using hs
 ·simp
theorem nodup_below {n : Nat} {l : List Nat} (h : l.Nodup) (hl : ∀ i ∈ l, i < n) : l.length ≤ n := by
 have h1 : l.length ≤ n := by
  have hp : ∀ (l : List Nat), l.Nodup → ∀ p : Nat → Bool, (∀ i ∈ l, p i = true) → (∀ i ∈ l, i < n) → l.length ≤ ((List.range n).filter p).length := by
   intro l
   induction l with
   | nil => intros; simp
   | cons x l ih =>
    intro hnd p hp hb
    rw [List.nodup_cons] at hnd
    have h1 := ih hnd.2 (fun i => p i && decide (i ≠ x)) (fun i hi => by
     rw [hp i (List.mem_cons_of_mem _ hi), Bool.true_and]
     exact decide_eq_true (fun e => hnd.1 (e ▸ hi))) (fun i hi => hb i (List.mem_cons_of_mem _ hi))
    have h2 := unseen_lt p (fun i => p i && decide (i ≠ x)) (fun y hy => by simp only [Bool.and_eq_true] at hy; exact hy.1) x (hp x List.mem_cons_self) (by simp) (List.range n) (List.mem_range.2 (hb x List.mem_cons_self))
    rw [List.length_cons]; omega
  have h2 := hp l h (fun _ => true) (fun _ _ => rfl) hl
  have h3 := List.length_filter_le (fun _ => true) (List.range n)
  rw [List.length_range] at h3
  omega
 exact h1
theorem sortI_perm_eq {l k : List Int} (h : l.Perm k) : sortI l = sortI k := sortI_eq ((sortI_perm k).trans h.symm) (sortI_sorted k)
end Go.Ahl
namespace Go.Proofs
open Go.Shelf Go.RowKit Go.Lib Go.Sort
def YtpabiedjneognaaGreatDoor.laysSI_ren : Go.Shelf.Ren := ⟨fun | 53 => 94 | 64 => 92 | 63 => 118 | 78 => 115 | 79 => 116 | 70 => 142 | 71 => 143 | 72 => 144 | 73 => 145 | 74 => 146 | 75 => 147 | 59 => 126 | 76 => 148 | 77 => 149 | 88 => 160 | 89 => 137 | 90 => 138 | 91 => 161 | 92 => 162 | 68 => 141 | 96 => 169 | n => n, fun | 22 => 23 | 23 => 3 | 3 => 3 | 51 => 158 | 0 => 0 | 67 => 180 | 69 => 182 | 4 => 4 | 61 => 174 | 60 => 173 | 44 => 95 | 5 => 5 | 9 => 9 | 75 => 194 | 79 => 198 | 83 => 212 | 84 => 115 | n => n, fun | n => n⟩
theorem YtpabiedjneognaaGreatDoor.laysSI : Go.Proofs.SlLaysN.n53 Tryz.prog YtpabiedjneognaaGreatDoor.laysSI_ren := {
 mixed := by kernel_rfl
 f53 := ⟨Tryz.f94.name, by decide, Tryz.func94.trans (congrArg some (by kernel_rfl))⟩
 f59 := ⟨Tryz.f126.name, by decide, Tryz.func126.trans (congrArg some (by kernel_rfl))⟩
 f63 := ⟨Tryz.f118.name, by decide, Tryz.func118.trans (congrArg some (by kernel_rfl))⟩
 f64 := Tryz.func92.trans (congrArg some (by kernel_rfl))
 f68 := ⟨Tryz.f141.name, by decide, Tryz.func141.trans (congrArg some (by kernel_rfl))⟩
 f70 := ⟨Tryz.f142.name, by decide, Tryz.func142.trans (congrArg some (by kernel_rfl))⟩
 f71 := ⟨Tryz.f143.name, by decide, Tryz.func143.trans (congrArg some (by kernel_rfl))⟩
 f72 := ⟨Tryz.f144.name, by decide, Tryz.func144.trans (congrArg some (by kernel_rfl))⟩
 f73 := ⟨Tryz.f145.name, by decide, Tryz.func145.trans (congrArg some (by kernel_rfl))⟩
 f74 := ⟨Tryz.f146.name, by decide, Tryz.func146.trans (congrArg some (by kernel_rfl))⟩
 f75 := ⟨Tryz.f147.name, by decide, Tryz.func147.trans (congrArg some (by kernel_rfl))⟩
 f76 := ⟨Tryz.f148.name, by decide, Tryz.func148.trans (congrArg some (by kernel_rfl))⟩
 f77 := ⟨Tryz.f149.name, by decide, Tryz.func149.trans (congrArg some (by kernel_rfl))⟩
 f78 := Tryz.func115.trans (congrArg some (by kernel_rfl))
 f79 := Tryz.func116.trans (congrArg some (by kernel_rfl))
 f88 := ⟨Tryz.f160.name, by decide, Tryz.func160.trans (congrArg some (by kernel_rfl))⟩
 f89 := Tryz.func137.trans (congrArg some (by kernel_rfl))
 f90 := Tryz.func138.trans (congrArg some (by kernel_rfl))
 f91 := ⟨Tryz.f161.name, by decide, Tryz.func161.trans (congrArg some (by kernel_rfl))⟩
 f92 := ⟨Tryz.f162.name, by decide, Tryz.func162.trans (congrArg some (by kernel_rfl))⟩
 f96 := ⟨Tryz.f169.name, by decide, Tryz.func169.trans (congrArg some (by kernel_rfl))⟩
 t0 := Tryz.underlying0
 a0 := Tryz.isAgg0
 z0 := Tryz.sizeOf0
 v0 := Tryz.zeroValue0
 t3 := Tryz.underlying3
 a3 := Tryz.isAgg3
 z3 := Tryz.sizeOf3
 v3 := Tryz.zeroValue3
 t4 := Tryz.underlying4
 a4 := Tryz.isAgg4
 z4 := Tryz.sizeOf4
 v4 := Tryz.zeroValue4
 t5 := Tryz.underlying5
 a5 := Tryz.isAgg5
 z5 := Tryz.sizeOf5
 v5 := Tryz.zeroValue5
 t9 := Tryz.underlying9
 a9 := Tryz.isAgg9
 z9 := Tryz.sizeOf9
 v9 := Tryz.zeroValue9
 t22 := Tryz.underlying23
 a22 := Tryz.isAgg23
 z22 := Tryz.sizeOf23
 v22 := Tryz.zeroValue23
 t23 := Tryz.underlying3
 a23 := Tryz.isAgg3
 z23 := Tryz.sizeOf3
 v23 := Tryz.zeroValue3
 t44 := Tryz.underlying95
 a44 := Tryz.isAgg95
 z44 := Tryz.sizeOf95
 v44 := Tryz.zeroValue95
 t51 := Tryz.underlying158
 a51 := Tryz.isAgg158
 z51 := Tryz.sizeOf158
 v51 := Tryz.zeroValue158
 t60 := Tryz.underlying173
 a60 := Tryz.isAgg173
 z60 := Tryz.sizeOf173
 v60 := Tryz.zeroValue173
 t61 := Tryz.underlying174
 a61 := Tryz.isAgg174
 z61 := Tryz.sizeOf174
 v61 := Tryz.zeroValue174
 t67 := Tryz.underlying180
 a67 := Tryz.isAgg180
 z67 := Tryz.sizeOf180
 v67 := Tryz.zeroValue180
 t69 := Tryz.underlying182
 a69 := Tryz.isAgg182
 z69 := Tryz.sizeOf182
 v69 := Tryz.zeroValue182
 t75 := Tryz.underlying194
 a75 := Tryz.isAgg194
 z75 := Tryz.sizeOf194
 v75 := Tryz.zeroValue194
 t79 := Tryz.underlying198
 a79 := Tryz.isAgg198
 z79 := Tryz.sizeOf198
 v79 := Tryz.zeroValue198
 t83 := Tryz.underlying212
 a83 := Tryz.isAgg212
 z83 := Tryz.sizeOf212
 v83 := Tryz.zeroValue212
 t84 := Tryz.underlying115
 a84 := Tryz.isAgg115
 z84 := Tryz.sizeOf115
 v84 := Tryz.zeroValue115 }
end Go.Proofs
namespace Go.Proofs.YtpabiedjneognaaGreatDoor
open Go.Ahl
theorem sortI_spec (id : Nat) (l : List Int) (σ : Store) (hσ : σ[id]? = some (.row (l.map ai))) (hlen : l.length < 4611686018427387904) :
  ACalls Tryz.prog 94 [.ref id 1 0 l.length] σ fun r σ' => r = .tuple [] ∧ σ' = σ.set id (.row ((Ahl.sortI l).map ai)) :=
 sortInts laysSI (fn := Tryz.f94) Tryz.func94 (by kernel_rfl) (by decide) id l σ hσ hlen
def addOf (s : List Int) (es : List FEff) : List Int := es.foldl (fun l e => if condHolds s e.when_ && !e.lit.neg then insI l e.lit.fact else l) []
def dropOf (s : List Int) (es : List FEff) : List Int := es.foldl (fun l e => if condHolds s e.when_ && e.lit.neg then insI l e.lit.fact else l) []
theorem addOf_app (s : List Int) (es : List FEff) (e : FEff) : addOf s (es ++ [e]) = if condHolds s e.when_ && !e.lit.neg then insI (addOf s es) e.lit.fact else addOf s es := by unfold addOf; rw [List.foldl_append]; rfl
theorem dropOf_app (s : List Int) (es : List FEff) (e : FEff) : dropOf s (es ++ [e]) = if condHolds s e.when_ && e.lit.neg then insI (dropOf s es) e.lit.fact else dropOf s es := by unfold dropOf; rw [List.foldl_append]; rfl
def stayS (s : List Int) (es : List FEff) (x : Int) : Bool := !((dropOf s es).contains x) || (addOf s es).contains x
def afterS (s : List Int) (es : List FEff) : List Int := Ahl.sortI (s.filter (stayS s es) ++ (addOf s es).filter fun x => !(s.contains x))
theorem addOf_len (s : List Int) : ∀ es : List FEff, (addOf s es).length ≤ es.length := by
 intro es
 suffices h : ∀ (es : List FEff) (l : List Int), (es.foldl (fun l e => if condHolds s e.when_ && !e.lit.neg then insI l e.lit.fact else l) l).length ≤ l.length + es.length by
  have := h es []; simpa [addOf] using this
 intro es
 induction es with
 | nil => intro l; simp
 | cons e es ih =>
  intro l
  rw [List.foldl_cons]
  refine Nat.le_trans (ih _) ?_
  split
  ·unfold insI; split
   ·simp
   ·simp only [List.length_append, List.length_cons, List.length_nil]; omega
  ·simp
def c_sAfter : CCode := .seq (.ops [oS 3 (.box (.tmp 1)), oS 4 (.move (.lit (.slice .nil [])))]) (.seq (.ops [oS 13 .mkmap, oS 14 .mkmap, oS 5 (.move (.tmp 13)), oS 6 (.move (.tmp 14))]) (.seq (.seq (.ops [oS 15 (.faddr 3 (.tmp 3)), oS 16 (.load none (.tmp 15)), oS 17 (.blen 1 (.tmp 16)), oS 18 (.move (.lit (.int .i64 0)))]) (.block 0 (.loop (.seq (.ops [oS 19 (.bin .lss .none (.tmp 18) (.tmp 17))]) (.seq (.cond (.tmp 19) .skip (.exit 0)) (.seq (.block 1 (.seq (.ops [oS 20 (.iaddr 3 (.tmp 16) (.tmp 18)), oS 21 (.load (some 3) (.tmp 20)), oS 8 (.alloc (.agg [.slice .nil [], .int .i64 0, .bool false])), oN (.store 3 (.tmp 8) (.tmp 21))]) (.seq (.ops [oS 22 (.move (.tmp 0)), oS 23 (.faddr 0 (.tmp 8)), oS 24 (.load none (.tmp 23)), oS 25 (.call (.lit (.func 54 [])) [.tmp 22, .tmp 24])]) (.cond (.tmp 25) (.seq (.ops [oS 26 (.faddr 1 (.tmp 8)), oS 27 (.faddr 1 (.tmp 26)), oS 28 (.load none (.tmp 27))]) (.cond (.tmp 28) (.ops [oS 29 (.move (.tmp 6)), oS 30 (.faddr 1 (.tmp 8)), oS 31 (.faddr 0 (.tmp 30)), oS 32 (.load none (.tmp 31)), oN (.mapup false (.tmp 29) (.tmp 32) (.lit (.bool true)))]) (.ops [oS 33 (.move (.tmp 5)), oS 34 (.faddr 1 (.tmp 8)), oS 35 (.faddr 0 (.tmp 34)), oS 36 (.load none (.tmp 35)), oN (.mapup false (.tmp 33) (.tmp 36) (.lit (.bool true)))]))) .skip)))) (.ops [oS 37 (.bin .add .none (.tmp 18) (.lit (.int .i64 1))), oS 18 (.move (.tmp 37))]))))))) (.seq (.ops [oS 9 (.move (.lit (.slice .nil [])))]) (.seq (.seq (.ops [oS 38 (.move (.tmp 0)), oS 39 (.blen 1 (.tmp 38)), oS 40 (.move (.lit (.int .i64 0)))]) (.block 2 (.loop (.seq (.ops [oS 41 (.bin .lss .none (.tmp 40) (.tmp 39))]) (.seq (.cond (.tmp 41) .skip (.exit 2)) (.seq (.block 3 (.seq (.ops [oS 42 (.iaddr 1 (.tmp 38) (.tmp 40)), oS 43 (.load none (.tmp 42)), oS 11 (.move (.tmp 43))]) (.seq (.ops [oS 44 (.move (.tmp 6)), oS 45 (.move (.tmp 11)), oS 46 (.lookup false (.bool false) (.tmp 44) (.tmp 45) false), oS 47 (.un .not (.tmp 46)), oS 48 (.move (.tmp 47)), oG 49 48 false (.move (.tmp 5)), oG 50 48 false (.move (.tmp 11)), oG 51 48 false (.lookup false (.bool false) (.tmp 49) (.tmp 50) false), oS 52 (.pick (.tmp 48) (.lit (.bool true)) (.tmp 51))]) (.cond (.tmp 52) (.ops [oS 53 (.move (.tmp 9)), oS 54 (.move (.tmp 11)), oS 55 (.bslice 1 [.tmp 54] false), oS 56 (.bappend 1 8 (.tmp 53) (.tmp 55) false), oS 9 (.move (.tmp 56))]) .skip)))) (.ops [oS 57 (.bin .add .none (.tmp 40) (.lit (.int .i64 1))), oS 40 (.move (.tmp 57))]))))))) (.seq (.seq (.ops [oS 58 (.move (.tmp 5)), oS 59 (.rng (.tmp 58))]) (.block 4 (.loop (.seq (.ops [oS 60 (.nxt (.tmp 59)), oS 61 (.extract (.tmp 60) 0)]) (.seq (.cond (.tmp 61) .skip (.exit 4)) (.block 5 (.seq (.ops [oS 62 (.ent (.tmp 59)), oS 63 (.extract (.tmp 62) 0), oS 12 (.move (.tmp 63))]) (.seq (.ops [oS 64 (.move (.tmp 0)), oS 65 (.move (.tmp 12)), oS 66 (.call (.lit (.func 85 [])) [.tmp 64, .tmp 65]), oS 67 (.un .not (.tmp 66))]) (.cond (.tmp 67) (.ops [oS 68 (.move (.tmp 9)), oS 69 (.move (.tmp 12)), oS 70 (.bslice 1 [.tmp 69] false), oS 71 (.bappend 1 8 (.tmp 68) (.tmp 70) false), oS 9 (.move (.tmp 71))]) .skip))))))))) (.seq (.ops [oS 72 (.move (.tmp 9)), oS 73 (.call (.lit (.func 94 [])) [.tmp 72])]) (.seq (.ops [oS 74 (.move (.tmp 9)), oS 4 (.move (.tmp 74))]) .ret)))))))
set_option maxHeartbeats 2000000 in
theorem sAfter_specF (s : List Int) (a : FAct) (tok : Tok) (σ : Store) (hl : s.length ≤ 1000000) (hs : s.Pairwise (· < ·)) (he : a.effects.length ≤ 1000000) (hwh : ∀ e ∈ a.effects, e.when_.length ≤ 140737488355328) :
  ACalls Tryz.prog 63 [.slice tok (s.map Ahl.encI), .agg (encA a)] σ (isR (.slice .fresh ((afterS s a.effects).map Ahl.encI)) σ) := by
 refine ACalls.intro (rs := [(.tmp 4)]) (by kernel_rfl) { own := [], ghosts := [] } Tryz.func63 (c := Tryz.f63.body.getD .skip) (by kernel_rfl) (by decide) (by rw [show Tryz.f63.ntmps = 75 by kernel_rfl]; exact Nat.le_of_ble_eq_true rfl) (by kernel_rfl) ?_
 intro hσ hids
 rw [show comp Tryz.prog { own := [], ghosts := [] } (Tryz.f63.body.getD .skip) = c_sAfter by kernel_rfl, show Tryz.f63.ntmps = 75 by kernel_rfl]
 unfold c_sAfter
 have hil : Ids σ.length (.slice tok (s.map Ahl.encI)) := hids _ (by simp)
 have hS1 : ∀ x y, IdsS (σ ++ [AObj.row (encA a), .map (encSI x), .map (encSI y)]).length (σ ++ [AObj.row (encA a), .map (encSI x), .map (encSI y)]) := fun x y => idsS_app _ hσ (all_cons' (idsO_row (ids_encA a)) (all_cons' (ids_encSI _) (all_cons' (ids_encSI _) all_nil')))
 simp only [go_sem, simprocAttr, encA]
 refine wpc_while (fun i => [(0, .slice tok (s.map Ahl.encI)), (5, .map (σ.length + 1)), (6, .map (σ.length + 2)), (16, .slice .unk (a.effects.map encE)), (17, .int .i64 a.effects.length), (18, .int .i64 (i : Nat))])
  (fun i => σ ++ [.row (encA a), .map (encSI (addOf s (a.effects.take i))), .map (encSI (dropOf s (a.effects.take i)))])
  (fun i => i ≤ a.effects.length) (fun i => a.effects.length - i) 0 (Nat.zero_le _) (by (try dsimp only); first | exact ghL (hS1 [] []) | exact ghL0 (hS1 [] [])) ?_
 rintro i hi K hK hE hR
 by_cases h : i < a.effects.length
 ·obtain ⟨y, hx⟩ := get_ex h; have hlt : ((i : Int) < (a.effects.length : Int)) := (by omega); have hw := wrapS (i := i) (by omega)
  simp only [go_sem, simprocAttr, hlt, hx, encE]
  refine (sTrue_spec s y.when_ tok .unk _ (by omega) hs (hwh y (List.mem_of_getElem? hx))).is ?_
  cases h1 : condHolds s y.when_
  ·simp only [go_sem, simprocAttr]
   have e1 : addOf s (a.effects.take (i + 1)) = addOf s (a.effects.take i) := by rw [take_succ' hx, addOf_app, h1]; rfl
   have e2 : dropOf s (a.effects.take (i + 1)) = dropOf s (a.effects.take i) := by rw [take_succ' hx, dropOf_app, h1]; rfl
   rw [← e1, ← e2]
   refine hK _ _ (i + 1) (by omega) om ?_; (try dsimp only); (try simp only [ hw]); first | exact ghL (hS1 _ _) | exact ghL0 (hS1 _ _)
  ·have h1t := h1
   cases hn : y.lit.neg
   ·have e2 : dropOf s (a.effects.take (i + 1)) = dropOf s (a.effects.take i) := by rw [take_succ' hx, dropOf_app, h1, hn]; rfl
    rw [← e2]
    cases hc : (addOf s (a.effects.take i)).contains y.lit.fact
    ·have hj := findI_out _ _ 0 hc
     have e1 : addOf s (a.effects.take (i + 1)) = addOf s (a.effects.take i) ++ [y.lit.fact] := by rw [take_succ' hx, addOf_app, h1, hn]; simp only [Bool.not_false, Bool.and_self, if_true, insI, hc, Bool.false_eq_true, if_false]
     simp only [go_sem, simprocAttr, encE, hn, hj, encSI_app, ← e1]
     refine hK _ _ (i + 1) (by omega) om ?_; (try dsimp only); (try simp only [ hw]); first | exact ghL (hS1 _ _) | exact ghL0 (hS1 _ _)
    ·obtain ⟨j, hj, hjx⟩ := findI_in _ _ 0 hc
     have e1 : addOf s (a.effects.take (i + 1)) = addOf s (a.effects.take i) := by rw [take_succ' hx, addOf_app, h1, hn]; simp only [Bool.not_false, Bool.and_self, if_true, insI, hc]
     simp only [go_sem, simprocAttr, encE, hn, hj, Nat.zero_add, encSI_set hjx]
     rw [← e1]
     refine hK _ _ (i + 1) (by omega) om ?_; (try dsimp only); (try simp only [ hw]); first | exact ghL (hS1 _ _) | exact ghL0 (hS1 _ _)
   ·have e1 : addOf s (a.effects.take (i + 1)) = addOf s (a.effects.take i) := by rw [take_succ' hx, addOf_app, h1, hn]; rfl
    rw [← e1]
    cases hc : (dropOf s (a.effects.take i)).contains y.lit.fact
    ·have hj := findI_out _ _ 0 hc
     have e2 : dropOf s (a.effects.take (i + 1)) = dropOf s (a.effects.take i) ++ [y.lit.fact] := by rw [take_succ' hx, dropOf_app, h1, hn]; simp only [Bool.and_self, if_true, insI, hc, Bool.false_eq_true, if_false]
     simp only [go_sem, simprocAttr, encE, hn, hj, encSI_app, ← e2]
     refine hK _ _ (i + 1) (by omega) om ?_; (try dsimp only); (try simp only [ hw]); first | exact ghL (hS1 _ _) | exact ghL0 (hS1 _ _)
    ·obtain ⟨j, hj, hjx⟩ := findI_in _ _ 0 hc
     have e2 : dropOf s (a.effects.take (i + 1)) = dropOf s (a.effects.take i) := by rw [take_succ' hx, dropOf_app, h1, hn]; simp only [Bool.and_self, if_true, insI, hc]
     simp only [go_sem, simprocAttr, encE, hn, hj, Nat.zero_add, encSI_set hjx]
     rw [← e2]
     refine hK _ _ (i + 1) (by omega) om ?_; (try dsimp only); (try simp only [ hw]); first | exact ghL (hS1 _ _) | exact ghL0 (hS1 _ _)
 ·have hlt : ¬ ((i : Int) < (a.effects.length : Int)) := by omega
  rw [List.take_of_length_le (by omega : a.effects.length ≤ i)]
  simp only [go_sem, simprocAttr, hlt, hE]
  clear hK hE hR
  obtain ⟨S, hS⟩ : ∃ S, S = σ ++ [.row (encA a), .map (encSI (addOf s a.effects)), .map (encSI (dropOf s a.effects))] := ⟨_, rfl⟩
  have hSs : IdsS S.length S := by rw [hS]; exact hS1 _ _
  have hA : ∀ t, (S ++ t)[σ.length + 1]? = some (.map (encSI (addOf s a.effects))) := fun t => by rw [hS, List.append_assoc, List.getElem?_append_right (by omega), Nat.add_sub_cancel_left]; rfl
  have hD : ∀ t, (S ++ t)[σ.length + 2]? = some (.map (encSI (dropOf s a.effects))) := fun t => by rw [hS, List.append_assoc, List.getElem?_append_right (by omega), Nat.add_sub_cancel_left]; rfl
  have hSl : S.length = σ.length + 3 := by rw [hS]; simp
  have htk : S.take σ.length = σ := by rw [hS]; simp
  rw [← hS]
  have hS2 : ∀ w : List Int, IdsS (S ++ [AObj.row (w.map ai)]).length (S ++ [AObj.row (w.map ai)]) := fun w => idsS_push hSs (ids_ai w)
  refine wpc_while (fun i => [(0, .slice tok (s.map Ahl.encI)), (5, .map (σ.length + 1)), (6, .map (σ.length + 2)), (9, .ref S.length 1 0 ((s.take i).filter (stayS s a.effects)).length), (38, .slice tok (s.map Ahl.encI)), (39, .int .i64 s.length), (40, .int .i64 (i : Nat))])
   (fun i => S ++ [.row (((s.take i).filter (stayS s a.effects)).map ai)]) (fun i => i ≤ s.length) (fun i => s.length - i) 0 (Nat.zero_le _) (by
    refine Ghost.trans (Ghost.row0 9 1 0 (.inl rfl)) ?_
    exact ghP0 (hS2 [])) ?_
  rintro i hi K hK hE hR
  by_cases h : i < s.length
  ·obtain ⟨x, hx⟩ := get_ex h; have hlt : ((i : Int) < (s.length : Int)) := (by omega); have hw := wrapS (i := i) (by omega)
   have hst : stayS s a.effects x = (!((dropOf s a.effects).contains x) || (addOf s a.effects).contains x) := rfl
   have hle : ((s.take i).filter (stayS s a.effects)).length ≤ i := Nat.le_trans (List.length_filter_le _ _) (by simp; omega)
   have hbig : bigLen (((s.take i).filter (stayS s a.effects)).length + 1) 8 := big_ok (by omega) (by omega)
   have e0 : stayS s a.effects x = false → (s.take (i + 1)).filter (stayS s a.effects) = (s.take i).filter (stayS s a.effects) := fun q => by rw [take_succ' hx, List.filter_append, List.filter_cons, q]; simp
   have e1 : stayS s a.effects x = true → (s.take (i + 1)).filter (stayS s a.effects) = (s.take i).filter (stayS s a.effects) ++ [x] := fun q => by rw [take_succ' hx, List.filter_append, List.filter_cons, q]; simp
   cases hd : (dropOf s a.effects).contains x
   ·have hj := findI_out _ _ 0 hd
    have e1 := e1 (by rw [hst, hd]; rfl)
    simp only [go_sem, simprocAttr, hlt, hx, Ahl.encI, hD, hj, hbig]
    have hf : ((s.take i).filter (stayS s a.effects)).map ai ++ [[AV.int .i64 x]].flatten = ((s.take (i + 1)).filter (stayS s a.effects)).map ai := by rw [e1, List.map_append]; rfl
    have hn : ((s.take i).filter (stayS s a.effects)).length + 1 = ((s.take (i + 1)).filter (stayS s a.effects)).length := by rw [e1]; simp
    rw [hf, hn, hw]
    refine hK _ _ (i + 1) (by omega) (by omega) ?_
    (try dsimp only)
    exact ghPM 2 (hio := ids_ai _)
   ·obtain ⟨j, hj, _⟩ := findI_in _ _ 0 hd
    cases hc : (addOf s a.effects).contains x
    ·have hk := findI_out _ _ 0 hc
     have e0 := e0 (by rw [hst, hd, hc]; rfl)
     simp only [go_sem, simprocAttr, hlt, hx, Ahl.encI, hD, hj, hA, hk]
     refine hK _ _ (i + 1) (by omega) (by omega) ?_
     (try dsimp only)
     rw [hw, e0]
     exact ghP0 (hS2 _)
    ·obtain ⟨k, hk, _⟩ := findI_in _ _ 0 hc
     have e1 := e1 (by rw [hst, hd, hc]; rfl)
     simp only [go_sem, simprocAttr, hlt, hx, Ahl.encI, hD, hj, hA, hk, hbig]
     have hf : ((s.take i).filter (stayS s a.effects)).map ai ++ [[AV.int .i64 x]].flatten = ((s.take (i + 1)).filter (stayS s a.effects)).map ai := by rw [e1, List.map_append]; rfl
     have hn : ((s.take i).filter (stayS s a.effects)).length + 1 = ((s.take (i + 1)).filter (stayS s a.effects)).length := by rw [e1]; simp
     rw [hf, hn, hw]
     refine hK _ _ (i + 1) (by omega) (by omega) ?_
     (try dsimp only)
     exact ghPM 2 (hio := ids_ai _)
  ·have hlt : ¬ ((i : Int) < (s.length : Int)) := by omega
   rw [List.take_of_length_le (by omega : s.length ≤ i)]
   have hset : ∀ t, (S ++ t).set (σ.length + 1) .dead = S.set (σ.length + 1) .dead ++ t := fun t => List.set_append_left _ _ (by omega)
   simp only [go_sem, simprocAttr, hlt, hE, hA, hset]
   clear hK hE hR
   obtain ⟨S', hS'⟩ : ∃ S', S' = S.set (σ.length + 1) .dead := ⟨_, rfl⟩
   have hl' : S'.length = S.length := by rw [hS', List.length_set]
   have htk' : S'.take σ.length = σ := by rw [hS', List.take_set_of_le (by omega), htk]
   have hSs' : IdsS S'.length S' := by rw [hl', hS']; exact idsS_dead hSs _
   rw [← hS']
   clear hset hS' hA hD hS2
   obtain ⟨A, hAe⟩ : ∃ A, A = addOf s a.effects := ⟨_, rfl⟩
   have hAl : A.length ≤ 1000000 := by rw [hAe]; exact Nat.le_trans (addOf_len s _) he
   rw [← hAe]
   obtain ⟨T, hT⟩ : ∃ T : List Nat → Store, ∀ l, T l = S' ++ [.dead, .iter (encSI A) l] := ⟨_, fun _ => rfl⟩
   have hTl : ∀ l, (T l).length = S.length + 2 := fun l => by rw [hT, List.length_append, hl']; rfl
   have hTi : ∀ l t, (T l ++ t)[S.length + 1]? = some (.iter (encSI A) l) := fun l t => by rw [hT, List.append_assoc, List.getElem?_append_right (by omega), hl', Nat.add_sub_cancel_left]; rfl
   have hTs : ∀ l t k, (T l ++ t).set (S.length + 1) (.iter (encSI A) k) = T k ++ t := fun l t k => by rw [hT, hT, List.append_assoc, List.set_append_right _ _ (by omega), hl', Nat.add_sub_cancel_left]; simp
   have hTe : ∀ l x t, (T l ++ x :: t)[S.length + 2]? = some x := fun l x t => by rw [List.getElem?_append_right (by rw [hTl]; omega), hTl, Nat.sub_self]; rfl
   have hTu : ∀ l x t y, (T l ++ x :: t).set (S.length + 2) y = T l ++ y :: t := fun l x t y => by rw [List.set_append_right _ _ (by rw [hTl]; omega), hTl, Nat.sub_self]; rfl
   have hTd : ∀ l, IdsS (T l).length (T l) := fun l => by rw [hT]; exact idsS_app _ hSs' (all_cons' (by trivial) (all_cons' (ids_encSI A) all_nil'))
   have hTr : ∀ l (w : List Int), IdsS (T l ++ [AObj.row (w.map ai)]).length (T l ++ [AObj.row (w.map ai)]) := fun l w => idsS_push (hTd l) (ids_ai w)
   have hTl0 := hTl []
   obtain ⟨out, hout⟩ : ∃ out : List Nat → List Int, ∀ l, out l = s.filter (stayS s a.effects) ++ (l.filterMap fun i => A[i]?).filter fun x => !(s.contains x) := ⟨_, fun _ => rfl⟩
   have hout0 : out [] = s.filter (stayS s a.effects) := by simp [hout]
   refine wpc_while (fun l => [(0, .slice tok (s.map Ahl.encI)), (9, .ref (S.length + 2) 1 0 (out l).length), (59, .ptr (S.length + 1) 0)]) (fun l => T l ++ [.row ((out l).map ai)]) (fun l => l.Nodup ∧ ∀ i ∈ l, i < A.length) (unseen A.length) [] ⟨.nil, by simp⟩ (by
    refine Ghost.trans (Ghost.reown 9 (cells := (s.filter (stayS s a.effects)).map ai) rfl (by rw [← hl', List.getElem?_append_right (Nat.le_refl _), Nat.sub_self]; rfl)) ?_
    rw [show (S' ++ [AObj.row (List.map ai (List.filter (stayS s a.effects) s)), AObj.iter (encSI A) []]).set (List.length S) AObj.dead ++ [AObj.row (List.map ai (List.filter (stayS s a.effects) s))] = T [] ++ [.row ((out []).map ai)] by
     rw [hT, hout0, ← hl', List.set_append_right _ _ (Nat.le_refl _), Nat.sub_self]; simp, show (S' ++ [AObj.row (List.map ai (List.filter (stayS s a.effects) s)), AObj.iter (encSI A) []]).length = S.length + 2 by rw [List.length_append, hl']; rfl, ← hout0]
    exact ghP0 (hTr _ _)) ?_
   rintro l ⟨hnd, hlt⟩ K hK hE hR
   simp only [go_sem, simprocAttr, hTi]
   refine ⟨?_, ?_⟩
   ·intro i k v hik hns
    obtain ⟨x, hx, rfl, rfl⟩ : ∃ x, A[i]? = some x ∧ k = .int .i64 x ∧ v = .bool true := by
     simp only [encSI, List.getElem?_map, Option.map_eq_some_iff] at hik
     obtain ⟨x, hx, e⟩ := hik
     injection e with e1 e2
     exact ⟨x, hx, e1.symm, e2.symm⟩
    have hiA := lt_of_get hx
    have hTl1 := hTl (l ++ [i])
    have hJ : (l ++ [i]).Nodup ∧ ∀ j ∈ l ++ [i], j < A.length := by
     refine ⟨?_, fun j hj => ?_⟩
     ·rw [List.nodup_append]
      refine ⟨hnd, by simp, fun p hp q hq => ?_⟩
      simp only [List.mem_singleton] at hq; subst hq
      rintro rfl; exact hns hp
     ·rcases List.mem_append.1 hj with hj | hj
      ·exact hlt j hj
      ·simp only [List.mem_singleton] at hj; subst hj; exact hiA
    simp only [go_sem, simprocAttr, hTs, hTi]
    refine ⟨l, i, rfl, ?_⟩
    rw [encSI_get hx]
    simp only [go_sem, simprocAttr]
    refine (shas_spec s x tok _ (by omega) hs).is ?_
    have hfm : (l ++ [i]).filterMap (fun i => A[i]?) = l.filterMap (fun i => A[i]?) ++ [x] := by rw [List.filterMap_append]; simp [hx]
    cases hc : s.contains x
    ·have ho : out (l ++ [i]) = out l ++ [x] := by simp only [hout, hfm, List.filter_append, List.filter_cons, hc, Bool.not_false, if_true, List.filter_nil, List.append_assoc]
     have hol : (out l).length ≤ 2000000 := by
      have h1 := List.length_filter_le (stayS s a.effects) s
      have h2 := List.length_filter_le (fun x => !(s.contains x)) (l.filterMap fun i => A[i]?)
      have h3 := List.length_filterMap_le (fun i => A[i]?) l
      have h4 := nodup_below hnd hlt
      rw [hout, List.length_append]; omega
     have hbig : bigLen ((out l).length + 1) 8 := big_ok (by omega) (by omega)
     simp only [go_sem, simprocAttr, hTe, hTu, hTl, hbig]
     have hf : (out l).map ai ++ [[AV.int .i64 x]].flatten = (out (l ++ [i])).map ai := by rw [ho, List.map_append]; rfl
     have hn : (out l).length + 1 = (out (l ++ [i])).length := by rw [ho]; simp
     rw [hf, hn]
     refine hK _ _ (l ++ [i]) hJ (unseen_snoc hiA hns) ?_
     rw [← hTl1]
     exact ghPM 2 (hi := hTd _) (hio := ids_ai _)
    ·have ho : out (l ++ [i]) = out l := by simp only [hout, hfm, List.filter_append, List.filter_cons, hc, Bool.not_true, Bool.false_eq_true, if_false, List.filter_nil, List.append_nil]
     simp only [go_sem, simprocAttr]
     refine hK _ _ (l ++ [i]) hJ (unseen_snoc hiA hns) ?_
     (try dsimp only)
     rw [ho]
     exact ghP0 (hTr _ _)
   ·intro hall
    have hol : (out l).length < 4611686018427387904 := by
     have h1 := List.length_filter_le (stayS s a.effects) s
     have h2 := List.length_filter_le (fun x => !(s.contains x)) (l.filterMap fun i => A[i]?)
     have h3 := List.length_filterMap_le (fun i => A[i]?) l
     have h4 := nodup_below hnd hlt
     rw [hout, List.length_append]; omega
    have hp : (out l).Perm (s.filter (stayS s a.effects) ++ (addOf s a.effects).filter fun x => !(s.contains x)) := by
     rw [← hAe, hout]
     exact List.Perm.append_left _ ((perm_places A l hnd hlt (fun i hi => hall i (by simpa [encSI] using hi))).filter _)
    simp only [go_sem, simprocAttr, hE]
    refine (sortI_spec (S.length + 2) (out l) _ (hTe _ _ _) hol).mono ?_
    rintro _ _ ⟨rfl, rfl⟩
    simp only [go_sem, simprocAttr, hTu]
    have hTl1 := hTl l
    refine retRowF (id := S.length + 2) (len := (out l).length) (l := Ahl.sortI (out l)) ?_ ?_ ?_ ?_ ?_ ?_
    ·rw [hT, List.append_assoc, List.take_append_of_le_length (by omega), htk']
    ·rfl
    ·exact hTe _ _ _
    ·exact sortI_len _
    ·omega
    ·exact ⟨by rw [afterS, sortI_perm_eq hp], rfl⟩
theorem sAfter_spec (s : List Int) (a : FAct) (tok : Tok) (σ : Store) (hl : s.length ≤ 1000000) (hs : s.Pairwise (· < ·)) (he : a.effects.length ≤ 1000000) (hwh : ∀ e ∈ a.effects, e.when_.length ≤ 140737488355328) :
  ACalls Tryz.prog 63 [.slice tok (s.map Ahl.encI), .agg (encA a)] σ (isR (.slice .unk ((afterS s a.effects).map Ahl.encI)) σ) := (sAfter_specF s a tok σ hl hs he hwh).wkR (.unk _ _)
end Go.Proofs.YtpabiedjneognaaGreatDoor
