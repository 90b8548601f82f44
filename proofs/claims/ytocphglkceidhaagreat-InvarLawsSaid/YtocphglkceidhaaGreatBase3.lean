/- Contracts of the given program's functions, and an abstract layer over the model; no condition. -/
import Derived.Attr
import Derived.WalkKit
import Derived.ProofKit
import Derived.SizedLaws
import Derived.Carry
import Derived.Test.YtocphglkceidhaaGreatProg
import Derived.Lib.Bytealg
import Derived.Test.YtocphglkceidhaaGreatRows
import Derived.Shelf.SlSortCmp.NoneTotal
import Derived.Shelf.SortG.Plain
import Derived.Shelf.SortG.SortNone
import Derived.Test.YtocphglkceidhaaGreatBase2
set_option linter.unusedVariables false
set_option linter.unusedSimpArgs false
/- The abstract layer, part 22: the rewriting set; words that find their small facts themselves. -/
namespace Go.Ahl
attribute [go_sem] wpc_ops bodyK_n Nat.mul_one Nat.add_one_sub_one take_len_map Int.natCast_zero beq_self_eq_true bne_self_eq_false Bool.false_eq_true reduceIte wpc_seq wpc_block wpc_cond wpc_skip wpc_exit wpc_ret condK pickK newK buildK callK seqK blockK scopeK wpc_scope loopK_exit loopK_ret lk cond_true cond_false true_and and_true initS evs partV List.map_cons List.map_nil List.cons_append List.nil_append List.append_assoc
attribute [go_sem] List.append_nil Option.map_none getK_some rowK_some mapK_some loadP loadPN storeC storeP iaddrC istrC lookupC lookupM mapupC mapupM lenM clearP boolC nboolC elemsP slcC slcR sstrC e_load_ptr e_loadN_ptr e_load_rptr e_loadN_rptr e_store e_iaddr_slice e_iaddr_ref e_istr e_extract e_fieldv e_fieldvN e_lookup_map e_lookup_nil e_mapup e_len_map e_clear e_flat_eq
attribute [go_sem] e_flat_ne e_elems_ref e_elems_slice g_get g_get0 g_set g_set0 List.getElem?_cons_zero List.getElem?_cons_succ List.set_cons_zero List.set_cons_succ List.length_cons List.length_nil List.length_append List.length_map Nat.add_zero Nat.zero_add List.drop_succ_cons List.drop_zero List.take_succ_cons List.take_zero AV.one AV.isKey List.all_cons List.all_nil Bool.and_self Bool.true_and Bool.and_true setAll cellsOf cellsAll buildAll Nat.le_refl Int.toNat_natCast List.getElem?_map Option.map_some Int.natCast_nonneg decide_true decide_false Bool.not_true
attribute [go_sem] Bool.not_false i_move i_pick i_alloc i_box i_build i_bslice i_bsliceC k_bc i_load i_store i_nilck i_bin i_un i_conv i_mkfunc i_mkmap i_mkslice i_slc i_sstr i_faddr i_fieldv i_iaddr i_istr i_lookup i_mapup i_extract i_call i_len ap_i k_bs_f k_bs_t k_bs_0 ap_grow ap_ref ownK_row ap_nil ap_zero ap_nil_t ap_zero_t
attribute [go_sem] fa_nil fa_cons fa_app fa_map implies_true Option.some.injEq AObj.grow.injEq i_clear i_max i_min b_add b_sub b_mul b_quo b_rem b_eql b_neq b_lss b_leq b_gtr b_geq b_shl b_shr b_and b_or b_xor s_add s_eql s_neq s_lss s_gtr b_beq b_bne b_seq b_sne u_not u_neg l_slice l_ref l_vec
attribute [go_sem] ap_vec vecK_vec l_str n_ptr n_rptr f_ptr f_rptr c_int m_max m_min bnd2_nn bnd2_in bnd2_ni bnd2_ii x_slc x_slr x_sl0 x_sst gv_none gv_skip gv_some gv_tt gv_tf gv_ft gv_ff gv_u d_none d_some k_app aev_tmp aev_lit o_nil o_cons o_nilD o_consD st_run st_skip sd_skip sd_run dk_move
attribute [go_sem] dk_pick dk_alloc dk_box dk_build dk_bslice dk_bsliceC dk_load dk_store dk_nilck dk_bin dk_un dk_conv dk_mkfunc dk_mkmap dk_mkslice dk_slc dk_sstr dk_faddr dk_fieldv dk_iaddr dk_istr dk_lookup dk_mapup dk_extract dk_blen dk_bappend dk_bclear dk_bmax dk_bmin dk_call dk_callE callED_func ou_nil ou_cons su_run su_skip ru_0 ru_1 ru_2 obR_nil
attribute [go_sem] obR_cons obB_nil obB_cons memN_nil memN_cons isR_self AI.rank atS_app atU_app i_bstr i_rng i_nxt i_ent e_bstr e_rng e_nxt e_ent iterK_some l_wslice n_wptr f_wptr iaddrW wst_int wst_str e_store_wptr e_iaddr_wslice e_load_wptr e_loadN_wptr i_appendC apC_nil dk_bappendC
/-- A way to lay data into cells that names no object. -/
class IdE {α : Type} (f : α → List AV) : Prop where
  ids : ∀ n x, IdsL n (f x)
instance : IdE encI := ⟨fun _ => ids_encI⟩
instance : IdE encB := ⟨fun _ => ids_encB⟩
instance : IdE encT := ⟨fun _ => ids_encT⟩
instance : IdE encLit := ⟨fun _ => ids_encLit⟩
instance : IdE encC := ⟨fun _ => ids_encC⟩
instance : IdE encL := ⟨fun _ => ids_encL⟩
instance : IdE encCf := ⟨fun _ => ids_encCf⟩
instance : IdE encLf := ⟨fun _ => ids_encLf⟩
instance : IdE encE := ⟨fun _ => ids_encE⟩
instance : IdE encA := ⟨fun _ => ids_encA⟩
instance : IdE encTask := ⟨fun _ => ids_encTask⟩
/-- A list of data as one cell. -/
def encS {α : Type} (f : α → List AV) (l : List α) : List AV := [.slice .unk (l.map f)]
section
variable {n : Nat} {α : Type} {f : α → List AV} [h : IdE f]
theorem ids_mapE (l : List α) : Ids n (.slice .unk (l.map f)) := ids_map (h.ids n) l
theorem ids_mapF (l : List α) : Ids n (.slice .fresh (l.map f)) := ids_mapf (h.ids n) l
theorem ids_growE {id : Nat} (hi : id < n) (l : List α) : Ids n (.slice (.grow id) (l.map f)) := ids_grow_map (h.ids n) hi
theorem ids_aggE (x : α) : Ids n (.agg (f x)) := ids_agg (h.ids n x)
theorem mv_mapE {id : Nat} (l : List α) : Mv id n (.slice (.grow id) (l.map f)) (.slice (.grow n) (l.map f)) := mv_map (h.ids n) l
instance : IdE (encS f) := ⟨fun n l => idsL_cons (ids_map (h.ids n) l) idsL_nil⟩
end
section
variable {nt : Nat} {s s' : Slots} {σ g : Store}
theorem ghk (h1 : TellW s σ.length s' := by simp only [TellW, lk, Nat.reduceBEq, cond_true, cond_false, and_true, List.length_cons, List.length_nil, Nat.reduceAdd]; and_intros <;> first | exact Wk.refl _ | exact Wk.unk _ _ | exact Wk.fresh _ _ | exact Wk.fresh0 _ | exact Wk.slice _ (WkLL.one (WkL.one (Wk.unk _ _))) | exact Wk.slice _ (WkLL.one (WkL.one (Wk.fresh _ _))) | exact Wk.any _ | first | assumption | exact .int _ _ | exact .bool _ | exact .str _ | exact .any | exact .mapnil | exact .ptr _ _ (by omega) | exact .ref _ _ _ _ (by omega) | exact .vec _ _ _ (by omega) | exact .map _ (by omega) | exact ids_mapE _ | exact ids_mapF _ | exact ids_growE (by omega) _ | exact ids_aggE _ | (refine ids_up ?_ (by assumption); omega) | exact ids_func0 _ | exact ids_nil _ (by simp) | (simp only [encLit, encI, encT, encC, encA, encE, encL, encTask, encB]; done)) (h2 : IdsS σ.length σ := by assumption) : Ghost σ.length nt s (σ ++ g) s' σ := .keep _ (Nat.le_refl _) h1 h2
theorem ghk0 (h1 : TellW s σ.length s' := by simp only [TellW, lk, Nat.reduceBEq, cond_true, cond_false, and_true, List.length_cons, List.length_nil, Nat.reduceAdd]; and_intros <;> first | exact Wk.refl _ | exact Wk.unk _ _ | exact Wk.fresh _ _ | exact Wk.fresh0 _ | exact Wk.slice _ (WkLL.one (WkL.one (Wk.unk _ _))) | exact Wk.slice _ (WkLL.one (WkL.one (Wk.fresh _ _))) | exact Wk.any _ | first | assumption | exact .int _ _ | exact .bool _ | exact .str _ | exact .any | exact .mapnil | exact .ptr _ _ (by omega) | exact .ref _ _ _ _ (by omega) | exact .vec _ _ _ (by omega) | exact .map _ (by omega) | exact ids_mapE _ | exact ids_mapF _ | exact ids_growE (by omega) _ | exact ids_aggE _ | (refine ids_up ?_ (by assumption); omega) | exact ids_func0 _ | exact ids_nil _ (by simp) | (simp only [encLit, encI, encT, encC, encA, encE, encL, encTask, encB]; done)) (h2 : IdsS σ.length σ := by assumption) : Ghost σ.length nt s σ s' σ := .keep0 (Nat.le_refl _) h1 h2
theorem ghk1 {o : AObj} (h1 : TellW s (σ.length + 1) s' := by simp only [TellW, lk, Nat.reduceBEq, cond_true, cond_false, and_true, List.length_cons, List.length_nil, Nat.reduceAdd]; and_intros <;> first | exact Wk.refl _ | exact Wk.unk _ _ | exact Wk.fresh _ _ | exact Wk.fresh0 _ | exact Wk.slice _ (WkLL.one (WkL.one (Wk.unk _ _))) | exact Wk.slice _ (WkLL.one (WkL.one (Wk.fresh _ _))) | exact Wk.any _ | first | assumption | exact .int _ _ | exact .bool _ | exact .str _ | exact .any | exact .mapnil | exact .ptr _ _ (by omega) | exact .ref _ _ _ _ (by omega) | exact .vec _ _ _ (by omega) | exact .map _ (by omega) | exact ids_mapE _ | exact ids_mapF _ | exact ids_growE (by omega) _ | exact ids_aggE _ | (refine ids_up ?_ (by assumption); omega) | exact ids_func0 _ | exact ids_nil _ (by simp) | (simp only [encLit, encI, encT, encC, encA, encE, encL, encTask, encB]; done)) (h2 : IdsS (σ ++ [o]).length (σ ++ [o]) := by assumption) : Ghost σ.length nt s (σ ++ o :: g) s' (σ ++ [o]) := .keep1 o (Nat.le_refl _) h1 h2
theorem ghL {l : Store} (h2 : IdsS (σ ++ l).length (σ ++ l)) (h1 : TellW s (σ.length + l.length) s' := by simp only [TellW, lk, Nat.reduceBEq, cond_true, cond_false, and_true, List.length_cons, List.length_nil, Nat.reduceAdd]; and_intros <;> first | exact Wk.refl _ | exact Wk.unk _ _ | exact Wk.fresh _ _ | exact Wk.fresh0 _ | exact Wk.slice _ (WkLL.one (WkL.one (Wk.unk _ _))) | exact Wk.slice _ (WkLL.one (WkL.one (Wk.fresh _ _))) | exact Wk.any _ | first | assumption | exact .int _ _ | exact .bool _ | exact .str _ | exact .any | exact .mapnil | exact .ptr _ _ (by omega) | exact .ref _ _ _ _ (by omega) | exact .vec _ _ _ (by omega) | exact .map _ (by omega) | exact ids_mapE _ | exact ids_mapF _ | exact ids_growE (by omega) _ | exact ids_aggE _ | (refine ids_up ?_ (by assumption); omega) | exact ids_func0 _ | exact ids_nil _ (by simp) | (simp only [encLit, encI, encT, encC, encA, encE, encL, encTask, encB]; done)) : Ghost σ.length nt s (σ ++ (l ++ g)) s' (σ ++ l) := .keepL l rfl (Nat.le_refl _) h1 h2
theorem ghL0 {l : Store} (h2 : IdsS (σ ++ l).length (σ ++ l)) (h1 : TellW s (σ.length + l.length) s' := by simp only [TellW, lk, Nat.reduceBEq, cond_true, cond_false, and_true, List.length_cons, List.length_nil, Nat.reduceAdd]; and_intros <;> first | exact Wk.refl _ | exact Wk.unk _ _ | exact Wk.fresh _ _ | exact Wk.fresh0 _ | exact Wk.slice _ (WkLL.one (WkL.one (Wk.unk _ _))) | exact Wk.slice _ (WkLL.one (WkL.one (Wk.fresh _ _))) | exact Wk.any _ | first | assumption | exact .int _ _ | exact .bool _ | exact .str _ | exact .any | exact .mapnil | exact .ptr _ _ (by omega) | exact .ref _ _ _ _ (by omega) | exact .vec _ _ _ (by omega) | exact .map _ (by omega) | exact ids_mapE _ | exact ids_mapF _ | exact ids_growE (by omega) _ | exact ids_aggE _ | (refine ids_up ?_ (by assumption); omega) | exact ids_func0 _ | exact ids_nil _ (by simp) | (simp only [encLit, encI, encT, encC, encA, encE, encL, encTask, encB]; done)) : Ghost σ.length nt s (σ ++ l) s' (σ ++ l) := .keepL0 l rfl (Nat.le_refl _) h1 h2
theorem ghM (k : Nat) {o : AObj} (ho : g[k]? = some o := by rfl) (hi : IdsS σ.length σ := by assumption) (hio : IdsO σ.length o := by trivial) (h1 : TellM s (σ.length + k) σ.length s' := by simp only [TellM, lk, Nat.reduceBEq, cond_true, cond_false, and_true, List.length_cons, List.length_nil, Nat.reduceAdd]; and_intros <;> first | exact mv_mapE _ | exact .ref _ _ _ | exact .ptr _ | exact .map | exact .keep (.refl _) (by first | assumption | exact .int _ _ | exact .bool _ | exact .str _ | exact .any | exact .mapnil | exact .ptr _ _ (by omega) | exact .ref _ _ _ _ (by omega) | exact .vec _ _ _ (by omega) | exact .map _ (by omega) | exact ids_mapE _ | exact ids_mapF _ | exact ids_growE (by omega) _ | exact ids_aggE _ | (refine ids_up ?_ (by assumption); omega) | exact ids_func0 _ | exact ids_nil _ (by simp) | (simp only [encLit, encI, encT, encC, encA, encE, encL, encTask, encB]; done)) | exact .keep (Wk.unk _ _) (by first | assumption | exact .int _ _ | exact .bool _ | exact .str _ | exact .any | exact .mapnil | exact .ptr _ _ (by omega) | exact .ref _ _ _ _ (by omega) | exact .vec _ _ _ (by omega) | exact .map _ (by omega) | exact ids_mapE _ | exact ids_mapF _ | exact ids_growE (by omega) _ | exact ids_aggE _ | (refine ids_up ?_ (by assumption); omega) | exact ids_func0 _ | exact ids_nil _ (by simp) | (simp only [encLit, encI, encT, encC, encA, encE, encL, encTask, encB]; done)) | exact .keep (Wk.fresh _ _) (by first | assumption | exact .int _ _ | exact .bool _ | exact .str _ | exact .any | exact .mapnil | exact .ptr _ _ (by omega) | exact .ref _ _ _ _ (by omega) | exact .vec _ _ _ (by omega) | exact .map _ (by omega) | exact ids_mapE _ | exact ids_mapF _ | exact ids_growE (by omega) _ | exact ids_aggE _ | (refine ids_up ?_ (by assumption); omega) | exact ids_func0 _ | exact ids_nil _ (by simp) | (simp only [encLit, encI, encT, encC, encA, encE, encL, encTask, encB]; done))) : Ghost σ.length nt s (σ ++ g) s' (σ ++ [o]) :=
  .moved _ k _ (Nat.le_refl _) ho hi hio h1
theorem tellT {n : Nat} (h : TellW s n s' := by simp only [TellW, lk, Nat.reduceBEq, cond_true, cond_false, and_true, List.length_cons, List.length_nil, Nat.reduceAdd]; and_intros <;> first | exact Wk.refl _ | exact Wk.unk _ _ | exact Wk.fresh _ _ | exact Wk.fresh0 _ | exact Wk.slice _ (WkLL.one (WkL.one (Wk.unk _ _))) | exact Wk.slice _ (WkLL.one (WkL.one (Wk.fresh _ _))) | exact Wk.any _ | first | assumption | exact .int _ _ | exact .bool _ | exact .str _ | exact .any | exact .mapnil | exact .ptr _ _ (by omega) | exact .ref _ _ _ _ (by omega) | exact .vec _ _ _ (by omega) | exact .map _ (by omega) | exact ids_mapE _ | exact ids_mapF _ | exact ids_growE (by omega) _ | exact ids_aggE _ | (refine ids_up ?_ (by assumption); omega) | exact ids_func0 _ | exact ids_nil _ (by simp) | (simp only [encLit, encI, encT, encC, encA, encE, encL, encTask, encB]; done)) : TellW s n s' := h
variable {R : Cont} {t u : Nat}
theorem rtk (v : AV) (h : R v σ) (hσ : IdsS σ.length σ := by assumption) (hw : Wk (lk s t) v := by first | exact Wk.refl _ | exact Wk.unk _ _ | exact Wk.fresh _ _ | exact Wk.fresh0 _ | exact Wk.any _) (hi : Ids σ.length v := by first | assumption | exact .int _ _ | exact .bool _ | exact .str _ | exact .any | exact .mapnil | exact .ptr _ _ (by omega) | exact .ref _ _ _ _ (by omega) | exact .vec _ _ _ (by omega) | exact .map _ (by omega) | exact ids_mapE _ | exact ids_mapF _ | exact ids_growE (by omega) _ | exact ids_aggE _ | (refine ids_up ?_ (by assumption); omega) | exact ids_func0 _ | exact ids_nil _ (by simp) | (simp only [encLit, encI, encT, encC, encA, encE, encL, encTask, encB]; done)) : bodyK [.tmp t] σ.length nt R .ret s (σ ++ g) := ret_k v hσ hw hi h
theorem rtk0 (v : AV) (h : R v σ) (hσ : IdsS σ.length σ := by assumption) (hw : Wk (lk s t) v := by first | exact Wk.refl _ | exact Wk.unk _ _ | exact Wk.fresh _ _ | exact Wk.fresh0 _ | exact Wk.any _) (hi : Ids σ.length v := by first | assumption | exact .int _ _ | exact .bool _ | exact .str _ | exact .any | exact .mapnil | exact .ptr _ _ (by omega) | exact .ref _ _ _ _ (by omega) | exact .vec _ _ _ (by omega) | exact .map _ (by omega) | exact ids_mapE _ | exact ids_mapF _ | exact ids_growE (by omega) _ | exact ids_aggE _ | (refine ids_up ?_ (by assumption); omega) | exact ids_func0 _ | exact ids_nil _ (by simp) | (simp only [encLit, encI, encT, encC, encA, encE, encL, encTask, encB]; done)) : bodyK [.tmp t] σ.length nt R .ret s σ := ret_k0 v hσ hw hi h
theorem wkS {a b : AV} (h : Wk a b := by first | exact Wk.refl _ | exact Wk.unk _ _ | exact Wk.fresh _ _ | exact Wk.fresh0 _ | exact Wk.any _) : Wk a b := h
theorem rtw {v : AV} (hw : Wk (lk s t) v) (h : R v σ) (hσ : IdsS σ.length σ := by assumption) (hi : Ids σ.length v := by first | assumption | exact .int _ _ | exact .bool _ | exact .str _ | exact .any | exact .mapnil | exact .ptr _ _ (by omega) | exact .ref _ _ _ _ (by omega) | exact .vec _ _ _ (by omega) | exact .map _ (by omega) | exact ids_mapE _ | exact ids_mapF _ | exact ids_growE (by omega) _ | exact ids_aggE _ | (refine ids_up ?_ (by assumption); omega) | exact ids_func0 _ | exact ids_nil _ (by simp) | (simp only [encLit, encI, encT, encC, encA, encE, encL, encTask, encB]; done)) : bodyK [.tmp t] σ.length nt R .ret s (σ ++ g) := ret_k v hσ hw hi h
theorem rtw0 {v : AV} (hw : Wk (lk s t) v) (h : R v σ) (hσ : IdsS σ.length σ := by assumption) (hi : Ids σ.length v := by first | assumption | exact .int _ _ | exact .bool _ | exact .str _ | exact .any | exact .mapnil | exact .ptr _ _ (by omega) | exact .ref _ _ _ _ (by omega) | exact .vec _ _ _ (by omega) | exact .map _ (by omega) | exact ids_mapE _ | exact ids_mapF _ | exact ids_growE (by omega) _ | exact ids_aggE _ | (refine ids_up ?_ (by assumption); omega) | exact ids_func0 _ | exact ids_nil _ (by simp) | (simp only [encLit, encI, encT, encC, encA, encE, encL, encTask, encB]; done)) : bodyK [.tmp t] σ.length nt R .ret s σ := ret_k0 v hσ hw hi h
theorem rtx {v x : AV} (hw : Wk (lk s t) v) (hx : Wk (lk s u) x) (h : R (.tuple [v, x]) σ) (hσ : IdsS σ.length σ := by assumption) (htu : (t == u) = false := by rfl) (hi : Ids σ.length v := by first | assumption | exact .int _ _ | exact .bool _ | exact .str _ | exact .any | exact .mapnil | exact .ptr _ _ (by omega) | exact .ref _ _ _ _ (by omega) | exact .vec _ _ _ (by omega) | exact .map _ (by omega) | exact ids_mapE _ | exact ids_mapF _ | exact ids_growE (by omega) _ | exact ids_aggE _ | (refine ids_up ?_ (by assumption); omega) | exact ids_func0 _ | exact ids_nil _ (by simp) | (simp only [encLit, encI, encT, encC, encA, encE, encL, encTask, encB]; done)) (hj : Ids σ.length x := by first | assumption | exact .int _ _ | exact .bool _ | exact .str _ | exact .any | exact .mapnil | exact .ptr _ _ (by omega) | exact .ref _ _ _ _ (by omega) | exact .vec _ _ _ (by omega) | exact .map _ (by omega) | exact ids_mapE _ | exact ids_mapF _ | exact ids_growE (by omega) _ | exact ids_aggE _ | (refine ids_up ?_ (by assumption); omega) | exact ids_func0 _ | exact ids_nil _ (by simp) | (simp only [encLit, encI, encT, encC, encA, encE, encL, encTask, encB]; done)) :
    bodyK [.tmp t, .tmp u] σ.length nt R .ret s (σ ++ g) := ret_l v x hσ htu hw hx hi hj h
theorem rtx0 {v x : AV} (hw : Wk (lk s t) v) (hx : Wk (lk s u) x) (h : R (.tuple [v, x]) σ) (hσ : IdsS σ.length σ := by assumption) (htu : (t == u) = false := by rfl) (hi : Ids σ.length v := by first | assumption | exact .int _ _ | exact .bool _ | exact .str _ | exact .any | exact .mapnil | exact .ptr _ _ (by omega) | exact .ref _ _ _ _ (by omega) | exact .vec _ _ _ (by omega) | exact .map _ (by omega) | exact ids_mapE _ | exact ids_mapF _ | exact ids_growE (by omega) _ | exact ids_aggE _ | (refine ids_up ?_ (by assumption); omega) | exact ids_func0 _ | exact ids_nil _ (by simp) | (simp only [encLit, encI, encT, encC, encA, encE, encL, encTask, encB]; done)) (hj : Ids σ.length x := by first | assumption | exact .int _ _ | exact .bool _ | exact .str _ | exact .any | exact .mapnil | exact .ptr _ _ (by omega) | exact .ref _ _ _ _ (by omega) | exact .vec _ _ _ (by omega) | exact .map _ (by omega) | exact ids_mapE _ | exact ids_mapF _ | exact ids_growE (by omega) _ | exact ids_aggE _ | (refine ids_up ?_ (by assumption); omega) | exact ids_func0 _ | exact ids_nil _ (by simp) | (simp only [encLit, encI, encT, encC, encA, encE, encL, encTask, encB]; done)) :
    bodyK [.tmp t, .tmp u] σ.length nt R .ret s σ := ret_l0 v x hσ htu hw hx hi hj h
theorem rtl (v x : AV) (h : R (.tuple [v, x]) σ) (hσ : IdsS σ.length σ := by assumption) (htu : (t == u) = false := by rfl) (hw : Wk (lk s t) v := by first | exact Wk.refl _ | exact Wk.unk _ _ | exact Wk.fresh _ _ | exact Wk.fresh0 _ | exact Wk.any _) (hx : Wk (lk s u) x := by first | exact Wk.refl _ | exact Wk.unk _ _ | exact Wk.fresh _ _ | exact Wk.fresh0 _ | exact Wk.any _) (hi : Ids σ.length v := by first | assumption | exact .int _ _ | exact .bool _ | exact .str _ | exact .any | exact .mapnil | exact .ptr _ _ (by omega) | exact .ref _ _ _ _ (by omega) | exact .vec _ _ _ (by omega) | exact .map _ (by omega) | exact ids_mapE _ | exact ids_mapF _ | exact ids_growE (by omega) _ | exact ids_aggE _ | (refine ids_up ?_ (by assumption); omega) | exact ids_func0 _ | exact ids_nil _ (by simp) | (simp only [encLit, encI, encT, encC, encA, encE, encL, encTask, encB]; done)) (hj : Ids σ.length x := by first | assumption | exact .int _ _ | exact .bool _ | exact .str _ | exact .any | exact .mapnil | exact .ptr _ _ (by omega) | exact .ref _ _ _ _ (by omega) | exact .vec _ _ _ (by omega) | exact .map _ (by omega) | exact ids_mapE _ | exact ids_mapF _ | exact ids_growE (by omega) _ | exact ids_aggE _ | (refine ids_up ?_ (by assumption); omega) | exact ids_func0 _ | exact ids_nil _ (by simp) | (simp only [encLit, encI, encT, encC, encA, encE, encL, encTask, encB]; done)) :
    bodyK [.tmp t, .tmp u] σ.length nt R .ret s (σ ++ g) := ret_l v x hσ htu hw hx hi hj h
theorem rtl0 (v x : AV) (h : R (.tuple [v, x]) σ) (hσ : IdsS σ.length σ := by assumption) (htu : (t == u) = false := by rfl) (hw : Wk (lk s t) v := by first | exact Wk.refl _ | exact Wk.unk _ _ | exact Wk.fresh _ _ | exact Wk.fresh0 _ | exact Wk.any _) (hx : Wk (lk s u) x := by first | exact Wk.refl _ | exact Wk.unk _ _ | exact Wk.fresh _ _ | exact Wk.fresh0 _ | exact Wk.any _) (hi : Ids σ.length v := by first | assumption | exact .int _ _ | exact .bool _ | exact .str _ | exact .any | exact .mapnil | exact .ptr _ _ (by omega) | exact .ref _ _ _ _ (by omega) | exact .vec _ _ _ (by omega) | exact .map _ (by omega) | exact ids_mapE _ | exact ids_mapF _ | exact ids_growE (by omega) _ | exact ids_aggE _ | (refine ids_up ?_ (by assumption); omega) | exact ids_func0 _ | exact ids_nil _ (by simp) | (simp only [encLit, encI, encT, encC, encA, encE, encL, encTask, encB]; done)) (hj : Ids σ.length x := by first | assumption | exact .int _ _ | exact .bool _ | exact .str _ | exact .any | exact .mapnil | exact .ptr _ _ (by omega) | exact .ref _ _ _ _ (by omega) | exact .vec _ _ _ (by omega) | exact .map _ (by omega) | exact ids_mapE _ | exact ids_mapF _ | exact ids_growE (by omega) _ | exact ids_aggE _ | (refine ids_up ?_ (by assumption); omega) | exact ids_func0 _ | exact ids_nil _ (by simp) | (simp only [encLit, encI, encT, encC, encA, encE, encL, encTask, encB]; done)) :
    bodyK [.tmp t, .tmp u] σ.length nt R .ret s σ := ret_l0 v x hσ htu hw hx hi hj h
end
end Go.Ahl
/- The abstract layer, part 24: a contract as a call. -/
namespace Go.Ahl
theorem ACalls.calls {P : Program} {f : FuncId} {fn : Func} {args : List AV} {σ : Store} {R : Cont} (h : ACalls P f args σ R) (hf : P.funcs[f]? = some fn) (hb : fn.body.isSome = true) (hn : fn.name ≠ "runtime.NumGoroutine")
    {m : Mem} {loc : List Loc} {w : World} {vs : Array Value} (hs : SRel m loc σ w) (ha : ArgsRel m loc args vs) : Calls P f vs w fun e w' => ∃ v, e = .returned v ∧ ARet loc m w R v w' := by
  rcases h m loc w vs hs ha with ⟨_, _, _, _, h⟩ | ⟨v, w', h, _⟩
  · exact h
  · have he : (callFunc f vs).run P w = .ok (.enter f vs) w := by
      unfold callFunc
      have hp : (program : Sem Program).run P w = .ok P w := rfl
      rw [Sem.run_bind, hp]
      simp only [Result.andThen_ok, hf]
      have hb2 : fn.body.isNone = false := by cases hq : fn.body <;> rw [hq] at hb <;> simp at hb ⊢
      rw [if_neg (by simpa using hn), hb2]
      rfl
    rw [he] at h; simp at h
end Go.Ahl
/- The abstract layer, part 23: from the readings of a call's arguments to abstract values; a law's statement. -/
namespace Go.Ahl
/-- All of a world's memory, as what never changes. -/
def memOf (w : World) : Mem where
  im b o := w.cell? ⟨b, o, none⟩
  bs b := match w.heap[b]? with
    | some (.cells arr _ _) => some arr.size
    | _ => none
  mp _ := none
  wk _ _ := none
  base := w.heap.size
theorem srel_memOf (w : World) : SRel (memOf w) [] [] w where
  len := rfl
  im := fun _ _ _ h => h
  bs := fun b n h => by
    simp only [memOf] at h
    split at h
    · rename_i arr t fz hb
      injection h with h
      exact ⟨arr, t, fz, hb, h⟩
    · simp at h
  obj := by intro i l o h; simp at h
  inj := by intro i j l l' o o' b h; simp at h
  lt := by rintro b ⟨i, e | ⟨_, _, _, e, _⟩⟩ <;> simp at e
  mp := fun b e h => by simp [memOf] at h
  mpo := by intro i l o b h; simp at h
  ok := ⟨Nat.le_refl _, by rintro b ⟨i, e | ⟨_, _, _, e, _⟩⟩ <;> simp at e, fun b o K h => by simp [memOf] at h, fun b o v q e => by
    have := World.block_lt_of_cell? w ⟨b, o, none⟩ e
    have q : w.heap.size ≤ b := q
    simp only at this; omega⟩
/-- What type t's readings are, as data. -/
def Reads (P : Program) (t : TypeId) {α : Type} (f : α → List AV) (ok : α → Prop) : Prop :=
  ∀ (H : Type) (enc : TypeId × Value → H) (w : World) (fuel : Nat) (cs : List Value) (d : DataW H) (ps : List MemPlace),
    DataW.trod enc P w 0 (fun _ => true) true fuel t cs = some (d, ps) → (∀ x ∈ d.weights P t, x ≤ reachBytes) → ∃ x, ok x ∧ Cells (memOf w) [] (f x) cs
section
variable {P : Program} {t e : TypeId}
theorem Reads.conv {α β : Type} {f : α → List AV} {g : β → List AV} {ok : α → Prop} {ok' : β → Prop} (h : Reads P t f ok) (c : α → β) (hc : ∀ x, g (c x) = f x) (ho : ∀ x, ok x → ok' (c x)) : Reads P t g ok' := by
  intro H enc w fuel cs d ps ht hw
  obtain ⟨x, h1, h2⟩ := h H enc w fuel cs d ps ht hw
  exact ⟨c x, ho x h1, by rw [hc]; exact h2⟩
theorem cells_one {m : Mem} {x : AV} {v : Value} (h : Rel m [] x v) : Cells m [] [x] [v] := .cons h .nil
theorem Reads.bool (ht : P.underlying t = some .bool) : Reads P t encB (fun _ => True) := by
  intro H enc w fuel cs d ps h hw
  cases fuel with
  | zero => simp [DataW.trod] at h
  | succ n =>
    simp only [DataW.trod, ht] at h
    split at h <;> simp_all
    rename_i b
    cases b
    · exact .inl (cells_one (.bool _))
    · exact .inr (cells_one (.bool _))
theorem Reads.int (ht : P.underlying t = some (.int .i64)) : Reads P t encI (fun n => -9223372036854775808 ≤ n ∧ n ≤ 9223372036854775807) := by
  intro H enc w fuel cs d ps h hw
  cases fuel with
  | zero => simp [DataW.trod] at h
  | succ n =>
    simp only [DataW.trod, ht] at h
    split at h <;> try (simp_all; done)
    rename_i k k' nn hk
    have hk : IntKind.i64 = k := by injection hk with q; injection q
    subst hk
    split at h
    · rename_i hc
      obtain ⟨rfl, hwf⟩ := hc
      refine ⟨nn, ?_, cells_one (.int _ _)⟩
      simpa [Lit.wf, IntKind.min, IntKind.max, IntKind.signed, IntKind.bits] using hwf
    · simp at h
theorem Reads.str (ht : P.underlying t = some .string) : Reads P t encT (fun s => s.size ≤ 140737488355328) := by
  intro H enc w fuel cs d ps h hw
  cases fuel with
  | zero => simp [DataW.trod] at h
  | succ n =>
    simp only [DataW.trod, ht] at h
    split at h <;> simp_all
    rename_i s
    obtain ⟨_, rfl, _⟩ := h
    refine ⟨s, ?_, cells_one (.str _)⟩
    have := hw s.data.toList.length (by simp [DataW.weights])
    have h2 : s.size = s.data.toList.length := rfl
    simp only [reachBytes] at this
    omega
theorem mapM_get {α β : Type} (f : α → Option β) : ∀ (l : List α) (r : List β), l.mapM f = some r → r.length = l.length ∧ ∀ (i : Nat) x, l[i]? = some x → ∃ y, f x = some y ∧ r[i]? = some y
  | [], r, h => by simp at h; subst h; simp
  | a :: l, r, h => by
    rw [List.mapM_cons] at h
    cases ha : f a with
    | none => rw [ha] at h; simp at h
    | some y =>
      cases hl : l.mapM f with
      | none => rw [ha, hl] at h; simp at h
      | some r' =>
        rw [ha, hl] at h; simp at h; subst h
        obtain ⟨q1, q2⟩ := mapM_get f l r' hl
        refine ⟨by simp [q1], ?_⟩
        intro i x hx
        cases i with
        | zero => simp at hx; subst hx; exact ⟨y, ha, by simp⟩
        | succ i => simp at hx; simpa using q2 i x hx
theorem weightsAll_mem {H : Type} {d : DataW H} : ∀ {l : List (DataW H)}, d ∈ l → ∀ x ∈ d.weights P e, x ∈ DataW.weightsAll P e l
  | [], h, _, _ => by simp at h
  | a :: l, h, x, hx => by
    rw [DataW.weightsAll, List.mem_append]
    rcases List.mem_cons.1 h with rfl | h
    · exact .inl hx
    · exact .inr (weightsAll_mem h x hx)
/-- A choice for each number below n. -/
theorem choose_list {α : Type} {p : Nat → α → Prop} : ∀ n : Nat, (∀ i, i < n → ∃ x, p i x) → ∃ l : List α, l.length = n ∧ ∀ (i : Nat) x, l[i]? = some x → p i x
  | 0, _ => ⟨[], rfl, by simp⟩
  | n + 1, h => by
    obtain ⟨l, h1, h2⟩ := choose_list n (fun i hi => h i (by omega))
    obtain ⟨x, hx⟩ := h n (by omega)
    refine ⟨l ++ [x], by simp [h1], ?_⟩
    intro i y hy
    rw [List.getElem?_append] at hy
    split at hy
    · exact h2 i y hy
    · have := lt_of_get hy; simp at this
      have hi : i = n := by omega
      subst hi; rw [h1, Nat.sub_self] at hy; simp at hy; subst hy; exact hx
theorem cells?_some {w : World} {a : Addr} {n : Nat} {cs : List Value} (h : w.cells? 0 a n = some cs) : cs.length = n ∧ ∀ (j : Nat) v, cs[j]? = some v → w.cell? (a.add j) = some v := by
  unfold World.cells? at h
  rw [if_pos (Nat.zero_le _)] at h
  obtain ⟨h1, h2⟩ := mapM_get _ _ _ h
  refine ⟨by simpa using h1, ?_⟩
  intro j v hv
  have hj : j < n := by have := lt_of_get hv; simp at h1; omega
  obtain ⟨y, h3, h4⟩ := h2 j j (by rw [List.getElem?_range hj])
  rw [hv] at h4; injection h4 with h4; subst h4; exact h3
/-- A list that memory can hold, of such elements. -/
def okL {α : Type} (ok : α → Prop) (l : List α) : Prop := l.length ≤ 140737488355328 ∧ ∀ x ∈ l, ok x
theorem Reads.slice {α : Type} {f : α → List AV} {ok : α → Prop} (ht : P.underlying t = some (.slice e)) (hb : 0 < P.bytesOf e) (hc0 : 0 < P.cellsOf e) (he : Reads P e f ok) :
    Reads P t (encS f) (okL ok) := by
  intro H enc w fuel cs d ps h hw
  cases fuel with
  | zero => simp [DataW.trod] at h
  | succ n =>
    simp only [DataW.trod, ht] at h
    split at h
    all_goals first | (simp at h; done) | skip
    all_goals try (rename_i heq; simp at heq; done)
    · simp at h
      refine ⟨[], ⟨by simp, by simp⟩, cells_one ?_⟩
      exact .slice .unk [] none 0 0 0 0 (fun _ _ => undef) (Nat.le_refl _) trivial (by simp) (fun h => absurd rfl h) (fun i hi => absurd hi (by simp)) (by simp)
    · rename_i e' a len cap heq
      have heq' : e = e' := by injection heq with q; injection q
      subst heq'
      split at h
      · rename_i hc
        obtain ⟨_, hcap, _⟩ := hc
        cases hm : (List.range len).mapM (fun i => (w.cells? 0 (a.add (i * P.cellsOf e)) (P.cellsOf e)).bind (DataW.trod enc P w 0 (fun _ => true) true n e)) with
        | none => rw [hm] at h; simp at h
        | some elems =>
          rw [hm] at h
          simp only [Option.bind_some, if_true, Option.map_eq_some_iff] at h
          obtain ⟨rest, hr, hd⟩ := h
          injection hd with hd1 hd2
          subst hd1
          obtain ⟨q1, q2⟩ := mapM_get _ _ _ hm
          simp only [List.length_range] at q1
          have hwt : ∀ x ∈ ((elems.map (·.1)).length + (rest.map (·.1)).length) * P.bytesOf e :: (DataW.weightsAll P e (elems.map (·.1)) ++ DataW.weightsAll P e (rest.map (·.1))), x ≤ reachBytes := by
            intro x hx; apply hw x; simp only [DataW.weights, ht]; exact hx
          have hlen : len ≤ 140737488355328 := by
            have h1 := hwt _ List.mem_cons_self
            simp only [List.length_map, q1, reachBytes] at h1
            have h2 : len + rest.length ≤ (len + rest.length) * P.bytesOf e := Nat.le_mul_of_pos_right _ hb
            omega
          have key : ∀ i, i < len → ∃ x, ok x ∧ ∃ cs, Cells (memOf w) [] (f x) cs ∧ cs.length = P.cellsOf e ∧ ∀ (j : Nat) v, cs[j]? = some v → w.cell? ((a.add (i * P.cellsOf e)).add j) = some v := by
            intro i hi
            obtain ⟨y, h3, h4⟩ := q2 i i (by rw [List.getElem?_range hi])
            cases hcs : w.cells? 0 (a.add (i * P.cellsOf e)) (P.cellsOf e) with
            | none => rw [hcs] at h3; simp at h3
            | some cs =>
              rw [hcs] at h3
              obtain ⟨y1, y2⟩ := y
              simp only [Option.bind_some] at h3
              obtain ⟨x, hx1, hx2⟩ := he H enc w n cs y1 y2 h3 (fun z hz => hwt z (List.mem_cons_of_mem _ (List.mem_append_left _ (weightsAll_mem (List.mem_map.2 ⟨_, List.mem_of_getElem? h4, rfl⟩) z hz))))
              obtain ⟨c1, c2⟩ := cells?_some hcs
              exact ⟨x, hx1, cs, hx2, c1, c2⟩
          obtain ⟨l, hl1, hl2⟩ := choose_list len key
          refine ⟨l, ⟨by omega, fun x hx => ?_⟩, cells_one ?_⟩
          · obtain ⟨i, hi, rfl⟩ := List.mem_iff_getElem.1 hx
            exact (hl2 i _ (List.getElem?_eq_getElem hi)).1
          · obtain ⟨ab, ao, ap⟩ := a
            by_cases hz : len = 0
            · have : l = [] := List.length_eq_zero_iff.1 (by omega)
              subst this; subst hz
              exact .slice .unk [] (some ⟨ab, ao, ap⟩) cap 0 0 0 (fun _ _ => undef) (Nat.zero_le _) trivial (by simp) (fun h => absurd rfl h) (fun i hi => absurd hi (by simp)) (by simp)
            have hap : ap = none := by
              obtain ⟨x, hx⟩ : ∃ x, l[0]? = some x := get_ex (by omega)
              obtain ⟨_, cs, _, c1, c2⟩ := hl2 0 x hx
              obtain ⟨v, hv⟩ : ∃ v, cs[0]? = some v := get_ex (by omega)
              have := c2 0 v hv
              cases ap with
              | none => rfl
              | some q => simp [World.cell?, Addr.add] at this; split at this <;> simp at this
            subst hap
            have hadd : ∀ i j, ((⟨ab, ao, none⟩ : Addr).add (i * P.cellsOf e)).add j = ⟨ab, ao + (i * P.cellsOf e + j), none⟩ := by
              intro i j; rw [add_at, add_at]; congr 1; omega
            have hcl : ∀ (i : Nat) x, l[i]? = some x → (f x).length = P.cellsOf e := by
              intro i x hx
              obtain ⟨_, cs, c0, c1, _⟩ := hl2 i x hx
              rw [← c0.1, c1]
            have hval : ∀ i, i < len → ∀ j, j < P.cellsOf e → ∃ v, w.cell? ⟨ab, ao + (i * P.cellsOf e + j), none⟩ = some v := by
              intro i hi j hj
              obtain ⟨x, hx⟩ : ∃ x, l[i]? = some x := get_ex (by omega)
              obtain ⟨_, cs, _, c1, c2⟩ := hl2 i x hx
              obtain ⟨v, hv⟩ : ∃ v, cs[j]? = some v := get_ex (by omega)
              exact ⟨v, by rw [← hadd]; exact c2 j v hv⟩
            have hR := Rel.slice (m := memOf w) (loc := []) .unk (l.map f) (some ⟨ab, ao, none⟩) cap (P.cellsOf e) ab ao (fun i j => (w.cell? ⟨ab, ao + (i * P.cellsOf e + j), none⟩).getD undef)
              (by simp; omega) trivial ?_ (fun _ => rfl) ?_ ?_
            · rw [List.length_map, hl1] at hR; exact hR
            · intro y hy
              obtain ⟨x, hx, rfl⟩ := List.mem_map.1 hy
              obtain ⟨i, hi, rfl⟩ := List.mem_iff_getElem.1 hx
              exact hcl i _ (List.getElem?_eq_getElem hi)
            · intro i hi j hj
              simp only [List.length_map, hl1] at hi
              obtain ⟨v, hv⟩ := hval i hi j hj
              show w.cell? _ = _
              rw [hv]; rfl
            · intro i y hy j z hz'
              rw [List.getElem?_map] at hy
              cases hx : l[i]? with
              | none => rw [hx] at hy; simp at hy
              | some x =>
                rw [hx] at hy; simp at hy; subst hy
                obtain ⟨_, cs, c0, c1, c2⟩ := hl2 i x hx
                have hj : j < P.cellsOf e := by have := lt_of_get hz'; rw [hcl i x hx] at this; exact this
                obtain ⟨v, hv⟩ : ∃ v, cs[j]? = some v := get_ex (by omega)
                have h5 := c2 j v hv
                rw [hadd] at h5
                simp only [h5, Option.getD_some]
                exact c0.2 j z v hz' hv
      · simp at h
/-- The readings of a struct's fields, from cell 'off' on. -/
def ReadsFs (P : Program) (off : Nat) (fs : List Field) {α : Type} (f : α → List AV) (ok : α → Prop) : Prop :=
  ∀ (H : Type) (enc : TypeId × Value → H) (w : World) (fuel : Nat) (cs : List Value) (xs : List (DataW H × List MemPlace)),
    cs.length = off + (fs.map fun f => P.cellsOf f.type).sum →
    fs.mapM (fun f => DataW.trod enc P w 0 (fun _ => true) true fuel f.type ((cs.drop f.offset).take (P.cellsOf f.type))) = some xs → (∀ x ∈ DataW.weightsEach P (fs.map (·.type)) (xs.map (·.1)), x ≤ reachBytes) →
    ∃ x, ok x ∧ Cells (memOf w) [] (f x) (cs.drop off)
theorem ReadsFs.nil (off : Nat) : ReadsFs P off [] (fun _ : Unit => []) (fun _ => True) := by
  intro H enc w fuel cs xs hl hm hw
  refine ⟨(), trivial, ?_⟩
  rw [List.drop_eq_nil_of_le (by simp at hl; omega)]
  exact .nil
theorem ReadsFs.cons {off : Nat} {fd : Field} {fs : List Field} {α β : Type} {f : α → List AV} {g : β → List AV} {ok : α → Prop} {ok' : β → Prop} (ho : fd.offset = off) (h : Reads P fd.type f ok) (hr : ReadsFs P (off + P.cellsOf fd.type) fs g ok') :
    ReadsFs P off (fd :: fs) (fun x : α × β => f x.1 ++ g x.2) (fun x => ok x.1 ∧ ok' x.2) := by
  intro H enc w fuel cs xs hl hm hw
  rw [List.mapM_cons] at hm
  cases ha : DataW.trod enc P w 0 (fun _ => true) true fuel fd.type ((cs.drop fd.offset).take (P.cellsOf fd.type)) with
  | none => rw [ha] at hm; simp at hm
  | some y =>
    cases hb : fs.mapM (fun f => DataW.trod enc P w 0 (fun _ => true) true fuel f.type ((cs.drop f.offset).take (P.cellsOf f.type))) with
    | none => rw [ha, hb] at hm; simp at hm
    | some ys =>
      rw [ha, hb] at hm; simp at hm; subst hm
      obtain ⟨d, ps⟩ := y
      have hw' : ∀ x ∈ d.weights P fd.type ++ DataW.weightsEach P (fs.map (·.type)) (ys.map (·.1)), x ≤ reachBytes := by
        intro x hx; apply hw x; simp only [List.map_cons, DataW.weightsEach]; exact hx
      obtain ⟨x, h1, h2⟩ := h H enc w fuel _ d ps ha (fun z hz => hw' z (List.mem_append_left _ hz))
      obtain ⟨y, h3, h4⟩ := hr H enc w fuel cs ys (by simp only [List.map_cons, List.sum_cons] at hl; omega) hb (fun z hz => hw' z (List.mem_append_right _ hz))
      refine ⟨(x, y), ⟨h1, h3⟩, ?_⟩
      have := h2.append h4
      rw [ho, ← List.drop_drop, List.take_append_drop] at this
      exact this
theorem Reads.struct {fs : Array Field} {α : Type} {f : α → List AV} {ok : α → Prop} (ht : P.underlying t = some (.struct fs)) (hc : P.cellsOf t = (fs.toList.map fun f => P.cellsOf f.type).sum) (h : ReadsFs P 0 fs.toList f ok) : Reads P t f ok := by
  intro H enc w fuel cs d ps hx hw
  cases fuel with
  | zero => simp [DataW.trod] at hx
  | succ n =>
    simp only [DataW.trod, ht] at hx
    split at hx
    · rename_i hl
      cases hm : fs.toList.mapM (fun f => DataW.trod enc P w 0 (fun _ => true) true n f.type ((cs.drop f.offset).take (P.cellsOf f.type))) with
      | none => rw [hm] at hx; simp at hx
      | some xs =>
        rw [hm] at hx
        simp only [Option.map_some, Option.some.injEq, Prod.mk.injEq] at hx
        obtain ⟨rfl, _⟩ := hx
        obtain ⟨x, h1, h2⟩ := h H enc w n cs xs (by omega) hm (fun z hz => hw z (by simp only [DataW.weights, ht]; exact hz))
        exact ⟨x, h1, by simpa using h2⟩
    · simp at hx
/-- An argument that is one cell. -/
theorem Reads.arg {α : Type} {f : α → AV} {ok : α → Prop} (h : Reads P t (fun x => [f x]) ok) (hag : ∀ d, P.underlying t = some d → aggB d = false) {H : Type} {enc : TypeId × Value → H} {w : World} {base : Nat} {v : Value} {d : DataW H} {ps : List MemPlace}
    (hv : Value.okWide P w .any base t v) (hd : DataW.Trod enc P w 0 (fun _ => true) true t v d ps) (hw : ∀ x ∈ d.weights P t, x ≤ reachBytes) : ∃ x, ok x ∧ Rel (memOf w) [] (f x) v := by
  obtain ⟨fuel, hf⟩ := hd
  obtain ⟨x, h1, h2⟩ := h H enc w fuel _ d ps hf hw
  refine ⟨x, h1, ?_⟩
  have hone : v.cells = #[v] := by
    cases hu : P.underlying t with
    | none => simp [Value.okWide, hu, Cell.okWide, Cell.ok] at hv
    | some dd =>
      have := hag dd hu
      cases v <;> first | rfl | (cases dd <;> simp [aggB] at this <;> simp [Value.okWide, hu, Cell.okWide, Cell.ok] at hv)
  rw [hone] at h2
  exact h2.2 0 _ _ rfl rfl
/-- An argument that is a struct. -/
theorem Reads.argS {fs : Array Field} {α : Type} {f : α → List AV} {ok : α → Prop} (h : Reads P t f ok) (hu : P.underlying t = some (.struct fs)) {H : Type} {enc : TypeId × Value → H} {w : World} {base : Nat} {v : Value} {d : DataW H} {ps : List MemPlace}
    (hv : Value.okWide P w .any base t v) (hd : DataW.Trod enc P w 0 (fun _ => true) true t v d ps) (hw : ∀ x ∈ d.weights P t, x ≤ reachBytes) : ∃ x, ok x ∧ Rel (memOf w) [] (.agg (f x)) v := by
  obtain ⟨fuel, hf⟩ := hd
  obtain ⟨x, h1, h2⟩ := h H enc w fuel _ d ps hf hw
  refine ⟨x, h1, ?_⟩
  unfold Value.okWide at hv
  rw [hu] at hv
  obtain ⟨cs, rfl, _, _⟩ := hv
  exact .agg _ cs (by have := h2.1; simpa [Value.cells] using this) (fun j x v e1 e2 => h2.2 j x v e1 (by simpa [Value.cells] using e2))
end
open Go.ChangeShapes Go.WideShapes Go.ChangeAt Go.RowKit
section
variable {P : Program}
/-- What an argument of type t is, abstractly. -/
def RArg (P : Program) (t : TypeId) {α : Type} (f : α → AV) (ok : α → Prop) : Prop :=
  ∀ (H : Type) (enc : TypeId × Value → H) (w : World) (base : Nat) (v : Value) (d : DataW H) (ps : List MemPlace), Value.okWide P w .any base t v → DataW.Trod enc P w 0 (fun _ => true) true t v d ps →
    (∀ x ∈ d.weights P t, x ≤ reachBytes) → ∃ x, ok x ∧ Rel (memOf w) [] (f x) v
theorem RArg.one {t : TypeId} {α : Type} {f : α → AV} {ok : α → Prop} (h : Reads P t (fun x => [f x]) ok) (hag : ∀ d, P.underlying t = some d → aggB d = false) : RArg P t f ok := fun H enc w base v d ps hv hd hw => h.arg hag hv hd hw
theorem RArg.agg {t : TypeId} {α : Type} {f : α → List AV} {ok : α → Prop} {fs : Array Field} (h : Reads P t f ok) (hu : P.underlying t = some (.struct fs)) : RArg P t (fun x => .agg (f x)) ok := fun H enc w base v d ps hv hd hw => h.argS hu hv hd hw
/-- Whatever arguments of these types can be read: their abstract values meet Q. -/
def ReadsAll (P : Program) (ts : List TypeId) (Q : List AV → Prop) : Prop :=
  ∀ (H : Type) (enc : TypeId × Value → H) (w : World) (base : Nat) (vs : List Value) (ds : List (DataW H)) (ps : List MemPlace),
    (∀ (j : Nat) t v, ts[j]? = some t → vs[j]? = some v → Value.okWide P w .any base t v) → DataW.TrodAll enc P w 0 (fun _ => true) true ts vs ds ps → (∀ x ∈ DataW.weightsEach P ts ds, x ≤ reachBytes) →
    ∃ avs, Q avs ∧ vs.length = avs.length ∧ ∀ (j : Nat) x v, avs[j]? = some x → vs[j]? = some v → Rel (memOf w) [] x v
theorem ReadsAll.nil {Q : List AV → Prop} (h : Q []) : ReadsAll P [] Q := by
  intro H enc w base vs ds ps hv ht hw
  obtain ⟨rfl, _, _⟩ := trodAll_nil ht
  exact ⟨[], h, rfl, by simp⟩
theorem ReadsAll.cons {t : TypeId} {ts : List TypeId} {α : Type} {f : α → AV} {ok : α → Prop} {Q : List AV → Prop} (h : RArg P t f ok) (hr : ∀ x, ok x → ReadsAll P ts (fun l => Q (f x :: l))) : ReadsAll P (t :: ts) Q := by
  intro H enc w base vs ds ps hv ht hw
  obtain ⟨v, vs', d, ds', p, q, rfl, rfl, rfl, h1, h2⟩ := trodAll_cons ht
  have hw' : ∀ x ∈ d.weights P t ++ DataW.weightsEach P ts ds', x ≤ reachBytes := by intro x hx; apply hw x; simp only [DataW.weightsEach]; exact hx
  obtain ⟨x, o1, r1⟩ := h H enc w base v d p (hv 0 t v rfl rfl) h1 (fun z hz => hw' z (List.mem_append_left _ hz))
  obtain ⟨avs, q1, q2, q3⟩ := hr x o1 H enc w base vs' ds' q (fun j t v a b => hv (j + 1) t v (by simpa using a) (by simpa using b)) h2 (fun z hz => hw' z (List.mem_append_right _ hz))
  refine ⟨f x :: avs, q1, by simp [q2], ?_⟩
  intro j y u hy hu
  cases j with
  | zero => simp at hy hu; subst hy; subst hu; exact r1
  | succ j => simp at hy hu; exact q3 j y u hy hu
theorem below_of_ext {m m' : Mem} {loc' : List Loc} {w w' : World} (h : Ext 0 m [] w m' loc' w') (hz : ∀ b o, m.wk b o = none) : Below w.heap.size w w' :=
  ⟨h.os, h.tape, h.output, h.size, fun b hb => h.frame b hb (by rintro ⟨i, e | ⟨_, _, _, e, _⟩⟩ <;> simp at e) (hz b)⟩
theorem trodAll_stays {H : Type} {enc : TypeId × Value → H} (hl : laidOutB P = true) {W W' : World} {sp : Nat → Bool} : ∀ {ts : List TypeId} {vs : List Value} {ds : List (DataW H)} {ps : List MemPlace}, (∀ t ∈ ts, P.readableRec t = true ∧ t < P.types.size) →
    DataW.TrodAll enc P W 0 (fun _ => true) true ts vs ds ps → (∀ x ∈ ps, W.sameAt W' x) → (∀ x ∈ ps, sp x.block = true) → DataW.TrodAll enc P W' 0 sp true ts vs ds ps
  | [], vs, ds, ps, hr, h, hs, hp => by
    obtain ⟨rfl, rfl, rfl⟩ := trodAll_nil h
    exact trodAll_mk0
  | t :: ts, vs, ds, ps, hr, h, hs, hp => by
    obtain ⟨v, vs', d, ds', p, q, rfl, rfl, rfl, h1, h2⟩ := trodAll_cons h
    have ht := hr t List.mem_cons_self
    refine ⟨p, q, WideElems.Trod_stays hl ht.1 ht.2 h1 (fun x hx => hs x (List.mem_append_left _ hx)) (fun x hx => hp x (List.mem_append_left _ hx)), ?_, rfl⟩
    exact trodAll_stays hl (fun t ht => hr t (List.mem_cons_of_mem _ ht)) h2 (fun x hx => hs x (List.mem_append_right _ hx)) (fun x hx => hp x (List.mem_append_right _ hx))
/-- The change of a call that leaves what was there. -/
theorem post_same {H : Type} {enc : TypeId × Value → H} {f : Func} {s : ChangeSpec} {apart fresh handsOn again : Bool} {W W' : World} {args : Array Value} {v : Value} {ds gs : List (DataW H)} {before pa pv : List MemPlace}
    (hW : DataW.Whole enc P f.params.toList s.vars apart W args.toList ds gs before)
    (hres : ∀ (b : Nat) (sp : Nat → Bool) (hd : Bool), DataW.TrodAll enc P W' b sp hd f.resultTypes.toList (v.resultList f.resultTypes.size) (s.fn H (ds ++ gs)).results [])
    (hargs : ∀ sp : Nat → Bool, (∀ p ∈ before, sp p.block = true) → DataW.TrodAll enc P W' 0 sp true f.params.toList args.toList (s.fn H (ds ++ gs)).args pa)
    (hvars : ∀ sp : Nat → Bool, (∀ p ∈ before, sp p.block = true) → DataW.TrodVars enc P W' sp s.vars (s.fn H (ds ++ gs)).vars pv)
    (hps : before = pa ++ pv) (hk : W.keptBut W' (· ∈ before)) (hfz : ∀ a : Addr, a.block < W.heap.size → W'.frozen? a = W.frozen? a)
    (hok : ∀ (j : Nat) (t : TypeId) (r : Value), f.resultTypes[j]? = some t → (v.resultList f.resultTypes.size)[j]? = some r → Value.okWide P W' .any 0 t r) :
    s.post enc P f apart fresh handsOn again W args v W' := by
  have hold : ∀ p ∈ before, (fun b => decide (b < W.heap.size)) p.block = true := fun p hp => by simpa using hW.lt p hp
  have hlt := hW.lt
  refine ⟨ds, gs, before, [], pa, pv, hW, hres _ _ _, hargs _ hold, hvars _ hold, World.keptBut_mono (fun p hp => ⟨hp, ?_⟩) hk, fun _ => ?_⟩
  · rw [hps, List.mem_append] at hp
    exact Or.inr hp
  · obtain ⟨_, _, _, _, _, hz, hn⟩ := hW
    refine ⟨hok, _, _, ([] ++ pa) ++ pv, ⟨[] ++ pa, pv, trodAll_append (hargs _ (fun _ _ => rfl)) (hres _ _ _), hvars _ (fun _ _ => rfl), rfl, ?_, ?_⟩, ?_⟩
    · intro b off hp
      have hb : MemPlace.cell b off ∈ before := by rw [hps]; simpa using hp
      rw [hfz _ (hlt _ hb)]
      exact hz b off hb
    · intro ha
      have := hn ha
      rw [hps] at this
      simpa using this
    · intro p hp _
      rw [hps]
      simpa using hp
/-- A law's call: it answers true, and its arguments read as before. -/
theorem law_post {H : Type} {enc : TypeId × Value → H} {f : FuncId} {fn : Func} {s : ChangeSpec} {tb : TypeId} (hf : P.funcs[f]? = some fn) (hb : fn.body.isSome = true) (hn : fn.name ≠ "runtime.NumGoroutine")
    (hs0 : s.vars = []) (hs : ∀ ds : List (DataW H), ds.length = fn.params.size → s.fn H ds = { results := [.lit (.bool true)], args := ds })
    (hl : laidOutB P = true) (hr : ∀ t ∈ fn.params.toList, P.readableRec t = true ∧ t < P.types.size) (hres : fn.resultTypes = #[tb]) (hbool : P.underlying tb = some .bool)
    (hA : ReadsAll P fn.params.toList fun avs => ACalls P f avs [] (isR (.bool true) []))
    {W : World} {base : Nat} {args : Array Value} {ds gs : List (DataW H)} {before : List MemPlace} (hval : ∀ (j : Nat) t v, fn.params[j]? = some t → args[j]? = some v → Value.okWide P W .any base t v)
    (hW : DataW.Whole enc P fn.params.toList s.vars false W args.toList ds gs before)
    (hsz : (DataW.weightsEach P (fn.params.toList ++ s.plain.varTypes P) (ds ++ gs)).all (· ≤ reachBytes) = true) :
    Calls P f args W fun e W' => ∃ v, e = .returned v ∧ s.post enc P fn false true false false W args v W' := by
  have hW' := hW
  obtain ⟨p, q, hT, hV, rfl, hfz, hnd⟩ := hW
  rw [hs0] at hV
  obtain ⟨rfl, rfl⟩ := trodVars_none hV
  have hpl : s.plain.varTypes P = [] := by simp [DataSpec.varTypes, ChangeSpec.plain, hs0]
  rw [hpl, List.append_nil, List.append_nil] at hsz
  obtain ⟨avs, h1, h2, h3⟩ := hA H enc W base args.toList ds p (fun j t v a b => hval j t v (by simpa using a) (by simpa using b)) hT (fun x hx => by simpa using List.all_eq_true.1 hsz x hx)
  refine (h1.calls hf hb hn (srel_memOf W) ⟨by simpa using h2, fun j x v a b => h3 j x v a (by simpa using b)⟩).mono ?_
  rintro e W' ⟨v, rfl, r, σ', m', loc', ⟨rfl, rfl⟩, hrel, hsr, hext⟩
  have hv : v = .bool true := by cases hrel; rfl
  subst hv
  have hbl := below_of_ext hext (fun _ _ => rfl)
  have hlt : ∀ x ∈ p, x.block < W.heap.size := fun x hx => hW'.lt x (by simpa using hx)
  have hlen : ds.length = fn.params.size := by
    have : ∀ (ts : List TypeId) (vs : List Value) (ds : List (DataW H)) (ps : List MemPlace), DataW.TrodAll enc P W 0 (fun _ => true) true ts vs ds ps → ds.length = ts.length := by
      intro ts
      induction ts with
      | nil => intro vs ds ps h; obtain ⟨_, rfl, _⟩ := trodAll_nil h; rfl
      | cons t ts ih => intro vs ds ps h; obtain ⟨v, vs', d, ds', p, q, rfl, rfl, rfl, h1, h2⟩ := trodAll_cons h; simp [ih _ _ _ h2]
    simpa using this _ _ _ _ hT
  have hsp := hs (ds ++ []) (by simpa using hlen)
  refine ⟨_, rfl, post_same (pa := p) (pv := []) hW' ?_ ?_ ?_ rfl (hbl.frame _) (fun a ha => hbl.frozen ha) ?_⟩
  · intro b sp hd
    rw [hsp, hres]
    exact trodAll_mk1 (shut_bool hbool _)
  · intro sp hsp'
    rw [hsp, List.append_nil]
    exact trodAll_stays hl hr hT (fun x hx => hbl.same (hlt x hx)) (fun x hx => hsp' x (by simpa using hx))
  · intro sp hsp'
    rw [hsp, hs0]; exact rfl
  · exact ok_one hres rfl (okWide_bool_mk hbool _)
end
end Go.Ahl
namespace Go.Proofs.YtocphglkceidhaaGreat
open Go.Ahl
def c_has : CCode := .seq (.ops [⟨some 4, .move (.lit (.bool false)), none, []⟩]) (.seq (.seq (.ops [⟨some 7, .move (.tmp 0), none, []⟩, ⟨some 8, .blen 1 (.tmp 7), none, []⟩, ⟨some 9, .move (.lit (.int .i64 0)), none, []⟩]) (.block 0 (.loop (.seq (.ops [⟨some 10, .bin .lss .none (.tmp 9) (.tmp 8), none, []⟩]) (.seq (.cond (.tmp 10) .skip (.exit 0)) (.seq (.block 1 (.seq (.ops [⟨some 11, .iaddr 1 (.tmp 7) (.tmp 9), none, []⟩, ⟨some 12, .load none (.tmp 11), none, []⟩, ⟨some 6, .move (.tmp 12), none, []⟩]) (.seq (.ops [⟨some 13, .move (.tmp 6), none, []⟩, ⟨some 14, .move (.tmp 1), none, []⟩, ⟨some 15, .bin .eql .none (.tmp 13) (.tmp 14), none, []⟩]) (.cond (.tmp 15) (.seq (.ops [⟨some 4, .move (.lit (.bool true)), none, []⟩]) .ret) .skip)))) (.ops [⟨some 16, .bin .add .none (.tmp 9) (.lit (.int .i64 1)), none, []⟩, ⟨some 9, .move (.tmp 16), none, []⟩]))))))) (.seq (.ops [⟨some 4, .move (.lit (.bool false)), none, []⟩]) .ret))
set_option maxRecDepth 20000 in
theorem has_spec (s : List Int) (x : Int) (tok : Tok) (σ : Store) (hl : s.length ≤ 140737488355328) :
    ACalls Tryz.prog 32 [.slice tok (s.map Ahl.encI), .int .i64 x] σ (isR (.bool (s.contains x)) σ) := by
  refine ACalls.intro (rs := [(.tmp 4)]) (by kernel_rfl) { own := [], ghosts := [] } Tryz.func32 (c := Tryz.f32.body.getD .skip) (by kernel_rfl) (by decide) (by rw [show Tryz.f32.ntmps = 17 by kernel_rfl]; exact Nat.le_of_ble_eq_true rfl) (by kernel_rfl) ?_
  intro hσ hids
  rw [show comp Tryz.prog { own := [], ghosts := [] } (Tryz.f32.body.getD .skip) = c_has by kernel_rfl, show Tryz.f32.ntmps = 17 by kernel_rfl]
  unfold c_has
  have hil : Ids σ.length (.slice tok (s.map Ahl.encI)) := hids _ (by simp)
  simp only [go_sem, Int.reduceToNat, Int.reduceLE, Int.reduceLT, Nat.reduceBEq, Nat.reduceLT, Nat.reduceAdd, Nat.reduceLeDiff]
  refine wpc_while (fun i => [(1, .int .i64 x), (7, .slice tok (s.map Ahl.encI)), (8, .int .i64 s.length), (9, .int .i64 (i : Nat))]) (fun _ => σ) (fun i => i ≤ s.length ∧ s.contains x = (s.drop i).contains x) (fun i => s.length - i) 0 ⟨Nat.zero_le _, rfl⟩ (by (try dsimp only); first | exact ghk | exact ghk0) ?_
  rintro i ⟨hi, hv⟩ K hK hE hR
  by_cases h : i < s.length
  · obtain ⟨y, hx⟩ := get_ex h
    have hlt : ((i : Int) < (s.length : Int)) := by omega
    have hw : IntKind.i64.wrap ((i : Int) + 1) = ((i + 1 : Nat) : Int) := by rw [wrap_ok (by omega)]; omega
    rw [drop_cons hx, List.contains_cons] at hv
    by_cases h1 : y = x
    · subst h1
      simp only [go_sem, Int.reduceToNat, Int.reduceLE, Int.reduceLT, Nat.reduceBEq, Nat.reduceLT, Nat.reduceAdd, Nat.reduceLeDiff, hlt, hx, Ahl.encI, beq_self_eq_true]
      rw [hR]
      first | exact rtk (.bool true) ⟨by rw [hv]; simp, rfl⟩ | exact rtk0 (.bool true) ⟨by rw [hv]; simp, rfl⟩
    · have h1' : (y == x) = false := by simpa using h1
      have h1'' : (x == y) = false := by simpa using Ne.symm h1
      simp only [go_sem, Int.reduceToNat, Int.reduceLE, Int.reduceLT, Nat.reduceBEq, Nat.reduceLT, Nat.reduceAdd, Nat.reduceLeDiff, hlt, hx, Ahl.encI, h1']
      rw [h1'', Bool.false_or] at hv
      refine hK _ _ (i + 1) (⟨by omega, hv⟩) (by first | omega | (simp only []; omega) | (simp; omega)) ?_; (try dsimp only); (try simp only [ hw]); first | exact ghk | exact ghk0
  · have hlt : ¬ ((i : Int) < (s.length : Int)) := by omega
    rw [drop_len h] at hv
    simp only [go_sem, Int.reduceToNat, Int.reduceLE, Int.reduceLT, Nat.reduceBEq, Nat.reduceLT, Nat.reduceAdd, Nat.reduceLeDiff, hlt, hE]
    first | exact rtk (.bool false) ⟨by rw [hv]; rfl, rfl⟩ | exact rtk0 (.bool false) ⟨by rw [hv]; rfl, rfl⟩
def condHolds (s : List Int) (l : List FLit) : Bool := l.all fun x => s.contains x.fact != x.neg
/-- Rising numbers behind p, below n. -/
def risingB (n : Int) : Int → List Int → Bool
  | _, [] => true
  | p, x :: l => decide (p < x) && decide (x < n) && risingB n x l
def prevI (s : List Int) (i : Nat) (p : Int) : Prop := -1 ≤ p ∧ (i = 0 → p = -1) ∧ (0 < i → s[i - 1]? = some p)
def c_rising : CCode := .seq (.ops [⟨some 4, .move (.lit (.bool false)), none, []⟩]) (.seq (.seq (.ops [⟨some 7, .move (.tmp 1), none, []⟩, ⟨some 8, .blen 1 (.tmp 7), none, []⟩, ⟨some 9, .move (.lit (.int .i64 0)), none, []⟩]) (.block 0 (.loop (.seq (.ops [⟨some 10, .bin .lss .none (.tmp 9) (.tmp 8), none, []⟩]) (.seq (.cond (.tmp 10) .skip (.exit 0)) (.seq (.block 1 (.seq (.ops [⟨some 11, .move (.tmp 9), none, []⟩, ⟨some 12, .iaddr 1 (.tmp 7) (.tmp 9), none, []⟩, ⟨some 13, .load none (.tmp 12), none, []⟩, ⟨some 5, .move (.tmp 11), none, []⟩, ⟨some 6, .move (.tmp 13), none, []⟩]) (.seq (.ops [⟨some 14, .move (.tmp 6), none, []⟩, ⟨some 15, .bin .lss .none (.tmp 14) (.lit (.int .i64 0)), none, []⟩, ⟨some 16, .move (.tmp 15), none, []⟩, ⟨some 17, .move (.tmp 6), some (some 16, false), []⟩, ⟨some 18, .move (.tmp 0), some (some 16, false), []⟩, ⟨some 19, .bin .geq .none (.tmp 17) (.tmp 18), some (some 16, false), []⟩, ⟨some 20, .pick (.tmp 16) (.lit (.bool true)) (.tmp 19), none, []⟩, ⟨some 21, .move (.tmp 20), none, []⟩, ⟨some 22, .move (.tmp 5), some (some 21, false), []⟩, ⟨some 23, .bin .gtr .none (.tmp 22) (.lit (.int .i64 0)), some (some 21, false), []⟩, ⟨some 24, .move (.tmp 23), some (some 21, false), []⟩, ⟨some 25, .move (.tmp 1), some (some 24, true), []⟩, ⟨some 26, .move (.tmp 5), some (some 24, true), []⟩, ⟨some 27, .bin .sub .none (.tmp 26) (.lit (.int .i64 1)), some (some 24, true), []⟩, ⟨some 28, .iaddr 1 (.tmp 25) (.tmp 27), some (some 24, true), []⟩, ⟨some 29, .load none (.tmp 28), some (some 24, true), []⟩, ⟨some 30, .move (.tmp 6), some (some 24, true), []⟩, ⟨some 31, .bin .geq .none (.tmp 29) (.tmp 30), some (some 24, true), []⟩, ⟨some 32, .pick (.tmp 24) (.tmp 31) (.lit (.bool false)), some (some 21, false), []⟩, ⟨some 33, .pick (.tmp 21) (.lit (.bool true)) (.tmp 32), none, []⟩]) (.cond (.tmp 33) (.seq (.ops [⟨some 4, .move (.lit (.bool false)), none, []⟩]) .ret) .skip)))) (.ops [⟨some 34, .bin .add .none (.tmp 9) (.lit (.int .i64 1)), none, []⟩, ⟨some 9, .move (.tmp 34), none, []⟩]))))))) (.seq (.ops [⟨some 4, .move (.lit (.bool true)), none, []⟩]) .ret))
set_option maxRecDepth 20000 in
theorem rising_spec (s : List Int) (n : Int) (tok : Tok) (σ : Store) (hs : s.length ≤ 140737488355328) :
    ACalls Tryz.prog 87 [.int .i64 n, .slice tok (s.map Ahl.encI)] σ (isR (.bool (risingB n (-1) s)) σ) := by
  refine ACalls.intro (rs := [(.tmp 4)]) (by kernel_rfl) { own := [], ghosts := [] } Tryz.func87 (c := Tryz.f87.body.getD .skip) (by kernel_rfl) (by decide) (by rw [show Tryz.f87.ntmps = 35 by kernel_rfl]; exact Nat.le_of_ble_eq_true rfl) (by kernel_rfl) ?_
  intro hσ hids
  rw [show comp Tryz.prog { own := [], ghosts := [] } (Tryz.f87.body.getD .skip) = c_rising by kernel_rfl, show Tryz.f87.ntmps = 35 by kernel_rfl]
  unfold c_rising
  have hil : Ids σ.length (.slice tok (s.map Ahl.encI)) := hids _ (by simp)
  simp only [go_sem, Int.reduceToNat, Int.reduceLE, Int.reduceLT, Nat.reduceBEq, Nat.reduceLT, Nat.reduceAdd, Nat.reduceLeDiff]
  refine wpc_while (fun (q : Nat × Int) => [(0, .int .i64 n), (1, .slice tok (s.map Ahl.encI)), (7, .slice tok (s.map Ahl.encI)), (8, .int .i64 s.length), (9, .int .i64 q.1)]) (fun _ => σ) (fun q => q.1 ≤ s.length ∧ prevI s q.1 q.2 ∧ risingB n (-1) s = risingB n q.2 (s.drop q.1)) (fun q => s.length - q.1) (0, -1) ⟨Nat.zero_le _, ⟨by omega, by simp, by simp⟩, rfl⟩ (by (try dsimp only); first | exact ghk | exact ghk0) ?_
  rintro ⟨i, p⟩ ⟨hi, ⟨hp1, hp2, hp3⟩, hv⟩ K hK hE hR
  dsimp only at hi hp1 hp2 hp3 hv ⊢
  by_cases h : i < s.length
  · obtain ⟨y, hx⟩ := get_ex h
    have hlt : ((i : Int) < (s.length : Int)) := by omega
    have hw : IntKind.i64.wrap ((i : Int) + 1) = ((i + 1 : Nat) : Int) := by rw [wrap_ok (by omega)]; omega
    rw [drop_cons hx, risingB] at hv
    by_cases h1 : y < 0
    · simp only [go_sem, Int.reduceToNat, Int.reduceLE, Int.reduceLT, Nat.reduceBEq, Nat.reduceLT, Nat.reduceAdd, Nat.reduceLeDiff, hlt, hx, Ahl.encI, h1]
      rw [hR]
      first | exact rtk (.bool false) ⟨by rw [hv]; simp; omega, rfl⟩ | exact rtk0 (.bool false) ⟨by rw [hv]; simp; omega, rfl⟩
    by_cases h2 : y ≥ n
    · simp only [go_sem, Int.reduceToNat, Int.reduceLE, Int.reduceLT, Nat.reduceBEq, Nat.reduceLT, Nat.reduceAdd, Nat.reduceLeDiff, hlt, hx, Ahl.encI, h1, h2]
      rw [hR]
      first | exact rtk (.bool false) ⟨by rw [hv]; simp; omega, rfl⟩ | exact rtk0 (.bool false) ⟨by rw [hv]; simp; omega, rfl⟩
    by_cases h3 : (i : Int) > 0
    · have hw1 : IntKind.i64.wrap ((i : Int) - 1) = ((i - 1 : Nat) : Int) := by rw [wrap_ok (by omega)]; omega
      have hy := hp3 (by omega)
      by_cases h4 : p ≥ y
      · simp only [go_sem, Int.reduceToNat, Int.reduceLE, Int.reduceLT, Nat.reduceBEq, Nat.reduceLT, Nat.reduceAdd, Nat.reduceLeDiff, hlt, hx, Ahl.encI, h1, h2, h3, hw1, hy, h4]
        rw [hR]
        first | exact rtk (.bool false) ⟨by rw [hv]; simp; omega, rfl⟩ | exact rtk0 (.bool false) ⟨by rw [hv]; simp; omega, rfl⟩
      · simp only [go_sem, Int.reduceToNat, Int.reduceLE, Int.reduceLT, Nat.reduceBEq, Nat.reduceLT, Nat.reduceAdd, Nat.reduceLeDiff, hlt, hx, Ahl.encI, h1, h2, h3, hw1, hy, h4]
        have h5 : decide (p < y) = true := by simpa using h4
        have h6 : decide (y < n) = true := by simpa using h2
        rw [h5, h6, Bool.true_and, Bool.true_and] at hv
        refine hK _ _ ((i + 1, y)) (⟨by simp only []; omega, ⟨by simp only []; omega, by simp, fun _ => hx⟩, hv⟩) (by first | omega | (simp only []; omega) | (simp; omega)) ?_; (try dsimp only); (try simp only [ hw]); first | exact ghk | exact ghk0
    · have h5 : decide (p < y) = true := by have := hp2 (by omega); simp; omega
      have h6 : decide (y < n) = true := by simpa using h2
      rw [h5, h6, Bool.true_and, Bool.true_and] at hv
      simp only [go_sem, Int.reduceToNat, Int.reduceLE, Int.reduceLT, Nat.reduceBEq, Nat.reduceLT, Nat.reduceAdd, Nat.reduceLeDiff, hlt, hx, Ahl.encI, h1, h2, h3]
      refine hK _ _ ((i + 1, y)) (⟨by simp only []; omega, ⟨by simp only []; omega, by simp, fun _ => hx⟩, hv⟩) (by first | omega | (simp only []; omega) | (simp; omega)) ?_; (try dsimp only); (try simp only [ hw]); first | exact ghk | exact ghk0
  · have hlt : ¬ ((i : Int) < (s.length : Int)) := by omega
    rw [drop_len h] at hv
    simp only [go_sem, Int.reduceToNat, Int.reduceLE, Int.reduceLT, Nat.reduceBEq, Nat.reduceLT, Nat.reduceAdd, Nat.reduceLeDiff, hlt, hE]
    first | exact rtk (.bool true) ⟨by rw [hv]; rfl, rfl⟩ | exact rtk0 (.bool true) ⟨by rw [hv]; rfl, rfl⟩
def c_rising01 : CCode := .seq (.ops [⟨some 4, .move (.lit (.bool false)), none, []⟩]) (.seq (.seq (.ops [⟨some 7, .move (.tmp 0), none, []⟩, ⟨some 8, .blen 1 (.tmp 7), none, []⟩, ⟨some 9, .move (.lit (.int .i64 0)), none, []⟩]) (.block 0 (.loop (.seq (.ops [⟨some 10, .bin .lss .none (.tmp 9) (.tmp 8), none, []⟩]) (.seq (.cond (.tmp 10) .skip (.exit 0)) (.seq (.block 1 (.seq (.ops [⟨some 11, .move (.tmp 9), none, []⟩, ⟨some 12, .iaddr 1 (.tmp 7) (.tmp 9), none, []⟩, ⟨some 13, .load none (.tmp 12), none, []⟩, ⟨some 5, .move (.tmp 11), none, []⟩, ⟨some 6, .move (.tmp 13), none, []⟩]) (.seq (.ops [⟨some 14, .move (.tmp 6), none, []⟩, ⟨some 15, .bin .lss .none (.tmp 14) (.lit (.int .i64 0)), none, []⟩, ⟨some 16, .move (.tmp 15), none, []⟩, ⟨some 17, .move (.tmp 6), some (some 16, false), []⟩, ⟨some 18, .move (.tmp 1), some (some 16, false), []⟩, ⟨some 19, .bin .geq .none (.tmp 17) (.tmp 18), some (some 16, false), []⟩, ⟨some 20, .pick (.tmp 16) (.lit (.bool true)) (.tmp 19), none, []⟩, ⟨some 21, .move (.tmp 20), none, []⟩, ⟨some 22, .move (.tmp 5), some (some 21, false), []⟩, ⟨some 23, .bin .gtr .none (.tmp 22) (.lit (.int .i64 0)), some (some 21, false), []⟩, ⟨some 24, .move (.tmp 23), some (some 21, false), []⟩, ⟨some 25, .move (.tmp 0), some (some 24, true), []⟩, ⟨some 26, .move (.tmp 5), some (some 24, true), []⟩, ⟨some 27, .bin .sub .none (.tmp 26) (.lit (.int .i64 1)), some (some 24, true), []⟩, ⟨some 28, .iaddr 1 (.tmp 25) (.tmp 27), some (some 24, true), []⟩, ⟨some 29, .load none (.tmp 28), some (some 24, true), []⟩, ⟨some 30, .move (.tmp 6), some (some 24, true), []⟩, ⟨some 31, .bin .geq .none (.tmp 29) (.tmp 30), some (some 24, true), []⟩, ⟨some 32, .pick (.tmp 24) (.tmp 31) (.lit (.bool false)), some (some 21, false), []⟩, ⟨some 33, .pick (.tmp 21) (.lit (.bool true)) (.tmp 32), none, []⟩]) (.cond (.tmp 33) (.seq (.ops [⟨some 4, .move (.lit (.bool false)), none, []⟩]) .ret) .skip)))) (.ops [⟨some 34, .bin .add .none (.tmp 9) (.lit (.int .i64 1)), none, []⟩, ⟨some 9, .move (.tmp 34), none, []⟩]))))))) (.seq (.ops [⟨some 4, .move (.lit (.bool true)), none, []⟩]) .ret))
set_option maxRecDepth 20000 in
theorem rising01_spec (s : List Int) (n : Int) (tok : Tok) (σ : Store) (hs : s.length ≤ 140737488355328) :
    ACalls Tryz.prog 70 [.slice tok (s.map Ahl.encI), .int .i64 n] σ (isR (.bool (risingB n (-1) s)) σ) := by
  refine ACalls.intro (rs := [(.tmp 4)]) (by kernel_rfl) { own := [], ghosts := [] } Tryz.func70 (c := Tryz.f70.body.getD .skip) (by kernel_rfl) (by decide) (by rw [show Tryz.f70.ntmps = 35 by kernel_rfl]; exact Nat.le_of_ble_eq_true rfl) (by kernel_rfl) ?_
  intro hσ hids
  rw [show comp Tryz.prog { own := [], ghosts := [] } (Tryz.f70.body.getD .skip) = c_rising01 by kernel_rfl, show Tryz.f70.ntmps = 35 by kernel_rfl]
  unfold c_rising01
  have hil : Ids σ.length (.slice tok (s.map Ahl.encI)) := hids _ (by simp)
  simp only [go_sem, Int.reduceToNat, Int.reduceLE, Int.reduceLT, Nat.reduceBEq, Nat.reduceLT, Nat.reduceAdd, Nat.reduceLeDiff]
  refine wpc_while (fun (q : Nat × Int) => [(1, .int .i64 n), (0, .slice tok (s.map Ahl.encI)), (7, .slice tok (s.map Ahl.encI)), (8, .int .i64 s.length), (9, .int .i64 q.1)]) (fun _ => σ) (fun q => q.1 ≤ s.length ∧ prevI s q.1 q.2 ∧ risingB n (-1) s = risingB n q.2 (s.drop q.1)) (fun q => s.length - q.1) (0, -1) ⟨Nat.zero_le _, ⟨by omega, by simp, by simp⟩, rfl⟩ (by (try dsimp only); first | exact ghk | exact ghk0) ?_
  rintro ⟨i, p⟩ ⟨hi, ⟨hp1, hp2, hp3⟩, hv⟩ K hK hE hR
  dsimp only at hi hp1 hp2 hp3 hv ⊢
  by_cases h : i < s.length
  · obtain ⟨y, hx⟩ := get_ex h
    have hlt : ((i : Int) < (s.length : Int)) := by omega
    have hw : IntKind.i64.wrap ((i : Int) + 1) = ((i + 1 : Nat) : Int) := by rw [wrap_ok (by omega)]; omega
    rw [drop_cons hx, risingB] at hv
    by_cases h1 : y < 0
    · simp only [go_sem, Int.reduceToNat, Int.reduceLE, Int.reduceLT, Nat.reduceBEq, Nat.reduceLT, Nat.reduceAdd, Nat.reduceLeDiff, hlt, hx, Ahl.encI, h1]
      rw [hR]
      first | exact rtk (.bool false) ⟨by rw [hv]; simp; omega, rfl⟩ | exact rtk0 (.bool false) ⟨by rw [hv]; simp; omega, rfl⟩
    by_cases h2 : y ≥ n
    · simp only [go_sem, Int.reduceToNat, Int.reduceLE, Int.reduceLT, Nat.reduceBEq, Nat.reduceLT, Nat.reduceAdd, Nat.reduceLeDiff, hlt, hx, Ahl.encI, h1, h2]
      rw [hR]
      first | exact rtk (.bool false) ⟨by rw [hv]; simp; omega, rfl⟩ | exact rtk0 (.bool false) ⟨by rw [hv]; simp; omega, rfl⟩
    by_cases h3 : (i : Int) > 0
    · have hw1 : IntKind.i64.wrap ((i : Int) - 1) = ((i - 1 : Nat) : Int) := by rw [wrap_ok (by omega)]; omega
      have hy := hp3 (by omega)
      by_cases h4 : p ≥ y
      · simp only [go_sem, Int.reduceToNat, Int.reduceLE, Int.reduceLT, Nat.reduceBEq, Nat.reduceLT, Nat.reduceAdd, Nat.reduceLeDiff, hlt, hx, Ahl.encI, h1, h2, h3, hw1, hy, h4]
        rw [hR]
        first | exact rtk (.bool false) ⟨by rw [hv]; simp; omega, rfl⟩ | exact rtk0 (.bool false) ⟨by rw [hv]; simp; omega, rfl⟩
      · simp only [go_sem, Int.reduceToNat, Int.reduceLE, Int.reduceLT, Nat.reduceBEq, Nat.reduceLT, Nat.reduceAdd, Nat.reduceLeDiff, hlt, hx, Ahl.encI, h1, h2, h3, hw1, hy, h4]
        have h5 : decide (p < y) = true := by simpa using h4
        have h6 : decide (y < n) = true := by simpa using h2
        rw [h5, h6, Bool.true_and, Bool.true_and] at hv
        refine hK _ _ ((i + 1, y)) (⟨by simp only []; omega, ⟨by simp only []; omega, by simp, fun _ => hx⟩, hv⟩) (by first | omega | (simp only []; omega) | (simp; omega)) ?_; (try dsimp only); (try simp only [ hw]); first | exact ghk | exact ghk0
    · have h5 : decide (p < y) = true := by have := hp2 (by omega); simp; omega
      have h6 : decide (y < n) = true := by simpa using h2
      rw [h5, h6, Bool.true_and, Bool.true_and] at hv
      simp only [go_sem, Int.reduceToNat, Int.reduceLE, Int.reduceLT, Nat.reduceBEq, Nat.reduceLT, Nat.reduceAdd, Nat.reduceLeDiff, hlt, hx, Ahl.encI, h1, h2, h3]
      refine hK _ _ ((i + 1, y)) (⟨by simp only []; omega, ⟨by simp only []; omega, by simp, fun _ => hx⟩, hv⟩) (by first | omega | (simp only []; omega) | (simp; omega)) ?_; (try dsimp only); (try simp only [ hw]); first | exact ghk | exact ghk0
  · have hlt : ¬ ((i : Int) < (s.length : Int)) := by omega
    rw [drop_len h] at hv
    simp only [go_sem, Int.reduceToNat, Int.reduceLE, Int.reduceLT, Nat.reduceBEq, Nat.reduceLT, Nat.reduceAdd, Nat.reduceLeDiff, hlt, hE]
    first | exact rtk (.bool true) ⟨by rw [hv]; rfl, rfl⟩ | exact rtk0 (.bool true) ⟨by rw [hv]; rfl, rfl⟩
/-- A condition of facts behind p, below n. -/
def condB (n : Int) : Int → List FLit → Bool
  | _, [] => true
  | p, x :: l => decide (p < x.fact) && decide (x.fact < n) && condB n x.fact l
def prevC (s : List FLit) (i : Nat) (p : Int) : Prop := -1 ≤ p ∧ (i = 0 → p = -1) ∧ (0 < i → ∃ b, s[i - 1]? = some ⟨p, b⟩)
def d_cond_0 : List COp := [⟨some 14, .faddr 0 (.tmp 6), none, []⟩, ⟨some 15, .load none (.tmp 14), none, [0]⟩, ⟨some 16, .bin .lss .none (.tmp 15) (.lit (.int .i64 0)), none, [1]⟩, ⟨some 17, .move (.tmp 16), none, [2]⟩, ⟨some 18, .faddr 0 (.tmp 6), some (some 17, false), [3]⟩, ⟨some 19, .load none (.tmp 18), some (some 17, false), [4, 3]⟩, ⟨some 20, .move (.tmp 0), some (some 17, false), [3]⟩, ⟨some 21, .bin .geq .none (.tmp 19) (.tmp 20), some (some 17, false), [5, 6, 3]⟩, ⟨some 22, .pick (.tmp 17) (.lit (.bool true)) (.tmp 21), none, [3, 7]⟩, ⟨some 23, .move (.tmp 22), none, [8, 3]⟩, ⟨some 24, .move (.tmp 5), some (some 23, false), [9]⟩, ⟨some 25, .bin .gtr .none (.tmp 24) (.lit (.int .i64 0)), some (some 23, false), [10, 9]⟩, ⟨some 26, .move (.tmp 25), some (some 23, false), [11, 9, 9]⟩, ⟨some 27, .move (.tmp 1), some (some 26, true), [12]⟩, ⟨some 28, .move (.tmp 5), some (some 26, true), [12]⟩, ⟨some 29, .bin .sub .none (.tmp 28) (.lit (.int .i64 1)), some (some 26, true), [14, 12]⟩, ⟨some 30, .iaddr 2 (.tmp 27) (.tmp 29), some (some 26, true), [13, 15, 12]⟩, ⟨some 31, .faddr 0 (.tmp 30), some (some 26, true), [16, 12]⟩, ⟨some 32, .load none (.tmp 31), some (some 26, true), [17, 12]⟩, ⟨some 33, .faddr 0 (.tmp 6), some (some 26, true), [12]⟩, ⟨some 34, .load none (.tmp 33), some (some 26, true), [19, 12]⟩, ⟨some 35, .bin .geq .none (.tmp 32) (.tmp 34), some (some 26, true), [18, 20, 12]⟩, ⟨some 36, .pick (.tmp 26) (.tmp 35) (.lit (.bool false)), some (some 23, false), [12, 21, 9]⟩, ⟨some 37, .pick (.tmp 23) (.lit (.bool true)) (.tmp 36), none, [9, 22]⟩]
theorem dr_cond_0 (P : Program) (nt n0 : Nat) (Q : Post) (s : Slots) (σ : Store) : wpc P nt n0 (.draw d_cond_0) Q s σ = aOpsD P nt [⟨some 14, .faddr 0 (.tmp 6), none, []⟩, ⟨some 15, .load none (.tmp 14), none, [0]⟩, ⟨some 16, .bin .lss .none (.tmp 15) (.lit (.int .i64 0)), none, [1]⟩, ⟨some 17, .move (.tmp 16), none, [2]⟩, ⟨some 18, .faddr 0 (.tmp 6), some (some 17, false), [3]⟩, ⟨some 19, .load none (.tmp 18), some (some 17, false), [4, 3]⟩, ⟨some 20, .move (.tmp 0), some (some 17, false), [3]⟩, ⟨some 21, .bin .geq .none (.tmp 19) (.tmp 20), some (some 17, false), [5, 6, 3]⟩, ⟨some 22, .pick (.tmp 17) (.lit (.bool true)) (.tmp 21), none, [3, 7]⟩, ⟨some 23, .move (.tmp 22), none, [8, 3]⟩, ⟨some 24, .move (.tmp 5), some (some 23, false), [9]⟩, ⟨some 25, .bin .gtr .none (.tmp 24) (.lit (.int .i64 0)), some (some 23, false), [10, 9]⟩, ⟨some 26, .move (.tmp 25), some (some 23, false), [11, 9, 9]⟩, ⟨some 27, .move (.tmp 1), some (some 26, true), [12]⟩, ⟨some 28, .move (.tmp 5), some (some 26, true), [12]⟩, ⟨some 29, .bin .sub .none (.tmp 28) (.lit (.int .i64 1)), some (some 26, true), [14, 12]⟩, ⟨some 30, .iaddr 2 (.tmp 27) (.tmp 29), some (some 26, true), [13, 15, 12]⟩, ⟨some 31, .faddr 0 (.tmp 30), some (some 26, true), [16, 12]⟩, ⟨some 32, .load none (.tmp 31), some (some 26, true), [17, 12]⟩, ⟨some 33, .faddr 0 (.tmp 6), some (some 26, true), [12]⟩, ⟨some 34, .load none (.tmp 33), some (some 26, true), [19, 12]⟩, ⟨some 35, .bin .geq .none (.tmp 32) (.tmp 34), some (some 26, true), [18, 20, 12]⟩, ⟨some 36, .pick (.tmp 26) (.tmp 35) (.lit (.bool false)), some (some 23, false), [12, 21, 9]⟩, ⟨some 37, .pick (.tmp 23) (.lit (.bool true)) (.tmp 36), none, [9, 22]⟩] (Q .normal) s σ := wpc_draw _ (by decide)
def c_cond : CCode := .seq (.ops [⟨some 4, .move (.lit (.bool false)), none, []⟩]) (.seq (.seq (.ops [⟨some 7, .move (.tmp 1), none, []⟩, ⟨some 8, .blen 1 (.tmp 7), none, []⟩, ⟨some 9, .move (.lit (.int .i64 0)), none, []⟩]) (.block 0 (.loop (.seq (.ops [⟨some 10, .bin .lss .none (.tmp 9) (.tmp 8), none, []⟩]) (.seq (.cond (.tmp 10) .skip (.exit 0)) (.seq (.block 1 (.seq (.ops [⟨some 11, .move (.tmp 9), none, []⟩, ⟨some 12, .iaddr 2 (.tmp 7) (.tmp 9), none, []⟩, ⟨some 13, .load (some 2) (.tmp 12), none, []⟩, ⟨some 6, .alloc (.agg [.int .i64 0, .bool false]), none, []⟩, ⟨some 5, .move (.tmp 11), none, []⟩, ⟨none, .store 2 (.tmp 6) (.tmp 13), none, []⟩]) (.seq (.draw d_cond_0) (.cond (.tmp 37) (.seq (.ops [⟨some 4, .move (.lit (.bool false)), none, []⟩]) .ret) .skip)))) (.ops [⟨some 38, .bin .add .none (.tmp 9) (.lit (.int .i64 1)), none, []⟩, ⟨some 9, .move (.tmp 38), none, []⟩]))))))) (.seq (.ops [⟨some 4, .move (.lit (.bool true)), none, []⟩]) .ret))
set_option maxRecDepth 20000 in
theorem cond_spec (s : List FLit) (n : Int) (tok : Tok) (σ : Store) (hs : s.length ≤ 140737488355328) :
    ACalls Tryz.prog 65 [.int .i64 n, .slice tok (s.map encLit)] σ (isR (.bool (condB n (-1) s)) σ) := by
  refine ACalls.intro (rs := [(.tmp 4)]) (by kernel_rfl) { own := [], ghosts := [] } Tryz.func65 (c := Tryz.f65.body.getD .skip) (by kernel_rfl) (by decide) (by rw [show Tryz.f65.ntmps = 39 by kernel_rfl]; exact Nat.le_of_ble_eq_true rfl) (by kernel_rfl) ?_
  intro hσ hids
  rw [show comp Tryz.prog { own := [], ghosts := [] } (Tryz.f65.body.getD .skip) = c_cond by kernel_rfl, show Tryz.f65.ntmps = 39 by kernel_rfl]
  unfold c_cond
  have hil : Ids σ.length (.slice tok (s.map encLit)) := hids _ (by simp)
  simp only [go_sem, Int.reduceToNat, Int.reduceLE, Int.reduceLT, Nat.reduceBEq, Nat.reduceLT, Nat.reduceAdd, Nat.reduceLeDiff, dr_cond_0]
  refine wpc_while (fun (q : Nat × Int) => [(0, .int .i64 n), (1, .slice tok (s.map encLit)), (7, .slice tok (s.map encLit)), (8, .int .i64 s.length), (9, .int .i64 q.1)]) (fun _ => σ) (fun q => q.1 ≤ s.length ∧ prevC s q.1 q.2 ∧ condB n (-1) s = condB n q.2 (s.drop q.1)) (fun q => s.length - q.1) (0, -1) ⟨Nat.zero_le _, ⟨by omega, by simp, by simp⟩, rfl⟩ (by (try dsimp only); first | exact ghk | exact ghk0) ?_
  rintro ⟨i, p⟩ ⟨hi, ⟨hp1, hp2, hp3⟩, hv⟩ K hK hE hR
  dsimp only at hi hp1 hp2 hp3 hv ⊢
  by_cases h : i < s.length
  · obtain ⟨⟨y, nb⟩, hx⟩ := get_ex h
    have hlt : ((i : Int) < (s.length : Int)) := by omega
    have hw : IntKind.i64.wrap ((i : Int) + 1) = ((i + 1 : Nat) : Int) := by rw [wrap_ok (by omega)]; omega
    rw [drop_cons hx, condB] at hv
    dsimp only at hv
    by_cases h1 : y < 0
    · simp only [go_sem, Int.reduceToNat, Int.reduceLE, Int.reduceLT, Nat.reduceBEq, Nat.reduceLT, Nat.reduceAdd, Nat.reduceLeDiff, dr_cond_0, hlt, hx, encLit, h1]
      rw [hR]
      first | exact rtk (.bool false) ⟨by rw [hv]; simp; omega, rfl⟩ | exact rtk0 (.bool false) ⟨by rw [hv]; simp; omega, rfl⟩
    by_cases h2 : y ≥ n
    · simp only [go_sem, Int.reduceToNat, Int.reduceLE, Int.reduceLT, Nat.reduceBEq, Nat.reduceLT, Nat.reduceAdd, Nat.reduceLeDiff, dr_cond_0, hlt, hx, encLit, h1, h2]
      rw [hR]
      first | exact rtk (.bool false) ⟨by rw [hv]; simp; omega, rfl⟩ | exact rtk0 (.bool false) ⟨by rw [hv]; simp; omega, rfl⟩
    by_cases h3 : (i : Int) > 0
    · have hw1 : IntKind.i64.wrap ((i : Int) - 1) = ((i - 1 : Nat) : Int) := by rw [wrap_ok (by omega)]; omega
      obtain ⟨pb, hy⟩ := hp3 (by omega)
      by_cases h4 : p ≥ y
      · simp only [go_sem, Int.reduceToNat, Int.reduceLE, Int.reduceLT, Nat.reduceBEq, Nat.reduceLT, Nat.reduceAdd, Nat.reduceLeDiff, dr_cond_0, hlt, hx, encLit, h1, h2, h3, hw1, hy, h4]
        rw [hR]
        first | exact rtk (.bool false) ⟨by rw [hv]; simp; omega, rfl⟩ | exact rtk0 (.bool false) ⟨by rw [hv]; simp; omega, rfl⟩
      · simp only [go_sem, Int.reduceToNat, Int.reduceLE, Int.reduceLT, Nat.reduceBEq, Nat.reduceLT, Nat.reduceAdd, Nat.reduceLeDiff, dr_cond_0, hlt, hx, encLit, h1, h2, h3, hw1, hy, h4]
        have h5 : decide (p < y) = true := by simpa using h4
        have h6 : decide (y < n) = true := by simpa using h2
        rw [h5, h6, Bool.true_and, Bool.true_and] at hv
        refine hK _ _ ((i + 1, y)) (⟨by simp only []; omega, ⟨by simp only []; omega, by simp, fun _ => ⟨nb, hx⟩⟩, hv⟩) (by first | omega | (simp only []; omega) | (simp; omega)) ?_; (try dsimp only); (try simp only [ hw]); first | exact ghk | exact ghk0
    · have h5 : decide (p < y) = true := by have := hp2 (by omega); simp; omega
      have h6 : decide (y < n) = true := by simpa using h2
      rw [h5, h6, Bool.true_and, Bool.true_and] at hv
      simp only [go_sem, Int.reduceToNat, Int.reduceLE, Int.reduceLT, Nat.reduceBEq, Nat.reduceLT, Nat.reduceAdd, Nat.reduceLeDiff, dr_cond_0, hlt, hx, encLit, h1, h2, h3]
      refine hK _ _ ((i + 1, y)) (⟨by simp only []; omega, ⟨by simp only []; omega, by simp, fun _ => ⟨nb, hx⟩⟩, hv⟩) (by first | omega | (simp only []; omega) | (simp; omega)) ?_; (try dsimp only); (try simp only [ hw]); first | exact ghk | exact ghk0
  · have hlt : ¬ ((i : Int) < (s.length : Int)) := by omega
    rw [drop_len h] at hv
    simp only [go_sem, Int.reduceToNat, Int.reduceLE, Int.reduceLT, Nat.reduceBEq, Nat.reduceLT, Nat.reduceAdd, Nat.reduceLeDiff, dr_cond_0, hlt, hE]
    first | exact rtk (.bool true) ⟨by rw [hv]; rfl, rfl⟩ | exact rtk0 (.bool true) ⟨by rw [hv]; rfl, rfl⟩
def d_cond01_0 : List COp := [⟨some 14, .faddr 0 (.tmp 6), none, []⟩, ⟨some 15, .load none (.tmp 14), none, [0]⟩, ⟨some 16, .bin .lss .none (.tmp 15) (.lit (.int .i64 0)), none, [1]⟩, ⟨some 17, .move (.tmp 16), none, [2]⟩, ⟨some 18, .faddr 0 (.tmp 6), some (some 17, false), [3]⟩, ⟨some 19, .load none (.tmp 18), some (some 17, false), [4, 3]⟩, ⟨some 20, .move (.tmp 1), some (some 17, false), [3]⟩, ⟨some 21, .bin .geq .none (.tmp 19) (.tmp 20), some (some 17, false), [5, 6, 3]⟩, ⟨some 22, .pick (.tmp 17) (.lit (.bool true)) (.tmp 21), none, [3, 7]⟩, ⟨some 23, .move (.tmp 22), none, [8, 3]⟩, ⟨some 24, .move (.tmp 5), some (some 23, false), [9]⟩, ⟨some 25, .bin .gtr .none (.tmp 24) (.lit (.int .i64 0)), some (some 23, false), [10, 9]⟩, ⟨some 26, .move (.tmp 25), some (some 23, false), [11, 9, 9]⟩, ⟨some 27, .move (.tmp 0), some (some 26, true), [12]⟩, ⟨some 28, .move (.tmp 5), some (some 26, true), [12]⟩, ⟨some 29, .bin .sub .none (.tmp 28) (.lit (.int .i64 1)), some (some 26, true), [14, 12]⟩, ⟨some 30, .iaddr 2 (.tmp 27) (.tmp 29), some (some 26, true), [13, 15, 12]⟩, ⟨some 31, .faddr 0 (.tmp 30), some (some 26, true), [16, 12]⟩, ⟨some 32, .load none (.tmp 31), some (some 26, true), [17, 12]⟩, ⟨some 33, .faddr 0 (.tmp 6), some (some 26, true), [12]⟩, ⟨some 34, .load none (.tmp 33), some (some 26, true), [19, 12]⟩, ⟨some 35, .bin .geq .none (.tmp 32) (.tmp 34), some (some 26, true), [18, 20, 12]⟩, ⟨some 36, .pick (.tmp 26) (.tmp 35) (.lit (.bool false)), some (some 23, false), [12, 21, 9]⟩, ⟨some 37, .pick (.tmp 23) (.lit (.bool true)) (.tmp 36), none, [9, 22]⟩]
theorem dr_cond01_0 (P : Program) (nt n0 : Nat) (Q : Post) (s : Slots) (σ : Store) : wpc P nt n0 (.draw d_cond01_0) Q s σ = aOpsD P nt [⟨some 14, .faddr 0 (.tmp 6), none, []⟩, ⟨some 15, .load none (.tmp 14), none, [0]⟩, ⟨some 16, .bin .lss .none (.tmp 15) (.lit (.int .i64 0)), none, [1]⟩, ⟨some 17, .move (.tmp 16), none, [2]⟩, ⟨some 18, .faddr 0 (.tmp 6), some (some 17, false), [3]⟩, ⟨some 19, .load none (.tmp 18), some (some 17, false), [4, 3]⟩, ⟨some 20, .move (.tmp 1), some (some 17, false), [3]⟩, ⟨some 21, .bin .geq .none (.tmp 19) (.tmp 20), some (some 17, false), [5, 6, 3]⟩, ⟨some 22, .pick (.tmp 17) (.lit (.bool true)) (.tmp 21), none, [3, 7]⟩, ⟨some 23, .move (.tmp 22), none, [8, 3]⟩, ⟨some 24, .move (.tmp 5), some (some 23, false), [9]⟩, ⟨some 25, .bin .gtr .none (.tmp 24) (.lit (.int .i64 0)), some (some 23, false), [10, 9]⟩, ⟨some 26, .move (.tmp 25), some (some 23, false), [11, 9, 9]⟩, ⟨some 27, .move (.tmp 0), some (some 26, true), [12]⟩, ⟨some 28, .move (.tmp 5), some (some 26, true), [12]⟩, ⟨some 29, .bin .sub .none (.tmp 28) (.lit (.int .i64 1)), some (some 26, true), [14, 12]⟩, ⟨some 30, .iaddr 2 (.tmp 27) (.tmp 29), some (some 26, true), [13, 15, 12]⟩, ⟨some 31, .faddr 0 (.tmp 30), some (some 26, true), [16, 12]⟩, ⟨some 32, .load none (.tmp 31), some (some 26, true), [17, 12]⟩, ⟨some 33, .faddr 0 (.tmp 6), some (some 26, true), [12]⟩, ⟨some 34, .load none (.tmp 33), some (some 26, true), [19, 12]⟩, ⟨some 35, .bin .geq .none (.tmp 32) (.tmp 34), some (some 26, true), [18, 20, 12]⟩, ⟨some 36, .pick (.tmp 26) (.tmp 35) (.lit (.bool false)), some (some 23, false), [12, 21, 9]⟩, ⟨some 37, .pick (.tmp 23) (.lit (.bool true)) (.tmp 36), none, [9, 22]⟩] (Q .normal) s σ := wpc_draw _ (by decide)
def c_cond01 : CCode := .seq (.ops [⟨some 4, .move (.lit (.bool false)), none, []⟩]) (.seq (.seq (.ops [⟨some 7, .move (.tmp 0), none, []⟩, ⟨some 8, .blen 1 (.tmp 7), none, []⟩, ⟨some 9, .move (.lit (.int .i64 0)), none, []⟩]) (.block 0 (.loop (.seq (.ops [⟨some 10, .bin .lss .none (.tmp 9) (.tmp 8), none, []⟩]) (.seq (.cond (.tmp 10) .skip (.exit 0)) (.seq (.block 1 (.seq (.ops [⟨some 11, .move (.tmp 9), none, []⟩, ⟨some 12, .iaddr 2 (.tmp 7) (.tmp 9), none, []⟩, ⟨some 13, .load (some 2) (.tmp 12), none, []⟩, ⟨some 6, .alloc (.agg [.int .i64 0, .bool false]), none, []⟩, ⟨some 5, .move (.tmp 11), none, []⟩, ⟨none, .store 2 (.tmp 6) (.tmp 13), none, []⟩]) (.seq (.draw d_cond01_0) (.cond (.tmp 37) (.seq (.ops [⟨some 4, .move (.lit (.bool false)), none, []⟩]) .ret) .skip)))) (.ops [⟨some 38, .bin .add .none (.tmp 9) (.lit (.int .i64 1)), none, []⟩, ⟨some 9, .move (.tmp 38), none, []⟩]))))))) (.seq (.ops [⟨some 4, .move (.lit (.bool true)), none, []⟩]) .ret))
set_option maxRecDepth 20000 in
theorem cond01_spec (s : List FLit) (n : Int) (tok : Tok) (σ : Store) (hs : s.length ≤ 140737488355328) :
    ACalls Tryz.prog 77 [.slice tok (s.map encLit), .int .i64 n] σ (isR (.bool (condB n (-1) s)) σ) := by
  refine ACalls.intro (rs := [(.tmp 4)]) (by kernel_rfl) { own := [], ghosts := [] } Tryz.func77 (c := Tryz.f77.body.getD .skip) (by kernel_rfl) (by decide) (by rw [show Tryz.f77.ntmps = 39 by kernel_rfl]; exact Nat.le_of_ble_eq_true rfl) (by kernel_rfl) ?_
  intro hσ hids
  rw [show comp Tryz.prog { own := [], ghosts := [] } (Tryz.f77.body.getD .skip) = c_cond01 by kernel_rfl, show Tryz.f77.ntmps = 39 by kernel_rfl]
  unfold c_cond01
  have hil : Ids σ.length (.slice tok (s.map encLit)) := hids _ (by simp)
  simp only [go_sem, Int.reduceToNat, Int.reduceLE, Int.reduceLT, Nat.reduceBEq, Nat.reduceLT, Nat.reduceAdd, Nat.reduceLeDiff, dr_cond01_0]
  refine wpc_while (fun (q : Nat × Int) => [(1, .int .i64 n), (0, .slice tok (s.map encLit)), (7, .slice tok (s.map encLit)), (8, .int .i64 s.length), (9, .int .i64 q.1)]) (fun _ => σ) (fun q => q.1 ≤ s.length ∧ prevC s q.1 q.2 ∧ condB n (-1) s = condB n q.2 (s.drop q.1)) (fun q => s.length - q.1) (0, -1) ⟨Nat.zero_le _, ⟨by omega, by simp, by simp⟩, rfl⟩ (by (try dsimp only); first | exact ghk | exact ghk0) ?_
  rintro ⟨i, p⟩ ⟨hi, ⟨hp1, hp2, hp3⟩, hv⟩ K hK hE hR
  dsimp only at hi hp1 hp2 hp3 hv ⊢
  by_cases h : i < s.length
  · obtain ⟨⟨y, nb⟩, hx⟩ := get_ex h
    have hlt : ((i : Int) < (s.length : Int)) := by omega
    have hw : IntKind.i64.wrap ((i : Int) + 1) = ((i + 1 : Nat) : Int) := by rw [wrap_ok (by omega)]; omega
    rw [drop_cons hx, condB] at hv
    dsimp only at hv
    by_cases h1 : y < 0
    · simp only [go_sem, Int.reduceToNat, Int.reduceLE, Int.reduceLT, Nat.reduceBEq, Nat.reduceLT, Nat.reduceAdd, Nat.reduceLeDiff, dr_cond01_0, hlt, hx, encLit, h1]
      rw [hR]
      first | exact rtk (.bool false) ⟨by rw [hv]; simp; omega, rfl⟩ | exact rtk0 (.bool false) ⟨by rw [hv]; simp; omega, rfl⟩
    by_cases h2 : y ≥ n
    · simp only [go_sem, Int.reduceToNat, Int.reduceLE, Int.reduceLT, Nat.reduceBEq, Nat.reduceLT, Nat.reduceAdd, Nat.reduceLeDiff, dr_cond01_0, hlt, hx, encLit, h1, h2]
      rw [hR]
      first | exact rtk (.bool false) ⟨by rw [hv]; simp; omega, rfl⟩ | exact rtk0 (.bool false) ⟨by rw [hv]; simp; omega, rfl⟩
    by_cases h3 : (i : Int) > 0
    · have hw1 : IntKind.i64.wrap ((i : Int) - 1) = ((i - 1 : Nat) : Int) := by rw [wrap_ok (by omega)]; omega
      obtain ⟨pb, hy⟩ := hp3 (by omega)
      by_cases h4 : p ≥ y
      · simp only [go_sem, Int.reduceToNat, Int.reduceLE, Int.reduceLT, Nat.reduceBEq, Nat.reduceLT, Nat.reduceAdd, Nat.reduceLeDiff, dr_cond01_0, hlt, hx, encLit, h1, h2, h3, hw1, hy, h4]
        rw [hR]
        first | exact rtk (.bool false) ⟨by rw [hv]; simp; omega, rfl⟩ | exact rtk0 (.bool false) ⟨by rw [hv]; simp; omega, rfl⟩
      · simp only [go_sem, Int.reduceToNat, Int.reduceLE, Int.reduceLT, Nat.reduceBEq, Nat.reduceLT, Nat.reduceAdd, Nat.reduceLeDiff, dr_cond01_0, hlt, hx, encLit, h1, h2, h3, hw1, hy, h4]
        have h5 : decide (p < y) = true := by simpa using h4
        have h6 : decide (y < n) = true := by simpa using h2
        rw [h5, h6, Bool.true_and, Bool.true_and] at hv
        refine hK _ _ ((i + 1, y)) (⟨by simp only []; omega, ⟨by simp only []; omega, by simp, fun _ => ⟨nb, hx⟩⟩, hv⟩) (by first | omega | (simp only []; omega) | (simp; omega)) ?_; (try dsimp only); (try simp only [ hw]); first | exact ghk | exact ghk0
    · have h5 : decide (p < y) = true := by have := hp2 (by omega); simp; omega
      have h6 : decide (y < n) = true := by simpa using h2
      rw [h5, h6, Bool.true_and, Bool.true_and] at hv
      simp only [go_sem, Int.reduceToNat, Int.reduceLE, Int.reduceLT, Nat.reduceBEq, Nat.reduceLT, Nat.reduceAdd, Nat.reduceLeDiff, dr_cond01_0, hlt, hx, encLit, h1, h2, h3]
      refine hK _ _ ((i + 1, y)) (⟨by simp only []; omega, ⟨by simp only []; omega, by simp, fun _ => ⟨nb, hx⟩⟩, hv⟩) (by first | omega | (simp only []; omega) | (simp; omega)) ?_; (try dsimp only); (try simp only [ hw]); first | exact ghk | exact ghk0
  · have hlt : ¬ ((i : Int) < (s.length : Int)) := by omega
    rw [drop_len h] at hv
    simp only [go_sem, Int.reduceToNat, Int.reduceLE, Int.reduceLT, Nat.reduceBEq, Nat.reduceLT, Nat.reduceAdd, Nat.reduceLeDiff, dr_cond01_0, hlt, hE]
    first | exact rtk (.bool true) ⟨by rw [hv]; rfl, rfl⟩ | exact rtk0 (.bool true) ⟨by rw [hv]; rfl, rfl⟩
end Go.Proofs.YtocphglkceidhaaGreat
namespace Go.Proofs.YtocphglkceidhaaGreat
open Go.Ahl
def encF (f : List (List FLit)) : List AV := [.slice .unk (f.map encC)]
theorem ids_encF {n : Nat} (x : List (List FLit)) : IdsL n (encF x) := idsL_cons (ids_map ids_encC _) idsL_nil
def formB (n : Int) (f : List (List FLit)) : Bool := f.all (condB n (-1))
theorem formB_cons (n : Int) (l : List FLit) (f : List (List FLit)) : formB n (l :: f) = (condB n (-1) l && formB n f) := rfl
def c_conditions : CCode := .seq (.ops [⟨some 2, .box (.tmp 0), none, []⟩, ⟨some 4, .move (.lit (.bool false)), none, []⟩]) (.seq (.seq (.ops [⟨some 7, .move (.tmp 1), none, []⟩, ⟨some 8, .blen 1 (.tmp 7), none, []⟩, ⟨some 9, .move (.lit (.int .i64 0)), none, []⟩]) (.block 0 (.loop (.seq (.ops [⟨some 10, .bin .lss .none (.tmp 9) (.tmp 8), none, []⟩]) (.seq (.cond (.tmp 10) .skip (.exit 0)) (.seq (.block 1 (.seq (.ops [⟨some 11, .iaddr 1 (.tmp 7) (.tmp 9), none, []⟩, ⟨some 12, .load none (.tmp 11), none, []⟩, ⟨some 6, .move (.tmp 12), none, []⟩]) (.seq (.ops [⟨some 13, .move (.tmp 6), none, []⟩, ⟨some 14, .faddr 0 (.tmp 2), none, []⟩, ⟨some 15, .load none (.tmp 14), none, []⟩, ⟨some 16, .blen 1 (.tmp 15), none, []⟩, ⟨some 17, .call (.lit (.func 77 [])) [.tmp 13, .tmp 16], none, []⟩, ⟨some 18, .un .not (.tmp 17), none, []⟩]) (.cond (.tmp 18) (.seq (.ops [⟨some 4, .move (.lit (.bool false)), none, []⟩]) .ret) .skip)))) (.ops [⟨some 19, .bin .add .none (.tmp 9) (.lit (.int .i64 1)), none, []⟩, ⟨some 9, .move (.tmp 19), none, []⟩]))))))) (.seq (.ops [⟨some 4, .move (.lit (.bool true)), none, []⟩]) .ret))
set_option maxRecDepth 20000 in
theorem conditions_spec (t : FTask) (f : List (List FLit)) (tok' : Tok) (σ : Store) (hf : f.length ≤ 140737488355328) (hl : ∀ l ∈ f, l.length ≤ 140737488355328) :
    ACalls Tryz.prog 84 [.agg (encTask t), .slice tok' (f.map encC)] σ (isR (.bool (formB t.facts.length f)) σ) := by
  refine ACalls.intro (rs := [(.tmp 4)]) (by kernel_rfl) { own := [], ghosts := [] } Tryz.func84 (c := Tryz.f84.body.getD .skip) (by kernel_rfl) (by decide) (by rw [show Tryz.f84.ntmps = 20 by kernel_rfl]; exact Nat.le_of_ble_eq_true rfl) (by kernel_rfl) ?_
  intro hσ hids
  rw [show comp Tryz.prog { own := [], ghosts := [] } (Tryz.f84.body.getD .skip) = c_conditions by kernel_rfl, show Tryz.f84.ntmps = 20 by kernel_rfl]
  unfold c_conditions
  have hil' : Ids σ.length (.slice tok' (f.map encC)) := hids _ (by simp)
  have hσ1 : IdsS (σ ++ [AObj.row (encTask t)]).length (σ ++ [AObj.row (encTask t)]) := ids_grow hσ (ids_encTask t)
  simp only [go_sem, Int.reduceToNat, Int.reduceLE, Int.reduceLT, Nat.reduceBEq, Nat.reduceLT, Nat.reduceAdd, Nat.reduceLeDiff, encTask]
  refine wpc_while (fun i => [(2, .ptr σ.length 0), (7, .slice tok' (f.map encC)), (8, .int .i64 f.length), (9, .int .i64 (i : Nat))]) (fun _ => σ ++ [.row (encTask t)]) (fun i => i ≤ f.length ∧ formB t.facts.length f = formB t.facts.length (f.drop i)) (fun i => f.length - i) 0 ⟨Nat.zero_le _, rfl⟩ (by (try dsimp only); exact ghk1) ?_
  rintro i ⟨hi, hv⟩ K hK hE hR
  by_cases h : i < f.length
  · obtain ⟨l, hx⟩ := get_ex h; have hlt : ((i : Int) < (f.length : Int)) := (by omega); have hw : IntKind.i64.wrap ((i : Int) + 1) = ((i + 1 : Nat) : Int) := (by rw [wrap_ok (by omega)]; omega)
    rw [drop_cons hx, formB_cons] at hv
    simp only [go_sem, Int.reduceToNat, Int.reduceLE, Int.reduceLT, Nat.reduceBEq, Nat.reduceLT, Nat.reduceAdd, Nat.reduceLeDiff, hlt, hx, encC, encTask]
    refine (cond01_spec l t.facts.length _ _ (hl l (List.mem_of_getElem? hx))).is ?_
    cases h1 : condB t.facts.length (-1) l
    · simp only [go_sem, Int.reduceToNat, Int.reduceLE, Int.reduceLT, Nat.reduceBEq, Nat.reduceLT, Nat.reduceAdd, Nat.reduceLeDiff]
      rw [hR]
      first | exact rtk (.bool false) ⟨by rw [hv, h1]; rfl, rfl⟩ | exact rtk0 (.bool false) ⟨by rw [hv, h1]; rfl, rfl⟩
    · simp only [go_sem, Int.reduceToNat, Int.reduceLE, Int.reduceLT, Nat.reduceBEq, Nat.reduceLT, Nat.reduceAdd, Nat.reduceLeDiff]
      rw [h1, Bool.true_and] at hv
      refine hK _ _ (i + 1) (⟨by omega, hv⟩) (by first | omega | (simp only []; omega) | (simp; omega)) ?_; (try dsimp only); (try simp only [ hw]); exact ghk1
  · have hlt : ¬ ((i : Int) < (f.length : Int)) := by omega
    rw [drop_len h] at hv
    simp only [go_sem, Int.reduceToNat, Int.reduceLE, Int.reduceLT, Nat.reduceBEq, Nat.reduceLT, Nat.reduceAdd, Nat.reduceLeDiff, hlt, hE]
    first | exact rtk (.bool true) ⟨by rw [hv]; rfl, rfl⟩ | exact rtk0 (.bool true) ⟨by rw [hv]; rfl, rfl⟩
def isForm (n : Int) (f : List (List FLit)) : Bool := decide (f.length ≤ 400) && formB n f
theorem mulTop {j n T : Nat} (h : j ≤ n) : j * T ≤ n * T := Nat.mul_le_mul_right _ h
def formSize (f : List (List FLit)) : Nat := f.length + (f.map List.length).sum
theorem sum_cons (f : List FLit) (r : List (List FLit)) : (((f :: r).map List.length).sum : Nat) = f.length + (r.map List.length).sum := by simp
theorem sums_cons (f : List (List FLit)) (r : List (List (List FLit))) : (((f :: r).map formSize).sum : Nat) = formSize f + (r.map formSize).sum := by simp
def c_few07 : CCode := .seq (.ops [⟨some 4, .move (.lit (.bool false)), none, []⟩]) (.seq (.ops [⟨some 5, .move (.lit (.int .i64 0)), none, []⟩]) (.seq (.seq (.ops [⟨some 10, .move (.tmp 1), none, []⟩, ⟨some 11, .blen 1 (.tmp 10), none, []⟩, ⟨some 12, .move (.lit (.int .i64 0)), none, []⟩]) (.block 0 (.loop (.seq (.ops [⟨some 13, .bin .lss .none (.tmp 12) (.tmp 11), none, []⟩]) (.seq (.cond (.tmp 13) .skip (.exit 0)) (.seq (.block 1 (.seq (.ops [⟨some 14, .iaddr 1 (.tmp 10) (.tmp 12), none, []⟩, ⟨some 15, .load none (.tmp 14), none, []⟩, ⟨some 7, .move (.tmp 15), none, []⟩]) (.seq (.ops [⟨some 16, .move (.tmp 5), none, []⟩, ⟨some 17, .move (.tmp 7), none, []⟩, ⟨some 18, .blen 1 (.tmp 17), none, []⟩, ⟨some 19, .bin .add .none (.tmp 16) (.tmp 18), none, []⟩, ⟨some 5, .move (.tmp 19), none, []⟩]) (.seq (.seq (.ops [⟨some 20, .move (.tmp 5), none, []⟩, ⟨some 21, .move (.tmp 0), none, []⟩, ⟨some 22, .bin .gtr .none (.tmp 20) (.tmp 21), none, []⟩]) (.cond (.tmp 22) (.seq (.ops [⟨some 4, .move (.lit (.bool false)), none, []⟩]) .ret) .skip)) (.seq (.ops [⟨some 23, .move (.tmp 7), none, []⟩, ⟨some 24, .blen 1 (.tmp 23), none, []⟩, ⟨some 25, .move (.lit (.int .i64 0)), none, []⟩]) (.block 2 (.loop (.seq (.ops [⟨some 26, .bin .lss .none (.tmp 25) (.tmp 24), none, []⟩]) (.seq (.cond (.tmp 26) .skip (.exit 2)) (.seq (.block 3 (.seq (.ops [⟨some 27, .iaddr 1 (.tmp 23) (.tmp 25), none, []⟩, ⟨some 28, .load none (.tmp 27), none, []⟩, ⟨some 9, .move (.tmp 28), none, []⟩]) (.ops [⟨some 29, .move (.tmp 5), none, []⟩, ⟨some 30, .move (.tmp 9), none, []⟩, ⟨some 31, .blen 1 (.tmp 30), none, []⟩, ⟨some 32, .bin .add .none (.tmp 29) (.tmp 31), none, []⟩, ⟨some 5, .move (.tmp 32), none, []⟩]))) (.ops [⟨some 33, .bin .add .none (.tmp 25) (.lit (.int .i64 1)), none, []⟩, ⟨some 25, .move (.tmp 33), none, []⟩]))))))))))) (.ops [⟨some 34, .bin .add .none (.tmp 12) (.lit (.int .i64 1)), none, []⟩, ⟨some 12, .move (.tmp 34), none, []⟩]))))))) (.seq (.ops [⟨some 35, .move (.tmp 5), none, []⟩, ⟨some 36, .move (.tmp 0), none, []⟩, ⟨some 37, .bin .leq .none (.tmp 35) (.tmp 36), none, []⟩, ⟨some 4, .move (.tmp 37), none, []⟩]) .ret)))
set_option maxRecDepth 20000 in
theorem few07_spec (n : Nat) (hn : n ≤ 4096) (fs : List (List (List FLit))) (tok : Tok) (σ : Store) (hf : fs.length ≤ 140737488355328) (hl : ∀ f ∈ fs, f.length ≤ 140737488355328 ∧ ∀ l ∈ f, l.length ≤ 140737488355328) :
    ACalls Tryz.prog 34 [.int .i64 n, .slice tok (fs.map encF)] σ (isR (.bool (decide ((fs.map formSize).sum ≤ n))) σ) := by
  refine ACalls.intro (rs := [(.tmp 4)]) (by kernel_rfl) { own := [], ghosts := [] } Tryz.func34 (c := Tryz.f34.body.getD .skip) (by kernel_rfl) (by decide) (by rw [show Tryz.f34.ntmps = 38 by kernel_rfl]; exact Nat.le_of_ble_eq_true rfl) (by kernel_rfl) ?_
  intro hσ hids
  rw [show comp Tryz.prog { own := [], ghosts := [] } (Tryz.f34.body.getD .skip) = c_few07 by kernel_rfl, show Tryz.f34.ntmps = 38 by kernel_rfl]
  unfold c_few07
  obtain ⟨T, hT⟩ : ∃ T : Nat, T = 140737488355328 := ⟨_, rfl⟩
  have hnT := mulTop (T := T) hn
  have hil' : Ids σ.length (.slice tok (fs.map encF)) := hids _ (by simp)
  simp only [go_sem, Int.reduceToNat, Int.reduceLE, Int.reduceLT, Nat.reduceBEq, Nat.reduceLT, Nat.reduceAdd, Nat.reduceLeDiff]
  refine wpc_while (fun (q : Nat × Nat) => [(0, .int .i64 n), (5, .int .i64 q.2), (10, .slice tok (fs.map encF)), (11, .int .i64 fs.length), (12, .int .i64 q.1)]) (fun _ => σ) (fun q => q.1 ≤ fs.length ∧ q.2 ≤ n + n * T ∧ (fs.map formSize).sum = q.2 + ((fs.drop q.1).map formSize).sum) (fun q => fs.length - q.1) (0, 0) ⟨Nat.zero_le _, Nat.zero_le _, by simp⟩ (by (try dsimp only); first | exact ghk | exact ghk0) ?_
  rintro ⟨i, a⟩ ⟨hi, ha, hv⟩ K hK hE hR
  dsimp only at hi ha hv ⊢
  by_cases h : i < fs.length
  · obtain ⟨f, hx⟩ := get_ex h; have hlt : ((i : Int) < (fs.length : Int)) := (by omega); have hw : IntKind.i64.wrap ((i : Int) + 1) = ((i + 1 : Nat) : Int) := (by rw [wrap_ok (by omega)]; omega)
    obtain ⟨f1, f2⟩ := hl f (List.mem_of_getElem? hx)
    rw [drop_cons hx, sums_cons, formSize] at hv
    have hw1 : IntKind.i64.wrap ((a : Int) + f.length) = ((a + f.length : Nat) : Int) := by rw [wrap_ok (by omega)]; omega
    by_cases h1 : ((a + f.length : Nat) : Int) > n
    · simp only [go_sem, Int.reduceToNat, Int.reduceLE, Int.reduceLT, Nat.reduceBEq, Nat.reduceLT, Nat.reduceAdd, Nat.reduceLeDiff, hlt, hx, encF, hw1, h1]
      rw [hR]
      first | exact rtk (.bool false) ⟨by rw [decide_eq_false (p := (fs.map formSize).sum ≤ n) (by omega)], rfl⟩ | exact rtk0 (.bool false) ⟨by rw [decide_eq_false (p := (fs.map formSize).sum ≤ n) (by omega)], rfl⟩
    · have hif : Ids σ.length (.slice .unk (f.map encC)) := ids_map ids_encC _
      simp only [go_sem, Int.reduceToNat, Int.reduceLE, Int.reduceLT, Nat.reduceBEq, Nat.reduceLT, Nat.reduceAdd, Nat.reduceLeDiff, hlt, hx, encF, hw1, h1]
      refine wpc_while (fun (q : Nat × Nat) => [(0, .int .i64 n), (5, .int .i64 q.2), (10, .slice tok (fs.map encF)), (11, .int .i64 fs.length), (12, .int .i64 i), (23, .slice .unk (f.map encC)), (24, .int .i64 f.length), (25, .int .i64 q.1)]) (fun _ => σ) (fun q => q.1 ≤ f.length ∧ q.2 ≤ n + q.1 * T ∧ (fs.map formSize).sum = q.2 + ((f.drop q.1).map List.length).sum + ((fs.drop (i + 1)).map formSize).sum) (fun q => f.length - q.1) (0, a + f.length) ⟨Nat.zero_le _, by simp only []; omega, by rw [List.drop_zero]; omega⟩ (by (try dsimp only); first | exact ghk | exact ghk0) ?_
      rintro ⟨j, b⟩ ⟨hjl, hbb, hvj⟩ K' hK' hE' hR'
      dsimp only at hjl hbb hvj ⊢
      have hfn : f.length ≤ n := by omega
      have hjm := mulTop (T := T) (Nat.le_trans hjl hfn)
      by_cases hj : j < f.length
      · obtain ⟨l, hxj⟩ := get_ex hj; have hltj : ((j : Int) < (f.length : Int)) := (by omega); have hwj : IntKind.i64.wrap ((j : Int) + 1) = ((j + 1 : Nat) : Int) := (by rw [wrap_ok (by omega)]; omega)
        have f3 := f2 l (List.mem_of_getElem? hxj)
        rw [drop_cons hxj, sum_cons] at hvj
        have hw2 : IntKind.i64.wrap ((b : Int) + l.length) = ((b + l.length : Nat) : Int) := by rw [wrap_ok (by omega)]; omega
        simp only [go_sem, Int.reduceToNat, Int.reduceLE, Int.reduceLT, Nat.reduceBEq, Nat.reduceLT, Nat.reduceAdd, Nat.reduceLeDiff, hltj, hxj, encC, hw2]
        refine hK' _ _ (j + 1, b + l.length) ⟨by simp only []; omega, by simp only [Nat.add_mul]; omega, by simp only []; omega⟩ (by simp only []; omega) ?_
        exact (by (try dsimp only); (try simp only [hwj]); first | exact ghk | exact ghk0)
      · have hltj : ¬ ((j : Int) < (f.length : Int)) := by omega
        rw [drop_len hj] at hvj
        simp only [go_sem, Int.reduceToNat, Int.reduceLE, Int.reduceLT, Nat.reduceBEq, Nat.reduceLT, Nat.reduceAdd, Nat.reduceLeDiff, hltj, hE']
        refine hK _ _ ((i + 1, b)) (⟨by simp only []; omega, by simp only []; omega, by simpa using hvj⟩) (by first | omega | (simp only []; omega) | (simp; omega)) ?_; (try dsimp only); (try simp only [ hw]); first | exact ghk | exact ghk0
  · have hlt : ¬ ((i : Int) < (fs.length : Int)) := by omega
    rw [drop_len h, List.map_nil, List.sum_nil] at hv
    simp only [go_sem, Int.reduceToNat, Int.reduceLE, Int.reduceLT, Nat.reduceBEq, Nat.reduceLT, Nat.reduceAdd, Nat.reduceLeDiff, hlt, hE]
    first | exact rtk (.bool (decide ((a : Int) ≤ n))) ⟨by congr 1; apply decide_eq_decide.2; omega, rfl⟩ | exact rtk0 (.bool (decide ((a : Int) ≤ n))) ⟨by congr 1; apply decide_eq_decide.2; omega, rfl⟩
end Go.Proofs.YtocphglkceidhaaGreat
namespace Go.Proofs.YtocphglkceidhaaGreat
open Go.Ahl
theorem bget (b : ByteArray) (i : Nat) : b[i]? = b.data.toList[i]? := by
  rw [Array.getElem?_toList]
  by_cases h : i < b.size
  · rw [getElem?_pos b i h, Array.getElem?_eq_getElem (by exact h)]; rfl
  · rw [getElem?_neg b i h, Array.getElem?_eq_none (by simpa using h)]
def letterB (c : Int) : Bool := (decide (97 ≤ c) && decide (c ≤ 122)) || (decide (65 ≤ c) && decide (c ≤ 90))
def digitB (c : Int) : Bool := decide (48 ≤ c) && decide (c ≤ 57)
def c_letter : CCode := .seq (.ops [⟨some 2, .move (.lit (.bool false)), none, []⟩]) (.seq (.ops [⟨some 3, .move (.tmp 0), none, []⟩, ⟨some 4, .bin .geq .none (.tmp 3) (.lit (.int .u8 97)), none, []⟩, ⟨some 5, .move (.tmp 4), none, []⟩, ⟨some 6, .move (.tmp 0), some (some 5, true), []⟩, ⟨some 7, .bin .leq .none (.tmp 6) (.lit (.int .u8 122)), some (some 5, true), []⟩, ⟨some 8, .pick (.tmp 5) (.tmp 7) (.lit (.bool false)), none, []⟩, ⟨some 9, .move (.tmp 8), none, []⟩, ⟨some 10, .move (.tmp 0), some (some 9, false), []⟩, ⟨some 11, .bin .geq .none (.tmp 10) (.lit (.int .u8 65)), some (some 9, false), []⟩, ⟨some 12, .move (.tmp 11), some (some 9, false), []⟩, ⟨some 13, .move (.tmp 0), some (some 12, true), []⟩, ⟨some 14, .bin .leq .none (.tmp 13) (.lit (.int .u8 90)), some (some 12, true), []⟩, ⟨some 15, .pick (.tmp 12) (.tmp 14) (.lit (.bool false)), some (some 9, false), []⟩, ⟨some 16, .pick (.tmp 9) (.lit (.bool true)) (.tmp 15), none, []⟩, ⟨some 2, .move (.tmp 16), none, []⟩]) .ret)
set_option maxRecDepth 20000 in
theorem letter_spec (c : Int) (σ : Store) : ACalls Tryz.prog 130 [.int .u8 c] σ (isR (.bool (letterB c)) σ) := by
  refine ACalls.intro (rs := [(.tmp 2)]) (by kernel_rfl) { own := [], ghosts := [] } Tryz.func130 (c := Tryz.f130.body.getD .skip) (by kernel_rfl) (by decide) (by rw [show Tryz.f130.ntmps = 17 by kernel_rfl]; exact Nat.le_of_ble_eq_true rfl) (by kernel_rfl) ?_
  intro hσ hids
  rw [show comp Tryz.prog { own := [], ghosts := [] } (Tryz.f130.body.getD .skip) = c_letter by kernel_rfl, show Tryz.f130.ntmps = 17 by kernel_rfl]
  unfold c_letter
  by_cases h1 : c ≥ 97 <;> by_cases h2 : c ≤ 122 <;> by_cases h3 : c ≥ 65 <;> by_cases h4 : c ≤ 90
  all_goals
    simp only [go_sem, Int.reduceToNat, Int.reduceLE, Int.reduceLT, Nat.reduceBEq, Nat.reduceLT, Nat.reduceAdd, Nat.reduceLeDiff, h1, h2, h3, h4]
    first | exact rtw (v := .bool _) wkS ⟨by simp only [letterB, ge_iff_le] at *; simp only [h1, h2, h3, h4]; rfl, rfl⟩ | exact rtw0 (v := .bool _) wkS ⟨by simp only [letterB, ge_iff_le] at *; simp only [h1, h2, h3, h4]; rfl, rfl⟩
def c_letter01 : CCode := .seq (.ops [⟨some 2, .move (.lit (.bool false)), none, []⟩]) (.seq (.ops [⟨some 3, .move (.tmp 0), none, []⟩, ⟨some 4, .bin .geq .none (.tmp 3) (.lit (.int .u8 97)), none, []⟩, ⟨some 5, .move (.tmp 4), none, []⟩, ⟨some 6, .move (.tmp 0), some (some 5, true), []⟩, ⟨some 7, .bin .leq .none (.tmp 6) (.lit (.int .u8 122)), some (some 5, true), []⟩, ⟨some 8, .pick (.tmp 5) (.tmp 7) (.lit (.bool false)), none, []⟩, ⟨some 9, .move (.tmp 8), none, []⟩, ⟨some 10, .move (.tmp 0), some (some 9, false), []⟩, ⟨some 11, .bin .geq .none (.tmp 10) (.lit (.int .u8 65)), some (some 9, false), []⟩, ⟨some 12, .move (.tmp 11), some (some 9, false), []⟩, ⟨some 13, .move (.tmp 0), some (some 12, true), []⟩, ⟨some 14, .bin .leq .none (.tmp 13) (.lit (.int .u8 90)), some (some 12, true), []⟩, ⟨some 15, .pick (.tmp 12) (.tmp 14) (.lit (.bool false)), some (some 9, false), []⟩, ⟨some 16, .pick (.tmp 9) (.lit (.bool true)) (.tmp 15), none, []⟩, ⟨some 2, .move (.tmp 16), none, []⟩]) .ret)
set_option maxRecDepth 20000 in
theorem letter01_spec (c : Int) (σ : Store) : ACalls Tryz.prog 146 [.int .u8 c] σ (isR (.bool (letterB c)) σ) := by
  refine ACalls.intro (rs := [(.tmp 2)]) (by kernel_rfl) { own := [], ghosts := [] } Tryz.func146 (c := Tryz.f146.body.getD .skip) (by kernel_rfl) (by decide) (by rw [show Tryz.f146.ntmps = 17 by kernel_rfl]; exact Nat.le_of_ble_eq_true rfl) (by kernel_rfl) ?_
  intro hσ hids
  rw [show comp Tryz.prog { own := [], ghosts := [] } (Tryz.f146.body.getD .skip) = c_letter01 by kernel_rfl, show Tryz.f146.ntmps = 17 by kernel_rfl]
  unfold c_letter01
  by_cases h1 : c ≥ 97 <;> by_cases h2 : c ≤ 122 <;> by_cases h3 : c ≥ 65 <;> by_cases h4 : c ≤ 90
  all_goals
    simp only [go_sem, Int.reduceToNat, Int.reduceLE, Int.reduceLT, Nat.reduceBEq, Nat.reduceLT, Nat.reduceAdd, Nat.reduceLeDiff, h1, h2, h3, h4]
    first | exact rtw (v := .bool _) wkS ⟨by simp only [letterB, ge_iff_le] at *; simp only [h1, h2, h3, h4]; rfl, rfl⟩ | exact rtw0 (v := .bool _) wkS ⟨by simp only [letterB, ge_iff_le] at *; simp only [h1, h2, h3, h4]; rfl, rfl⟩
def c_digit01 : CCode := .seq (.ops [⟨some 2, .move (.lit (.bool false)), none, []⟩]) (.seq (.ops [⟨some 3, .move (.tmp 0), none, []⟩, ⟨some 4, .bin .geq .none (.tmp 3) (.lit (.int .u8 48)), none, []⟩, ⟨some 5, .move (.tmp 4), none, []⟩, ⟨some 6, .move (.tmp 0), some (some 5, true), []⟩, ⟨some 7, .bin .leq .none (.tmp 6) (.lit (.int .u8 57)), some (some 5, true), []⟩, ⟨some 8, .pick (.tmp 5) (.tmp 7) (.lit (.bool false)), none, []⟩, ⟨some 2, .move (.tmp 8), none, []⟩]) .ret)
set_option maxRecDepth 20000 in
theorem digit01_spec (c : Int) (σ : Store) : ACalls Tryz.prog 147 [.int .u8 c] σ (isR (.bool (digitB c)) σ) := by
  refine ACalls.intro (rs := [(.tmp 2)]) (by kernel_rfl) { own := [], ghosts := [] } Tryz.func147 (c := Tryz.f147.body.getD .skip) (by kernel_rfl) (by decide) (by rw [show Tryz.f147.ntmps = 9 by kernel_rfl]; exact Nat.le_of_ble_eq_true rfl) (by kernel_rfl) ?_
  intro hσ hids
  rw [show comp Tryz.prog { own := [], ghosts := [] } (Tryz.f147.body.getD .skip) = c_digit01 by kernel_rfl, show Tryz.f147.ntmps = 9 by kernel_rfl]
  unfold c_digit01
  by_cases h1 : c ≥ 48 <;> by_cases h2 : c ≤ 57
  all_goals
    simp only [go_sem, Int.reduceToNat, Int.reduceLE, Int.reduceLT, Nat.reduceBEq, Nat.reduceLT, Nat.reduceAdd, Nat.reduceLeDiff, h1, h2]
    first | exact rtw (v := .bool _) wkS ⟨by simp only [digitB, ge_iff_le] at *; simp only [h1, h2]; rfl, rfl⟩ | exact rtw0 (v := .bool _) wkS ⟨by simp only [digitB, ge_iff_le] at *; simp only [h1, h2]; rfl, rfl⟩
theorem toNat_eq (a b : UInt8) : ((a.toNat : Int) == (b.toNat : Int)) = (a == b) := by
  by_cases h : a = b
  · subst h; simp
  · have h1 : (a == b) = false := by simpa using h
    have h2 : ¬ (a.toNat : Int) = (b.toNat : Int) := fun e => h (UInt8.toNat_inj.1 (by omega))
    rw [h1]; simpa using h2
def c_within01 : CCode := .seq (.ops [⟨some 4, .move (.lit (.bool false)), none, []⟩]) (.seq (.seq (.ops [⟨some 6, .move (.tmp 0), none, []⟩, ⟨some 7, .blen 0 (.tmp 6), none, []⟩, ⟨some 8, .move (.lit (.int .i64 0)), none, []⟩]) (.block 0 (.loop (.seq (.ops [⟨some 9, .bin .lss .none (.tmp 8) (.tmp 7), none, []⟩]) (.seq (.cond (.tmp 9) .skip (.exit 0)) (.seq (.block 1 (.seq (.ops [⟨some 10, .move (.tmp 8), none, []⟩, ⟨some 5, .move (.tmp 10), none, []⟩]) (.seq (.ops [⟨some 11, .move (.tmp 0), none, []⟩, ⟨some 12, .move (.tmp 5), none, []⟩, ⟨some 13, .istr (.tmp 11) (.tmp 12), none, []⟩, ⟨some 14, .move (.tmp 1), none, []⟩, ⟨some 15, .bin .eql .none (.tmp 13) (.tmp 14), none, []⟩]) (.cond (.tmp 15) (.seq (.ops [⟨some 4, .move (.lit (.bool true)), none, []⟩]) .ret) .skip)))) (.ops [⟨some 16, .bin .add .none (.tmp 8) (.lit (.int .i64 1)), none, []⟩, ⟨some 8, .move (.tmp 16), none, []⟩]))))))) (.seq (.ops [⟨some 4, .move (.lit (.bool false)), none, []⟩]) .ret))
set_option maxRecDepth 20000 in
theorem within01_spec (b : ByteArray) (c : UInt8) (σ : Store) (hb : b.data.toList.length ≤ 140737488355328) : ACalls Tryz.prog 148 [.str b, .int .u8 c.toNat] σ (isR (.bool (b.data.toList.contains c)) σ) := by
  refine ACalls.intro (rs := [(.tmp 4)]) (by kernel_rfl) { own := [], ghosts := [] } Tryz.func148 (c := Tryz.f148.body.getD .skip) (by kernel_rfl) (by decide) (by rw [show Tryz.f148.ntmps = 17 by kernel_rfl]; exact Nat.le_of_ble_eq_true rfl) (by kernel_rfl) ?_
  intro hσ hids
  rw [show comp Tryz.prog { own := [], ghosts := [] } (Tryz.f148.body.getD .skip) = c_within01 by kernel_rfl, show Tryz.f148.ntmps = 17 by kernel_rfl]
  unfold c_within01
  have hs : b.size = b.data.toList.length := rfl
  simp only [go_sem, Int.reduceToNat, Int.reduceLE, Int.reduceLT, Nat.reduceBEq, Nat.reduceLT, Nat.reduceAdd, Nat.reduceLeDiff]
  rw [hs]
  refine wpc_while (fun i => [(0, .str b), (1, .int .u8 c.toNat), (7, .int .i64 b.data.toList.length), (8, .int .i64 (i : Nat))]) (fun _ => σ) (fun i => i ≤ b.data.toList.length ∧ b.data.toList.contains c = (b.data.toList.drop i).contains c) (fun i => b.data.toList.length - i) 0 ⟨Nat.zero_le _, rfl⟩ (by (try dsimp only); first | exact ghk | exact ghk0) ?_
  rintro i ⟨hi, hv⟩ K hK hE hR
  by_cases h : i < b.data.toList.length
  · obtain ⟨y, hx⟩ := get_ex h; have hlt : ((i : Int) < (b.data.toList.length : Int)) := (by omega); have hw : IntKind.i64.wrap ((i : Int) + 1) = ((i + 1 : Nat) : Int) := (by rw [wrap_ok (by omega)]; omega)
    rw [drop_cons hx, List.contains_cons] at hv
    rw [← bget] at hx
    by_cases h1 : c = y
    · subst h1
      simp only [go_sem, Int.reduceToNat, Int.reduceLE, Int.reduceLT, Nat.reduceBEq, Nat.reduceLT, Nat.reduceAdd, Nat.reduceLeDiff, hlt, hx, toNat_eq, beq_self_eq_true]
      rw [hR]
      first | exact rtk (.bool true) ⟨by rw [hv]; simp, rfl⟩ | exact rtk0 (.bool true) ⟨by rw [hv]; simp, rfl⟩
    · have h1' : (y == c) = false := by simpa using Ne.symm h1
      have h1'' : (c == y) = false := by simpa using h1
      simp only [go_sem, Int.reduceToNat, Int.reduceLE, Int.reduceLT, Nat.reduceBEq, Nat.reduceLT, Nat.reduceAdd, Nat.reduceLeDiff, hlt, hx, toNat_eq, h1']
      rw [h1'', Bool.false_or] at hv
      refine hK _ _ (i + 1) (⟨by omega, hv⟩) (by first | omega | (simp only []; omega) | (simp; omega)) ?_; (try dsimp only); (try simp only [ hw]); first | exact ghk | exact ghk0
  · have hlt : ¬ ((i : Int) < (b.data.toList.length : Int)) := by omega
    rw [drop_len h] at hv
    simp only [go_sem, Int.reduceToNat, Int.reduceLE, Int.reduceLT, Nat.reduceBEq, Nat.reduceLT, Nat.reduceAdd, Nat.reduceLeDiff, hlt, hE]
    first | exact rtk (.bool false) ⟨by rw [hv]; rfl, rfl⟩ | exact rtk0 (.bool false) ⟨by rw [hv]; rfl, rfl⟩
def okC (c : UInt8) : Bool := letterB c.toNat || digitB c.toNat || [45, 95, 40, 41, 44].contains c
def nameL : List UInt8 → Bool
  | [] => false
  | c :: l => decide (l.length + 1 ≤ 40) && letterB c.toNat && (c :: l).all okC
def nameB (b : ByteArray) : Bool := nameL b.data.toList
theorem nameL_len {l : List UInt8} (h : ¬ (l.length : Int) < 1) (h2 : ¬ (l.length : Int) > 40) {c : UInt8} (hc : l[0]? = some c) : nameL l = (letterB c.toNat && l.all okC) := by
  cases l with
  | nil => simp at h
  | cons d l =>
    simp only [List.getElem?_cons_zero, Option.some.injEq] at hc
    subst hc
    rw [nameL, decide_eq_true (by simp at h2; omega : l.length + 1 ≤ 40), Bool.true_and]
theorem nameL_short {l : List UInt8} (h : (l.length : Int) < 1) : nameL l = false := by
  cases l with
  | nil => rfl
  | cons c l => simp at h; omega
theorem nameL_long {l : List UInt8} (h : (l.length : Int) > 40) : nameL l = false := by
  cases l with
  | nil => rfl
  | cons c l => rw [nameL, decide_eq_false (by simp at h; omega)]; rfl
def c_name01 : CCode := .seq (.ops [⟨some 2, .move (.lit (.bool false)), none, []⟩]) (.seq (.seq (.ops [⟨some 4, .move (.tmp 0), none, []⟩, ⟨some 5, .blen 0 (.tmp 4), none, []⟩, ⟨some 6, .bin .lss .none (.tmp 5) (.lit (.int .i64 1)), none, []⟩, ⟨some 7, .move (.tmp 6), none, []⟩, ⟨some 8, .move (.tmp 0), some (some 7, false), []⟩, ⟨some 9, .blen 0 (.tmp 8), some (some 7, false), []⟩, ⟨some 10, .bin .gtr .none (.tmp 9) (.lit (.int .i64 40)), some (some 7, false), []⟩, ⟨some 11, .pick (.tmp 7) (.lit (.bool true)) (.tmp 10), none, []⟩, ⟨some 12, .move (.tmp 11), none, []⟩, ⟨some 13, .move (.tmp 0), some (some 12, false), []⟩, ⟨some 14, .istr (.tmp 13) (.lit (.int .i64 0)), some (some 12, false), []⟩, ⟨some 15, .call (.lit (.func 146 [])) [.tmp 14], some (some 12, false), []⟩, ⟨some 16, .un .not (.tmp 15), some (some 12, false), []⟩, ⟨some 17, .pick (.tmp 12) (.lit (.bool true)) (.tmp 16), none, []⟩]) (.cond (.tmp 17) (.seq (.ops [⟨some 2, .move (.lit (.bool false)), none, []⟩]) .ret) .skip)) (.seq (.seq (.ops [⟨some 18, .move (.tmp 0), none, []⟩, ⟨some 19, .blen 0 (.tmp 18), none, []⟩, ⟨some 20, .move (.lit (.int .i64 0)), none, []⟩]) (.block 0 (.loop (.seq (.ops [⟨some 21, .bin .lss .none (.tmp 20) (.tmp 19), none, []⟩]) (.seq (.cond (.tmp 21) .skip (.exit 0)) (.seq (.block 1 (.seq (.ops [⟨some 22, .move (.tmp 20), none, []⟩, ⟨some 3, .move (.tmp 22), none, []⟩]) (.seq (.ops [⟨some 23, .move (.tmp 0), none, []⟩, ⟨some 24, .move (.tmp 3), none, []⟩, ⟨some 25, .istr (.tmp 23) (.tmp 24), none, []⟩, ⟨some 26, .call (.lit (.func 146 [])) [.tmp 25], none, []⟩, ⟨some 27, .un .not (.tmp 26), none, []⟩, ⟨some 28, .move (.tmp 27), none, []⟩, ⟨some 29, .move (.tmp 0), some (some 28, true), []⟩, ⟨some 30, .move (.tmp 3), some (some 28, true), []⟩, ⟨some 31, .istr (.tmp 29) (.tmp 30), some (some 28, true), []⟩, ⟨some 32, .call (.lit (.func 147 [])) [.tmp 31], some (some 28, true), []⟩, ⟨some 33, .un .not (.tmp 32), some (some 28, true), []⟩, ⟨some 34, .pick (.tmp 28) (.tmp 33) (.lit (.bool false)), none, []⟩, ⟨some 35, .move (.tmp 34), none, []⟩, ⟨some 36, .move (.tmp 0), some (some 35, true), []⟩, ⟨some 37, .move (.tmp 3), some (some 35, true), []⟩, ⟨some 38, .istr (.tmp 36) (.tmp 37), some (some 35, true), []⟩, ⟨some 39, .call (.lit (.func 148 [])) [.lit (.str (bys [45, 95, 40, 41, 44])), .tmp 38], some (some 35, true), []⟩, ⟨some 40, .un .not (.tmp 39), some (some 35, true), []⟩, ⟨some 41, .pick (.tmp 35) (.tmp 40) (.lit (.bool false)), none, []⟩]) (.cond (.tmp 41) (.seq (.ops [⟨some 2, .move (.lit (.bool false)), none, []⟩]) .ret) .skip)))) (.ops [⟨some 42, .bin .add .none (.tmp 20) (.lit (.int .i64 1)), none, []⟩, ⟨some 20, .move (.tmp 42), none, []⟩]))))))) (.seq (.ops [⟨some 2, .move (.lit (.bool true)), none, []⟩]) .ret)))
set_option maxRecDepth 20000 in
theorem name01_spec (b : ByteArray) (σ : Store) (hb : b.data.toList.length ≤ 140737488355328) : ACalls Tryz.prog 109 [.str b] σ (isR (.bool (nameB b)) σ) := by
  refine ACalls.intro (rs := [(.tmp 2)]) (by kernel_rfl) { own := [], ghosts := [] } Tryz.func109 (c := Tryz.f109.body.getD .skip) (by kernel_rfl) (by decide) (by rw [show Tryz.f109.ntmps = 43 by kernel_rfl]; exact Nat.le_of_ble_eq_true rfl) (by kernel_rfl) ?_
  intro hσ hids
  rw [show comp Tryz.prog { own := [], ghosts := [] } (Tryz.f109.body.getD .skip) = c_name01 by kernel_rfl, show Tryz.f109.ntmps = 43 by kernel_rfl]
  unfold c_name01
  have hs : b.size = b.data.toList.length := rfl
  unfold nameB
  by_cases h1 : (b.data.toList.length : Int) < 1
  · simp only [go_sem, Int.reduceToNat, Int.reduceLE, Int.reduceLT, Nat.reduceBEq, Nat.reduceLT, Nat.reduceAdd, Nat.reduceLeDiff, hs, h1]
    first | exact rtk (.bool false) ⟨by rw [nameL_short h1], rfl⟩ | exact rtk0 (.bool false) ⟨by rw [nameL_short h1], rfl⟩
  by_cases h2 : (b.data.toList.length : Int) > 40
  · simp only [go_sem, Int.reduceToNat, Int.reduceLE, Int.reduceLT, Nat.reduceBEq, Nat.reduceLT, Nat.reduceAdd, Nat.reduceLeDiff, hs, h1, h2]
    first | exact rtk (.bool false) ⟨by rw [nameL_long h2], rfl⟩ | exact rtk0 (.bool false) ⟨by rw [nameL_long h2], rfl⟩
  obtain ⟨c0, hc0⟩ : ∃ c, b.data.toList[0]? = some c := get_ex (by omega)
  have hn := nameL_len h1 h2 hc0
  rw [← bget] at hc0
  simp only [go_sem, Int.reduceToNat, Int.reduceLE, Int.reduceLT, Nat.reduceBEq, Nat.reduceLT, Nat.reduceAdd, Nat.reduceLeDiff, hs, h1, h2, hc0, Int.toNat_zero, Int.le_refl]
  refine (letter01_spec c0.toNat σ).is ?_
  cases hl : letterB c0.toNat
  · simp only [go_sem, Int.reduceToNat, Int.reduceLE, Int.reduceLT, Nat.reduceBEq, Nat.reduceLT, Nat.reduceAdd, Nat.reduceLeDiff, hs]
    first | exact rtk (.bool false) ⟨by rw [hn, hl]; rfl, rfl⟩ | exact rtk0 (.bool false) ⟨by rw [hn, hl]; rfl, rfl⟩
  rw [hl, Bool.true_and] at hn
  simp only [go_sem, Int.reduceToNat, Int.reduceLE, Int.reduceLT, Nat.reduceBEq, Nat.reduceLT, Nat.reduceAdd, Nat.reduceLeDiff, hs]
  refine wpc_while (fun i => [(0, .str b), (19, .int .i64 b.data.toList.length), (20, .int .i64 (i : Nat))]) (fun _ => σ) (fun i => i ≤ b.data.toList.length ∧ nameL b.data.toList = (b.data.toList.drop i).all okC) (fun i => b.data.toList.length - i) 0 ⟨Nat.zero_le _, hn⟩ (by (try dsimp only); first | exact ghk | exact ghk0) ?_
  rintro i ⟨hi, hv⟩ K hK hE hR
  by_cases h : i < b.data.toList.length
  · obtain ⟨y, hx⟩ := get_ex h; have hlt : ((i : Int) < (b.data.toList.length : Int)) := (by omega); have hw : IntKind.i64.wrap ((i : Int) + 1) = ((i + 1 : Nat) : Int) := (by rw [wrap_ok (by omega)]; omega)
    rw [drop_cons hx, List.all_cons] at hv
    rw [← bget] at hx
    simp only [go_sem, Int.reduceToNat, Int.reduceLE, Int.reduceLT, Nat.reduceBEq, Nat.reduceLT, Nat.reduceAdd, Nat.reduceLeDiff, hlt, hx]
    refine (letter01_spec y.toNat σ).is ?_
    cases h1 : letterB y.toNat
    · simp only [go_sem, Int.reduceToNat, Int.reduceLE, Int.reduceLT, Nat.reduceBEq, Nat.reduceLT, Nat.reduceAdd, Nat.reduceLeDiff, hx]
      refine (digit01_spec y.toNat σ).is ?_
      cases h2 : digitB y.toNat
      · simp only [go_sem, Int.reduceToNat, Int.reduceLE, Int.reduceLT, Nat.reduceBEq, Nat.reduceLT, Nat.reduceAdd, Nat.reduceLeDiff, hx]
        refine (within01_spec (bys [45, 95, 40, 41, 44]) y σ (by decide)).is ?_
        have hok : okC y = (bys [45, 95, 40, 41, 44]).data.toList.contains y := by rw [okC, h1, h2]; rfl
        cases h3 : (bys [45, 95, 40, 41, 44]).data.toList.contains y
        · simp only [go_sem, Int.reduceToNat, Int.reduceLE, Int.reduceLT, Nat.reduceBEq, Nat.reduceLT, Nat.reduceAdd, Nat.reduceLeDiff]
          rw [hR]
          first | exact rtk (.bool false) ⟨by rw [hv, hok, h3]; rfl, rfl⟩ | exact rtk0 (.bool false) ⟨by rw [hv, hok, h3]; rfl, rfl⟩
        · simp only [go_sem, Int.reduceToNat, Int.reduceLE, Int.reduceLT, Nat.reduceBEq, Nat.reduceLT, Nat.reduceAdd, Nat.reduceLeDiff]
          rw [hok, h3, Bool.true_and] at hv
          refine hK _ _ (i + 1) (⟨by omega, hv⟩) (by first | omega | (simp only []; omega) | (simp; omega)) ?_; (try dsimp only); (try simp only [ hw]); first | exact ghk | exact ghk0
      · simp only [go_sem, Int.reduceToNat, Int.reduceLE, Int.reduceLT, Nat.reduceBEq, Nat.reduceLT, Nat.reduceAdd, Nat.reduceLeDiff]
        have hok : okC y = true := by rw [okC, h1, h2]; rfl
        rw [hok, Bool.true_and] at hv
        refine hK _ _ (i + 1) (⟨by omega, hv⟩) (by first | omega | (simp only []; omega) | (simp; omega)) ?_; (try dsimp only); (try simp only [ hw]); first | exact ghk | exact ghk0
    · simp only [go_sem, Int.reduceToNat, Int.reduceLE, Int.reduceLT, Nat.reduceBEq, Nat.reduceLT, Nat.reduceAdd, Nat.reduceLeDiff]
      have hok : okC y = true := by rw [okC, h1]; rfl
      rw [hok, Bool.true_and] at hv
      refine hK _ _ (i + 1) (⟨by omega, hv⟩) (by first | omega | (simp only []; omega) | (simp; omega)) ?_; (try dsimp only); (try simp only [ hw]); first | exact ghk | exact ghk0
  · have hlt : ¬ ((i : Int) < (b.data.toList.length : Int)) := by omega
    rw [drop_len h] at hv
    simp only [go_sem, Int.reduceToNat, Int.reduceLE, Int.reduceLT, Nat.reduceBEq, Nat.reduceLT, Nat.reduceAdd, Nat.reduceLeDiff, hlt, hE]
    first | exact rtk (.bool true) ⟨by rw [hv]; rfl, rfl⟩ | exact rtk0 (.bool true) ⟨by rw [hv]; rfl, rfl⟩
theorem indexByteString_spec (b : ByteArray) (c : UInt8) (σ : Store) : ACalls Tryz.prog 169 [.str b, .int .u8 c.toNat] σ (isR (.int .i64 (Lib.indexByte b.data.toList c)) σ) := by
  refine .extern Tryz.func169 (by kernel_rfl) (by kernel_rfl) (by kernel_rfl) (by kernel_rfl) (e := Extern.BytealgIndexByte.indexByte) ?_
  intro m loc w vs ha
  obtain ⟨v0, v1, rfl, h0, h1⟩ := ha.two
  cases h0; cases h1
  refine ⟨_, Lib.run_indexByteString _ _ _, ?_⟩
  rw [Int.toNat_natCast, show c.toNat.toUInt8 = c by simp]
  exact .int _ _
def c_indexByte2 : CCode := .seq (.ops [⟨some 4, .move (.lit (.int .i64 0)), none, []⟩]) (.seq (.ops [⟨some 5, .move (.tmp 0), none, []⟩, ⟨some 6, .move (.tmp 1), none, []⟩, ⟨some 7, .call (.lit (.func 169 [])) [.tmp 5, .tmp 6], none, []⟩, ⟨some 4, .move (.tmp 7), none, []⟩]) .ret)
set_option maxRecDepth 20000 in
theorem indexByte2_spec (b : ByteArray) (c : UInt8) (σ : Store) : ACalls Tryz.prog 157 [.str b, .int .u8 c.toNat] σ (isR (.int .i64 (Lib.indexByte b.data.toList c)) σ) := by
  refine ACalls.intro (rs := [(.tmp 4)]) (by kernel_rfl) { own := [], ghosts := [] } Tryz.func157 (c := Tryz.f157.body.getD .skip) (by kernel_rfl) (by decide) (by rw [show Tryz.f157.ntmps = 8 by kernel_rfl]; exact Nat.le_of_ble_eq_true rfl) (by kernel_rfl) ?_
  intro hσ hids
  rw [show comp Tryz.prog { own := [], ghosts := [] } (Tryz.f157.body.getD .skip) = c_indexByte2 by kernel_rfl, show Tryz.f157.ntmps = 8 by kernel_rfl]
  unfold c_indexByte2
  simp only [go_sem, Int.reduceToNat, Int.reduceLE, Int.reduceLT, Nat.reduceBEq, Nat.reduceLT, Nat.reduceAdd, Nat.reduceLeDiff]
  refine (indexByteString_spec b c σ).is ?_
  simp only [go_sem, Int.reduceToNat, Int.reduceLE, Int.reduceLT, Nat.reduceBEq, Nat.reduceLT, Nat.reduceAdd, Nat.reduceLeDiff]
  first | exact rtw (v := .int .i64 _) wkS ⟨rfl, rfl⟩ | exact rtw0 (v := .int .i64 _) wkS ⟨rfl, rfl⟩
def c_indexByte : CCode := .seq (.ops [⟨some 4, .move (.lit (.int .i64 0)), none, []⟩]) (.seq (.ops [⟨some 5, .move (.tmp 0), none, []⟩, ⟨some 6, .move (.tmp 1), none, []⟩, ⟨some 7, .call (.lit (.func 157 [])) [.tmp 5, .tmp 6], none, []⟩, ⟨some 4, .move (.tmp 7), none, []⟩]) .ret)
set_option maxRecDepth 20000 in
theorem indexByte_spec (b : ByteArray) (c : UInt8) (σ : Store) : ACalls Tryz.prog 131 [.str b, .int .u8 c.toNat] σ (isR (.int .i64 (Lib.indexByte b.data.toList c)) σ) := by
  refine ACalls.intro (rs := [(.tmp 4)]) (by kernel_rfl) { own := [], ghosts := [] } Tryz.func131 (c := Tryz.f131.body.getD .skip) (by kernel_rfl) (by decide) (by rw [show Tryz.f131.ntmps = 8 by kernel_rfl]; exact Nat.le_of_ble_eq_true rfl) (by kernel_rfl) ?_
  intro hσ hids
  rw [show comp Tryz.prog { own := [], ghosts := [] } (Tryz.f131.body.getD .skip) = c_indexByte by kernel_rfl, show Tryz.f131.ntmps = 8 by kernel_rfl]
  unfold c_indexByte
  simp only [go_sem, Int.reduceToNat, Int.reduceLE, Int.reduceLT, Nat.reduceBEq, Nat.reduceLT, Nat.reduceAdd, Nat.reduceLeDiff]
  refine (indexByte2_spec b c σ).is ?_
  simp only [go_sem, Int.reduceToNat, Int.reduceLE, Int.reduceLT, Nat.reduceBEq, Nat.reduceLT, Nat.reduceAdd, Nat.reduceLeDiff]
  first | exact rtw (v := .int .i64 _) wkS ⟨rfl, rfl⟩ | exact rtw0 (v := .int .i64 _) wkS ⟨rfl, rfl⟩
theorem indexByte_neg : ∀ (l : List UInt8) (c : UInt8), (Lib.indexByte l c < 0) = (l.contains c = false)
  | [], c => by simp [Lib.indexByte]
  | b :: l, c => by
    have ih := indexByte_neg l c
    have h1 := Lib.indexByte_ge l c
    unfold Lib.indexByte
    rw [List.contains_cons]
    by_cases hb : b = c
    · subst hb; simp
    · have e1 : (b == c) = false := by simpa using hb
      have e2 : (c == b) = false := by simpa using Ne.symm hb
      rw [e1, e2, Bool.false_or, ← ih, if_neg (by simp)]
      by_cases hm : Lib.indexByte l c = -1
      · rw [if_pos (by simpa using hm), hm]
      · rw [if_neg (by simpa using hm)]; exact propext ⟨fun _ => by omega, fun _ => by omega⟩
def c_name : CCode := .seq (.ops [⟨some 2, .move (.lit (.bool false)), none, []⟩]) (.seq (.seq (.ops [⟨some 5, .move (.tmp 0), none, []⟩, ⟨some 6, .bin .eql .none (.tmp 5) (.lit (.str (bys []))), none, []⟩, ⟨some 7, .move (.tmp 6), none, []⟩, ⟨some 8, .move (.tmp 0), some (some 7, false), []⟩, ⟨some 9, .blen 0 (.tmp 8), some (some 7, false), []⟩, ⟨some 10, .bin .gtr .none (.tmp 9) (.lit (.int .i64 40)), some (some 7, false), []⟩, ⟨some 11, .pick (.tmp 7) (.lit (.bool true)) (.tmp 10), none, []⟩, ⟨some 12, .move (.tmp 11), none, []⟩, ⟨some 13, .move (.tmp 0), some (some 12, false), []⟩, ⟨some 14, .istr (.tmp 13) (.lit (.int .i64 0)), some (some 12, false), []⟩, ⟨some 15, .call (.lit (.func 130 [])) [.tmp 14], some (some 12, false), []⟩, ⟨some 16, .un .not (.tmp 15), some (some 12, false), []⟩, ⟨some 17, .pick (.tmp 12) (.lit (.bool true)) (.tmp 16), none, []⟩]) (.cond (.tmp 17) (.seq (.ops [⟨some 2, .move (.lit (.bool false)), none, []⟩]) .ret) .skip)) (.seq (.seq (.ops [⟨some 18, .move (.tmp 0), none, []⟩, ⟨some 19, .blen 0 (.tmp 18), none, []⟩, ⟨some 20, .move (.lit (.int .i64 0)), none, []⟩]) (.block 0 (.loop (.seq (.ops [⟨some 21, .bin .lss .none (.tmp 20) (.tmp 19), none, []⟩]) (.seq (.cond (.tmp 21) .skip (.exit 0)) (.seq (.block 1 (.seq (.ops [⟨some 22, .move (.tmp 20), none, []⟩, ⟨some 3, .move (.tmp 22), none, []⟩]) (.seq (.ops [⟨some 23, .move (.tmp 0), none, []⟩, ⟨some 24, .move (.tmp 3), none, []⟩, ⟨some 25, .istr (.tmp 23) (.tmp 24), none, []⟩, ⟨some 4, .move (.tmp 25), none, []⟩]) (.seq (.ops [⟨some 26, .move (.tmp 4), none, []⟩, ⟨some 27, .call (.lit (.func 130 [])) [.tmp 26], none, []⟩, ⟨some 28, .un .not (.tmp 27), none, []⟩, ⟨some 29, .move (.tmp 28), none, []⟩, ⟨some 30, .move (.tmp 4), some (some 29, true), []⟩, ⟨some 31, .bin .lss .none (.tmp 30) (.lit (.int .u8 48)), some (some 29, true), []⟩, ⟨some 32, .move (.tmp 31), some (some 29, true), []⟩, ⟨some 33, .move (.tmp 4), some (some 32, false), []⟩, ⟨some 34, .bin .gtr .none (.tmp 33) (.lit (.int .u8 57)), some (some 32, false), []⟩, ⟨some 35, .pick (.tmp 32) (.lit (.bool true)) (.tmp 34), some (some 29, true), []⟩, ⟨some 36, .pick (.tmp 29) (.tmp 35) (.lit (.bool false)), none, []⟩, ⟨some 37, .move (.tmp 36), none, []⟩, ⟨some 38, .move (.tmp 4), some (some 37, true), []⟩, ⟨some 39, .call (.lit (.func 131 [])) [.lit (.str (bys [45, 95, 40, 41, 44])), .tmp 38], some (some 37, true), []⟩, ⟨some 40, .bin .lss .none (.tmp 39) (.lit (.int .i64 0)), some (some 37, true), []⟩, ⟨some 41, .pick (.tmp 37) (.tmp 40) (.lit (.bool false)), none, []⟩]) (.cond (.tmp 41) (.seq (.ops [⟨some 2, .move (.lit (.bool false)), none, []⟩]) .ret) .skip))))) (.ops [⟨some 42, .bin .add .none (.tmp 20) (.lit (.int .i64 1)), none, []⟩, ⟨some 20, .move (.tmp 42), none, []⟩]))))))) (.seq (.ops [⟨some 2, .move (.lit (.bool true)), none, []⟩]) .ret)))
set_option maxRecDepth 20000 in
theorem name_spec (b : ByteArray) (σ : Store) (hb : b.data.toList.length ≤ 140737488355328) : ACalls Tryz.prog 88 [.str b] σ (isR (.bool (nameB b)) σ) := by
  refine ACalls.intro (rs := [(.tmp 2)]) (by kernel_rfl) { own := [], ghosts := [] } Tryz.func88 (c := Tryz.f88.body.getD .skip) (by kernel_rfl) (by decide) (by rw [show Tryz.f88.ntmps = 43 by kernel_rfl]; exact Nat.le_of_ble_eq_true rfl) (by kernel_rfl) ?_
  intro hσ hids
  rw [show comp Tryz.prog { own := [], ghosts := [] } (Tryz.f88.body.getD .skip) = c_name by kernel_rfl, show Tryz.f88.ntmps = 43 by kernel_rfl]
  unfold c_name
  have hs : b.size = b.data.toList.length := rfl
  unfold nameB
  have hem : (b.toList == (bys []).toList) = decide (b.data.toList.length = 0) := by
    by_cases he : b = .empty
    · subst he; rw [toList_data, toList_data]; rfl
    · rw [decide_eq_false (fun e => he (by cases b; simp at e; subst e; rfl))]
      refine beq_eq_false_iff_ne.2 fun e => he ?_
      rw [toList_data, toList_data] at e
      cases b; simp [bys] at e; subst e; rfl
  by_cases h1 : (b.data.toList.length : Int) < 1
  · have h1' : b.data.toList.length = 0 := by omega
    simp only [go_sem, Int.reduceToNat, Int.reduceLE, Int.reduceLT, Nat.reduceBEq, Nat.reduceLT, Nat.reduceAdd, Nat.reduceLeDiff, hs, hem, h1']
    first | exact rtk (.bool false) ⟨by rw [nameL_short h1], rfl⟩ | exact rtk0 (.bool false) ⟨by rw [nameL_short h1], rfl⟩
  have h1' : ¬ b.data.toList.length = 0 := by omega
  by_cases h2 : (b.data.toList.length : Int) > 40
  · simp only [go_sem, Int.reduceToNat, Int.reduceLE, Int.reduceLT, Nat.reduceBEq, Nat.reduceLT, Nat.reduceAdd, Nat.reduceLeDiff, hs, hem, h1', h2]
    first | exact rtk (.bool false) ⟨by rw [nameL_long h2], rfl⟩ | exact rtk0 (.bool false) ⟨by rw [nameL_long h2], rfl⟩
  obtain ⟨c0, hc0⟩ : ∃ c, b.data.toList[0]? = some c := get_ex (by omega)
  have hn := nameL_len h1 h2 hc0
  rw [← bget] at hc0
  simp only [go_sem, Int.reduceToNat, Int.reduceLE, Int.reduceLT, Nat.reduceBEq, Nat.reduceLT, Nat.reduceAdd, Nat.reduceLeDiff, hs, hem, h1', h2, hc0, Int.toNat_zero, Int.le_refl]
  refine (letter_spec c0.toNat σ).is ?_
  cases hl : letterB c0.toNat
  · simp only [go_sem, Int.reduceToNat, Int.reduceLE, Int.reduceLT, Nat.reduceBEq, Nat.reduceLT, Nat.reduceAdd, Nat.reduceLeDiff, hs]
    first | exact rtk (.bool false) ⟨by rw [hn, hl]; rfl, rfl⟩ | exact rtk0 (.bool false) ⟨by rw [hn, hl]; rfl, rfl⟩
  rw [hl, Bool.true_and] at hn
  simp only [go_sem, Int.reduceToNat, Int.reduceLE, Int.reduceLT, Nat.reduceBEq, Nat.reduceLT, Nat.reduceAdd, Nat.reduceLeDiff, hs]
  refine wpc_while (fun i => [(0, .str b), (19, .int .i64 b.data.toList.length), (20, .int .i64 (i : Nat))]) (fun _ => σ) (fun i => i ≤ b.data.toList.length ∧ nameL b.data.toList = (b.data.toList.drop i).all okC) (fun i => b.data.toList.length - i) 0 ⟨Nat.zero_le _, hn⟩ (by (try dsimp only); first | exact ghk | exact ghk0) ?_
  rintro i ⟨hi, hv⟩ K hK hE hR
  by_cases h : i < b.data.toList.length
  · obtain ⟨y, hx⟩ := get_ex h; have hlt : ((i : Int) < (b.data.toList.length : Int)) := (by omega); have hw : IntKind.i64.wrap ((i : Int) + 1) = ((i + 1 : Nat) : Int) := (by rw [wrap_ok (by omega)]; omega)
    rw [drop_cons hx, List.all_cons] at hv
    rw [← bget] at hx
    simp only [go_sem, Int.reduceToNat, Int.reduceLE, Int.reduceLT, Nat.reduceBEq, Nat.reduceLT, Nat.reduceAdd, Nat.reduceLeDiff, hlt, hx]
    refine (letter_spec y.toNat σ).is ?_
    cases h1 : letterB y.toNat
    · have hdig : digitB y.toNat = (!(decide ((y.toNat : Int) < 48)) && !(decide ((y.toNat : Int) > 57))) := by
        unfold digitB
        by_cases a : (y.toNat : Int) < 48 <;> by_cases b : (y.toNat : Int) > 57
        · rw [decide_eq_true a, decide_eq_true b, decide_eq_false (by omega)]; rfl
        · rw [decide_eq_true a, decide_eq_false b, decide_eq_false (by omega)]; rfl
        · rw [decide_eq_false a, decide_eq_true b, decide_eq_true (by omega), decide_eq_false (by omega)]; rfl
        · rw [decide_eq_false a, decide_eq_false b, decide_eq_true (by omega), decide_eq_true (by omega)]; rfl
      by_cases h2 : digitB y.toNat = true
      · rw [h2] at hdig
        have a1 : ¬ (y.toNat : Int) < 48 := fun a => by rw [decide_eq_true a] at hdig; simp at hdig
        have a2 : ¬ (y.toNat : Int) > 57 := fun a => by rw [decide_eq_true a, Bool.not_true, Bool.and_false] at hdig; simp at hdig
        have hok : okC y = true := by rw [okC, h1, h2]; rfl
        rw [hok, Bool.true_and] at hv
        simp only [go_sem, Int.reduceToNat, Int.reduceLE, Int.reduceLT, Nat.reduceBEq, Nat.reduceLT, Nat.reduceAdd, Nat.reduceLeDiff, a1, a2]
        refine hK _ _ (i + 1) (⟨by omega, hv⟩) (by first | omega | (simp only []; omega) | (simp; omega)) ?_; (try dsimp only); (try simp only [ hw]); first | exact ghk | exact ghk0
      · have h2 : digitB y.toNat = false := by simpa using h2
        rw [h2] at hdig
        have hor : (y.toNat : Int) < 48 ∨ (¬ (y.toNat : Int) < 48 ∧ (y.toNat : Int) > 57) := by
          by_cases a : (y.toNat : Int) < 48
          · exact .inl a
          · refine .inr ⟨a, ?_⟩
            rw [decide_eq_false a, Bool.not_false, Bool.true_and] at hdig
            simpa using hdig.symm
        have hok : okC y = [45, 95, 40, 41, 44].contains y := by rw [okC, h1, h2]; rfl
        have hi := indexByte_neg [45, 95, 40, 41, 44] y
        rcases hor with a1 | ⟨a1, a2⟩
        · simp only [go_sem, Int.reduceToNat, Int.reduceLE, Int.reduceLT, Nat.reduceBEq, Nat.reduceLT, Nat.reduceAdd, Nat.reduceLeDiff, a1]
          refine (indexByte_spec (bys [45, 95, 40, 41, 44]) y σ).is ?_
          rw [show (bys [45, 95, 40, 41, 44]).data.toList = [45, 95, 40, 41, 44] from rfl]
          cases h3 : [45, 95, 40, 41, 44].contains y
          · rw [h3] at hi
            have hi : Lib.indexByte [45, 95, 40, 41, 44] y < 0 := by rw [hi]
            simp only [go_sem, Int.reduceToNat, Int.reduceLE, Int.reduceLT, Nat.reduceBEq, Nat.reduceLT, Nat.reduceAdd, Nat.reduceLeDiff, hi]
            rw [hR]
            first | exact rtk (.bool false) ⟨by rw [hv, hok, h3]; rfl, rfl⟩ | exact rtk0 (.bool false) ⟨by rw [hv, hok, h3]; rfl, rfl⟩
          · rw [h3] at hi
            have hi : ¬ Lib.indexByte [45, 95, 40, 41, 44] y < 0 := by rw [hi]; simp
            simp only [go_sem, Int.reduceToNat, Int.reduceLE, Int.reduceLT, Nat.reduceBEq, Nat.reduceLT, Nat.reduceAdd, Nat.reduceLeDiff, hi]
            rw [hok, h3, Bool.true_and] at hv
            refine hK _ _ (i + 1) (⟨by omega, hv⟩) (by first | omega | (simp only []; omega) | (simp; omega)) ?_; (try dsimp only); (try simp only [ hw]); first | exact ghk | exact ghk0
        · simp only [go_sem, Int.reduceToNat, Int.reduceLE, Int.reduceLT, Nat.reduceBEq, Nat.reduceLT, Nat.reduceAdd, Nat.reduceLeDiff, a1, a2]
          refine (indexByte_spec (bys [45, 95, 40, 41, 44]) y σ).is ?_
          rw [show (bys [45, 95, 40, 41, 44]).data.toList = [45, 95, 40, 41, 44] from rfl]
          cases h3 : [45, 95, 40, 41, 44].contains y
          · rw [h3] at hi
            have hi : Lib.indexByte [45, 95, 40, 41, 44] y < 0 := by rw [hi]
            simp only [go_sem, Int.reduceToNat, Int.reduceLE, Int.reduceLT, Nat.reduceBEq, Nat.reduceLT, Nat.reduceAdd, Nat.reduceLeDiff, hi]
            rw [hR]
            first | exact rtk (.bool false) ⟨by rw [hv, hok, h3]; rfl, rfl⟩ | exact rtk0 (.bool false) ⟨by rw [hv, hok, h3]; rfl, rfl⟩
          · rw [h3] at hi
            have hi : ¬ Lib.indexByte [45, 95, 40, 41, 44] y < 0 := by rw [hi]; simp
            simp only [go_sem, Int.reduceToNat, Int.reduceLE, Int.reduceLT, Nat.reduceBEq, Nat.reduceLT, Nat.reduceAdd, Nat.reduceLeDiff, hi]
            rw [hok, h3, Bool.true_and] at hv
            refine hK _ _ (i + 1) (⟨by omega, hv⟩) (by first | omega | (simp only []; omega) | (simp; omega)) ?_; (try dsimp only); (try simp only [ hw]); first | exact ghk | exact ghk0
    · simp only [go_sem, Int.reduceToNat, Int.reduceLE, Int.reduceLT, Nat.reduceBEq, Nat.reduceLT, Nat.reduceAdd, Nat.reduceLeDiff]
      have hok : okC y = true := by rw [okC, h1]; rfl
      rw [hok, Bool.true_and] at hv
      refine hK _ _ (i + 1) (⟨by omega, hv⟩) (by first | omega | (simp only []; omega) | (simp; omega)) ?_; (try dsimp only); (try simp only [ hw]); first | exact ghk | exact ghk0
  · have hlt : ¬ ((i : Int) < (b.data.toList.length : Int)) := by omega
    rw [drop_len h] at hv
    simp only [go_sem, Int.reduceToNat, Int.reduceLE, Int.reduceLT, Nat.reduceBEq, Nat.reduceLT, Nat.reduceAdd, Nat.reduceLeDiff, hlt, hE]
    first | exact rtk (.bool true) ⟨by rw [hv]; rfl, rfl⟩ | exact rtk0 (.bool true) ⟨by rw [hv]; rfl, rfl⟩
end Go.Proofs.YtocphglkceidhaaGreat
namespace Go.Proofs.YtocphglkceidhaaGreat
open Go.Ahl
theorem take_succ' {α : Type} {l : List α} {i : Nat} {x : α} (h : l[i]? = some x) : l.take (i + 1) = l.take i ++ [x] := by
  rw [List.take_add_one, h]; rfl
/-- Names that are none of some, and differ. -/
def namesFrom (seen : List ByteArray) : List ByteArray → Bool
  | [] => true
  | s :: l => nameB s && !(decide (s ∈ seen)) && namesFrom (seen ++ [s]) l
def c_names01 : CCode := .seq (.ops [⟨some 2, .move (.lit (.bool false)), none, []⟩]) (.seq (.ops [⟨some 6, .mkmap, none, []⟩, ⟨some 3, .move (.tmp 6), none, []⟩]) (.seq (.seq (.ops [⟨some 7, .move (.tmp 0), none, []⟩, ⟨some 8, .blen 1 (.tmp 7), none, []⟩, ⟨some 9, .move (.lit (.int .i64 0)), none, []⟩]) (.block 0 (.loop (.seq (.ops [⟨some 10, .bin .lss .none (.tmp 9) (.tmp 8), none, []⟩]) (.seq (.cond (.tmp 10) .skip (.exit 0)) (.seq (.block 1 (.seq (.ops [⟨some 11, .iaddr 1 (.tmp 7) (.tmp 9), none, []⟩, ⟨some 12, .load none (.tmp 11), none, []⟩, ⟨some 5, .move (.tmp 12), none, []⟩]) (.seq (.seq (.ops [⟨some 13, .move (.tmp 5), none, []⟩, ⟨some 14, .call (.lit (.func 109 [])) [.tmp 13], none, []⟩, ⟨some 15, .un .not (.tmp 14), none, []⟩, ⟨some 16, .move (.tmp 15), none, []⟩, ⟨some 17, .move (.tmp 3), some (some 16, false), []⟩, ⟨some 18, .move (.tmp 5), some (some 16, false), []⟩, ⟨some 19, .lookup true (.bool false) (.tmp 17) (.tmp 18) false, some (some 16, false), []⟩, ⟨some 20, .pick (.tmp 16) (.lit (.bool true)) (.tmp 19), none, []⟩]) (.cond (.tmp 20) (.seq (.ops [⟨some 2, .move (.lit (.bool false)), none, []⟩]) .ret) .skip)) (.ops [⟨some 21, .move (.tmp 3), none, []⟩, ⟨some 22, .move (.tmp 5), none, []⟩, ⟨none, .mapup true (.tmp 21) (.tmp 22) (.lit (.bool true)), none, []⟩])))) (.ops [⟨some 23, .bin .add .none (.tmp 9) (.lit (.int .i64 1)), none, []⟩, ⟨some 9, .move (.tmp 23), none, []⟩]))))))) (.seq (.ops [⟨some 2, .move (.lit (.bool true)), none, []⟩]) .ret)))
set_option maxRecDepth 20000 in
theorem names01_spec (l : List ByteArray) (tok : Tok) (σ : Store) (hl : l.length ≤ 140737488355328) (hb : ∀ b ∈ l, b.data.toList.length ≤ 140737488355328) :
    ACalls Tryz.prog 76 [.slice tok (l.map encT)] σ (isR (.bool (namesFrom [] l)) σ) := by
  refine ACalls.intro (rs := [(.tmp 2)]) (by kernel_rfl) { own := [], ghosts := [] } Tryz.func76 (c := Tryz.f76.body.getD .skip) (by kernel_rfl) (by decide) (by rw [show Tryz.f76.ntmps = 24 by kernel_rfl]; exact Nat.le_of_ble_eq_true rfl) (by kernel_rfl) ?_
  intro hσ hids
  rw [show comp Tryz.prog { own := [], ghosts := [] } (Tryz.f76.body.getD .skip) = c_names01 by kernel_rfl, show Tryz.f76.ntmps = 24 by kernel_rfl]
  unfold c_names01
  have hil : Ids σ.length (.slice tok (l.map encT)) := hids _ (by simp)
  simp only [go_sem, Int.reduceToNat, Int.reduceLE, Int.reduceLT, Nat.reduceBEq, Nat.reduceLT, Nat.reduceAdd, Nat.reduceLeDiff]
  refine wpc_while (fun i => [(3, .map σ.length), (7, .slice tok (l.map encT)), (8, .int .i64 l.length), (9, .int .i64 (i : Nat))]) (fun i => σ ++ [.map (encSet (l.take i))]) (fun i => i ≤ l.length ∧ namesFrom [] l = namesFrom (l.take i) (l.drop i)) (fun i => l.length - i) 0 ⟨Nat.zero_le _, rfl⟩ (have hσ1 := idsS_push hσ (ids_encSet (l.take 0)); (by (try dsimp only); exact ghk1)) ?_
  rintro i ⟨hi, hv⟩ K hK hE hR
  by_cases h : i < l.length
  · obtain ⟨y, hx⟩ := get_ex h; have hlt : ((i : Int) < (l.length : Int)) := (by omega); have hw : IntKind.i64.wrap ((i : Int) + 1) = ((i + 1 : Nat) : Int) := (by rw [wrap_ok (by omega)]; omega)
    rw [drop_cons hx, namesFrom] at hv
    simp only [go_sem, Int.reduceToNat, Int.reduceLE, Int.reduceLT, Nat.reduceBEq, Nat.reduceLT, Nat.reduceAdd, Nat.reduceLeDiff, hlt, hx, encT]
    refine (name01_spec y _ (hb y (List.mem_of_getElem? hx))).is ?_
    cases h1 : nameB y
    · simp only [go_sem, Int.reduceToNat, Int.reduceLE, Int.reduceLT, Nat.reduceBEq, Nat.reduceLT, Nat.reduceAdd, Nat.reduceLeDiff]
      rw [hR]
      first | exact rtk (.bool false) ⟨by rw [hv, h1]; rfl, rfl⟩ | exact rtk0 (.bool false) ⟨by rw [hv, h1]; rfl, rfl⟩
    by_cases h2 : y ∈ l.take i
    · obtain ⟨j, hj⟩ := find_in y _ 0 h2
      simp only [go_sem, Int.reduceToNat, Int.reduceLE, Int.reduceLT, Nat.reduceBEq, Nat.reduceLT, Nat.reduceAdd, Nat.reduceLeDiff, hj]
      rw [hR]
      first | exact rtk (.bool false) ⟨by rw [hv, h1, decide_eq_true h2]; rfl, rfl⟩ | exact rtk0 (.bool false) ⟨by rw [hv, h1, decide_eq_true h2]; rfl, rfl⟩
    · have hj := find_out y _ 0 h2
      simp only [go_sem, Int.reduceToNat, Int.reduceLE, Int.reduceLT, Nat.reduceBEq, Nat.reduceLT, Nat.reduceAdd, Nat.reduceLeDiff, hj, encSet_app, ← take_succ' hx]
      rw [h1, decide_eq_false h2, Bool.not_false, Bool.true_and, Bool.true_and, ← take_succ' hx] at hv
      have hσ1 := idsS_push hσ (ids_encSet (l.take (i + 1)))
      refine hK _ _ (i + 1) (⟨by omega, hv⟩) (by first | omega | (simp only []; omega) | (simp; omega)) ?_; (try dsimp only); (try simp only [ hw]); exact ghk1
  · have hlt : ¬ ((i : Int) < (l.length : Int)) := by omega
    rw [drop_len h] at hv
    simp only [go_sem, Int.reduceToNat, Int.reduceLE, Int.reduceLT, Nat.reduceBEq, Nat.reduceLT, Nat.reduceAdd, Nat.reduceLeDiff, hlt, hE]
    first | exact rtk (.bool true) ⟨by rw [hv]; rfl, rfl⟩ | exact rtk0 (.bool true) ⟨by rw [hv]; rfl, rfl⟩
def effB (n : Int) (e : FEff) : Bool := condB n (-1) e.when_ && (decide (0 ≤ e.lit.fact) && decide (e.lit.fact < n))
def actB (n : Int) (a : FAct) : Bool := decide (0 ≤ a.cost) && (decide (a.cost ≤ 100000) && (condB n (-1) a.pre && (decide (a.effects.length ≤ 100) && a.effects.all (effB n))))
def validB (t : FTask) : Bool :=
  decide (t.facts.length ≤ 200) && (decide (t.actions.length ≤ 1000) && (risingB t.facts.length (-1) t.init && (condB t.facts.length (-1) t.goal && (namesFrom [] t.facts && (namesFrom [] (t.actions.map (·.name)) && t.actions.all (actB t.facts.length))))))
/-- A task whose lists are not too long. -/
structure TB (t : FTask) : Prop where
  facts : t.facts.length ≤ 140737488355328
  names : ∀ b ∈ t.facts, b.data.toList.length ≤ 140737488355328
  init : t.init.length ≤ 140737488355328
  goal : t.goal.length ≤ 140737488355328
  actions : t.actions.length ≤ 140737488355328
  name : ∀ a ∈ t.actions, a.name.data.toList.length ≤ 140737488355328
  pre : ∀ a ∈ t.actions, a.pre.length ≤ 140737488355328
  effects : ∀ a ∈ t.actions, a.effects.length ≤ 140737488355328
  whens : ∀ a ∈ t.actions, ∀ e ∈ a.effects, e.when_.length ≤ 140737488355328
def c_is01 : CCode := .seq (.ops [⟨some 1, .box (.tmp 0), none, []⟩, ⟨some 2, .move (.lit (.bool false)), none, []⟩]) (.seq (.ops [⟨some 9, .faddr 0 (.tmp 1), none, []⟩, ⟨some 10, .load none (.tmp 9), none, []⟩, ⟨some 11, .blen 1 (.tmp 10), none, []⟩, ⟨some 3, .move (.tmp 11), none, []⟩]) (.seq (.seq (.ops [⟨some 12, .move (.tmp 3), none, []⟩, ⟨some 13, .bin .gtr .none (.tmp 12) (.lit (.int .i64 200)), none, []⟩, ⟨some 14, .move (.tmp 13), none, []⟩, ⟨some 15, .faddr 0 (.tmp 1), some (some 14, false), []⟩, ⟨some 16, .load none (.tmp 15), some (some 14, false), []⟩, ⟨some 17, .call (.lit (.func 76 [])) [.tmp 16], some (some 14, false), []⟩, ⟨some 18, .un .not (.tmp 17), some (some 14, false), []⟩, ⟨some 19, .pick (.tmp 14) (.lit (.bool true)) (.tmp 18), none, []⟩, ⟨some 20, .move (.tmp 19), none, []⟩, ⟨some 21, .faddr 1 (.tmp 1), some (some 20, false), []⟩, ⟨some 22, .load none (.tmp 21), some (some 20, false), []⟩, ⟨some 23, .move (.tmp 3), some (some 20, false), []⟩, ⟨some 24, .call (.lit (.func 70 [])) [.tmp 22, .tmp 23], some (some 20, false), []⟩, ⟨some 25, .un .not (.tmp 24), some (some 20, false), []⟩, ⟨some 26, .pick (.tmp 20) (.lit (.bool true)) (.tmp 25), none, []⟩, ⟨some 27, .move (.tmp 26), none, []⟩, ⟨some 28, .faddr 2 (.tmp 1), some (some 27, false), []⟩, ⟨some 29, .load none (.tmp 28), some (some 27, false), []⟩, ⟨some 30, .move (.tmp 3), some (some 27, false), []⟩, ⟨some 31, .call (.lit (.func 77 [])) [.tmp 29, .tmp 30], some (some 27, false), []⟩, ⟨some 32, .un .not (.tmp 31), some (some 27, false), []⟩, ⟨some 33, .pick (.tmp 27) (.lit (.bool true)) (.tmp 32), none, []⟩, ⟨some 34, .move (.tmp 33), none, []⟩, ⟨some 35, .faddr 3 (.tmp 1), some (some 34, false), []⟩, ⟨some 36, .load none (.tmp 35), some (some 34, false), []⟩, ⟨some 37, .blen 1 (.tmp 36), some (some 34, false), []⟩, ⟨some 38, .bin .gtr .none (.tmp 37) (.lit (.int .i64 1000)), some (some 34, false), []⟩, ⟨some 39, .pick (.tmp 34) (.lit (.bool true)) (.tmp 38), none, []⟩]) (.cond (.tmp 39) (.seq (.ops [⟨some 2, .move (.lit (.bool false)), none, []⟩]) .ret) .skip)) (.seq (.ops [⟨some 4, .move (.lit (.slice .nil [])), none, []⟩]) (.seq (.seq (.ops [⟨some 40, .faddr 3 (.tmp 1), none, []⟩, ⟨some 41, .load none (.tmp 40), none, []⟩, ⟨some 42, .blen 1 (.tmp 41), none, []⟩, ⟨some 43, .move (.lit (.int .i64 0)), none, []⟩]) (.block 0 (.loop (.seq (.ops [⟨some 44, .bin .lss .none (.tmp 43) (.tmp 42), none, []⟩]) (.seq (.cond (.tmp 44) .skip (.exit 0)) (.seq (.block 1 (.seq (.ops [⟨some 45, .iaddr 4 (.tmp 41) (.tmp 43), none, []⟩, ⟨some 46, .load (some 4) (.tmp 45), none, []⟩, ⟨some 6, .alloc (.agg [.str (bys []), .int .i64 0, .slice .nil [], .slice .nil []]), none, []⟩, ⟨none, .store 4 (.tmp 6) (.tmp 46), none, []⟩]) (.seq (.seq (.ops [⟨some 47, .faddr 1 (.tmp 6), none, []⟩, ⟨some 48, .load none (.tmp 47), none, []⟩, ⟨some 49, .bin .lss .none (.tmp 48) (.lit (.int .i64 0)), none, []⟩, ⟨some 50, .move (.tmp 49), none, []⟩, ⟨some 51, .faddr 1 (.tmp 6), some (some 50, false), []⟩, ⟨some 52, .load none (.tmp 51), some (some 50, false), []⟩, ⟨some 53, .bin .gtr .none (.tmp 52) (.lit (.int .i64 100000)), some (some 50, false), []⟩, ⟨some 54, .pick (.tmp 50) (.lit (.bool true)) (.tmp 53), none, []⟩, ⟨some 55, .move (.tmp 54), none, []⟩, ⟨some 56, .faddr 2 (.tmp 6), some (some 55, false), []⟩, ⟨some 57, .load none (.tmp 56), some (some 55, false), []⟩, ⟨some 58, .move (.tmp 3), some (some 55, false), []⟩, ⟨some 59, .call (.lit (.func 77 [])) [.tmp 57, .tmp 58], some (some 55, false), []⟩, ⟨some 60, .un .not (.tmp 59), some (some 55, false), []⟩, ⟨some 61, .pick (.tmp 55) (.lit (.bool true)) (.tmp 60), none, []⟩, ⟨some 62, .move (.tmp 61), none, []⟩, ⟨some 63, .faddr 3 (.tmp 6), some (some 62, false), []⟩, ⟨some 64, .load none (.tmp 63), some (some 62, false), []⟩, ⟨some 65, .blen 1 (.tmp 64), some (some 62, false), []⟩, ⟨some 66, .bin .gtr .none (.tmp 65) (.lit (.int .i64 100)), some (some 62, false), []⟩, ⟨some 67, .pick (.tmp 62) (.lit (.bool true)) (.tmp 66), none, []⟩]) (.cond (.tmp 67) (.seq (.ops [⟨some 2, .move (.lit (.bool false)), none, []⟩]) .ret) .skip)) (.seq (.seq (.ops [⟨some 68, .faddr 3 (.tmp 6), none, []⟩, ⟨some 69, .load none (.tmp 68), none, []⟩, ⟨some 70, .blen 1 (.tmp 69), none, []⟩, ⟨some 71, .move (.lit (.int .i64 0)), none, []⟩]) (.block 2 (.loop (.seq (.ops [⟨some 72, .bin .lss .none (.tmp 71) (.tmp 70), none, []⟩]) (.seq (.cond (.tmp 72) .skip (.exit 2)) (.seq (.block 3 (.seq (.ops [⟨some 73, .iaddr 3 (.tmp 69) (.tmp 71), none, []⟩, ⟨some 74, .load (some 3) (.tmp 73), none, []⟩, ⟨some 8, .alloc (.agg [.slice .nil [], .int .i64 0, .bool false]), none, []⟩, ⟨none, .store 3 (.tmp 8) (.tmp 74), none, []⟩]) (.seq (.ops [⟨some 75, .faddr 0 (.tmp 8), none, []⟩, ⟨some 76, .load none (.tmp 75), none, []⟩, ⟨some 77, .move (.tmp 3), none, []⟩, ⟨some 78, .call (.lit (.func 77 [])) [.tmp 76, .tmp 77], none, []⟩, ⟨some 79, .un .not (.tmp 78), none, []⟩, ⟨some 80, .move (.tmp 79), none, []⟩, ⟨some 81, .faddr 1 (.tmp 8), some (some 80, false), []⟩, ⟨some 82, .faddr 0 (.tmp 81), some (some 80, false), []⟩, ⟨some 83, .load none (.tmp 82), some (some 80, false), []⟩, ⟨some 84, .bin .lss .none (.tmp 83) (.lit (.int .i64 0)), some (some 80, false), []⟩, ⟨some 85, .pick (.tmp 80) (.lit (.bool true)) (.tmp 84), none, []⟩, ⟨some 86, .move (.tmp 85), none, []⟩, ⟨some 87, .faddr 1 (.tmp 8), some (some 86, false), []⟩, ⟨some 88, .faddr 0 (.tmp 87), some (some 86, false), []⟩, ⟨some 89, .load none (.tmp 88), some (some 86, false), []⟩, ⟨some 90, .move (.tmp 3), some (some 86, false), []⟩, ⟨some 91, .bin .geq .none (.tmp 89) (.tmp 90), some (some 86, false), []⟩, ⟨some 92, .pick (.tmp 86) (.lit (.bool true)) (.tmp 91), none, []⟩]) (.cond (.tmp 92) (.seq (.ops [⟨some 2, .move (.lit (.bool false)), none, []⟩]) .ret) .skip)))) (.ops [⟨some 93, .bin .add .none (.tmp 71) (.lit (.int .i64 1)), none, []⟩, ⟨some 71, .move (.tmp 93), none, []⟩]))))))) (.ops [⟨some 94, .move (.tmp 4), none, []⟩, ⟨some 95, .faddr 0 (.tmp 6), none, []⟩, ⟨some 96, .load none (.tmp 95), none, []⟩, ⟨some 97, .bslice 1 [.tmp 96] false, none, []⟩, ⟨some 98, .bappend 1 16 (.tmp 94) (.tmp 97) false, none, []⟩, ⟨some 4, .move (.tmp 98), none, []⟩]))))) (.ops [⟨some 99, .bin .add .none (.tmp 43) (.lit (.int .i64 1)), none, []⟩, ⟨some 43, .move (.tmp 99), none, []⟩]))))))) (.seq (.ops [⟨some 100, .move (.tmp 4), none, []⟩, ⟨some 101, .call (.lit (.func 76 [])) [.tmp 100], none, []⟩, ⟨some 2, .move (.tmp 101), none, []⟩]) .ret)))))
set_option maxRecDepth 20000 in
theorem is01_spec (t : FTask) (σ : Store) (hb : TB t) : ACalls Tryz.prog 35 [.agg (encTask t)] σ (isR (.bool (validB t)) σ) := by
  refine ACalls.intro (rs := [(.tmp 2)]) (by kernel_rfl) { own := [], ghosts := [] } Tryz.func35 (c := Tryz.f35.body.getD .skip) (by kernel_rfl) (by decide) (by rw [show Tryz.f35.ntmps = 102 by kernel_rfl]; exact Nat.le_of_ble_eq_true rfl) (by kernel_rfl) ?_
  intro hσ hids
  rw [show comp Tryz.prog { own := [], ghosts := [] } (Tryz.f35.body.getD .skip) = c_is01 by kernel_rfl, show Tryz.f35.ntmps = 102 by kernel_rfl]
  unfold c_is01
  unfold validB
  by_cases h1 : (t.facts.length : Int) > 200
  · simp only [go_sem, Int.reduceToNat, Int.reduceLE, Int.reduceLT, Nat.reduceBEq, Nat.reduceLT, Nat.reduceAdd, Nat.reduceLeDiff, encTask, h1]
    first | exact rtk (.bool false) ⟨by rw [decide_eq_false (by omega : ¬ t.facts.length ≤ 200)]; rfl, rfl⟩ | exact rtk0 (.bool false) ⟨by rw [decide_eq_false (by omega : ¬ t.facts.length ≤ 200)]; rfl, rfl⟩
  rw [decide_eq_true (by omega : t.facts.length ≤ 200), Bool.true_and]
  simp only [go_sem, Int.reduceToNat, Int.reduceLE, Int.reduceLT, Nat.reduceBEq, Nat.reduceLT, Nat.reduceAdd, Nat.reduceLeDiff, encTask, h1]
  refine (names01_spec t.facts _ _ hb.facts hb.names).is ?_
  cases h2 : namesFrom [] t.facts
  · simp only [go_sem, Int.reduceToNat, Int.reduceLE, Int.reduceLT, Nat.reduceBEq, Nat.reduceLT, Nat.reduceAdd, Nat.reduceLeDiff]
    first | exact rtk (.bool false) ⟨by simp only [Bool.false_and, Bool.and_false], rfl⟩ | exact rtk0 (.bool false) ⟨by simp only [Bool.false_and, Bool.and_false], rfl⟩
  simp only [go_sem, Int.reduceToNat, Int.reduceLE, Int.reduceLT, Nat.reduceBEq, Nat.reduceLT, Nat.reduceAdd, Nat.reduceLeDiff]
  refine (rising01_spec t.init t.facts.length _ _ hb.init).is ?_
  cases h3 : risingB t.facts.length (-1) t.init
  · simp only [go_sem, Int.reduceToNat, Int.reduceLE, Int.reduceLT, Nat.reduceBEq, Nat.reduceLT, Nat.reduceAdd, Nat.reduceLeDiff]
    first | exact rtk (.bool false) ⟨by simp only [Bool.false_and, Bool.and_false], rfl⟩ | exact rtk0 (.bool false) ⟨by simp only [Bool.false_and, Bool.and_false], rfl⟩
  simp only [go_sem, Int.reduceToNat, Int.reduceLE, Int.reduceLT, Nat.reduceBEq, Nat.reduceLT, Nat.reduceAdd, Nat.reduceLeDiff]
  refine (cond01_spec t.goal t.facts.length _ _ hb.goal).is ?_
  cases h4 : condB t.facts.length (-1) t.goal
  · simp only [go_sem, Int.reduceToNat, Int.reduceLE, Int.reduceLT, Nat.reduceBEq, Nat.reduceLT, Nat.reduceAdd, Nat.reduceLeDiff]
    first | exact rtk (.bool false) ⟨by simp only [Bool.false_and, Bool.and_false], rfl⟩ | exact rtk0 (.bool false) ⟨by simp only [Bool.false_and, Bool.and_false], rfl⟩
  by_cases h5 : (t.actions.length : Int) > 1000
  · simp only [go_sem, Int.reduceToNat, Int.reduceLE, Int.reduceLT, Nat.reduceBEq, Nat.reduceLT, Nat.reduceAdd, Nat.reduceLeDiff, h5]
    first | exact rtk (.bool false) ⟨by rw [decide_eq_false (by omega : ¬ t.actions.length ≤ 1000)]; rfl, rfl⟩ | exact rtk0 (.bool false) ⟨by rw [decide_eq_false (by omega : ¬ t.actions.length ≤ 1000)]; rfl, rfl⟩
  rw [decide_eq_true (by omega : t.actions.length ≤ 1000)]
  simp only [Bool.true_and]
  simp only [go_sem, Int.reduceToNat, Int.reduceLE, Int.reduceLT, Nat.reduceBEq, Nat.reduceLT, Nat.reduceAdd, Nat.reduceLeDiff, h5]
  -- the names so far
  refine wpc_while (fun i => [(4, .slice (.grow σ.length) (((t.actions.take i).map (·.name)).map encT)), (3, .int .i64 t.facts.length), (41, .slice .unk (t.actions.map encA)), (42, .int .i64 t.actions.length), (43, .int .i64 (i : Nat))])
    (fun i => σ ++ [.grow 1 i]) (fun i => i ≤ t.actions.length ∧ (namesFrom [] (t.actions.map (·.name)) && t.actions.all (actB t.facts.length)) = (namesFrom [] (t.actions.map (·.name)) && (t.actions.drop i).all (actB t.facts.length))) (fun i => t.actions.length - i) 0 ⟨Nat.zero_le _, rfl⟩ (.begin 4 1 _ (Nat.le_refl _) tellT hσ) ?_
  rintro i ⟨hi, hv⟩ K hK hE hR
  by_cases h : i < t.actions.length
  · obtain ⟨a, hx⟩ := get_ex h; have hlt : ((i : Int) < (t.actions.length : Int)) := (by omega); have hw : IntKind.i64.wrap ((i : Int) + 1) = ((i + 1 : Nat) : Int) := (by rw [wrap_ok (by omega)]; omega)
    have ha := List.mem_of_getElem? hx
    rw [drop_cons hx, List.all_cons] at hv
    by_cases a1 : a.cost < 0
    · simp only [go_sem, Int.reduceToNat, Int.reduceLE, Int.reduceLT, Nat.reduceBEq, Nat.reduceLT, Nat.reduceAdd, Nat.reduceLeDiff, hlt, hx, encA, a1]
      rw [hR]
      first | exact rtk (.bool false) ⟨by rw [hv, actB, decide_eq_false (by omega : ¬ 0 ≤ a.cost), Bool.false_and, Bool.false_and, Bool.and_false], rfl⟩ | exact rtk0 (.bool false) ⟨by rw [hv, actB, decide_eq_false (by omega : ¬ 0 ≤ a.cost), Bool.false_and, Bool.false_and, Bool.and_false], rfl⟩
    by_cases a2 : a.cost > 100000
    · simp only [go_sem, Int.reduceToNat, Int.reduceLE, Int.reduceLT, Nat.reduceBEq, Nat.reduceLT, Nat.reduceAdd, Nat.reduceLeDiff, hlt, hx, encA, a1, a2]
      rw [hR]
      first | exact rtk (.bool false) ⟨by rw [hv, actB, decide_eq_false (by omega : ¬ a.cost ≤ 100000), Bool.false_and, Bool.and_false, Bool.false_and, Bool.and_false], rfl⟩ | exact rtk0 (.bool false) ⟨by rw [hv, actB, decide_eq_false (by omega : ¬ a.cost ≤ 100000), Bool.false_and, Bool.and_false, Bool.false_and, Bool.and_false], rfl⟩
    rw [actB, decide_eq_true (by omega : 0 ≤ a.cost), decide_eq_true (by omega : a.cost ≤ 100000), Bool.true_and, Bool.true_and] at hv
    simp only [go_sem, Int.reduceToNat, Int.reduceLE, Int.reduceLT, Nat.reduceBEq, Nat.reduceLT, Nat.reduceAdd, Nat.reduceLeDiff, hlt, hx, encA, a1, a2]
    refine (cond01_spec a.pre t.facts.length _ _ (hb.pre a ha)).is ?_
    cases a3 : condB t.facts.length (-1) a.pre
    · simp only [go_sem, Int.reduceToNat, Int.reduceLE, Int.reduceLT, Nat.reduceBEq, Nat.reduceLT, Nat.reduceAdd, Nat.reduceLeDiff]
      rw [hR]
      first | exact rtk (.bool false) ⟨by rw [hv, a3, Bool.false_and, Bool.false_and, Bool.and_false], rfl⟩ | exact rtk0 (.bool false) ⟨by rw [hv, a3, Bool.false_and, Bool.false_and, Bool.and_false], rfl⟩
    rw [a3, Bool.true_and] at hv
    by_cases a4 : (a.effects.length : Int) > 100
    · simp only [go_sem, Int.reduceToNat, Int.reduceLE, Int.reduceLT, Nat.reduceBEq, Nat.reduceLT, Nat.reduceAdd, Nat.reduceLeDiff, a4]
      rw [hR]
      first | exact rtk (.bool false) ⟨by rw [hv, decide_eq_false (by omega : ¬ a.effects.length ≤ 100), Bool.false_and, Bool.false_and, Bool.and_false], rfl⟩ | exact rtk0 (.bool false) ⟨by rw [hv, decide_eq_false (by omega : ¬ a.effects.length ≤ 100), Bool.false_and, Bool.false_and, Bool.and_false], rfl⟩
    rw [decide_eq_true (by omega : a.effects.length ≤ 100), Bool.true_and] at hv
    simp only [go_sem, Int.reduceToNat, Int.reduceLE, Int.reduceLT, Nat.reduceBEq, Nat.reduceLT, Nat.reduceAdd, Nat.reduceLeDiff, a4]
    have hσ2 : IdsS (σ ++ [AObj.grow 1 i, AObj.row (encA a)]).length (σ ++ [AObj.grow 1 i, AObj.row (encA a)]) := idsS_app _ hσ (all_cons' trivial (all_cons' (idsO_row (ids_encA a)) all_nil'))
    refine wpc_while (fun j => [(4, .slice (.grow σ.length) (((t.actions.take i).map (·.name)).map encT)), (3, .int .i64 t.facts.length), (6, .ptr (σ.length + 1) 0), (41, .slice .unk (t.actions.map encA)), (42, .int .i64 t.actions.length), (43, .int .i64 (i : Nat)), (69, .slice .unk (a.effects.map encE)), (70, .int .i64 a.effects.length), (71, .int .i64 (j : Nat))])
      (fun j => σ ++ [.grow 1 i, .row (encA a)]) (fun j => j ≤ a.effects.length ∧ (namesFrom [] (t.actions.map (·.name)) && t.actions.all (actB t.facts.length)) = (namesFrom [] (t.actions.map (·.name)) && ((a.effects.drop j).all (effB t.facts.length) && (t.actions.drop (i + 1)).all (actB t.facts.length)))) (fun j => a.effects.length - j) 0 ⟨Nat.zero_le _, hv⟩ (by (try dsimp only); first | exact ghL (hσ2) | exact ghL0 (hσ2)) ?_
    rintro j ⟨hj', hvj⟩ K' hK' hE' hR'
    by_cases hj : j < a.effects.length
    · obtain ⟨e, hxj⟩ := get_ex hj; have hltj : ((j : Int) < (a.effects.length : Int)) := (by omega); have hwj : IntKind.i64.wrap ((j : Int) + 1) = ((j + 1 : Nat) : Int) := (by rw [wrap_ok (by omega)]; omega)
      have he := List.mem_of_getElem? hxj
      rw [drop_cons hxj, List.all_cons] at hvj
      simp only [go_sem, Int.reduceToNat, Int.reduceLE, Int.reduceLT, Nat.reduceBEq, Nat.reduceLT, Nat.reduceAdd, Nat.reduceLeDiff, hltj, hxj, encE]
      refine (cond01_spec e.when_ t.facts.length _ _ (hb.whens a ha e he)).is ?_
      cases b1 : condB t.facts.length (-1) e.when_
      · simp only [go_sem, Int.reduceToNat, Int.reduceLE, Int.reduceLT, Nat.reduceBEq, Nat.reduceLT, Nat.reduceAdd, Nat.reduceLeDiff, hR', hR]
        first | exact rtk (.bool false) ⟨by rw [hvj, effB, b1, Bool.false_and, Bool.false_and, Bool.false_and, Bool.and_false], rfl⟩ | exact rtk0 (.bool false) ⟨by rw [hvj, effB, b1, Bool.false_and, Bool.false_and, Bool.false_and, Bool.and_false], rfl⟩
      rw [effB, b1, Bool.true_and] at hvj
      by_cases b2 : e.lit.fact < 0
      · simp only [go_sem, Int.reduceToNat, Int.reduceLE, Int.reduceLT, Nat.reduceBEq, Nat.reduceLT, Nat.reduceAdd, Nat.reduceLeDiff, b2, hR', hR]
        first | exact rtk (.bool false) ⟨by rw [hvj, decide_eq_false (by omega : ¬ 0 ≤ e.lit.fact), Bool.false_and, Bool.false_and, Bool.false_and, Bool.and_false], rfl⟩ | exact rtk0 (.bool false) ⟨by rw [hvj, decide_eq_false (by omega : ¬ 0 ≤ e.lit.fact), Bool.false_and, Bool.false_and, Bool.false_and, Bool.and_false], rfl⟩
      by_cases b3 : e.lit.fact ≥ t.facts.length
      · simp only [go_sem, Int.reduceToNat, Int.reduceLE, Int.reduceLT, Nat.reduceBEq, Nat.reduceLT, Nat.reduceAdd, Nat.reduceLeDiff, b2, b3, hR', hR]
        first | exact rtk (.bool false) ⟨by rw [hvj, decide_eq_false (by omega : ¬ e.lit.fact < t.facts.length), Bool.and_false, Bool.false_and, Bool.false_and, Bool.and_false], rfl⟩ | exact rtk0 (.bool false) ⟨by rw [hvj, decide_eq_false (by omega : ¬ e.lit.fact < t.facts.length), Bool.and_false, Bool.false_and, Bool.false_and, Bool.and_false], rfl⟩
      rw [decide_eq_true (by omega : 0 ≤ e.lit.fact), decide_eq_true (by omega : e.lit.fact < t.facts.length), Bool.true_and, Bool.true_and] at hvj
      simp only [go_sem, Int.reduceToNat, Int.reduceLE, Int.reduceLT, Nat.reduceBEq, Nat.reduceLT, Nat.reduceAdd, Nat.reduceLeDiff, b2, b3]
      refine hK' _ _ (j + 1) ⟨by omega, hvj⟩ (by omega) ?_
      exact (by (try dsimp only); (try simp only [ hwj]); first | exact ghL (hσ2) | exact ghL0 (hσ2))
    · have hltj : ¬ ((j : Int) < (a.effects.length : Int)) := by omega
      rw [drop_len hj, List.all_nil, Bool.true_and] at hvj
      have hc : List.map encT (List.map (fun x => x.name) (List.take i t.actions)) ++ [[AV.str a.name]] = List.map encT (List.map (fun x => x.name) (List.take (i + 1) t.actions)) := by rw [take_succ' hx]; simp [encT]
      have hn : (List.take i t.actions).length = i := List.length_take_of_le (by omega)
      have hbig : bigLen (i + 1) 16 := big_ok (by omega) (by omega)
      simp only [go_sem, Int.reduceToNat, Int.reduceLE, Int.reduceLT, Nat.reduceBEq, Nat.reduceLT, Nat.reduceAdd, Nat.reduceLeDiff, hltj, hE', encA, encT, hc, hn, hbig]
      have hσ1 := idsS_push hσ (o := .grow 1 (i + 1)) trivial
      refine hK _ _ (i + 1) (⟨by omega, hvj⟩) (by first | omega | (simp only []; omega) | (simp; omega)) ?_; (try dsimp only); (try simp only [ hw]); exact ghk1
  · have hlt : ¬ ((i : Int) < (t.actions.length : Int)) := by omega
    rw [drop_len h, List.all_nil, Bool.and_true] at hv
    have ht : t.actions.take i = t.actions := List.take_of_length_le (by omega)
    rw [ht]
    simp only [go_sem, Int.reduceToNat, Int.reduceLE, Int.reduceLT, Nat.reduceBEq, Nat.reduceLT, Nat.reduceAdd, Nat.reduceLeDiff, hlt, hE]
    refine (names01_spec (t.actions.map (·.name)) _ _ (by rw [List.length_map]; exact hb.actions) (fun b hb' => by obtain ⟨a, ha, rfl⟩ := List.mem_map.1 hb'; exact hb.name a ha)).is ?_
    simp only [go_sem, Int.reduceToNat, Int.reduceLE, Int.reduceLT, Nat.reduceBEq, Nat.reduceLT, Nat.reduceAdd, Nat.reduceLeDiff]
    first | exact rtw (v := .bool _) wkS ⟨by rw [hv], rfl⟩ | exact rtw0 (v := .bool _) wkS ⟨by rw [hv], rfl⟩
end Go.Proofs.YtocphglkceidhaaGreat
namespace Go.Proofs.YtocphglkceidhaaGreat
open Go.Ahl
/-- The actions as task.Valid goes through them. -/
def actsFrom (n : Int) (seen : List ByteArray) : List FAct → Bool
  | [] => true
  | a :: l => nameB a.name && (!(decide (a.name ∈ seen)) && (actB n a && actsFrom n (seen ++ [a.name]) l))
theorem actsFrom_eq (n : Int) : ∀ (l : List FAct) (seen : List ByteArray), actsFrom n seen l = (namesFrom seen (l.map (·.name)) && l.all (actB n))
  | [], seen => rfl
  | a :: l, seen => by
    rw [actsFrom, List.map_cons, namesFrom, List.all_cons, actsFrom_eq n l]
    cases nameB a.name <;> cases decide (a.name ∈ seen) <;> cases actB n a <;> simp
def c_valid : CCode := .seq (.ops [⟨some 1, .box (.tmp 0), none, []⟩, ⟨some 2, .move (.lit (.bool false)), none, []⟩]) (.seq (.ops [⟨some 11, .faddr 0 (.tmp 1), none, []⟩, ⟨some 12, .load none (.tmp 11), none, []⟩, ⟨some 13, .blen 1 (.tmp 12), none, []⟩, ⟨some 3, .move (.tmp 13), none, []⟩]) (.seq (.seq (.ops [⟨some 14, .move (.tmp 3), none, []⟩, ⟨some 15, .bin .gtr .none (.tmp 14) (.lit (.int .i64 200)), none, []⟩, ⟨some 16, .move (.tmp 15), none, []⟩, ⟨some 17, .faddr 3 (.tmp 1), some (some 16, false), []⟩, ⟨some 18, .load none (.tmp 17), some (some 16, false), []⟩, ⟨some 19, .blen 1 (.tmp 18), some (some 16, false), []⟩, ⟨some 20, .bin .gtr .none (.tmp 19) (.lit (.int .i64 1000)), some (some 16, false), []⟩, ⟨some 21, .pick (.tmp 16) (.lit (.bool true)) (.tmp 20), none, []⟩, ⟨some 22, .move (.tmp 21), none, []⟩, ⟨some 23, .move (.tmp 3), some (some 22, false), []⟩, ⟨some 24, .faddr 1 (.tmp 1), some (some 22, false), []⟩, ⟨some 25, .load none (.tmp 24), some (some 22, false), []⟩, ⟨some 26, .call (.lit (.func 87 [])) [.tmp 23, .tmp 25], some (some 22, false), []⟩, ⟨some 27, .un .not (.tmp 26), some (some 22, false), []⟩, ⟨some 28, .pick (.tmp 22) (.lit (.bool true)) (.tmp 27), none, []⟩, ⟨some 29, .move (.tmp 28), none, []⟩, ⟨some 30, .move (.tmp 3), some (some 29, false), []⟩, ⟨some 31, .faddr 2 (.tmp 1), some (some 29, false), []⟩, ⟨some 32, .load none (.tmp 31), some (some 29, false), []⟩, ⟨some 33, .call (.lit (.func 65 [])) [.tmp 30, .tmp 32], some (some 29, false), []⟩, ⟨some 34, .un .not (.tmp 33), some (some 29, false), []⟩, ⟨some 35, .pick (.tmp 29) (.lit (.bool true)) (.tmp 34), none, []⟩]) (.cond (.tmp 35) (.seq (.ops [⟨some 2, .move (.lit (.bool false)), none, []⟩]) .ret) .skip)) (.seq (.ops [⟨some 36, .mkmap, none, []⟩, ⟨some 4, .move (.tmp 36), none, []⟩]) (.seq (.seq (.ops [⟨some 37, .faddr 0 (.tmp 1), none, []⟩, ⟨some 38, .load none (.tmp 37), none, []⟩, ⟨some 39, .blen 1 (.tmp 38), none, []⟩, ⟨some 40, .move (.lit (.int .i64 0)), none, []⟩]) (.block 0 (.loop (.seq (.ops [⟨some 41, .bin .lss .none (.tmp 40) (.tmp 39), none, []⟩]) (.seq (.cond (.tmp 41) .skip (.exit 0)) (.seq (.block 1 (.seq (.ops [⟨some 42, .iaddr 1 (.tmp 38) (.tmp 40), none, []⟩, ⟨some 43, .load none (.tmp 42), none, []⟩, ⟨some 6, .move (.tmp 43), none, []⟩]) (.seq (.seq (.ops [⟨some 44, .move (.tmp 6), none, []⟩, ⟨some 45, .call (.lit (.func 88 [])) [.tmp 44], none, []⟩, ⟨some 46, .un .not (.tmp 45), none, []⟩, ⟨some 47, .move (.tmp 46), none, []⟩, ⟨some 48, .move (.tmp 4), some (some 47, false), []⟩, ⟨some 49, .move (.tmp 6), some (some 47, false), []⟩, ⟨some 50, .lookup true (.bool false) (.tmp 48) (.tmp 49) false, some (some 47, false), []⟩, ⟨some 51, .pick (.tmp 47) (.lit (.bool true)) (.tmp 50), none, []⟩]) (.cond (.tmp 51) (.seq (.ops [⟨some 2, .move (.lit (.bool false)), none, []⟩]) .ret) .skip)) (.ops [⟨some 52, .move (.tmp 4), none, []⟩, ⟨some 53, .move (.tmp 6), none, []⟩, ⟨none, .mapup true (.tmp 52) (.tmp 53) (.lit (.bool true)), none, []⟩])))) (.ops [⟨some 54, .bin .add .none (.tmp 40) (.lit (.int .i64 1)), none, []⟩, ⟨some 40, .move (.tmp 54), none, []⟩]))))))) (.seq (.ops [⟨some 55, .mkmap, none, []⟩, ⟨some 4, .move (.tmp 55), none, []⟩]) (.seq (.seq (.ops [⟨some 56, .faddr 3 (.tmp 1), none, []⟩, ⟨some 57, .load none (.tmp 56), none, []⟩, ⟨some 58, .blen 1 (.tmp 57), none, []⟩, ⟨some 59, .move (.lit (.int .i64 0)), none, []⟩]) (.block 2 (.loop (.seq (.ops [⟨some 60, .bin .lss .none (.tmp 59) (.tmp 58), none, []⟩]) (.seq (.cond (.tmp 60) .skip (.exit 2)) (.seq (.block 3 (.seq (.ops [⟨some 61, .iaddr 4 (.tmp 57) (.tmp 59), none, []⟩, ⟨some 62, .load (some 4) (.tmp 61), none, []⟩, ⟨some 8, .alloc (.agg [.str (bys []), .int .i64 0, .slice .nil [], .slice .nil []]), none, []⟩, ⟨none, .store 4 (.tmp 8) (.tmp 62), none, []⟩]) (.seq (.seq (.ops [⟨some 63, .faddr 0 (.tmp 8), none, []⟩, ⟨some 64, .load none (.tmp 63), none, []⟩, ⟨some 65, .call (.lit (.func 88 [])) [.tmp 64], none, []⟩, ⟨some 66, .un .not (.tmp 65), none, []⟩, ⟨some 67, .move (.tmp 66), none, []⟩, ⟨some 68, .move (.tmp 4), some (some 67, false), []⟩, ⟨some 69, .faddr 0 (.tmp 8), some (some 67, false), []⟩, ⟨some 70, .load none (.tmp 69), some (some 67, false), []⟩, ⟨some 71, .lookup true (.bool false) (.tmp 68) (.tmp 70) false, some (some 67, false), []⟩, ⟨some 72, .pick (.tmp 67) (.lit (.bool true)) (.tmp 71), none, []⟩, ⟨some 73, .move (.tmp 72), none, []⟩, ⟨some 74, .faddr 1 (.tmp 8), some (some 73, false), []⟩, ⟨some 75, .load none (.tmp 74), some (some 73, false), []⟩, ⟨some 76, .bin .lss .none (.tmp 75) (.lit (.int .i64 0)), some (some 73, false), []⟩, ⟨some 77, .pick (.tmp 73) (.lit (.bool true)) (.tmp 76), none, []⟩, ⟨some 78, .move (.tmp 77), none, []⟩, ⟨some 79, .faddr 1 (.tmp 8), some (some 78, false), []⟩, ⟨some 80, .load none (.tmp 79), some (some 78, false), []⟩, ⟨some 81, .bin .gtr .none (.tmp 80) (.lit (.int .i64 100000)), some (some 78, false), []⟩, ⟨some 82, .pick (.tmp 78) (.lit (.bool true)) (.tmp 81), none, []⟩, ⟨some 83, .move (.tmp 82), none, []⟩, ⟨some 84, .move (.tmp 3), some (some 83, false), []⟩, ⟨some 85, .faddr 2 (.tmp 8), some (some 83, false), []⟩, ⟨some 86, .load none (.tmp 85), some (some 83, false), []⟩, ⟨some 87, .call (.lit (.func 65 [])) [.tmp 84, .tmp 86], some (some 83, false), []⟩, ⟨some 88, .un .not (.tmp 87), some (some 83, false), []⟩, ⟨some 89, .pick (.tmp 83) (.lit (.bool true)) (.tmp 88), none, []⟩, ⟨some 90, .move (.tmp 89), none, []⟩, ⟨some 91, .faddr 3 (.tmp 8), some (some 90, false), []⟩, ⟨some 92, .load none (.tmp 91), some (some 90, false), []⟩, ⟨some 93, .blen 1 (.tmp 92), some (some 90, false), []⟩, ⟨some 94, .bin .gtr .none (.tmp 93) (.lit (.int .i64 100)), some (some 90, false), []⟩, ⟨some 95, .pick (.tmp 90) (.lit (.bool true)) (.tmp 94), none, []⟩]) (.cond (.tmp 95) (.seq (.ops [⟨some 2, .move (.lit (.bool false)), none, []⟩]) .ret) .skip)) (.seq (.ops [⟨some 96, .move (.tmp 4), none, []⟩, ⟨some 97, .faddr 0 (.tmp 8), none, []⟩, ⟨some 98, .load none (.tmp 97), none, []⟩, ⟨none, .mapup true (.tmp 96) (.tmp 98) (.lit (.bool true)), none, []⟩]) (.seq (.ops [⟨some 99, .faddr 3 (.tmp 8), none, []⟩, ⟨some 100, .load none (.tmp 99), none, []⟩, ⟨some 101, .blen 1 (.tmp 100), none, []⟩, ⟨some 102, .move (.lit (.int .i64 0)), none, []⟩]) (.block 4 (.loop (.seq (.ops [⟨some 103, .bin .lss .none (.tmp 102) (.tmp 101), none, []⟩]) (.seq (.cond (.tmp 103) .skip (.exit 4)) (.seq (.block 5 (.seq (.ops [⟨some 104, .iaddr 3 (.tmp 100) (.tmp 102), none, []⟩, ⟨some 105, .load (some 3) (.tmp 104), none, []⟩, ⟨some 10, .alloc (.agg [.slice .nil [], .int .i64 0, .bool false]), none, []⟩, ⟨none, .store 3 (.tmp 10) (.tmp 105), none, []⟩]) (.seq (.ops [⟨some 106, .move (.tmp 3), none, []⟩, ⟨some 107, .faddr 0 (.tmp 10), none, []⟩, ⟨some 108, .load none (.tmp 107), none, []⟩, ⟨some 109, .call (.lit (.func 65 [])) [.tmp 106, .tmp 108], none, []⟩, ⟨some 110, .un .not (.tmp 109), none, []⟩, ⟨some 111, .move (.tmp 110), none, []⟩, ⟨some 112, .faddr 1 (.tmp 10), some (some 111, false), []⟩, ⟨some 113, .faddr 0 (.tmp 112), some (some 111, false), []⟩, ⟨some 114, .load none (.tmp 113), some (some 111, false), []⟩, ⟨some 115, .bin .lss .none (.tmp 114) (.lit (.int .i64 0)), some (some 111, false), []⟩, ⟨some 116, .pick (.tmp 111) (.lit (.bool true)) (.tmp 115), none, []⟩, ⟨some 117, .move (.tmp 116), none, []⟩, ⟨some 118, .faddr 1 (.tmp 10), some (some 117, false), []⟩, ⟨some 119, .faddr 0 (.tmp 118), some (some 117, false), []⟩, ⟨some 120, .load none (.tmp 119), some (some 117, false), []⟩, ⟨some 121, .move (.tmp 3), some (some 117, false), []⟩, ⟨some 122, .bin .geq .none (.tmp 120) (.tmp 121), some (some 117, false), []⟩, ⟨some 123, .pick (.tmp 117) (.lit (.bool true)) (.tmp 122), none, []⟩]) (.cond (.tmp 123) (.seq (.ops [⟨some 2, .move (.lit (.bool false)), none, []⟩]) .ret) .skip)))) (.ops [⟨some 124, .bin .add .none (.tmp 102) (.lit (.int .i64 1)), none, []⟩, ⟨some 102, .move (.tmp 124), none, []⟩]))))))))))) (.ops [⟨some 125, .bin .add .none (.tmp 59) (.lit (.int .i64 1)), none, []⟩, ⟨some 59, .move (.tmp 125), none, []⟩]))))))) (.seq (.ops [⟨some 2, .move (.lit (.bool true)), none, []⟩]) .ret)))))))
set_option maxRecDepth 20000 in
theorem valid_spec (t : FTask) (σ : Store) (hb : TB t) : ACalls Tryz.prog 53 [.agg (encTask t)] σ (isR (.bool (validB t)) σ) := by
  refine ACalls.intro (rs := [(.tmp 2)]) (by kernel_rfl) { own := [], ghosts := [] } Tryz.func53 (c := Tryz.f53.body.getD .skip) (by kernel_rfl) (by decide) (by rw [show Tryz.f53.ntmps = 126 by kernel_rfl]; exact Nat.le_of_ble_eq_true rfl) (by kernel_rfl) ?_
  intro hσ hids
  rw [show comp Tryz.prog { own := [], ghosts := [] } (Tryz.f53.body.getD .skip) = c_valid by kernel_rfl, show Tryz.f53.ntmps = 126 by kernel_rfl]
  unfold c_valid
  unfold validB
  rw [← actsFrom_eq]
  by_cases h1 : (t.facts.length : Int) > 200
  · simp only [go_sem, Int.reduceToNat, Int.reduceLE, Int.reduceLT, Nat.reduceBEq, Nat.reduceLT, Nat.reduceAdd, Nat.reduceLeDiff, encTask, h1]
    first | exact rtk (.bool false) ⟨by rw [decide_eq_false (by omega : ¬ t.facts.length ≤ 200)]; rfl, rfl⟩ | exact rtk0 (.bool false) ⟨by rw [decide_eq_false (by omega : ¬ t.facts.length ≤ 200)]; rfl, rfl⟩
  rw [decide_eq_true (by omega : t.facts.length ≤ 200), Bool.true_and]
  by_cases h5 : (t.actions.length : Int) > 1000
  · simp only [go_sem, Int.reduceToNat, Int.reduceLE, Int.reduceLT, Nat.reduceBEq, Nat.reduceLT, Nat.reduceAdd, Nat.reduceLeDiff, encTask, h1, h5]
    first | exact rtk (.bool false) ⟨by rw [decide_eq_false (by omega : ¬ t.actions.length ≤ 1000)]; rfl, rfl⟩ | exact rtk0 (.bool false) ⟨by rw [decide_eq_false (by omega : ¬ t.actions.length ≤ 1000)]; rfl, rfl⟩
  rw [decide_eq_true (by omega : t.actions.length ≤ 1000)]
  simp only [go_sem, Int.reduceToNat, Int.reduceLE, Int.reduceLT, Nat.reduceBEq, Nat.reduceLT, Nat.reduceAdd, Nat.reduceLeDiff, encTask, h1, h5]
  refine (rising_spec t.init t.facts.length _ _ hb.init).is ?_
  cases h3 : risingB t.facts.length (-1) t.init
  · simp only [go_sem, Int.reduceToNat, Int.reduceLE, Int.reduceLT, Nat.reduceBEq, Nat.reduceLT, Nat.reduceAdd, Nat.reduceLeDiff]
    first | exact rtk (.bool false) ⟨by simp only [Bool.false_and, Bool.and_false], rfl⟩ | exact rtk0 (.bool false) ⟨by simp only [Bool.false_and, Bool.and_false], rfl⟩
  simp only [go_sem, Int.reduceToNat, Int.reduceLE, Int.reduceLT, Nat.reduceBEq, Nat.reduceLT, Nat.reduceAdd, Nat.reduceLeDiff]
  refine (cond_spec t.goal t.facts.length _ _ hb.goal).is ?_
  cases h4 : condB t.facts.length (-1) t.goal
  · simp only [go_sem, Int.reduceToNat, Int.reduceLE, Int.reduceLT, Nat.reduceBEq, Nat.reduceLT, Nat.reduceAdd, Nat.reduceLeDiff]
    first | exact rtk (.bool false) ⟨by simp only [Bool.false_and, Bool.and_false], rfl⟩ | exact rtk0 (.bool false) ⟨by simp only [Bool.false_and, Bool.and_false], rfl⟩
  simp only [Bool.true_and]
  simp only [go_sem, Int.reduceToNat, Int.reduceLE, Int.reduceLT, Nat.reduceBEq, Nat.reduceLT, Nat.reduceAdd, Nat.reduceLeDiff]
  have hs1 : ∀ i, IdsS (σ ++ [AObj.row (encTask t), AObj.map (encSet (t.facts.take i))]).length (σ ++ [AObj.row (encTask t), AObj.map (encSet (t.facts.take i))]) := fun i => idsS_app _ hσ (all_cons' (idsO_row (ids_encTask t)) (all_cons' (ids_encSet _) all_nil'))
  refine wpc_while (fun i => [(1, .ptr σ.length 0), (3, .int .i64 t.facts.length), (4, .map (σ.length + 1)), (38, .slice .unk (t.facts.map encT)), (39, .int .i64 t.facts.length), (40, .int .i64 (i : Nat))]) (fun i => σ ++ [.row (encTask t), .map (encSet (t.facts.take i))])
    (fun i => i ≤ t.facts.length ∧ namesFrom [] t.facts = namesFrom (t.facts.take i) (t.facts.drop i)) (fun i => t.facts.length - i) 0 ⟨Nat.zero_le _, rfl⟩ (by (try dsimp only); first | exact ghL (hs1 0) | exact ghL0 (hs1 0)) ?_
  rintro i ⟨hi, hv⟩ K hK hE hR
  by_cases h : i < t.facts.length
  · obtain ⟨y, hx⟩ := get_ex h; have hlt : ((i : Int) < (t.facts.length : Int)) := (by omega); have hw : IntKind.i64.wrap ((i : Int) + 1) = ((i + 1 : Nat) : Int) := (by rw [wrap_ok (by omega)]; omega)
    rw [drop_cons hx, namesFrom] at hv
    simp only [go_sem, Int.reduceToNat, Int.reduceLE, Int.reduceLT, Nat.reduceBEq, Nat.reduceLT, Nat.reduceAdd, Nat.reduceLeDiff, hlt, hx, encT, hR]
    refine (name_spec y _ (hb.names y (List.mem_of_getElem? hx))).is ?_
    cases h1 : nameB y
    · simp only [go_sem, Int.reduceToNat, Int.reduceLE, Int.reduceLT, Nat.reduceBEq, Nat.reduceLT, Nat.reduceAdd, Nat.reduceLeDiff, hR]
      first | exact rtk (.bool false) ⟨by rw [hv, h1, Bool.false_and, Bool.false_and, Bool.false_and], rfl⟩ | exact rtk0 (.bool false) ⟨by rw [hv, h1, Bool.false_and, Bool.false_and, Bool.false_and], rfl⟩
    by_cases h2 : y ∈ t.facts.take i
    · obtain ⟨j, hj⟩ := find_in y _ 0 h2
      simp only [go_sem, Int.reduceToNat, Int.reduceLE, Int.reduceLT, Nat.reduceBEq, Nat.reduceLT, Nat.reduceAdd, Nat.reduceLeDiff, hj, hR]
      first | exact rtk (.bool false) ⟨by rw [hv, h1, decide_eq_true h2, Bool.not_true, Bool.and_false, Bool.false_and, Bool.false_and], rfl⟩ | exact rtk0 (.bool false) ⟨by rw [hv, h1, decide_eq_true h2, Bool.not_true, Bool.and_false, Bool.false_and, Bool.false_and], rfl⟩
    · have hj := find_out y _ 0 h2
      simp only [go_sem, Int.reduceToNat, Int.reduceLE, Int.reduceLT, Nat.reduceBEq, Nat.reduceLT, Nat.reduceAdd, Nat.reduceLeDiff, hj, encSet_app, ← take_succ' hx]
      rw [h1, decide_eq_false h2, Bool.not_false, Bool.true_and, Bool.true_and, ← take_succ' hx] at hv
      refine hK _ _ (i + 1) (⟨by omega, hv⟩) (by first | omega | (simp only []; omega) | (simp; omega)) ?_; (try dsimp only); (try simp only [ hw]); first | exact ghL (hs1 (i + 1)) | exact ghL0 (hs1 (i + 1))
  · have hlt : ¬ ((i : Int) < (t.facts.length : Int)) := by omega
    rw [drop_len h, namesFrom] at hv
    simp only [go_sem, Int.reduceToNat, Int.reduceLE, Int.reduceLT, Nat.reduceBEq, Nat.reduceLT, Nat.reduceAdd, Nat.reduceLeDiff, hlt, hE, encTask]
    rw [hv, Bool.true_and]
    clear hK hE hR
    have hs2 : ∀ i, IdsS (σ ++ [AObj.row (encTask t), AObj.map (encSet t.facts), AObj.map (encSet ((t.actions.take i).map (·.name)))]).length (σ ++ [AObj.row (encTask t), AObj.map (encSet t.facts), AObj.map (encSet ((t.actions.take i).map (·.name)))]) := fun i => idsS_app _ hσ (all_cons' (idsO_row (ids_encTask t)) (all_cons' (ids_encSet _) (all_cons' (ids_encSet _) all_nil')))
    have ht : t.facts.take i = t.facts := List.take_of_length_le (by omega)
    rw [ht]
    refine wpc_while (fun i => [(3, .int .i64 t.facts.length), (4, .map (σ.length + 2)), (57, .slice .unk (t.actions.map encA)), (58, .int .i64 t.actions.length), (59, .int .i64 (i : Nat))])
      (fun i => σ ++ [.row (encTask t), .map (encSet t.facts), .map (encSet ((t.actions.take i).map (·.name)))]) (fun i => i ≤ t.actions.length ∧ actsFrom t.facts.length [] t.actions = actsFrom t.facts.length ((t.actions.take i).map (·.name)) (t.actions.drop i)) (fun i => t.actions.length - i) 0 ⟨Nat.zero_le _, rfl⟩ (by (try dsimp only); first | exact ghL (hs2 0) | exact ghL0 (hs2 0)) ?_
    clear hv h hi
    rintro i ⟨hi, hv⟩ K hK hE hR
    by_cases h : i < t.actions.length
    · obtain ⟨a, hx⟩ := get_ex h; have hlt : ((i : Int) < (t.actions.length : Int)) := (by omega); have hw : IntKind.i64.wrap ((i : Int) + 1) = ((i + 1 : Nat) : Int) := (by rw [wrap_ok (by omega)]; omega)
      have ha := List.mem_of_getElem? hx
      rw [drop_cons hx, actsFrom] at hv
      simp only [go_sem, Int.reduceToNat, Int.reduceLE, Int.reduceLT, Nat.reduceBEq, Nat.reduceLT, Nat.reduceAdd, Nat.reduceLeDiff, hlt, hx, encA]
      refine (name_spec a.name _ (hb.name a ha)).is ?_
      cases n1 : nameB a.name
      · simp only [go_sem, Int.reduceToNat, Int.reduceLE, Int.reduceLT, Nat.reduceBEq, Nat.reduceLT, Nat.reduceAdd, Nat.reduceLeDiff, hR]
        first | exact rtk (.bool false) ⟨by rw [hv, n1]; rfl, rfl⟩ | exact rtk0 (.bool false) ⟨by rw [hv, n1]; rfl, rfl⟩
      rw [n1, Bool.true_and] at hv
      by_cases n2 : a.name ∈ (t.actions.take i).map (·.name)
      · obtain ⟨j, hj⟩ := find_in a.name _ 0 n2
        simp only [go_sem, Int.reduceToNat, Int.reduceLE, Int.reduceLT, Nat.reduceBEq, Nat.reduceLT, Nat.reduceAdd, Nat.reduceLeDiff, hj, hR]
        first | exact rtk (.bool false) ⟨by rw [hv, decide_eq_true n2]; rfl, rfl⟩ | exact rtk0 (.bool false) ⟨by rw [hv, decide_eq_true n2]; rfl, rfl⟩
      have hj := find_out a.name _ 0 n2
      rw [decide_eq_false n2, Bool.not_false, Bool.true_and, actB] at hv
      by_cases a1 : a.cost < 0
      · simp only [go_sem, Int.reduceToNat, Int.reduceLE, Int.reduceLT, Nat.reduceBEq, Nat.reduceLT, Nat.reduceAdd, Nat.reduceLeDiff, hj, a1, hR]
        first | exact rtk (.bool false) ⟨by rw [hv, decide_eq_false (by omega : ¬ 0 ≤ a.cost)]; rfl, rfl⟩ | exact rtk0 (.bool false) ⟨by rw [hv, decide_eq_false (by omega : ¬ 0 ≤ a.cost)]; rfl, rfl⟩
      by_cases a2 : a.cost > 100000
      · simp only [go_sem, Int.reduceToNat, Int.reduceLE, Int.reduceLT, Nat.reduceBEq, Nat.reduceLT, Nat.reduceAdd, Nat.reduceLeDiff, hj, a1, a2, hR]
        first | exact rtk (.bool false) ⟨by rw [hv, decide_eq_false (by omega : ¬ a.cost ≤ 100000), Bool.false_and, Bool.and_false]; rfl, rfl⟩ | exact rtk0 (.bool false) ⟨by rw [hv, decide_eq_false (by omega : ¬ a.cost ≤ 100000), Bool.false_and, Bool.and_false]; rfl, rfl⟩
      rw [decide_eq_true (by omega : 0 ≤ a.cost), decide_eq_true (by omega : a.cost ≤ 100000), Bool.true_and, Bool.true_and] at hv
      simp only [go_sem, Int.reduceToNat, Int.reduceLE, Int.reduceLT, Nat.reduceBEq, Nat.reduceLT, Nat.reduceAdd, Nat.reduceLeDiff, hj, a1, a2]
      refine (cond_spec a.pre t.facts.length _ _ (hb.pre a ha)).is ?_
      cases a3 : condB t.facts.length (-1) a.pre
      · simp only [go_sem, Int.reduceToNat, Int.reduceLE, Int.reduceLT, Nat.reduceBEq, Nat.reduceLT, Nat.reduceAdd, Nat.reduceLeDiff, hR]
        first | exact rtk (.bool false) ⟨by rw [hv, a3]; rfl, rfl⟩ | exact rtk0 (.bool false) ⟨by rw [hv, a3]; rfl, rfl⟩
      rw [a3, Bool.true_and] at hv
      by_cases a4 : (a.effects.length : Int) > 100
      · simp only [go_sem, Int.reduceToNat, Int.reduceLE, Int.reduceLT, Nat.reduceBEq, Nat.reduceLT, Nat.reduceAdd, Nat.reduceLeDiff, a4, hR]
        first | exact rtk (.bool false) ⟨by rw [hv, decide_eq_false (by omega : ¬ a.effects.length ≤ 100)]; rfl, rfl⟩ | exact rtk0 (.bool false) ⟨by rw [hv, decide_eq_false (by omega : ¬ a.effects.length ≤ 100)]; rfl, rfl⟩
      rw [decide_eq_true (by omega : a.effects.length ≤ 100), Bool.true_and] at hv
      have hc : (t.actions.take i).map (·.name) ++ [a.name] = (t.actions.take (i + 1)).map (·.name) := by rw [take_succ' hx]; simp
      rw [hc] at hv
      simp only [go_sem, Int.reduceToNat, Int.reduceLE, Int.reduceLT, Nat.reduceBEq, Nat.reduceLT, Nat.reduceAdd, Nat.reduceLeDiff, a4, hj, encSet_app, hc]
      refine wpc_while (fun j => [(3, .int .i64 t.facts.length), (4, .map (σ.length + 2)), (57, .slice .unk (t.actions.map encA)), (58, .int .i64 t.actions.length), (59, .int .i64 (i : Nat)), (100, .slice .unk (a.effects.map encE)), (101, .int .i64 a.effects.length), (102, .int .i64 (j : Nat))])
        (fun j => σ ++ [.row (encTask t), .map (encSet t.facts), .map (encSet ((t.actions.take (i + 1)).map (·.name)))]) (fun j => j ≤ a.effects.length ∧ actsFrom t.facts.length [] t.actions = ((a.effects.drop j).all (effB t.facts.length) && actsFrom t.facts.length ((t.actions.take (i + 1)).map (·.name)) (t.actions.drop (i + 1)))) (fun j => a.effects.length - j) 0 ⟨Nat.zero_le _, hv⟩ (by (try dsimp only); first | exact ghL (hs2 (i + 1)) | exact ghL0 (hs2 (i + 1))) ?_
      rintro j ⟨hj', hvj⟩ K' hK' hE' hR'
      by_cases hj : j < a.effects.length
      · obtain ⟨e, hxj⟩ := get_ex hj; have hltj : ((j : Int) < (a.effects.length : Int)) := (by omega); have hwj : IntKind.i64.wrap ((j : Int) + 1) = ((j + 1 : Nat) : Int) := (by rw [wrap_ok (by omega)]; omega)
        have he := List.mem_of_getElem? hxj
        rw [drop_cons hxj, List.all_cons] at hvj
        simp only [go_sem, Int.reduceToNat, Int.reduceLE, Int.reduceLT, Nat.reduceBEq, Nat.reduceLT, Nat.reduceAdd, Nat.reduceLeDiff, hltj, hxj, encE]
        refine (cond_spec e.when_ t.facts.length _ _ (hb.whens a ha e he)).is ?_
        cases b1 : condB t.facts.length (-1) e.when_
        · simp only [go_sem, Int.reduceToNat, Int.reduceLE, Int.reduceLT, Nat.reduceBEq, Nat.reduceLT, Nat.reduceAdd, Nat.reduceLeDiff, hR', hR]
          first | exact rtk (.bool false) ⟨by rw [hvj, effB, b1]; rfl, rfl⟩ | exact rtk0 (.bool false) ⟨by rw [hvj, effB, b1]; rfl, rfl⟩
        rw [effB, b1, Bool.true_and] at hvj
        by_cases b2 : e.lit.fact < 0
        · simp only [go_sem, Int.reduceToNat, Int.reduceLE, Int.reduceLT, Nat.reduceBEq, Nat.reduceLT, Nat.reduceAdd, Nat.reduceLeDiff, b2, hR', hR]
          first | exact rtk (.bool false) ⟨by rw [hvj, decide_eq_false (by omega : ¬ 0 ≤ e.lit.fact)]; rfl, rfl⟩ | exact rtk0 (.bool false) ⟨by rw [hvj, decide_eq_false (by omega : ¬ 0 ≤ e.lit.fact)]; rfl, rfl⟩
        by_cases b3 : e.lit.fact ≥ t.facts.length
        · simp only [go_sem, Int.reduceToNat, Int.reduceLE, Int.reduceLT, Nat.reduceBEq, Nat.reduceLT, Nat.reduceAdd, Nat.reduceLeDiff, b2, b3, hR', hR]
          first | exact rtk (.bool false) ⟨by rw [hvj, decide_eq_false (by omega : ¬ e.lit.fact < t.facts.length), Bool.and_false]; rfl, rfl⟩ | exact rtk0 (.bool false) ⟨by rw [hvj, decide_eq_false (by omega : ¬ e.lit.fact < t.facts.length), Bool.and_false]; rfl, rfl⟩
        rw [decide_eq_true (by omega : 0 ≤ e.lit.fact), decide_eq_true (by omega : e.lit.fact < t.facts.length), Bool.true_and, Bool.true_and] at hvj
        simp only [go_sem, Int.reduceToNat, Int.reduceLE, Int.reduceLT, Nat.reduceBEq, Nat.reduceLT, Nat.reduceAdd, Nat.reduceLeDiff, b2, b3]
        refine hK' _ _ (j + 1) ⟨by omega, hvj⟩ (by omega) ?_
        exact (by (try dsimp only); (try simp only [ hwj]); first | exact ghL (hs2 (i + 1)) | exact ghL0 (hs2 (i + 1)))
      · have hltj : ¬ ((j : Int) < (a.effects.length : Int)) := by omega
        rw [drop_len hj, List.all_nil, Bool.true_and] at hvj
        simp only [go_sem, Int.reduceToNat, Int.reduceLE, Int.reduceLT, Nat.reduceBEq, Nat.reduceLT, Nat.reduceAdd, Nat.reduceLeDiff, hltj, hE']
        refine hK _ _ (i + 1) (⟨by omega, hvj⟩) (by first | omega | (simp only []; omega) | (simp; omega)) ?_; (try dsimp only); (try simp only [ hw]); first | exact ghL (hs2 (i + 1)) | exact ghL0 (hs2 (i + 1))
    · have hlt : ¬ ((i : Int) < (t.actions.length : Int)) := by omega
      rw [drop_len h] at hv
      simp only [go_sem, Int.reduceToNat, Int.reduceLE, Int.reduceLT, Nat.reduceBEq, Nat.reduceLT, Nat.reduceAdd, Nat.reduceLeDiff, hlt, hE]
      first | exact rtk (.bool true) ⟨by rw [hv]; rfl, rfl⟩ | exact rtk0 (.bool true) ⟨by rw [hv]; rfl, rfl⟩
end Go.Proofs.YtocphglkceidhaaGreat
namespace Go.Proofs.YtocphglkceidhaaGreat
open Go.Ahl
/-- The place of the first element of a kind, counted from k, or -1. -/
def idxFrom {α : Type} (p : α → Bool) : Int → List α → Int
  | _, [] => -1
  | k, x :: l => if p x then k else idxFrom p (k + 1) l
theorem idxFrom_ge {α : Type} (p : α → Bool) : ∀ (l : List α) (k : Int), 0 ≤ k → decide (idxFrom p k l ≥ 0) = l.any p
  | [], k, h => by simp [idxFrom]
  | x :: l, k, h => by
    rw [idxFrom, List.any_cons]
    cases hx : p x
    · simp only [Bool.false_eq_true, if_false, Bool.false_or]; exact idxFrom_ge p l (k + 1) (by omega)
    · simp [h]
def c_indexFuncC : CCode := .seq (.ops [⟨some 4, .move (.lit (.int .i64 0)), none, []⟩]) (.seq (.seq (.ops [⟨some 6, .move (.tmp 0), none, []⟩, ⟨some 7, .blen 1 (.tmp 6), none, []⟩, ⟨some 8, .move (.lit (.int .i64 0)), none, []⟩]) (.block 0 (.loop (.seq (.ops [⟨some 9, .bin .lss .none (.tmp 8) (.tmp 7), none, []⟩]) (.seq (.cond (.tmp 9) .skip (.exit 0)) (.seq (.block 1 (.seq (.ops [⟨some 10, .move (.tmp 8), none, []⟩, ⟨some 5, .move (.tmp 10), none, []⟩]) (.seq (.ops [⟨some 11, .move (.tmp 1), none, []⟩, ⟨some 12, .move (.tmp 0), none, []⟩, ⟨some 13, .move (.tmp 5), none, []⟩, ⟨some 14, .iaddr 1 (.tmp 12) (.tmp 13), none, []⟩, ⟨some 15, .load none (.tmp 14), none, []⟩, ⟨some 16, .call (.tmp 11) [.tmp 15], none, []⟩]) (.cond (.tmp 16) (.seq (.ops [⟨some 17, .move (.tmp 5), none, []⟩, ⟨some 4, .move (.tmp 17), none, []⟩]) .ret) .skip)))) (.ops [⟨some 18, .bin .add .none (.tmp 8) (.lit (.int .i64 1)), none, []⟩, ⟨some 8, .move (.tmp 18), none, []⟩]))))))) (.seq (.ops [⟨some 4, .move (.lit (.int .i64 (-1))), none, []⟩]) .ret))
set_option maxRecDepth 20000 in
theorem indexFuncC_spec {α : Type} (v : α → AV) (l : List α) (g : FuncId) (cap : List AV) (p : α → Bool) (tok : Tok) (σ : Store) (hl : l.length ≤ 140737488355328)
    (hp : ∀ x ∈ l, ACalls Tryz.prog g (v x :: cap) σ (isR (.bool (p x)) σ)) :
    ACalls Tryz.prog 89 [.slice tok (l.map fun x => [v x]), .func g cap] σ (isR (.int .i64 (idxFrom p 0 l)) σ) := by
  refine ACalls.intro (rs := [(.tmp 4)]) (by kernel_rfl) { own := [], ghosts := [] } Tryz.func89 (c := Tryz.f89.body.getD .skip) (by kernel_rfl) (by decide) (by rw [show Tryz.f89.ntmps = 19 by kernel_rfl]; exact Nat.le_of_ble_eq_true rfl) (by kernel_rfl) ?_
  intro hσ hids
  rw [show comp Tryz.prog { own := [], ghosts := [] } (Tryz.f89.body.getD .skip) = c_indexFuncC by kernel_rfl, show Tryz.f89.ntmps = 19 by kernel_rfl]
  unfold c_indexFuncC
  have hil : Ids σ.length (.slice tok (l.map fun x => [v x])) := hids _ (by simp)
  have hif : Ids σ.length (.func g cap) := hids _ (by simp)
  simp only [go_sem, Int.reduceToNat, Int.reduceLE, Int.reduceLT, Nat.reduceBEq, Nat.reduceLT, Nat.reduceAdd, Nat.reduceLeDiff]
  refine wpc_while (fun i => [(0, .slice tok (l.map fun x => [v x])), (1, .func g cap), (7, .int .i64 l.length), (8, .int .i64 (i : Nat))]) (fun _ => σ) (fun i => i ≤ l.length ∧ idxFrom p 0 l = idxFrom p i (l.drop i)) (fun i => l.length - i) 0 ⟨Nat.zero_le _, rfl⟩ (by (try dsimp only); first | exact ghk | exact ghk0) ?_
  rintro i ⟨hi, hv⟩ K hK hE hR
  by_cases h : i < l.length
  · obtain ⟨y, hx⟩ := get_ex h; have hlt : ((i : Int) < (l.length : Int)) := (by omega); have hw : IntKind.i64.wrap ((i : Int) + 1) = ((i + 1 : Nat) : Int) := (by rw [wrap_ok (by omega)]; omega)
    rw [drop_cons hx, idxFrom] at hv
    simp only [go_sem, Int.reduceToNat, Int.reduceLE, Int.reduceLT, Nat.reduceBEq, Nat.reduceLT, Nat.reduceAdd, Nat.reduceLeDiff, hlt, hx]
    refine (hp y (List.mem_of_getElem? hx)).is ?_
    cases h1 : p y
    · simp only [go_sem, Int.reduceToNat, Int.reduceLE, Int.reduceLT, Nat.reduceBEq, Nat.reduceLT, Nat.reduceAdd, Nat.reduceLeDiff]
      rw [h1, if_neg (by simp)] at hv
      refine hK _ _ (i + 1) (⟨by omega, by rw [hv]; norm_cast⟩) (by first | omega | (simp only []; omega) | (simp; omega)) ?_; (try dsimp only); (try simp only [ hw]); first | exact ghk | exact ghk0
    · rw [h1, if_pos rfl] at hv
      simp only [go_sem, Int.reduceToNat, Int.reduceLE, Int.reduceLT, Nat.reduceBEq, Nat.reduceLT, Nat.reduceAdd, Nat.reduceLeDiff, hR]
      first | exact rtk (.int .i64 i) ⟨by rw [hv], rfl⟩ | exact rtk0 (.int .i64 i) ⟨by rw [hv], rfl⟩
  · have hlt : ¬ ((i : Int) < (l.length : Int)) := by omega
    rw [drop_len h] at hv
    simp only [go_sem, Int.reduceToNat, Int.reduceLE, Int.reduceLT, Nat.reduceBEq, Nat.reduceLT, Nat.reduceAdd, Nat.reduceLeDiff, hlt, hE]
    first | exact rtk (.int .i64 (-1)) ⟨by rw [hv]; rfl, rfl⟩ | exact rtk0 (.int .i64 (-1)) ⟨by rw [hv]; rfl, rfl⟩
def c_indexFuncL : CCode := .seq (.ops [⟨some 4, .move (.lit (.int .i64 0)), none, []⟩]) (.seq (.seq (.ops [⟨some 6, .move (.tmp 0), none, []⟩, ⟨some 7, .blen 1 (.tmp 6), none, []⟩, ⟨some 8, .move (.lit (.int .i64 0)), none, []⟩]) (.block 0 (.loop (.seq (.ops [⟨some 9, .bin .lss .none (.tmp 8) (.tmp 7), none, []⟩]) (.seq (.cond (.tmp 9) .skip (.exit 0)) (.seq (.block 1 (.seq (.ops [⟨some 10, .move (.tmp 8), none, []⟩, ⟨some 5, .move (.tmp 10), none, []⟩]) (.seq (.ops [⟨some 11, .move (.tmp 1), none, []⟩, ⟨some 12, .move (.tmp 0), none, []⟩, ⟨some 13, .move (.tmp 5), none, []⟩, ⟨some 14, .iaddr 2 (.tmp 12) (.tmp 13), none, []⟩, ⟨some 15, .load (some 2) (.tmp 14), none, []⟩, ⟨some 16, .call (.tmp 11) [.tmp 15], none, []⟩]) (.cond (.tmp 16) (.seq (.ops [⟨some 17, .move (.tmp 5), none, []⟩, ⟨some 4, .move (.tmp 17), none, []⟩]) .ret) .skip)))) (.ops [⟨some 18, .bin .add .none (.tmp 8) (.lit (.int .i64 1)), none, []⟩, ⟨some 8, .move (.tmp 18), none, []⟩]))))))) (.seq (.ops [⟨some 4, .move (.lit (.int .i64 (-1))), none, []⟩]) .ret))
set_option maxRecDepth 20000 in
theorem indexFuncL_spec (l : List FLit) (g : FuncId) (cap : List AV) (p : FLit → Bool) (tok : Tok) (σ : Store) (hl : l.length ≤ 140737488355328)
    (hp : ∀ x ∈ l, ACalls Tryz.prog g (.agg (encLit x) :: cap) σ (isR (.bool (p x)) σ)) :
    ACalls Tryz.prog 158 [.slice tok (l.map encLit), .func g cap] σ (isR (.int .i64 (idxFrom p 0 l)) σ) := by
  refine ACalls.intro (rs := [(.tmp 4)]) (by kernel_rfl) { own := [], ghosts := [] } Tryz.func158 (c := Tryz.f158.body.getD .skip) (by kernel_rfl) (by decide) (by rw [show Tryz.f158.ntmps = 19 by kernel_rfl]; exact Nat.le_of_ble_eq_true rfl) (by kernel_rfl) ?_
  intro hσ hids
  rw [show comp Tryz.prog { own := [], ghosts := [] } (Tryz.f158.body.getD .skip) = c_indexFuncL by kernel_rfl, show Tryz.f158.ntmps = 19 by kernel_rfl]
  unfold c_indexFuncL
  have hil : Ids σ.length (.slice tok (l.map encLit)) := hids _ (by simp)
  have hif : Ids σ.length (.func g cap) := hids _ (by simp)
  simp only [go_sem, Int.reduceToNat, Int.reduceLE, Int.reduceLT, Nat.reduceBEq, Nat.reduceLT, Nat.reduceAdd, Nat.reduceLeDiff]
  refine wpc_while (fun i => [(0, .slice tok (l.map encLit)), (1, .func g cap), (7, .int .i64 l.length), (8, .int .i64 (i : Nat))]) (fun _ => σ) (fun i => i ≤ l.length ∧ idxFrom p 0 l = idxFrom p i (l.drop i)) (fun i => l.length - i) 0 ⟨Nat.zero_le _, rfl⟩ (by (try dsimp only); first | exact ghk | exact ghk0) ?_
  rintro i ⟨hi, hv⟩ K hK hE hR
  by_cases h : i < l.length
  · obtain ⟨y, hx⟩ := get_ex h; have hlt : ((i : Int) < (l.length : Int)) := (by omega); have hw : IntKind.i64.wrap ((i : Int) + 1) = ((i + 1 : Nat) : Int) := (by rw [wrap_ok (by omega)]; omega)
    rw [drop_cons hx, idxFrom] at hv
    simp only [go_sem, Int.reduceToNat, Int.reduceLE, Int.reduceLT, Nat.reduceBEq, Nat.reduceLT, Nat.reduceAdd, Nat.reduceLeDiff, hlt, hx, encLit]
    refine (hp y (List.mem_of_getElem? hx)).is ?_
    cases h1 : p y
    · simp only [go_sem, Int.reduceToNat, Int.reduceLE, Int.reduceLT, Nat.reduceBEq, Nat.reduceLT, Nat.reduceAdd, Nat.reduceLeDiff]
      rw [h1, if_neg (by simp)] at hv
      refine hK _ _ (i + 1) (⟨by omega, by rw [hv]; norm_cast⟩) (by first | omega | (simp only []; omega) | (simp; omega)) ?_; (try dsimp only); (try simp only [ hw]); first | exact ghk | exact ghk0
    · rw [h1, if_pos rfl] at hv
      simp only [go_sem, Int.reduceToNat, Int.reduceLE, Int.reduceLT, Nat.reduceBEq, Nat.reduceLT, Nat.reduceAdd, Nat.reduceLeDiff, hR]
      first | exact rtk (.int .i64 i) ⟨by rw [hv], rfl⟩ | exact rtk0 (.int .i64 i) ⟨by rw [hv], rfl⟩
  · have hlt : ¬ ((i : Int) < (l.length : Int)) := by omega
    rw [drop_len h] at hv
    simp only [go_sem, Int.reduceToNat, Int.reduceLE, Int.reduceLT, Nat.reduceBEq, Nat.reduceLT, Nat.reduceAdd, Nat.reduceLeDiff, hlt, hE]
    first | exact rtk (.int .i64 (-1)) ⟨by rw [hv]; rfl, rfl⟩ | exact rtk0 (.int .i64 (-1)) ⟨by rw [hv]; rfl, rfl⟩
def c_containsFuncC : CCode := .seq (.ops [⟨some 4, .move (.lit (.bool false)), none, []⟩]) (.seq (.ops [⟨some 5, .move (.tmp 0), none, []⟩, ⟨some 6, .move (.tmp 1), none, []⟩, ⟨some 7, .call (.lit (.func 89 [])) [.tmp 5, .tmp 6], none, []⟩, ⟨some 8, .bin .geq .none (.tmp 7) (.lit (.int .i64 0)), none, []⟩, ⟨some 4, .move (.tmp 8), none, []⟩]) .ret)
set_option maxRecDepth 20000 in
theorem containsFuncC_spec {α : Type} (v : α → AV) (l : List α) (g : FuncId) (cap : List AV) (p : α → Bool) (tok : Tok) (σ : Store) (hl : l.length ≤ 140737488355328)
    (hp : ∀ x ∈ l, ACalls Tryz.prog g (v x :: cap) σ (isR (.bool (p x)) σ)) :
    ACalls Tryz.prog 56 [.slice tok (l.map fun x => [v x]), .func g cap] σ (isR (.bool (l.any p)) σ) := by
  refine ACalls.intro (rs := [(.tmp 4)]) (by kernel_rfl) { own := [], ghosts := [] } Tryz.func56 (c := Tryz.f56.body.getD .skip) (by kernel_rfl) (by decide) (by rw [show Tryz.f56.ntmps = 9 by kernel_rfl]; exact Nat.le_of_ble_eq_true rfl) (by kernel_rfl) ?_
  intro hσ hids
  rw [show comp Tryz.prog { own := [], ghosts := [] } (Tryz.f56.body.getD .skip) = c_containsFuncC by kernel_rfl, show Tryz.f56.ntmps = 9 by kernel_rfl]
  unfold c_containsFuncC
  simp only [go_sem, Int.reduceToNat, Int.reduceLE, Int.reduceLT, Nat.reduceBEq, Nat.reduceLT, Nat.reduceAdd, Nat.reduceLeDiff]
  refine (indexFuncC_spec v l g cap p tok σ hl hp).is ?_
  simp only [go_sem, Int.reduceToNat, Int.reduceLE, Int.reduceLT, Nat.reduceBEq, Nat.reduceLT, Nat.reduceAdd, Nat.reduceLeDiff, idxFrom_ge p l 0 (Int.le_refl _)]
  first | exact rtw (v := .bool _) wkS ⟨rfl, rfl⟩ | exact rtw0 (v := .bool _) wkS ⟨rfl, rfl⟩
def c_containsFuncL : CCode := .seq (.ops [⟨some 4, .move (.lit (.bool false)), none, []⟩]) (.seq (.ops [⟨some 5, .move (.tmp 0), none, []⟩, ⟨some 6, .move (.tmp 1), none, []⟩, ⟨some 7, .call (.lit (.func 158 [])) [.tmp 5, .tmp 6], none, []⟩, ⟨some 8, .bin .geq .none (.tmp 7) (.lit (.int .i64 0)), none, []⟩, ⟨some 4, .move (.tmp 8), none, []⟩]) .ret)
set_option maxRecDepth 20000 in
theorem containsFuncL_spec (l : List FLit) (g : FuncId) (cap : List AV) (p : FLit → Bool) (tok : Tok) (σ : Store) (hl : l.length ≤ 140737488355328)
    (hp : ∀ x ∈ l, ACalls Tryz.prog g (.agg (encLit x) :: cap) σ (isR (.bool (p x)) σ)) :
    ACalls Tryz.prog 132 [.slice tok (l.map encLit), .func g cap] σ (isR (.bool (l.any p)) σ) := by
  refine ACalls.intro (rs := [(.tmp 4)]) (by kernel_rfl) { own := [], ghosts := [] } Tryz.func132 (c := Tryz.f132.body.getD .skip) (by kernel_rfl) (by decide) (by rw [show Tryz.f132.ntmps = 9 by kernel_rfl]; exact Nat.le_of_ble_eq_true rfl) (by kernel_rfl) ?_
  intro hσ hids
  rw [show comp Tryz.prog { own := [], ghosts := [] } (Tryz.f132.body.getD .skip) = c_containsFuncL by kernel_rfl, show Tryz.f132.ntmps = 9 by kernel_rfl]
  unfold c_containsFuncL
  simp only [go_sem, Int.reduceToNat, Int.reduceLE, Int.reduceLT, Nat.reduceBEq, Nat.reduceLT, Nat.reduceAdd, Nat.reduceLeDiff]
  refine (indexFuncL_spec l g cap p tok σ hl hp).is ?_
  simp only [go_sem, Int.reduceToNat, Int.reduceLE, Int.reduceLT, Nat.reduceBEq, Nat.reduceLT, Nat.reduceAdd, Nat.reduceLeDiff, idxFrom_ge p l 0 (Int.le_refl _)]
  first | exact rtw (v := .bool _) wkS ⟨rfl, rfl⟩ | exact rtw0 (v := .bool _) wkS ⟨rfl, rfl⟩
theorem flat_lit (x y : FLit) : flatEq [1, 0] (encLit x) (encLit y) = some (decide (x = y)) := by
  obtain ⟨a, b⟩ := x; obtain ⟨c, d⟩ := y
  simp only [encLit, flatEq, cellEq, if_true]
  congr 1
  by_cases h1 : a = c <;> by_cases h2 : b = d <;> simp [h1, h2]
/-- Are all literals of the first among the second's? -/
def withinB (a b : List FLit) : Bool := !(a.any fun x => !(b.contains x))
theorem any_not {α : Type} (p : α → Bool) (l : List α) : (!(l.any fun x => !(p x))) = l.all p := by
  induction l with
  | nil => rfl
  | cons x l ih => rw [List.any_cons, List.all_cons, Bool.not_or, ih, Bool.not_not]
/-- A formula whose lists are not too long. -/
def FB (f : List (List FLit)) : Prop := f.length ≤ 140737488355328 ∧ ∀ l ∈ f, l.length ≤ 140737488355328
def lessI (a b : FLit) : Int := if a.fact = b.fact then (if a.neg = b.neg then 0 else if b.neg then -1 else 1) else a.fact - b.fact
/-- Facts that are numbers of facts. -/
def litOk (x : FLit) : Prop := 0 ≤ x.fact ∧ x.fact ≤ 1073741824
def cmpLits : List FLit → List FLit → Int
  | [], [] => 0
  | [], _ :: _ => -1
  | _ :: _, [] => 1
  | a :: l, b :: r => if lessI a b = 0 then cmpLits l r else lessI a b
def orderI (a b : List FLit) : Int := if a.length = b.length then cmpLits a b else (a.length : Int) - b.length
end Go.Proofs.YtocphglkceidhaaGreat
namespace Go.Proofs.YtocphglkceidhaaGreat
open Go.Ahl
def okI (n : Int) : Prop := -9223372036854775808 ≤ n ∧ n ≤ 9223372036854775807
theorem rd_int : Reads Tryz.prog 3 Ahl.encI okI := .int Tryz.underlying3
theorem rd_str : Reads Tryz.prog 9 encT (fun s => s.size ≤ 140737488355328) := .str Tryz.underlying9
theorem rd_lit : Reads Tryz.prog 68 encLit (fun _ => True) :=
  (Reads.struct Tryz.underlying68 (by kernel_rfl) (ReadsFs.cons (by rfl) rd_int (.cons (by kernel_rfl) (.bool Tryz.underlying4) (.nil _)))).conv (fun x => ⟨x.1, x.2.1⟩) (fun x => rfl) (fun _ _ => trivial)
theorem rd_strs : Reads Tryz.prog 22 (Ahl.encS encT) (okL fun s => s.size ≤ 140737488355328) := .slice Tryz.underlying22 (Nat.le_of_ble_eq_true (by kernel_rfl)) (Nat.le_of_ble_eq_true (by kernel_rfl)) rd_str
theorem rd_ints : Reads Tryz.prog 23 (Ahl.encS Ahl.encI) (okL okI) := .slice Tryz.underlying23 (Nat.le_of_ble_eq_true (by kernel_rfl)) (Nat.le_of_ble_eq_true (by kernel_rfl)) rd_int
theorem rd_lits : Reads Tryz.prog 24 (Ahl.encS encLit) (okL fun _ => True) := .slice Tryz.underlying24 (Nat.le_of_ble_eq_true (by kernel_rfl)) (Nat.le_of_ble_eq_true (by kernel_rfl)) rd_lit
theorem rd_form : Reads Tryz.prog 28 (Ahl.encS encC) (fun f => FB f) :=
  (Reads.slice Tryz.underlying28 (Nat.le_of_ble_eq_true (by kernel_rfl)) (Nat.le_of_ble_eq_true (by kernel_rfl)) rd_lits).conv id (fun _ => rfl) (fun f h => ⟨h.1, fun l hl => (h.2 l hl).1⟩)
theorem rd_eff : Reads Tryz.prog 70 encE (fun e => e.when_.length ≤ 140737488355328) :=
  (Reads.struct Tryz.underlying70 (by kernel_rfl) (ReadsFs.cons (by rfl) rd_lits (.cons (by kernel_rfl) rd_lit (.nil _)))).conv (fun x => ⟨x.1, x.2.1⟩) (fun x => rfl) (fun x h => h.1.1)
theorem rd_effs : Reads Tryz.prog 71 (Ahl.encS encE) (okL fun e => e.when_.length ≤ 140737488355328) := .slice Tryz.underlying71 (Nat.le_of_ble_eq_true (by kernel_rfl)) (Nat.le_of_ble_eq_true (by kernel_rfl)) rd_eff
structure AB (a : FAct) : Prop where
  name : a.name.data.toList.length ≤ 140737488355328
  pre : a.pre.length ≤ 140737488355328
  effects : a.effects.length ≤ 140737488355328
  whens : ∀ e ∈ a.effects, e.when_.length ≤ 140737488355328
theorem rd_act : Reads Tryz.prog 73 encA AB :=
  (Reads.struct Tryz.underlying73 (by kernel_rfl) (ReadsFs.cons (by rfl) rd_str (.cons (by kernel_rfl) rd_int (.cons (by kernel_rfl) rd_lits (.cons (by kernel_rfl) rd_effs (.nil _)))))).conv (fun x => ⟨x.1, x.2.1, x.2.2.1, x.2.2.2.1⟩) (fun x => rfl) (fun x h => ⟨h.1, h.2.2.1.1, h.2.2.2.1.1, h.2.2.2.1.2⟩)
theorem rd_acts : Reads Tryz.prog 25 (Ahl.encS encA) (okL AB) := .slice Tryz.underlying25 (Nat.le_of_ble_eq_true (by kernel_rfl)) (Nat.le_of_ble_eq_true (by kernel_rfl)) rd_act
theorem rd_task : Reads Tryz.prog 27 encTask TB :=
  (Reads.struct Tryz.underlying27 (by kernel_rfl) (ReadsFs.cons (by rfl) rd_strs (.cons (by kernel_rfl) rd_ints (.cons (by kernel_rfl) rd_lits (.cons (by kernel_rfl) rd_acts (.nil _)))))).conv (fun x => ⟨x.1, x.2.1, x.2.2.1, x.2.2.2.1⟩) (fun x => rfl)
    (fun x h => ⟨h.1.1, h.1.2, h.2.1.1, h.2.2.1.1, h.2.2.2.1.1, fun a ha => (h.2.2.2.1.2 a ha).name, fun a ha => (h.2.2.2.1.2 a ha).pre, fun a ha => (h.2.2.2.1.2 a ha).effects, fun a ha => (h.2.2.2.1.2 a ha).whens⟩)
theorem ra_task : RArg Tryz.prog 27 (fun t => .agg (encTask t)) TB := .agg rd_task Tryz.underlying27
theorem ra_form : RArg Tryz.prog 28 (fun f : List (List FLit) => .slice .unk (f.map encC)) FB := .one rd_form (by intro d h; rw [Tryz.underlying28] at h; injection h with h; subst h; rfl)
theorem ra_ints : RArg Tryz.prog 23 (fun l : List Int => .slice .unk (l.map Ahl.encI)) (okL okI) := .one rd_ints (by intro d h; rw [Tryz.underlying23] at h; injection h with h; subst h; rfl)
theorem laidOut : laidOutB Tryz.prog = true := by kernel_rfl
theorem own : ownKnob Tryz.prog.godebug = none := by kernel_rfl
theorem rdble {ts : List TypeId} (h : (ts.all fun t => Tryz.prog.readableRec t && decide (t < Tryz.prog.types.size)) = true) : ∀ t ∈ ts, Tryz.prog.readableRec t = true ∧ t < Tryz.prog.types.size := by
  intro t ht
  have := List.all_eq_true.1 h t ht
  rw [Bool.and_eq_true] at this
  exact ⟨this.1, of_decide_eq_true this.2⟩
end Go.Proofs.YtocphglkceidhaaGreat
/- The abstract layer, part 20: the library's sorting of rows of one cell an element, told of rows of one's own. -/
namespace Go.Ahl
open Go.Sort Go.Shelf Go.RowKit Go.Lib Go.Proofs
/-- The memory, without what may be written to at any time. -/
def Mem.strip (m : Mem) : Mem := { m with wk := fun _ _ => none }
theorem SRel.strip {m : Mem} {loc : List Loc} {σ : Store} {w : World} (h : SRel m loc σ w) (hr : ∀ a v, Rel m loc a v → Rel m.strip loc a v) : SRel m.strip loc σ w where
  len := h.len
  im := h.im
  bs := h.bs
  obj i l o h1 h2 := by
    have := h.obj i l o h1 h2
    cases l with
    | nowhere => cases o <;> exact this
    | blk b =>
      cases o with
      | dead => trivial
      | grow sz n => exact this
      | vec sz n cells => exact this
      | row cells =>
        obtain ⟨arr, t, h1, h2, h3, h4, h5⟩ := this
        exact ⟨arr, t, h1, h2, h3, fun j x v e1 e2 => hr _ _ (h4 j x v e1 e2), h5⟩
      | map es =>
        obtain ⟨en, c, h1, h2⟩ := this
        exact ⟨en, c, h1, ⟨h2.len, fun i k x e a b => ⟨hr _ _ (h2.key i k x e a b).1, hr _ _ (h2.key i k x e a b).2⟩, h2.born, h2.apart⟩⟩
      | loop L =>
        obtain ⟨r, h1, h2, h3, h4, h5, h6, h7⟩ := this
        exact ⟨r, h1, h2, h3, h4, h5, h6, ⟨h7.size, fun i => hr _ _ (h7.rel i)⟩⟩
      | iter es seen =>
        rcases this with ⟨h1, h2⟩ | ⟨q, en, c, sa, st, h1, h2, h3, h4⟩
        · exact .inl ⟨h1, h2⟩
        · exact .inr ⟨q, en, c, sa, st, h1, h2, ⟨h3.len, fun i k x e a b => ⟨hr _ _ (h3.key i k x e a b).1, hr _ _ (h3.key i k x e a b).2⟩, h3.born, h3.apart⟩, h4⟩
    | tok sz f =>
      cases o with
      | vec sz' n cells =>
        obtain ⟨h0, h1, h2, h3⟩ := this
        refine ⟨h0, h1, h2, ?_⟩
        rcases h3 with h3 | ⟨b, arr, t, g1, g2, g3, g4, g5, g6⟩
        · exact .inl h3
        · exact .inr ⟨b, arr, t, g1, g2, g3, g4, fun j x v e1 e2 => hr _ _ (g5 j x v e1 e2), g6⟩
      | _ => exact this
  inj := h.inj
  lt := h.lt
  mp := h.mp
  mpo := h.mpo
  ok := ⟨h.ok.low, h.ok.own, fun _ _ _ e => by simp [Mem.strip] at e, h.ok.fz⟩
theorem Rel.strip {m : Mem} {a : AV} {v : Value} (h : Rel m [] a v) : Rel m.strip [] a v := by
  generalize hl : ([] : List Loc) = loc at h
  induction h with
  | any v => exact .any v
  | bool b => exact .bool b
  | int k n => exact .int k n
  | str s => exact .str s
  | slice tok elems a cap sz b o f hcap htok hsz ha hc hr ih =>
    refine .slice tok elems a cap sz b o f hcap ?_ hsz ha hc ih
    cases tok <;> exact htok
  | ref id sz off len cap b n h1 h2 h3 h4 => exact .ref id sz off len cap b n h1 h2 h3 h4
  | ref0 id sz off a h1 => exact .ref0 id sz off a h1
  | vec id sz len cap f a h1 h2 h3 => exact .vec id sz len cap f a h1 h2 h3
  | ptr id off b h1 => exact .ptr id off b h1
  | rptr cells b o f hc hr ih => exact .rptr cells b o f hc ih
  | map id b h1 => exact .map id b h1
  | mapnil => exact .mapnil
  | func fn c vs h1 h2 ih => exact .func fn c vs h1 ih
  | agg c vs h1 h2 ih => exact .agg c vs h1 ih
  | tuple c vs h1 h2 ih => exact .tuple c vs h1 ih
  | conc v => exact .conc v
  | yld id b h1 => exact .yld id b h1
  | cell K v h => exact .cell K v h
  | wslice elems a cap sz b o f hl' => subst hl; simp at hl'
  | wptr cells b o f hl' => subst hl; simp at hl'
theorem world_of_ext {m m' : Mem} {loc' : List Loc} {w w' : World} (h : Ext 0 m [] w m' loc' w') (hz : ∀ b o, m.wk b o = none) : ∃ q os', w' = grow (w.drewN q) os' := by
  refine ⟨w'.drawn - w.drawn, w'.heap.extract w.heap.size w'.heap.size, ?_⟩
  have hn : ∀ b, ¬ Names [] b := by rintro b ⟨i, e | ⟨_, _, _, e, _⟩⟩ <;> simp at e
  have h1 := h.os; have h2 := h.tape; have h3 := h.output; have h4 := h.drawn
  have hh : w'.heap = w.heap ++ w'.heap.extract w.heap.size w'.heap.size := by
    apply Array.ext_getElem?
    intro k
    rw [Array.getElem?_append]
    by_cases hk : k < w.heap.size
    · rw [if_pos hk]; exact h.frame k hk (hn k) (hz k)
    · rw [if_neg hk, Array.getElem?_extract]
      by_cases hk2 : k < w'.heap.size
      · rw [if_pos (by omega)]; congr 1; omega
      · rw [if_neg (by omega), Array.getElem?_eq_none (by omega)]
  cases w; cases w'
  simp only at h1 h2 h3 h4 hh
  subst h1; subst h2; subst h3
  simp only [grow, World.drewN, World.mk.injEq, true_and, and_true]
  exact ⟨hh, by omega⟩
theorem srel_base {m : Mem} {loc : List Loc} {σ : Store} {w : World} (h : SRel m loc σ w) : SRel m [] [] w := by
  have := h.take 0 (fun i o e => by simp at e)
  simpa using this
section
variable {α : Type} [Inhabited α] (enc : α → Value) (w : World) (blk off n : Nat) (d : Array α) (os : Array Obj)
theorem size_sortWorld : (sortWorld enc w blk off n d os).heap.size = w.heap.size + os.size := by
  simp [sortWorld, Sort.ahead]
theorem sortWorld_other {k : Nat} (hk : k < w.heap.size) (hne : k ≠ blk) : (sortWorld enc w blk off n d os).heap[k]? = w.heap[k]? := by
  show ((putRow enc (Sort.ahead w n) blk off d).heap ++ os)[k]? = _
  rw [Array.getElem?_append_left (by simpa [Sort.ahead] using hk)]
  show (w.heap.modify blk _)[k]? = _
  rw [Array.getElem?_modify, if_neg (fun e => hne e.symm)]
theorem sortWorld_own {arr : Array Value} {t : TypeId} {fz : Nat × Nat} (h : w.heap[blk]? = some (.cells arr t fz)) : (sortWorld enc w blk off n d os).heap[blk]? = some (.cells (putCells enc off d arr) t fz) := by
  have hk : blk < w.heap.size := by
    rcases Nat.lt_or_ge blk w.heap.size with q | q
    · exact q
    · rw [Array.getElem?_eq_none q] at h; simp at h
  show ((putRow enc (Sort.ahead w n) blk off d).heap ++ os)[blk]? = _
  rw [Array.getElem?_append_left (by simpa [Sort.ahead] using hk)]
  show (w.heap.modify blk _)[blk]? = _
  rw [Array.getElem?_modify, if_pos rfl, h]; rfl
theorem size_putCells (arr : Array Value) : (putCells enc off d arr).size = arr.size := by simp [putCells]
end
theorem srel_sorted {α : Type} [Inhabited α] (enc : α → Value) {m : Mem} {w : World} (blk off n : Nat) (d : Array α) (os : Array Obj) (h : SRel m [] [] w) (hb : ∀ o, m.im blk o = none) (hbm : m.mp blk = none) (hz : ∀ b o, m.wk b o = none) : SRel m [] [] (sortWorld enc w blk off n d os) := by
  refine ⟨rfl, ?_, ?_, by intro i l o e; simp at e, by intro i j l l' o o' b e; simp at e, by rintro b ⟨i, e | ⟨_, _, _, e, _⟩⟩ <;> simp at e, ?_, by intro i l o b e; simp at e, ?_⟩
  · intro b o v e
    have hne : b ≠ blk := fun q => by subst q; rw [hb] at e; simp at e
    have := h.im b o v e
    have hlt := h.im_lt e
    unfold World.cell? at this ⊢
    rw [sortWorld_other enc w blk off n d os hlt hne]; exact this
  · intro b k e
    obtain ⟨arr, t, fz, h1, h2⟩ := h.bs b k e
    by_cases hne : b = blk
    · subst hne; exact ⟨_, t, fz, sortWorld_own enc w b off n d os h1, by rw [size_putCells]; exact h2⟩
    · exact ⟨arr, t, fz, by rw [sortWorld_other enc w blk off n d os (h.bs_lt e) hne]; exact h1, h2⟩
  · intro b e q
    have hne : b ≠ blk := fun q' => by subst q'; rw [hbm] at q; simp at q
    rw [sortWorld_other enc w blk off n d os (h.mp_lt q) hne]; exact h.mp b e q
  · refine ⟨by rw [size_sortWorld]; exact Nat.le_trans h.ok.low (Nat.le_add_right _ _), by rintro b ⟨i, e | ⟨_, _, _, e, _⟩⟩ <;> simp at e, fun b o K e => by rw [hz] at e; simp at e, fun b o v q e => ?_⟩
    have hne : b ≠ blk := fun q' => by subst q'; rw [hb] at e; simp at e
    rw [frozen_same (sortWorld_other enc w blk off n d os (h.im_lt e) hne)]; exact h.ok.fz b o v q e
theorem rel_ref {m : Mem} {loc : List Loc} {id sz off len : Nat} {v : Value} (h : Rel m loc (.ref id sz off len) v) :
    (∃ cap b n, v = .slice (some ⟨b, off, none⟩) len cap ∧ loc[id]? = some (.blk b) ∧ len ≤ cap ∧ m.bs b = some n ∧ off + cap * sz ≤ n) ∨ (len = 0 ∧ ∃ a, v = .slice a 0 0) := by
  cases h with
  | ref _ _ _ _ cap b n h1 h2 h3 h4 => exact .inl ⟨cap, b, n, rfl, h1, h2, h3, h4⟩
  | ref0 _ _ _ a _ => exact .inr ⟨rfl, a, rfl⟩
section
variable {P : Program} {ρ : Ren} {β : Type}
/-- slices.SortFunc at rows of one cell an element, by an order that only looks at its two elements. -/
theorem sort1 (L : SlLaysF.n6 P ρ) {fn gn : Func} (hf : P.funcs[ρ.f 6]? = some fn) (hfb : fn.body.isSome = true) (hfn : fn.name ≠ "runtime.NumGoroutine") (av : β → AV) (ok : β → Prop) (cf : β → β → Int)
    (hone : ∀ b, (av b).one = true) (hids : ∀ b, Ids 0 (av b)) (b0 : β) (v0 : Value) (hb0 : ok b0) (hv0 : ∀ m, Rel m [] (av b0) v0)
    (irr : ∀ x, ok x → ¬ cf x x < 0) (tr : ∀ x y z, ok x → ok y → ok z → cf x y < 0 → cf y z < 0 → cf x z < 0) (ntr : ∀ x y z, ok x → ok y → ok z → ¬ cf x y < 0 → ¬ cf y z < 0 → ¬ cf x z < 0)
    (g : FuncId) (hg : P.funcs[g]? = some gn) (hgb : gn.body.isSome = true) (hgn : (gn.name == "runtime.NumGoroutine") = false) (hcmp : ∀ x y, ok x → ok y → ACalls P g [av x, av y] [] (isR (.int .i64 (cf x y)) []))
    (id : Nat) (l : List β) (hl : ∀ x ∈ l, ok x) (σ : Store) (hσ : σ[id]? = some (.row (l.map av))) (hlen : l.length < 4611686018427387904) :
    ACalls P (ρ.f 6) [.ref id 1 0 l.length, .func g []] σ fun r σ' => r = .tuple [] ∧ ∃ l' : List β, l'.Perm l ∧ l'.Pairwise (fun x y => ¬ cf y x < 0) ∧ σ' = σ.set id (.row (l'.map av)) := by
  intro m loc w vs hs ha
  refine .inl ⟨fn, hf, hfb, hfn, ?_⟩
  obtain ⟨v, u, rfl, h1, h2⟩ := ha.two
  cases h2 with
  | func _ _ us hlenu _ =>
  have hus : us = #[] := Array.size_eq_zero_iff.1 hlenu
  subst hus
  have hid := lt_of_get hσ
  have hloc : loc[id]? = some (loc[id]'(by rw [hs.len]; exact hid)) := List.getElem?_eq_getElem _
  by_cases hl0 : l.length = 0
  · have hlnil : l = [] := List.length_eq_zero_iff.1 hl0
    subst hlnil
    have key : ∀ a c, v = .slice a 0 c → Calls P (ρ.f 6) #[v, .func (.func g) #[] #[]] w fun e w' => ∃ v', e = .returned v' ∧ ARet loc m w (fun r σ' => r = .tuple [] ∧ ∃ l' : List β, l'.Perm [] ∧ l'.Pairwise (fun x y => ¬ cf y x < 0) ∧ σ' = σ.set id (.row (l'.map av))) v' w' := by
      rintro a c rfl
      refine (AnyF.slices_SortFunc_none (P := P) (ρ := ρ) { L with } a c _ w).mono ?_
      rintro e w' ⟨rfl, rfl⟩
      refine ⟨_, rfl, .tuple [], σ, m, loc, ⟨rfl, [], .refl _, .nil, ?_⟩, .tuple [] #[] rfl (by simp), hs, .refl _ _ _ _⟩
      rw [← set_same hσ]; simp
    rcases rel_ref h1 with ⟨cap, b, n, q0, _⟩ | ⟨_, a, q0⟩
    · exact key _ _ q0
    · exact key _ _ q0
  · rcases rel_ref h1 with ⟨cap, blk, n, q0, q1, q2, q3, q4⟩ | ⟨q0, _⟩
    rotate_left
    · exact absurd q0 hl0
    · subst q0
      obtain ⟨arr, t, e1, e2, e3, e4, e5⟩ := hs.obj id _ _ q1 hσ
      have e3 : l.length ≤ arr.size := by simpa using e3
      let A := { p : β × Value // ok p.1 ∧ Rel m [] (av p.1) p.2 }
      letI : Inhabited A := ⟨⟨(b0, v0), hb0, hv0 m⟩⟩
      let enc : A → Value := fun x => x.1.2
      let cfA : A → A → Int := fun x y => cf x.1.1 y.1.1
      have hrel : ∀ j (hj : j < l.length), Rel m [] (av l[j]) (arr[j]'(by omega)) := by
        intro j hj
        have := e4 j (av l[j]) (arr[j]'(by omega)) (by rw [List.getElem?_map, List.getElem?_eq_getElem hj]; rfl) (Array.getElem?_eq_getElem _)
        have := this.take (n := 0) (hids _)
        simpa using this
      let d : Array A := Array.ofFn fun j : Fin l.length => ⟨(l[j.1], arr[j.1]'(by omega)), hl _ (List.getElem_mem _), hrel j.1 j.2⟩
      have hds : d.size = l.length := by simp [d]
      have hdj : ∀ j (hj : j < l.length), (d[j]!).1 = (l[j], arr[j]'(by omega)) := by
        intro j hj
        rw [getElem!_pos d j (by rw [hds]; exact hj)]
        simp [d]
      have hdl : d.toList.map (·.1.1) = l := by
        apply List.ext_getElem (by simp [hds])
        intro j h1 h2
        simp [d]
      have hO : SWO (ltOf cfA) := by
        refine ⟨fun x => ?_, fun x y z a b => ?_, fun x y z a b => ?_⟩
        · exact decide_eq_false (irr _ x.2.1)
        · exact decide_eq_true (tr _ _ _ x.2.1 y.2.1 z.2.1 (of_decide_eq_true a) (of_decide_eq_true b))
        · exact decide_eq_false (ntr _ _ _ x.2.1 y.2.1 z.2.1 (of_decide_eq_false a) (of_decide_eq_false b))
      have hgc : ∃ c, gn.body = some c := Option.isSome_iff_exists.1 hgb
      obtain ⟨gc, hgc⟩ := hgc
      have hH : Holds enc w blk 0 d := by
        intro j hj
        rw [hds] at hj
        have : enc d[j]! = arr[j]'(by omega) := by show (d[j]!).1.2 = _; rw [hdj j hj]
        rw [this, Nat.zero_add]
        refine ⟨by simp [World.cell?, e1], by simp [World.frozen?, e1]⟩
      have hblk : blk < w.heap.size := hs.lt blk ⟨id, .inl q1⟩
      have hbase := srel_base hs
      have hlays : CmpLays1 P g #[] enc cfA blk 0 d.size w := by
        intro n' os dk hsz x y
        have hS := srel_sorted (m := m.strip) enc blk 0 n' dk os (hbase.strip fun _ _ q => q.strip) e5 (hs.mpo id _ _ blk q1 hσ rfl) (fun _ _ => rfl)
        have hA : ArgsRel m.strip [] [av x.1.1, av y.1.1] (#[enc x, enc y] ++ #[]) := by
          refine ⟨rfl, fun j a v => ?_⟩
          match j with
          | 0 => intro r1 r2; simp at r1 r2; subst r1; subst r2; exact x.2.2.strip
          | 1 => intro r1 r2; simp at r1 r2; subst r1; subst r2; exact y.2.2.strip
          | j + 2 => intro r1; simp at r1
        refine ((hcmp x.1.1 y.1.1 x.2.1 y.2.1).calls hg hgb (by simpa using hgn) hS hA).mono ?_
        rintro e w' ⟨v, rfl, r, σ', m', loc', ⟨rfl, rfl⟩, r1, r2, r3⟩
        cases r1
        exact ⟨rfl, world_of_ext r3 (fun _ _ => rfl)⟩
      have hmain := Any.slices_SortFunc L enc (fun x => rel_one x.2.2 (hone _)) cfA hO g #[] blk 0 cap d w (enters_of hg hgn hgc) hlays hH hblk (by rw [hds]; exact hlen)
      rw [hds] at hmain
      refine hmain.mono ?_
      rintro e w' ⟨rfl, d', n', os, hperm, hsorted, rfl⟩
      obtain ⟨p1, _, p3⟩ := hperm
      have hd's : d'.size = l.length := p1.trans hds
      have ex : ∀ x : Array A, x.size = l.length → (x.extract 0 l.length).toList = x.toList := fun x hx => by rw [← hx]; simp
      rw [ex d' hd's, ex d hds] at p3
      let l' : List β := d'.toList.map (·.1.1)
      have hl's : l'.length = l.length := by simp [l', hd's]
      have hset : loc.set id (.blk blk) = loc := set_same q1
      have key := hs.turn loc.length (m' := m) (w' := sortWorld enc w blk 0 n' d' os) (l' := .blk blk) (.row (l'.map av)) q1 hσ (.refl m) (.refl _)
        (fun k hk hne => sortWorld_other enc w blk 0 n' d' os hk (fun q => hne (by subst q; rfl))) (by rw [size_sortWorld]; omega) (fun _ _ _ _ => rfl) ?_ ?_ ?_ (fun b q => .inl q) ?_ rfl rfl rfl (by simp [sortWorld, grow, putRow, mapBlock, Sort.ahead])
      · rw [hset] at key
        refine ⟨_, rfl, .tuple [], _, m, loc, ⟨rfl, l', ?_, ?_, rfl⟩, .tuple [] #[] rfl (by simp), key.1, key.2⟩
        · have := p3.map (fun x : A => x.1.1); rw [hdl] at this; exact this
        · rw [List.pairwise_iff_getElem]
          intro i j hi hj hij
          have := hsorted i j (Nat.zero_le _) hij (by rw [← hl's]; exact hj)
          rw [getElem!_pos d' j (by rw [hd's, ← hl's]; exact hj), getElem!_pos d' i (by rw [hd's, ← hl's]; exact hi)] at this
          have := of_decide_eq_false this
          simpa [l', cfA] using this
      · intro k o v hk e'
        rcases hk with hk | hk
        · simp [own] at hk; subst hk; rw [e5] at e'; simp at e'
        · have := hs.im_lt e'; omega
      · intro k z hz
        by_cases hk : k = blk
        · subst hk
          refine .inr ⟨_, t, _, sortWorld_own enc w k 0 n' d' os e1, ?_⟩
          rw [size_putCells]
          rw [e2] at hz; injection hz
        · exact .inl ⟨hz, by simp [own]; exact fun q => hk q.symm⟩
      · rintro b ⟨_, _, _, e, _⟩; simp at e
      · refine ⟨_, t, sortWorld_own enc w blk 0 n' d' os e1, by rw [size_putCells]; exact e2, by rw [size_putCells, List.length_map, hl's]; exact e3, ?_, e5⟩
        rw [hset]
        intro j x v hj hv'
        have hjl : j < l.length := by have := lt_of_get hj; simpa [hl's] using this
        have hjd : j < d'.size := by rw [hd's]; exact hjl
        have hx : x = av (d'[j]).1.1 := by
          simp only [l', List.getElem?_map, Array.getElem?_toList, Array.getElem?_eq_getElem hjd, Option.map_some, Option.some.injEq] at hj
          exact hj.symm
        have hvv : v = (d'[j]).1.2 := by
          simp only [putCells, Array.getElem?_mapIdx, Array.getElem?_eq_getElem (by omega : j < arr.size), Option.map_some, Option.some.injEq] at hv'
          rw [if_pos (by omega), Nat.sub_zero, getElem!_pos d' j hjd] at hv'
          exact hv'.symm
        subst hx; subst hvv
        exact (d'[j]).2.2.mono (.refl m) (fun i l hi => by simp at hi)
end
end Go.Ahl
/- The abstract layer, part 25: two cells of the store that a family of closures turns: a row of numbers and a number. -/
namespace Go.Ahl
def ai (n : Int) : AV := .int .i64 n
theorem mset (w : List Int) (k : Nat) (y : Int) : (w.map ai).set k (.int .i64 y) = (w.set k y).map ai := by rw [List.map_set]; rfl
section
variable {S : Store} {R L : Nat}
theorem ids_ai {n : Nat} (w : List Int) : IdsO n (.row (w.map ai)) := idsO_row (by intro x hx; obtain ⟨y, _, rfl⟩ := List.mem_map.1 hx; exact .int _ _)
end
section
variable {n0 nt : Nat} {s s' : Slots} {σ : Store}
/-- The end of a function with three results. -/
theorem ret_gh3 {t u x : Nat} {v v1 v2 : AV} {σ' : Store} {R : Cont} {n0 : Nat} (hg : Ghost n0 nt s σ [(t, v), (u, v1), (x, v2)] σ') (h1 : (t == u) = false) (h2 : (t == x) = false) (h3 : (u == x) = false) (hn : n0 ≤ σ'.length) (hσ : IdsS σ'.length σ')
    (hi : Ids σ'.length v) (hj : Ids σ'.length v1) (hk : Ids σ'.length v2) (h : R (.tuple [v, v1, v2]) σ') : bodyK [.tmp t, .tmp u, .tmp x] n0 nt R .ret s σ := by
  refine ⟨_, _, hg, σ'.length, hn, by simpa using hσ, ?_⟩
  simp only [one, Ahl.lk, h1, h2, h3, beq_self_eq_true, cond_true, cond_false, List.take_length]
  exact ⟨.tuple _ (fun j y hy => by match j, hy with | 0, hy => simp at hy; subst hy; exact hi | 1, hy => simp at hy; subst hy; exact hj | 2, hy => simp at hy; subst hy; exact hk), h⟩
end
section -- ghosts
variable {S : Store} {R L : Nat} {nt : Nat} {s s' : Slots} {g : Store} {w w1 : List Int} {n n1 : Int}
end
section
variable {nt t u x : Nat} {s : Slots} {σ S : Store} {R : Cont}
/-- The end of a function with three results whose store begins as it was. -/
theorem ret3 (v v1 v2 : AV) (ht : S.take σ.length = σ) (h : R (.tuple [v, v1, v2]) σ) (hσ : IdsS σ.length σ := by assumption) (h1 : (t == u) = false := by rfl) (h2 : (t == x) = false := by rfl) (h3 : (u == x) = false := by rfl)
    (hw : Wk (lk s t) v := by first | exact Wk.refl _ | exact Wk.unk _ _ | exact Wk.fresh _ _ | exact Wk.fresh0 _ | exact Wk.any _) (hw1 : Wk (lk s u) v1 := by first | exact Wk.refl _ | exact Wk.unk _ _ | exact Wk.fresh _ _ | exact Wk.fresh0 _ | exact Wk.any _) (hw2 : Wk (lk s x) v2 := by first | exact Wk.refl _ | exact Wk.unk _ _ | exact Wk.fresh _ _ | exact Wk.fresh0 _ | exact Wk.any _) (hi : Ids σ.length v := by first | assumption | exact .int _ _ | exact .bool _ | exact .str _ | exact .any | exact .mapnil | exact .ptr _ _ (by omega) | exact .ref _ _ _ _ (by omega) | exact .vec _ _ _ (by omega) | exact .map _ (by omega) | exact ids_mapE _ | exact ids_mapF _ | exact ids_growE (by omega) _ | exact ids_aggE _ | (refine ids_up ?_ (by assumption); omega) | exact ids_func0 _ | exact ids_nil _ (by simp) | (simp only [encLit, encI, encT, encC, encA, encE, encL, encTask, encB]; done)) (hj : Ids σ.length v1 := by first | assumption | exact .int _ _ | exact .bool _ | exact .str _ | exact .any | exact .mapnil | exact .ptr _ _ (by omega) | exact .ref _ _ _ _ (by omega) | exact .vec _ _ _ (by omega) | exact .map _ (by omega) | exact ids_mapE _ | exact ids_mapF _ | exact ids_growE (by omega) _ | exact ids_aggE _ | (refine ids_up ?_ (by assumption); omega) | exact ids_func0 _ | exact ids_nil _ (by simp) | (simp only [encLit, encI, encT, encC, encA, encE, encL, encTask, encB]; done)) (hk : Ids σ.length v2 := by first | assumption | exact .int _ _ | exact .bool _ | exact .str _ | exact .any | exact .mapnil | exact .ptr _ _ (by omega) | exact .ref _ _ _ _ (by omega) | exact .vec _ _ _ (by omega) | exact .map _ (by omega) | exact ids_mapE _ | exact ids_mapF _ | exact ids_growE (by omega) _ | exact ids_aggE _ | (refine ids_up ?_ (by assumption); omega) | exact ids_func0 _ | exact ids_nil _ (by simp) | (simp only [encLit, encI, encT, encC, encA, encE, encL, encTask, encB]; done)) : bodyK [.tmp t, .tmp u, .tmp x] σ.length nt R .ret s S := by
  refine ret_gh3 (v := v) (v1 := v1) (v2 := v2) (σ' := σ) ?_ h1 h2 h3 (Nat.le_refl _) hσ hi hj hk h
  have := Ghost.cut (n0 := σ.length) (nt := nt) (σ := S) (s := s) [(t, v), (u, v1), (x, v2)] σ.length (Nat.le_refl _) ⟨⟨hw, hi⟩, ⟨hw1, hj⟩, ⟨hw2, hk⟩, trivial⟩ (by rw [ht]; exact hσ)
  rwa [ht] at this
end
end Go.Ahl
/- The abstract layer, part 26: the library's sorting of integers, told of rows of one's own. -/
namespace Go.Ahl
open Go.Sort Go.Shelf Go.RowKit Go.Lib Go.Proofs
/-- Integers in order. -/
def sortI (l : List Int) : List Int := l.mergeSort fun x y => decide (x ≤ y)
theorem sortI_len (l : List Int) : (sortI l).length = l.length := List.length_mergeSort l
theorem sortI_perm (l : List Int) : (sortI l).Perm l := List.mergeSort_perm l _
theorem sortI_sorted (l : List Int) : (sortI l).Pairwise (· ≤ ·) := by
  have := List.pairwise_mergeSort (le := fun x y : Int => decide (x ≤ y)) (fun a b c h k => by simp at h k ⊢; omega) (fun a b => by simp; omega) l
  exact this.imp (fun h => by simpa using h)
theorem sortI_eq {l k : List Int} (hp : k.Perm l) (hk : k.Pairwise (· ≤ ·)) : sortI l = k := by
  exact List.Perm.eq_of_pairwise (le := fun a b : Int => a ≤ b) (fun a b _ _ h1 h2 => by omega) (sortI_sorted l) hk ((sortI_perm l).trans hp.symm)
theorem rel_int_eq {m : Mem} {loc : List Loc} {n : Int} {v : Value} (h : Rel m loc (ai n) v) : v = .int .i64 n := by
  unfold ai at h; cases h; rfl
variable {P : Program} {ρ : Ren}
/-- slices.Sort of integers. -/
theorem sortInts (L : SlLaysN.n53 P ρ) {fn : Func} (hf : P.funcs[ρ.f 53]? = some fn) (hfb : fn.body.isSome = true) (hfn : fn.name ≠ "runtime.NumGoroutine")
    (id : Nat) (l : List Int) (σ : Store) (hσ : σ[id]? = some (.row (l.map ai))) (hlen : l.length < 4611686018427387904) :
    ACalls P (ρ.f 53) [.ref id 1 0 l.length] σ fun r σ' => r = .tuple [] ∧ σ' = σ.set id (.row ((sortI l).map ai)) := by
  intro m loc w vs hs ha
  refine .inl ⟨fn, hf, hfb, hfn, ?_⟩
  obtain ⟨v, rfl, h1⟩ : ∃ v, vs = #[v] ∧ Rel m loc (.ref id 1 0 l.length) v := by
    obtain ⟨h1, h2⟩ := ha
    have h1 : vs.size = 1 := h1
    refine ⟨vs[0], ?_, h2 0 _ _ rfl (Array.getElem?_eq_getElem _)⟩
    apply Array.ext (by simp [h1])
    intro i hi _
    have : i = 0 := by omega
    subst this; rfl
  have hid := lt_of_get hσ
  by_cases hl0 : l.length = 0
  · have hlnil : l = [] := List.length_eq_zero_iff.1 hl0
    subst hlnil
    have key : ∀ a c, v = .slice a 0 c → Calls P (ρ.f 53) #[v] w fun e w' => ∃ v', e = .returned v' ∧ ARet loc m w (fun r σ' => r = .tuple [] ∧ σ' = σ.set id (.row ((sortI []).map ai))) v' w' := by
      rintro a c rfl
      refine (AnyG.slices_Sort_int_none L a c w).mono ?_
      rintro e w' ⟨rfl, rfl⟩
      refine ⟨_, rfl, .tuple [], σ, m, loc, ⟨rfl, ?_⟩, .tuple [] #[] rfl (by simp), hs, .refl _ _ _ _⟩
      rw [← set_same hσ]; simp [sortI]
    rcases rel_ref h1 with ⟨cap, b, n, q0, _⟩ | ⟨_, a, q0⟩
    · exact key _ _ q0
    · exact key _ _ q0
  · rcases rel_ref h1 with ⟨cap, blk, n, q0, q1, q2, q3, q4⟩ | ⟨q0, _⟩
    rotate_left
    · exact absurd q0 hl0
    · subst q0
      obtain ⟨arr, t, e1, e2, e3, e4, e5⟩ := hs.obj id _ _ q1 hσ
      have e3 : l.length ≤ arr.size := by simpa using e3
      have hH : Holds (Value.int .i64) w blk 0 l.toArray := by
        intro j hj
        have hj : j < l.length := by simpa using hj
        have hr := e4 j (ai l[j]) (arr[j]'(by omega)) (by rw [List.getElem?_map, List.getElem?_eq_getElem hj]; rfl) (Array.getElem?_eq_getElem _)
        have hv : arr[j]'(by omega) = .int .i64 l[j] := by
          exact rel_int_eq hr
        rw [getElem!_pos l.toArray j (by simpa using hj), Nat.zero_add]
        refine ⟨?_, by simp [World.frozen?, e1]⟩
        simp only [World.cell?, e1, Option.isSome_none, Bool.false_eq_true, if_false]
        rw [Array.getElem?_eq_getElem (by omega), hv]; simp
      have hblk : blk < w.heap.size := hs.lt blk ⟨id, .inl q1⟩
      refine (AnyG.slices_Sort_int L blk 0 cap l w hH hblk hlen).mono ?_
      rintro e w' ⟨rfl, n', os, rfl⟩
      have hset : loc.set id (.blk blk) = loc := set_same q1
      have hs1 : (sortI l).toArray.size = l.length := by simp [sortI_len]
      have key := hs.turn loc.length (m' := m) (w' := sortWorld (Value.int .i64) w blk 0 n' (sortI l).toArray os) (l' := .blk blk) (.row ((sortI l).map ai)) q1 hσ (.refl m) (.refl _)
        (fun k hk hne => sortWorld_other (Value.int .i64) w blk 0 n' _ os hk (fun q => hne (by subst q; rfl))) (by rw [size_sortWorld]; omega) (fun _ _ _ _ => rfl) ?_ ?_ ?_ (fun b q => .inl q) ?_ rfl rfl rfl (by simp [sortWorld, grow, putRow, mapBlock, Sort.ahead])
      · rw [hset] at key
        exact ⟨_, rfl, .tuple [], _, m, loc, ⟨rfl, rfl⟩, .tuple [] #[] rfl (by simp), key.1, key.2⟩
      · intro k o v hk e'
        rcases hk with hk | hk
        · simp [own] at hk; subst hk; rw [e5] at e'; simp at e'
        · have := hs.im_lt e'; omega
      · intro k z hz
        by_cases hk : k = blk
        · subst hk
          refine .inr ⟨_, t, _, sortWorld_own (Value.int .i64) w k 0 n' _ os e1, ?_⟩
          rw [size_putCells]
          rw [e2] at hz; injection hz
        · exact .inl ⟨hz, by simp [own]; exact fun q => hk q.symm⟩
      · rintro b ⟨_, _, _, e, _⟩; simp at e
      · refine ⟨_, t, sortWorld_own (Value.int .i64) w blk 0 n' _ os e1, by rw [size_putCells]; exact e2, by rw [size_putCells, List.length_map, sortI_len]; exact e3, ?_, e5⟩
        rw [hset]
        intro j x v hj hv'
        have hjl : j < (sortI l).length := by have := lt_of_get hj; simpa using this
        have hx : x = ai ((sortI l)[j]) := by
          rw [List.getElem?_map, List.getElem?_eq_getElem hjl] at hj; simpa using hj.symm
        have hvv : v = .int .i64 ((sortI l)[j]) := by
          simp only [putCells, Array.getElem?_mapIdx, Array.getElem?_eq_getElem (by rw [sortI_len] at hjl; omega : j < arr.size), Option.map_some, Option.some.injEq] at hv'
          rw [if_pos (by rw [hs1, ← sortI_len]; omega), Nat.sub_zero, getElem!_pos (sortI l).toArray j (by simpa using hjl)] at hv'
          rw [← hv']; simp
        subst hx; subst hvv
        exact .int _ _
/-- A map from numbers that are all told to be there. -/
def encSI (l : List Int) : List (AV × AV) := l.map fun s => (.int .i64 s, .bool true)
theorem findI_out (s : Int) : ∀ (l : List Int) (k : Nat), l.contains s = false → aFind (.int .i64 s) (encSI l) k = some none
  | [], k, _ => rfl
  | t :: l, k, h => by
    simp only [List.contains_cons, Bool.or_eq_false_iff] at h
    have e : keyEq (.int .i64 s) (.int .i64 t) = some false := by simp only [keyEq, h.1, if_true]
    simp only [encSI, List.map_cons, aFind, e]
    exact findI_out s l (k + 1) h.2
theorem findI_in (s : Int) : ∀ (l : List Int) (k : Nat), l.contains s = true → ∃ i, aFind (.int .i64 s) (encSI l) k = some (some (k + i, .bool true)) ∧ l[i]? = some s
  | [], k, h => by simp at h
  | t :: l, k, h => by
    by_cases h1 : s = t
    · subst h1
      have e : keyEq (.int .i64 s) (.int .i64 s) = some true := by simp only [keyEq, beq_self_eq_true, if_true]
      exact ⟨0, by simp only [encSI, List.map_cons, aFind, e]; rfl, rfl⟩
    · have h1' : (s == t) = false := by simpa using h1
      have e : keyEq (.int .i64 s) (.int .i64 t) = some false := by simp only [keyEq, h1', if_true]
      obtain ⟨i, hi, hx⟩ := findI_in s l (k + 1) (by rw [List.contains_cons, h1', Bool.false_or] at h; exact h)
      exact ⟨i + 1, by simp only [encSI, List.map_cons, aFind, e]; rw [show k + (i + 1) = k + 1 + i by omega]; exact hi, by simpa using hx⟩
theorem encSI_app (l : List Int) (s : Int) : encSI l ++ [(.int .i64 s, .bool true)] = encSI (l ++ [s]) := by simp [encSI]
theorem encSI_set {l : List Int} {s : Int} {i : Nat} (h : l[i]? = some s) : (encSI l).set i (.int .i64 s, .bool true) = encSI l := set_same (by simp [encSI, h])
theorem encSI_get {l : List Int} {i : Nat} {s : Int} (h : l[i]? = some s) : (encSI l)[i]? = some (.int .i64 s, .bool true) := by simp [encSI, h]
theorem ids_encSI {n : Nat} (l : List Int) : IdsO n (.map (encSI l)) := by
  intro j k x e
  simp only [encSI, List.getElem?_map, Option.map_eq_some_iff] at e
  obtain ⟨t, _, e⟩ := e
  injection e with e1 e2; subst e1; subst e2
  exact ⟨.int _ _, .bool _⟩
/-- A number put into a set. -/
def insI (l : List Int) (s : Int) : List Int := if l.contains s then l else l ++ [s]
theorem insI_mem {l : List Int} {s x : Int} : x ∈ insI l s ↔ x ∈ l ∨ x = s := by
  unfold insI; split
  · rename_i h; have := List.contains_iff_mem.1 h
    constructor
    · exact .inl
    · rintro (h | rfl)
      · exact h
      · exact this
  · simp
theorem insI_nodup {l : List Int} {s : Int} (h : l.Nodup) : (insI l s).Nodup := by
  unfold insI; split
  · exact h
  · rename_i hc
    rw [List.nodup_append]
    refine ⟨h, by simp, fun a ha b hb => ?_⟩
    simp only [List.mem_singleton] at hb; subst hb
    rintro rfl; exact hc (List.contains_iff_mem.2 ha)
end Go.Ahl
namespace Go.Ahl
/-- A row of one's own goes behind all else. -/
theorem Ghost.reown {n0 nt : Nat} {s : Slots} {σ : Store} (t : Nat) {id sz off len : Nat} {cells : List AV} (ht : lk s t = .ref id sz off len) (hs : σ[id]? = some (.row cells)) :
    Ghost n0 nt s σ ((t, .ref σ.length sz off len) :: s) (σ.set id .dead ++ [.row cells]) := by
  intro m loc w tm hl hS hr
  have hid : id < loc.length := by rw [hS.len]; exact lt_of_get hs
  have hrel := hr.rel t
  rw [ht] at hrel
  have hloc : loc[id]? = some loc[id] := List.getElem?_eq_getElem hid
  have hobj := hS.obj id _ _ hloc hs
  have hlen : (σ.set id .dead).length = loc.length := by simp [hS.len]
  have fin : ∀ l, SRel m (loc ++ [l]) (σ.set id .dead ++ [.row cells]) w → Ext n0 m loc w m (loc ++ [l]) w → Rel m (loc ++ [l]) (.ref σ.length sz off len) (tm.getD t undef) →
      ∃ m' loc', SRel m' loc' (σ.set id .dead ++ [.row cells]) w ∧ SlotRel m' loc' nt ((t, .ref σ.length sz off len) :: s) tm ∧ Ext n0 m loc w m' loc' w := by
    intro l g1 g2 g3
    refine ⟨m, _, g1, ⟨hr.size, fun i => ?_⟩, g2⟩
    simp only [Ahl.lk]
    by_cases e : t = i
    · subst e; simp only [beq_self_eq_true, cond_true]; exact g3
    · have : (t == i) = false := by simpa using e
      rw [this, cond_false]; exact (hr.rel i).mono (.refl m) (.app _ _ _)
  generalize hv : tm.getD t undef = v at hrel fin
  generalize loc[id] = l at hloc hobj
  cases l with
  | blk b =>
    obtain ⟨g1, g2⟩ := hS.reown n0 hloc hs
    refine fin _ g1 g2 ?_
    cases hrel with
    | ref _ _ _ _ cap b' n h1 h2 h3 h4 =>
      rw [hloc] at h1; injection h1 with h1; injection h1 with h1; subst h1
      exact .ref _ _ _ _ cap b n (by rw [← hS.len]; simp) h2 h3 h4
    | ref0 _ _ _ a _ => exact .ref0 _ _ _ a (by rw [← hS.len]; simp)
  | nowhere =>
    have hc : cells = [] := hobj
    subst hc
    obtain ⟨g1, g2⟩ := (hS.die id).row0 n0
    refine fin _ g1 g2 ?_
    cases hrel with
    | ref _ _ _ _ cap b' n h1 h2 h3 h4 => rw [hloc] at h1; simp at h1
    | ref0 _ _ _ a _ => exact .ref0 _ _ _ a (by rw [← hS.len]; simp)
  | tok _ _ => exact hobj.elim
theorem places_all {α : Type} : ∀ (l p : List α), (List.range' p.length l.length).filterMap (fun i => (p ++ l)[i]?) = l
  | [], p => rfl
  | x :: l, p => by
    have ih := places_all l (p ++ [x])
    rw [List.length_cons, List.range'_succ, List.filterMap_cons]
    rw [show (p ++ x :: l)[p.length]? = some x by rw [List.getElem?_append_right (Nat.le_refl _), Nat.sub_self]; rfl]
    simp only [List.append_assoc, List.singleton_append, List.length_append, List.length_singleton] at ih
    rw [ih]
/-- Numbers of places, each once, that are all: what stands at them is all. -/
theorem perm_places {α : Type} (l : List α) (seen : List Nat) (h1 : seen.Nodup) (h2 : ∀ i ∈ seen, i < l.length) (h3 : ∀ i, i < l.length → i ∈ seen) : (seen.filterMap fun i => l[i]?).Perm l := by
  have hp : seen.Perm (List.range l.length) := by
    rw [List.perm_ext_iff_of_nodup h1 List.nodup_range]
    intro i; rw [List.mem_range]; exact ⟨h2 i, h3 i⟩
  refine (hp.filterMap _).trans ?_
  have := places_all l []
  rw [List.range_eq_range']
  simp only [List.nil_append, List.length_nil] at this
  rw [this]
end Go.Ahl
/- The abstract layer, part 27: words for rounds whose store begins with a part that is named. -/
namespace Go.Ahl
section
variable {n0 nt t : Nat} {s s' : Slots} {S σ g : Store} {R : Cont}
theorem ghP {l : Store} (h2 : IdsS (S ++ l).length (S ++ l)) (h1 : TellW s (S.length + l.length) s' := by simp only [TellW, lk, Nat.reduceBEq, cond_true, cond_false, and_true, List.length_cons, List.length_nil, Nat.reduceAdd]; and_intros <;> first | exact Wk.refl _ | exact Wk.unk _ _ | exact Wk.slice _ (WkLL.one (WkL.one (Wk.unk _ _))) | exact Wk.any _ | first | assumption | exact .int _ _ | exact .bool _ | exact .str _ | exact .any | exact .mapnil | exact .ptr _ _ (by omega) | exact .ref _ _ _ _ (by omega) | exact .vec _ _ _ (by omega) | exact .map _ (by omega) | exact ids_mapE _ | exact ids_growE (by omega) _ | exact ids_aggE _ | (refine ids_up ?_ (by assumption); omega) | exact ids_func0 _ | exact ids_nil _ (by simp) | (simp only [encLit, encI, encT, encC, encA, encE, encL, encTask, encB]; done)) (hn : n0 ≤ S.length := by first | exact Nat.le_refl _ | omega) : Ghost n0 nt s (S ++ (l ++ g)) s' (S ++ l) := .keepL l rfl hn h1 h2
theorem ghP0 {l : Store} (h2 : IdsS (S ++ l).length (S ++ l)) (h1 : TellW s (S.length + l.length) s' := by simp only [TellW, lk, Nat.reduceBEq, cond_true, cond_false, and_true, List.length_cons, List.length_nil, Nat.reduceAdd]; and_intros <;> first | exact Wk.refl _ | exact Wk.unk _ _ | exact Wk.slice _ (WkLL.one (WkL.one (Wk.unk _ _))) | exact Wk.any _ | first | assumption | exact .int _ _ | exact .bool _ | exact .str _ | exact .any | exact .mapnil | exact .ptr _ _ (by omega) | exact .ref _ _ _ _ (by omega) | exact .vec _ _ _ (by omega) | exact .map _ (by omega) | exact ids_mapE _ | exact ids_growE (by omega) _ | exact ids_aggE _ | (refine ids_up ?_ (by assumption); omega) | exact ids_func0 _ | exact ids_nil _ (by simp) | (simp only [encLit, encI, encT, encC, encA, encE, encL, encTask, encB]; done)) (hn : n0 ≤ S.length := by first | exact Nat.le_refl _ | omega) : Ghost n0 nt s (S ++ l) s' (S ++ l) := .keepL0 l rfl hn h1 h2
theorem ghN (h2 : IdsS S.length S) (h1 : TellW s S.length s' := by simp only [TellW, lk, Nat.reduceBEq, cond_true, cond_false, and_true, List.length_cons, List.length_nil, Nat.reduceAdd]; and_intros <;> first | exact Wk.refl _ | exact Wk.unk _ _ | exact Wk.slice _ (WkLL.one (WkL.one (Wk.unk _ _))) | exact Wk.any _ | first | assumption | exact .int _ _ | exact .bool _ | exact .str _ | exact .any | exact .mapnil | exact .ptr _ _ (by omega) | exact .ref _ _ _ _ (by omega) | exact .vec _ _ _ (by omega) | exact .map _ (by omega) | exact ids_mapE _ | exact ids_growE (by omega) _ | exact ids_aggE _ | (refine ids_up ?_ (by assumption); omega) | exact ids_func0 _ | exact ids_nil _ (by simp) | (simp only [encLit, encI, encT, encC, encA, encE, encL, encTask, encB]; done)) (hn : n0 ≤ S.length := by first | exact Nat.le_refl _ | omega) : Ghost n0 nt s (S ++ g) s' S := .keep g hn h1 h2
theorem ghN0 (h2 : IdsS S.length S) (h1 : TellW s S.length s' := by simp only [TellW, lk, Nat.reduceBEq, cond_true, cond_false, and_true, List.length_cons, List.length_nil, Nat.reduceAdd]; and_intros <;> first | exact Wk.refl _ | exact Wk.unk _ _ | exact Wk.slice _ (WkLL.one (WkL.one (Wk.unk _ _))) | exact Wk.any _ | first | assumption | exact .int _ _ | exact .bool _ | exact .str _ | exact .any | exact .mapnil | exact .ptr _ _ (by omega) | exact .ref _ _ _ _ (by omega) | exact .vec _ _ _ (by omega) | exact .map _ (by omega) | exact ids_mapE _ | exact ids_growE (by omega) _ | exact ids_aggE _ | (refine ids_up ?_ (by assumption); omega) | exact ids_func0 _ | exact ids_nil _ (by simp) | (simp only [encLit, encI, encT, encC, encA, encE, encL, encTask, encB]; done)) (hn : n0 ≤ S.length := by first | exact Nat.le_refl _ | omega) : Ghost n0 nt s S s' S := .keep0 hn h1 h2
theorem ghPM (k : Nat) {o : AObj} (ho : g[k]? = some o := by rfl) (hi : IdsS S.length S := by assumption) (hio : IdsO S.length o := by trivial) (h1 : TellM s (S.length + k) S.length s' := by simp only [TellM, lk, Nat.reduceBEq, cond_true, cond_false, and_true, List.length_cons, List.length_nil, Nat.reduceAdd]; and_intros <;> first | exact mv_mapE _ | exact .ref _ _ _ | exact .ptr _ | exact .map | exact .keep (.refl _) (by first | assumption | exact .int _ _ | exact .bool _ | exact .str _ | exact .any | exact .mapnil | exact .ptr _ _ (by omega) | exact .ref _ _ _ _ (by omega) | exact .vec _ _ _ (by omega) | exact .map _ (by omega) | exact ids_mapE _ | exact ids_growE (by omega) _ | exact ids_aggE _ | (refine ids_up ?_ (by assumption); omega) | exact ids_func0 _ | exact ids_nil _ (by simp) | (simp only [encLit, encI, encT, encC, encA, encE, encL, encTask, encB]; done)) | exact .keep (Wk.unk _ _) (by first | assumption | exact .int _ _ | exact .bool _ | exact .str _ | exact .any | exact .mapnil | exact .ptr _ _ (by omega) | exact .ref _ _ _ _ (by omega) | exact .vec _ _ _ (by omega) | exact .map _ (by omega) | exact ids_mapE _ | exact ids_growE (by omega) _ | exact ids_aggE _ | (refine ids_up ?_ (by assumption); omega) | exact ids_func0 _ | exact ids_nil _ (by simp) | (simp only [encLit, encI, encT, encC, encA, encE, encL, encTask, encB]; done))) (hn : n0 ≤ S.length := by first | exact Nat.le_refl _ | omega) : Ghost n0 nt s (S ++ g) s' (S ++ [o]) :=
  .moved _ k _ hn ho hi hio h1
/-- The end of a function whose row becomes its answer. -/
theorem retRow {id len : Nat} {l : List Int} (ht : S.take σ.length = σ) (hs : lk s t = .ref id 1 0 len) (hid : S[id]? = some (.row (l.map ai))) (hlen : l.length = len) (hge : σ.length ≤ id) (h : R (.slice .unk (l.map encI)) σ) (hσ : IdsS σ.length σ := by assumption) :
    bodyK [.tmp t] σ.length nt R .ret s S := by
  refine ret_gh (v := .slice .unk (l.map encI)) (σ' := σ) ?_ (Nat.le_refl _) hσ (ids_map ids_encI _) h
  refine Ghost.trans (Ghost.freeze t (l.map encI) hs hid (by simpa using hlen) ?_) ?_
  · intro i e he
    rw [List.getElem?_map] at he
    obtain ⟨x, hx, rfl⟩ := Option.map_eq_some_iff.1 he
    refine ⟨rfl, fun j hj => ?_⟩
    obtain rfl : j = 0 := by omega
    rw [List.getElem?_map]
    simp [hx, encI, ai]
  · have ht' : (S.set id .dead).take σ.length = σ := by rw [List.take_set_of_le hge, ht]
    have := Ghost.cut (n0 := σ.length) (nt := nt) (σ := S.set id .dead) (s := (t, .slice .unk (l.map encI)) :: s) [(t, .slice .unk (l.map encI))] σ.length (Nat.le_refl _) ⟨⟨by simp only [Ahl.lk, beq_self_eq_true, cond_true]; exact Wk.refl _, ids_map ids_encI _⟩, trivial⟩ (by rw [ht']; exact hσ)
    rwa [ht'] at this
end
theorem idsS_dead {n : Nat} {σ : Store} (h : IdsS n σ) (i : Nat) : IdsS n (σ.set i .dead) := by
  intro j o ho
  rcases get_set ho with ⟨rfl, rfl⟩ | ⟨_, ho⟩
  · trivial
  · exact h j o ho
theorem unseen_lt {α : Type} (p q : α → Bool) (h : ∀ x, q x = true → p x = true) (i : α) (hp : p i = true) (hq : q i = false) : ∀ l : List α, i ∈ l → (l.filter q).length < (l.filter p).length
  | x :: l, hi => by
    have hle : (l.filter q).length ≤ (l.filter p).length := by
      clear hi
      induction l with
      | nil => simp
      | cons y l ih =>
        rw [List.filter_cons, List.filter_cons]
        cases hy : q y
        · simp only [Bool.false_eq_true, if_false]; split
          · simp only [List.length_cons]; omega
          · exact ih
        · rw [if_pos rfl, if_pos (h y hy)]; simp only [List.length_cons]; omega
    rw [List.filter_cons, List.filter_cons]
    rcases List.mem_cons.1 hi with rfl | hi
    · rw [hp, hq]; simp only [if_true, Bool.false_eq_true, if_false, List.length_cons]; omega
    · have := unseen_lt p q h i hp hq l hi
      cases hx : q x
      · simp only [Bool.false_eq_true, if_false]; split
        · simp only [List.length_cons]; omega
        · exact this
      · rw [if_pos rfl, if_pos (h x hx)]; simp only [List.length_cons]; omega
/-- How many places are not seen yet. -/
def unseen (n : Nat) (seen : List Nat) : Nat := ((List.range n).filter fun i => !(seen.contains i)).length
theorem unseen_snoc {n i : Nat} {seen : List Nat} (hi : i < n) (hs : i ∉ seen) : unseen n (seen ++ [i]) < unseen n seen := by
  refine unseen_lt _ _ ?_ i ?_ ?_ _ (List.mem_range.2 hi)
  · intro x hx
    simp only [Bool.not_eq_true', List.contains_eq_mem, List.mem_append, decide_eq_false_iff_not] at hx ⊢
    exact fun q => hx (.inl q)
  · simpa using hs
  · simp
theorem nodup_below {n : Nat} {l : List Nat} (h : l.Nodup) (hl : ∀ i ∈ l, i < n) : l.length ≤ n := by
  have h1 : l.length ≤ n := by
    have hp : ∀ (l : List Nat), l.Nodup → ∀ p : Nat → Bool, (∀ i ∈ l, p i = true) → (∀ i ∈ l, i < n) → l.length ≤ ((List.range n).filter p).length := by
      intro l
      induction l with
      | nil => intros; simp
      | cons x l ih =>
        intro hnd p hp hb
        rw [List.nodup_cons] at hnd
        have h1 := ih hnd.2 (fun i => p i && decide (i ≠ x)) (fun i hi => by
          rw [hp i (List.mem_cons_of_mem _ hi), Bool.true_and]
          exact decide_eq_true (fun e => hnd.1 (e ▸ hi))) (fun i hi => hb i (List.mem_cons_of_mem _ hi))
        have h2 := unseen_lt p (fun i => p i && decide (i ≠ x)) (fun y hy => by simp only [Bool.and_eq_true] at hy; exact hy.1) x (hp x List.mem_cons_self) (by simp) (List.range n) (List.mem_range.2 (hb x List.mem_cons_self))
        rw [List.length_cons]; omega
    have h2 := hp l h (fun _ => true) (fun _ _ => rfl) hl
    have h3 := List.length_filter_le (fun _ => true) (List.range n)
    rw [List.length_range] at h3
    omega
  exact h1
theorem sortI_perm_eq {l k : List Int} (h : l.Perm k) : sortI l = sortI k := sortI_eq ((sortI_perm k).trans h.symm) (sortI_sorted k)
end Go.Ahl
/- The abstract layer, part 29: a row told as a shorter one; an answer told in another way. -/
namespace Go.Ahl
theorem own_row (l : Loc) (a b : List AV) : own l (.row a) = own l (.row b) := by cases l <;> rfl
/-- A row may be told as a shorter one. -/
theorem SRel.trunc {m : Mem} {loc : List Loc} {σ : Store} {w : World} (h : SRel m loc σ w) (id k : Nat) {cells : List AV} (hs : σ[id]? = some (.row cells)) : SRel m loc (σ.set id (.row (cells.take k))) w where
  len := by simp [h.len]
  im := h.im
  bs := h.bs
  obj := by
    intro i l o h1 h2
    rcases get_set h2 with ⟨rfl, rfl⟩ | ⟨_, h2⟩
    · have := h.obj _ l _ h1 hs
      cases l with
      | nowhere => have e : cells = [] := this; subst e; show List.take k [] = []; simp
      | tok sz f => exact this.elim
      | blk b =>
        obtain ⟨arr, t, h1, h2, h3, h4, h5⟩ := this
        exact ⟨arr, t, h1, h2, Nat.le_trans (by rw [List.length_take]; omega) h3, fun j x v e1 e2 => h4 j x v (get_take e1).2 e2, h5⟩
    · exact h.obj i l o h1 h2
  inj := by
    intro i j l l' o o' b h1 h2 h3 h4 w1 w2
    have fix : ∀ {i : Nat} {l : Loc} {o : AObj}, (σ.set id (.row (cells.take k)))[i]? = some o → own l o = some b → ∃ o2, σ[i]? = some o2 ∧ own l o2 = some b := by
      intro i l o h3 w1
      rcases get_set h3 with ⟨rfl, rfl⟩ | ⟨_, h3⟩
      · exact ⟨_, hs, by rw [own_row l cells (cells.take k)]; exact w1⟩
      · exact ⟨_, h3, w1⟩
    obtain ⟨o2, q1, q2⟩ := fix h3 w1
    obtain ⟨o3, q3, q4⟩ := fix h4 w2
    exact h.inj i j l l' o2 o3 b h1 h2 q1 q3 q2 q4
  lt := h.lt
  mp := h.mp
  mpo := by
    intro i l o b h1 h2 w1
    rcases get_set h2 with ⟨rfl, rfl⟩ | ⟨_, h2⟩
    · exact h.mpo _ l _ b h1 hs (by rw [own_row l cells (cells.take k)]; exact w1)
    · exact h.mpo i l o b h1 h2 w1
  ok := h.ok
theorem Ghost.trunc {n0 nt : Nat} {s : Slots} {σ : Store} (id k : Nat) {cells : List AV} (hs : σ[id]? = some (.row cells)) : Ghost n0 nt s σ s (σ.set id (.row (cells.take k))) :=
  fun m loc w t _ h1 h2 => ⟨m, loc, h1.trunc id k hs, h2, .refl _ _ _ _⟩
theorem ACalls.to {P : Program} {f : FuncId} {args : List AV} {σ τ : Store} {v : AV} {K : Cont} (h : ACalls P f args σ (isR v τ)) (k : K v τ) : ACalls P f args σ K :=
  h.mono fun r σ' hr => by obtain ⟨rfl, rfl⟩ := hr; exact k
/-- An answer, told in another way. -/
theorem ACalls.ghost {P : Program} {f : FuncId} {args : List AV} {σ τ τ' : Store} {a b : AV} (h : ACalls P f args σ (isR a τ)) (hg : IdsS σ.length σ → Ghost σ.length 1 [(0, a)] τ [(0, b)] τ') : ACalls P f args σ (isR b τ') := by
  intro m loc w vs hs ha
  have key : ∀ v w', ARet loc m w (isR a τ) v w' → ARet loc m w (isR b τ') v w' := by
    rintro v w' ⟨r, σ', m', loc', ⟨rfl, rfl⟩, h2, h3, h4⟩
    have hn : σ.length ≤ loc'.length := by
      have := h4.len (Nat.le_refl _)
      rw [← hs.len]; exact this
    obtain ⟨m2, loc2, g1, g2, g3⟩ := hg hs.ids m' loc' w' #[v] hn h3 ⟨rfl, fun i => by
      cases i with
      | zero => exact h2
      | succ i => exact .any _⟩
    refine ⟨b, τ', m2, loc2, ⟨rfl, rfl⟩, g2.rel 0, g1, ?_⟩
    rw [← hs.len] at g3
    exact h4.trans g3
  rcases h m loc w vs hs ha with ⟨fn, h1, h2, h3, h4⟩ | ⟨v, w', h1, h2⟩
  · exact .inl ⟨fn, h1, h2, h3, h4.mono fun e w' ⟨v, e1, e2⟩ => ⟨v, e1, key _ _ e2⟩⟩
  · exact .inr ⟨v, w', h1, key _ _ h2⟩
end Go.Ahl
/- The abstract layer, part 30: a row becomes a slice that never changes, with the right to append to it. -/
namespace Go.Ahl
/-- A row is given up, and what it holds never changes any more. -/
theorem SRel.still {m : Mem} {loc : List Loc} {σ : Store} {w : World} (hS : SRel m loc σ w) {id b : Nat} {cells : List AV} (h1 : loc[id]? = some (.blk b)) (hs : σ[id]? = some (.row cells)) :
    ∃ (m' : Mem) (arr : Array Value) (ty : TypeId), SRel m' loc (σ.set id .dead) w ∧ m.le m' ∧ w.heap[b]? = some (.cells arr ty (0, 0)) ∧ m'.bs b = some arr.size ∧ cells.length ≤ arr.size ∧
      (∀ (j : Nat) x v, cells[j]? = some x → arr[j]? = some v → Rel m' loc x v) ∧ (∀ o, m'.im b o = if o < cells.length then arr[o]? else none) ∧ m'.wk = m.wk := by
  obtain ⟨arr, ty, g1, g2, g3, g4, g5⟩ := hS.obj id _ _ h1 hs
  let m' : Mem := ⟨fun k o => if k = b then (if o < cells.length then arr[o]? else none) else m.im k o, m.bs, m.mp, m.wk, m.base⟩
  have hle : m.le m' := ⟨fun k o v e => by
    show (if k = b then _ else _) = _
    by_cases hk : k = b
    · subst hk; rw [g5] at e; simp at e
    · rw [if_neg hk]; exact e, fun _ _ e => e, fun _ _ e => e, fun _ _ _ e => e, rfl⟩
  have hfz : ∀ k o v, Names loc k ∨ w.heap.size ≤ k → m'.im k o = some v → w.frozen? ⟨k, o, none⟩ = false := by
    intro k o v hk e
    have e : (if k = b then (if o < cells.length then arr[o]? else none) else m.im k o) = some v := e
    by_cases hkb : k = b
    · subst hkb; simp [World.frozen?, g1]
    · rw [if_neg hkb] at e
      rcases hk with hk | hk
      · exact hS.ok.fz k o v (hS.ok.own k hk) e
      · have := hS.im_lt e; omega
  have hS' : SRel m' loc (σ.set id .dead) w := by
    refine ⟨by simp [hS.len], ?_, hS.bs, ?_, (hS.die id).inj, hS.lt, hS.mp, (hS.die id).mpo, hS.ok.to rfl (Nat.le_refl _) (fun _ e => .inl e) rfl (fun k o _ hk => if_neg (fun q => hk ⟨id, .inl (by rw [q]; exact h1)⟩)) (fun _ _ _ => rfl) hfz⟩
    · intro k o v e
      have e : (if k = b then (if o < cells.length then arr[o]? else none) else m.im k o) = some v := e
      by_cases hk : k = b
      · subst hk
        rw [if_pos rfl] at e
        split at e
        · simp [World.cell?, g1, e]
        · simp at e
      · rw [if_neg hk] at e; exact hS.im k o v e
    · intro i l o e1 e2
      rcases get_set e2 with ⟨rfl, rfl⟩ | ⟨hne, e2⟩
      · cases l <;> trivial
      · have ho := hS.obj i l o e1 e2
        have hnb : own l o ≠ some b := fun q => hne (hS.inj i id l _ o _ b e1 h1 e2 hs q rfl).symm
        cases o with
        | dead => cases l <;> trivial
        | loop L =>
          cases l with
          | blk k =>
            obtain ⟨r, q1, q2, q3, q4, q5, q6, q7⟩ := ho
            exact ⟨r, q1, q2, q3, q4, q5, q6, ⟨q7.size, fun i => (q7.rel i).mono hle (.refl _ _)⟩⟩
          | nowhere => exact ho.elim
          | tok sz f => exact ho.elim
        | iter es seen =>
          cases l with
          | blk k =>
            rcases ho with ⟨q1, q2⟩ | ⟨q, en, c, sa, st, q1, q2, q3, q4⟩
            · exact .inl ⟨q1, q2⟩
            · exact .inr ⟨q, en, c, sa, st, q1, q2, ⟨q3.len, fun i k x e a1 a2 => ⟨(q3.key i k x e a1 a2).1.mono hle (.refl _ _), (q3.key i k x e a1 a2).2.mono hle (.refl _ _)⟩, q3.born, q3.apart⟩, q4⟩
          | nowhere => exact ho.elim
          | tok sz f => exact ho.elim
        | map es =>
          cases l with
          | blk k =>
            obtain ⟨en, c, q1, q2⟩ := ho
            exact ⟨en, c, q1, ⟨q2.len, fun i k x e a1 a2 => ⟨(q2.key i k x e a1 a2).1.mono hle (.refl _ _), (q2.key i k x e a1 a2).2.mono hle (.refl _ _)⟩, q2.born, q2.apart⟩⟩
          | nowhere => exact ho.elim
          | tok sz f => exact ho.elim
        | row cs =>
          cases l with
          | blk k =>
            obtain ⟨arr2, t2, q1, q2, q3, q4, q5⟩ := ho
            refine ⟨arr2, t2, q1, q2, q3, fun j x v a1 a2 => (q4 j x v a1 a2).mono hle (.refl _ _), fun o => ?_⟩
            show (if k = b then _ else _) = _
            rw [if_neg (fun q => hnb (by subst q; rfl))]; exact q5 o
          | nowhere => exact ho
          | tok sz f => exact ho.elim
        | vec sz k cs =>
          cases l with
          | tok sz' f =>
            obtain ⟨q0, q1, q2, q3⟩ := ho
            refine ⟨q0, q1, q2, ?_⟩
            rcases q3 with q3 | ⟨bb, arr2, t2, a1, a2, a3, a4, a5, a6⟩
            · exact .inl q3
            · refine .inr ⟨bb, arr2, t2, a1, a2, a3, a4, fun j x v e1 e2 => (a5 j x v e1 e2).mono hle (.refl _ _), fun o => ?_⟩
              show (if bb = b then _ else _) = _
              rw [if_neg (fun q => hnb (by subst q; simp [own, a1]))]; exact a6 o
          | nowhere => exact ho.elim
          | blk k => exact ho.elim
        | grow sz k =>
          cases l with
          | tok sz' f =>
            obtain ⟨q1, q2, q3⟩ := ho
            refine ⟨q1, q2, ?_⟩
            rcases q3 with q3 | ⟨bb, arr2, t2, a1, a2, a3, a4⟩
            · exact .inl q3
            · refine .inr ⟨bb, arr2, t2, a1, a2, a3, fun o ho => ?_⟩
              show (if bb = b then _ else _) = _
              rw [if_neg (fun q => hnb (by subst q; simp [own, a1]))]; exact a4 o ho
          | nowhere => exact ho.elim
          | blk k => exact ho.elim
  exact ⟨m', arr, ty, hS', hle, g1, g2, g3, fun j x v e1 e2 => (g4 j x v e1 e2).mono hle (.refl _ _), fun o => by show (if b = b then _ else _) = _; rw [if_pos rfl], rfl⟩
/-- A right to append to what never changes. -/
theorem SRel.right {m : Mem} {loc : List Loc} {σ : Store} {w : World} (h : SRel m loc σ w) (n0 sz len : Nat) {b i0 : Nat} {arr : Array Value} {ty : TypeId} (hl : loc[i0]? = some (.blk b)) (h1 : w.heap[b]? = some (.cells arr ty (0, 0))) (h2 : m.bs b = some arr.size)
    (h3 : ∀ o, sz * len ≤ o → m.im b o = none) (hno : ∀ (i : Nat) l o, loc[i]? = some l → σ[i]? = some o → own l o ≠ some b) :
    SRel m (loc ++ [.tok sz fun k => if k = len then some (some b) else none]) (σ ++ [.grow sz len]) w ∧ Ext n0 m loc w m (loc ++ [.tok sz fun k => if k = len then some (some b) else none]) w := by
  have hfl : (fun k => if k = len then some (some b) else none : Nat → Option (Option Nat)) len = some (some b) := by simp
  have hown : ∀ b', own (.tok sz fun k => if k = len then some (some b) else none) (.grow sz len) = some b' → b' = b := by
    intro b' e; simp [own] at e; exact e.symm
  have hnam : ∀ b', Names (loc ++ [.tok sz fun k => if k = len then some (some b) else none]) b' → Names loc b' := by
    intro b' e
    rcases e.app with e | e | ⟨sz', f, k, e, hk⟩
    · exact e
    · simp at e
    · injection e with e1 e2
      subst e2
      simp only at hk
      split at hk
      · simp at hk; subst hk; exact ⟨i0, .inl hl⟩
      · simp at hk
  refine ⟨⟨by simp [h.len], h.im, h.bs, ?_, ?_, fun b' e => h.lt b' (hnam b' e), h.mp, ?_, h.ok.names hnam⟩, ⟨rfl, rfl, rfl, Nat.le_refl _, Nat.le_refl _, .refl m, .app _ _ _, fun b' e => .inl (hnam b' e), fun _ _ _ _ => rfl, fun _ _ _ e => .inl e⟩⟩
  · intro i l o e1 e2
    rcases get_app e1 with e1 | ⟨hi, e1⟩
    · rcases get_app e2 with e2 | ⟨hi2, e2⟩
      · exact (h.obj i l o e1 e2).mono (.refl m) (.app _ _ _) (fun _ _ => rfl) (fun _ _ _ => rfl)
      · have := lt_of_get e1; have := h.len; omega
    · rcases get_app e2 with e2 | ⟨hi2, e2⟩
      · have := lt_of_get e2; have := h.len; omega
      · subst e1; subst e2
        exact ⟨rfl, fun k hk => by show (if k = len then some (some b) else none) = none; rw [if_neg (by omega)], .inr ⟨b, arr, ty, hfl, h1, h2, h3⟩⟩
  · intro i j l1 l2 o1 o2 b' e1 e2 e3 e4 w1 w2
    rcases get_app e1 with f1 | ⟨hi, f1⟩ <;> rcases get_app e2 with f2 | ⟨hj, f2⟩
    · rcases get_app e3 with f3 | ⟨hi3, f3⟩
      · rcases get_app e4 with f4 | ⟨hi4, f4⟩
        · exact h.inj i j l1 l2 o1 o2 b' f1 f2 f3 f4 w1 w2
        · have := lt_of_get f2; have := h.len; omega
      · have := lt_of_get f1; have := h.len; omega
    · rcases get_app e3 with f3 | ⟨hi3, f3⟩
      · rcases get_app e4 with f4 | ⟨hi4, f4⟩
        · have := lt_of_get f4; have := h.len; omega
        · subst f2; subst f4
          have := hown _ w2; subst this
          exact absurd w1 (hno i l1 o1 f1 f3)
      · have := lt_of_get f1; have := h.len; omega
    · rcases get_app e4 with f4 | ⟨hi4, f4⟩
      · rcases get_app e3 with f3 | ⟨hi3, f3⟩
        · have := lt_of_get f3; have := h.len; omega
        · subst f1; subst f3
          have := hown _ w1; subst this
          exact absurd w2 (hno j l2 o2 f2 f4)
      · have := lt_of_get f2; have := h.len; omega
    · omega
  · intro i l o b' e1 e2 w1
    rcases get_app e1 with e1 | ⟨hi, e1⟩
    · rcases get_app e2 with e2 | ⟨hi2, e2⟩
      · exact h.mpo i l o b' e1 e2 w1
      · have := lt_of_get e1; have := h.len; omega
    · rcases get_app e2 with e2 | ⟨hi2, e2⟩
      · have := lt_of_get e2; have := h.len; omega
      · subst e1; subst e2
        have := hown _ w1; subst this
        cases hq : m.mp b' with
        | none => rfl
        | some e => have := h.mp b' e hq; rw [h1] at this; simp at this
/-- A row becomes a slice that never changes, with the right to append to it. -/
theorem Ghost.freezeG {n0 nt : Nat} {s : Slots} {σ : Store} (t : Nat) {id sz len : Nat} {cells : List AV} (es : List (List AV)) (ht : lk s t = .ref id sz 0 len) (hs : σ[id]? = some (.row cells)) (hlen : es.length = len)
    (hes : ∀ e ∈ es, e.length = sz) (hc : cells = es.flatten) : Ghost n0 nt s σ ((t, .slice (.grow σ.length) es) :: s) (σ.set id .dead ++ [.grow sz len]) := by
  intro m loc w tm hl hS hr
  have hrel := hr.rel t
  rw [ht] at hrel
  have hput : ∀ {m' loc'} (hx : SlotRel m' loc' nt s tm), Rel m' loc' (.slice (.grow σ.length) es) (tm.getD t undef) → SlotRel m' loc' nt ((t, .slice (.grow σ.length) es) :: s) tm := by
    intro m' loc' hx hv
    refine ⟨hx.size, fun i => ?_⟩
    simp only [Ahl.lk]
    by_cases e : t = i
    · subst e; simp only [beq_self_eq_true, cond_true]; exact hv
    · have : (t == i) = false := by simpa using e
      rw [this, cond_false]; exact hx.rel i
  have hdl : (σ.set id .dead).length = σ.length := by simp
  generalize tm.getD t undef = v at hrel hput
  cases hrel with
  | ref0 _ _ _ a h1 =>
    have : es = [] := List.length_eq_zero_iff.1 (by omega)
    subst this
    have hd := hS.die id
    obtain ⟨q1, q2⟩ := hd.tok0 n0 sz
    have hr0 := rel_tok0 (m := m) (loc := loc) (w := w) sz a hd
    rw [hdl] at hr0
    exact ⟨m, _, q1, hput ⟨hr.size, fun i => (hr.rel i).mono (.refl m) (.app _ _ _)⟩ hr0, q2⟩
  | ref _ _ _ _ cap b n h1 h2 h3 h4 =>
    subst hlen
    obtain ⟨m', arr, ty, g0, hle, g1, g2, g3, g4, g5, g6⟩ := hS.still h1 hs
    have hcl : cells.length = es.length * sz := by rw [hc, flat_length es hes]
    have hbn : n = arr.size := by have := hle.bs _ _ h3; rw [g2] at this; injection this with this; exact this.symm
    obtain ⟨q1, q2⟩ := g0.right n0 sz es.length h1 g1 g2 (fun o ho => by rw [g5, if_neg (by rw [hcl, Nat.mul_comm]; omega)]) (by
      intro i l o e1 e2 e3
      rcases get_set e2 with ⟨rfl, rfl⟩ | ⟨hne, e2⟩
      · cases l <;> simp [own] at e3
      · exact hne (hS.inj i id l _ o _ b e1 h1 e2 hs e3 rfl).symm)
    have hkeep : Keep loc.length loc (loc ++ [.tok sz fun k => if k = es.length then some (some b) else none]) := .app _ _ _
    have hext : Ext n0 m loc w m' loc w := ⟨rfl, rfl, rfl, Nat.le_refl _, Nat.le_refl _, hle, .refl _ _, fun _ h => .inl h, fun _ _ _ _ => rfl, fun _ _ _ e => .inl (by rw [g6] at e; exact e)⟩
    refine ⟨m', _, q1, hput ⟨hr.size, fun i => (hr.rel i).mono hle hkeep⟩ ?_, hext.trans q2⟩
    have hfi : ∀ i e, es[i]? = some e → ∀ j, j < sz → cells[i * sz + j]? = e[j]? := by
      intro i e he j hj
      have hel : e.length = sz := hes e (List.mem_of_getElem? he)
      rw [hc, List.getElem?_eq_getElem (by omega : j < e.length)]
      exact flat_get es hes i e he j _ (List.getElem?_eq_getElem _)
    have hbd : ∀ i, i < es.length → ∀ j, j < sz → i * sz + j < cells.length := by
      intro i hi j hj
      have q := hfi i _ (List.getElem?_eq_getElem hi) j hj
      have ql := hes _ (List.getElem_mem hi)
      rw [List.getElem?_eq_getElem (by omega : j < (es[i]).length)] at q
      exact lt_of_get q
    refine .slice (.grow σ.length) es _ cap sz b 0 (fun i j => arr[i * sz + j]?.getD undef) (by omega) ⟨sz, fun k => if k = es.length then some (some b) else none, ?_, fun _ => rfl, .inr ⟨b, arr.size, by simp, rfl, g2, by omega, g0.blkb h1⟩⟩ hes (fun _ => rfl) ?_ ?_
    · rw [← hS.len]; simp
    · intro i hi j hj
      have hb := hbd i hi j hj
      rw [Nat.zero_add, g5, if_pos hb, Array.getElem?_eq_getElem (by omega)]; rfl
    · intro i e he j x hx
      have hi := lt_of_get he
      have hj : j < sz := by rw [← hes e (List.mem_of_getElem? he)]; exact lt_of_get hx
      have hb := hbd i hi j hj
      have hcx := hfi i e he j hj
      rw [hx] at hcx
      have ha : arr[i * sz + j]? = some (arr[i * sz + j]'(by omega)) := Array.getElem?_eq_getElem _
      simp only [ha, Option.getD_some]
      exact (g4 _ _ _ hcx ha).mono (.refl _) hkeep
/-- A call with nothing, where the right to append is asked for. -/
theorem ACalls.nilTok {P : Program} {f : FuncId} (a1 a2 : List AV) {σ τ : Store} {o : AObj} (sz : Nat) {v : AV} (h : ACalls P f (a1 ++ .slice (.grow σ.length) [] :: a2) (σ ++ [.grow sz 0]) (isR v (τ ++ [o]))) (hτ : τ.length = σ.length)
    (hi : IdsS τ.length τ) (hv : Ids τ.length v) : ACalls P f (a1 ++ .slice .nil [] :: a2) σ (isR v τ) := by
  intro m loc w vs hs ha
  obtain ⟨q1, q2⟩ := hs.tok0 loc.length sz
  have hargs : ArgsRel m (loc ++ [.tok sz tok0]) (a1 ++ .slice (.grow σ.length) [] :: a2) vs := by
    refine ⟨by rw [ha.1]; simp, fun j x u h1 h2 => ?_⟩
    rcases Nat.lt_trichotomy j a1.length with hj | hj | hj
    · rw [List.getElem?_append_left hj] at h1
      exact (ha.2 j x u (by rw [List.getElem?_append_left hj]; exact h1) h2).mono (.refl m) (.app _ _ _)
    · subst hj
      rw [List.getElem?_append_right (Nat.le_refl _), Nat.sub_self, List.getElem?_cons_zero] at h1
      injection h1 with h1; subst h1
      have := ha.2 a1.length (.slice .nil []) u (by rw [List.getElem?_append_right (Nat.le_refl _), Nat.sub_self]; rfl) h2
      cases this with
      | slice _ _ ad cap sz' b o f hcap htok => obtain ⟨rfl, rfl⟩ := htok; exact rel_tok0 sz none hs
    · have e : ∀ z : AV, (a1 ++ z :: a2)[j]? = a2[j - a1.length - 1]? := fun z => by
        rw [List.getElem?_append_right (by omega), show j - a1.length = (j - a1.length - 1) + 1 by omega, List.getElem?_cons_succ]; simp
      rw [e] at h1
      exact (ha.2 j x u (by rw [e]; exact h1) h2).mono (.refl m) (.app _ _ _)
  have key : ∀ u w', ARet (loc ++ [.tok sz tok0]) m w (isR v (τ ++ [o])) u w' → ARet loc m w (isR v τ) u w' := by
    rintro u w' ⟨r, σ', m', loc', ⟨rfl, rfl⟩, h2, h3, h4⟩
    have hl : loc'.length = τ.length + 1 := by rw [h3.len]; simp
    refine ⟨r, τ, m', loc'.take τ.length, ⟨rfl, rfl⟩, h2.take hv, ?_, ?_⟩
    · have := h3.take τ.length (by rw [List.take_left' rfl]; exact hi)
      rwa [List.take_left' rfl] at this
    · have h5 := q2.trans (h4.less (by simp))
      exact h5.trans (Ext.take m' loc' w' τ.length (by rw [hτ, hs.len]; exact Nat.le_refl _))
  rcases h m _ w vs q1 hargs with ⟨fn, h1, h2, h3, h4⟩ | ⟨u, w', h1, h2⟩
  · exact .inl ⟨fn, h1, h2, h3, h4.mono fun e w' ⟨u, e1, e2⟩ => ⟨u, e1, key _ _ e2⟩⟩
  · exact .inr ⟨u, w', h1, key _ _ h2⟩
end Go.Ahl
/- The abstract layer, part 28: the bits of a number. -/
namespace Go.Ahl
theorem bit_and {k x : Nat} (hk : k < 1152921504606846976) (hx : x < 60) : IntKind.i64.wrap ((BitVec.ofInt 64 ((k : Int).fdiv (2 ^ min x 64)) &&& BitVec.ofInt 64 1).toNat : Int) = if k.testBit x then 1 else 0 := by
  have h1 : (k : Int).fdiv (2 ^ min x 64) = ((k / 2 ^ x : Nat) : Int) := by
    rw [Nat.min_eq_left (by omega), Int.fdiv_eq_ediv_of_nonneg _ (by exact Int.le_of_lt (Int.pow_pos (by omega)))]
    simp
  have hlt : k / 2 ^ x < 2 ^ 64 := Nat.lt_of_le_of_lt (Nat.div_le_self _ _) (by omega)
  rw [h1, BitVec.toNat_and]
  have h2 : (BitVec.ofInt 64 ((k / 2 ^ x : Nat) : Int)).toNat = k / 2 ^ x := by
    rw [BitVec.ofInt_natCast, BitVec.toNat_ofNat, Nat.mod_eq_of_lt hlt]
  have h3 : (BitVec.ofInt 64 1).toNat = 1 := by decide
  rw [h2, h3, Nat.and_one_is_mod, Nat.testBit_eq_decide_div_mod_eq]
  by_cases h : k / 2 ^ x % 2 = 1
  · rw [decide_eq_true h, h]; decide
  · have h0 : k / 2 ^ x % 2 = 0 := by omega
    rw [h0]; simp; decide
end Go.Ahl
namespace Go.Ahl
end Go.Ahl
namespace Go.Ahl
end Go.Ahl
namespace Go.Ahl
/-- The end of a function whose result is an aggregate in cells. -/
theorem ret_cN {nt t id n : Nat} {s : Slots} {σ S : Store} {R : Cont} {cells : List AV} (h1 : lk s t = .ptr id 0) (h2 : S[id]? = some (.row cells)) (hn : cells.length = n) (ht : S.take σ.length = σ) (hσ : IdsS σ.length σ)
    (iv : Ids σ.length (.agg cells)) (h : R (.agg cells) σ) : bodyK [.cell (some n) t] σ.length nt R .ret s S := by
  refine ⟨s, S, Ghost.refl _ _ _ _, ?_⟩
  simp only [aRes, h1]
  rw [e_loadN_ptr, h2, rowK_some]
  refine ⟨by omega, ?_⟩
  rw [List.drop_zero, ← hn, List.take_length]
  refine ⟨σ.length, Nat.le_refl _, ?_⟩
  rw [ht]
  exact ⟨hσ, iv, h⟩
/-- The nil in a cell becomes a slice that one may append to. -/
theorem Ghost.tokCell {n0 nt : Nat} {s : Slots} {σ : Store} (id sz : Nat) (hs : σ[id]? = some (.row [.slice .nil []])) :
    Ghost n0 nt s σ s ((σ ++ [AObj.grow sz 0]).set id (AObj.row [AV.slice (.grow σ.length) []])) := by
  intro m loc w tm hl hS hr
  obtain ⟨g1, g2⟩ := hS.tok0 n0 sz
  have hid := lt_of_get hs
  have hid2 : id < loc.length := by rw [hS.len]; exact hid
  have hs' : (σ ++ [AObj.grow sz 0])[id]? = some (.row [.slice .nil []]) := by rw [List.getElem?_append_left hid]; exact hs
  have hloc : (loc ++ [.tok sz tok0])[id]? = some (loc[id]) := by rw [List.getElem?_append_left hid2]; exact List.getElem?_eq_getElem hid2
  have hobj := g1.obj id _ _ hloc hs'
  generalize loc[id] = l at hloc hobj
  cases l with
  | blk b =>
    obtain ⟨arr, t, e1, e2, e3, e4, e5⟩ := hobj
    have key := g1.turn n0 (m' := m) (w' := w) (l' := .blk b) (.row [.slice (.grow σ.length) []]) hloc hs' (.refl m) (.refl _) (fun _ _ _ => rfl) (Nat.le_refl _) (fun _ _ _ _ => rfl) ?_ ?_ ?_ (fun b' q => .inl q) ?_ rfl rfl rfl (Nat.le_refl _)
    · rw [set_same hloc] at key
      exact ⟨m, _, key.1, ⟨hr.size, fun i => (hr.rel i).mono (.refl m) (.app _ _ _)⟩, g2.trans key.2⟩
    · intro k off v hk e'
      refine ⟨g1.im k off v e', g1.ok.fz k off v ?_ e'⟩
      rcases hk with hk | hk
      · exact g1.ok.own k (own_names hloc hk)
      · exact Nat.le_trans g1.ok.low hk
    · intro k n hn
      obtain ⟨arr', t', fz, q1, q2⟩ := g1.bs k n hn
      exact .inr ⟨arr', t', fz, q1, q2⟩
    · rintro b' ⟨sz', f, k, q, _⟩; simp at q
    · rw [set_same hloc]
      refine ⟨arr, t, e1, e2, by simpa using e3, ?_, e5⟩
      intro j x v hj hv
      match j, hj with
      | 0, hj =>
        simp at hj; subst hj
        have h1 := e4 0 (.slice .nil []) v rfl hv
        cases h1 with
        | slice _ _ ad cap sz' bb o f hcap htok =>
          obtain ⟨h1, h2⟩ := htok
          subst h1; subst h2
          exact rel_tok0 sz none hS
  | nowhere => simp [ObjRel] at hobj
  | tok _ _ => exact hobj.elim
end Go.Ahl
