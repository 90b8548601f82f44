/- Contracts of the given program's functions, and an abstract layer over the model; no condition. -/
import Derived.Attr
import Derived.WalkKit
import Derived.ProofKit
import Derived.SizedLaws
import Derived.Carry
import Derived.Test.YtbnhijapbnfohaaGreatProg
import Derived.Lib.Bytealg
import Derived.Test.YtbnhijapbnfohaaGreatRows
import Derived.Test.YtbnhijapbnfohaaGreatBase2
set_option linter.unusedVariables false
set_option linter.unusedSimpArgs false
/- The abstract layer, part 22: the rewriting set; words that find their small facts themselves. -/
namespace Go.Ahl
attribute [go_sem] wpc_ops bodyK_n Nat.mul_one Nat.add_one_sub_one take_len_map Int.natCast_zero beq_self_eq_true bne_self_eq_false Bool.false_eq_true reduceIte wpc_seq wpc_block wpc_cond wpc_skip wpc_exit wpc_ret condK pickK newK buildK callK seqK blockK scopeK wpc_scope loopK_exit loopK_ret lk cond_true cond_false true_and and_true initS evs partV List.map_cons List.map_nil List.cons_append List.nil_append List.append_assoc
attribute [go_sem] List.append_nil Option.map_none getK_some rowK_some mapK_some loadP loadPN storeC storeP iaddrC istrC lookupC lookupM mapupC mapupM lenM clearP boolC nboolC elemsP slcC slcR sstrC e_load_ptr e_loadN_ptr e_load_rptr e_loadN_rptr e_store e_iaddr_slice e_iaddr_ref e_istr e_extract e_fieldv e_fieldvN e_lookup_map e_lookup_nil e_mapup e_len_map e_clear e_flat_eq
attribute [go_sem] e_flat_ne e_elems_ref e_elems_slice g_get g_get0 g_set g_set0 List.getElem?_cons_zero List.getElem?_cons_succ List.set_cons_zero List.set_cons_succ List.length_cons List.length_nil List.length_append List.length_map Nat.add_zero Nat.zero_add List.drop_succ_cons List.drop_zero List.take_succ_cons List.take_zero AV.one AV.isKey List.all_cons List.all_nil Bool.and_self Bool.true_and Bool.and_true setAll cellsOf cellsAll buildAll Nat.le_refl Int.toNat_natCast List.getElem?_map Option.map_some Int.natCast_nonneg decide_true decide_false Bool.not_true
attribute [go_sem] Bool.not_false i_move i_pick i_alloc i_box i_build i_bslice i_bsliceC k_bc i_load i_store i_nilck i_bin i_un i_conv i_mkfunc i_mkmap i_mkslice i_slc i_sstr i_faddr i_fieldv i_iaddr i_istr i_lookup i_mapup i_extract i_call i_len ap_i k_bs_f k_bs_t k_bs_0 ap_grow ap_ref ownK_row ap_nil ap_zero ap_nil_t ap_zero_t
attribute [go_sem] fa_nil fa_cons fa_app fa_map implies_true Option.some.injEq AObj.grow.injEq i_clear i_max i_min b_add b_sub b_mul b_quo b_rem b_eql b_neq b_lss b_leq b_gtr b_geq b_shl b_shr b_and b_or b_xor s_add s_eql s_neq s_lss s_gtr b_beq b_bne b_seq b_sne u_not u_neg l_slice l_ref l_vec
attribute [go_sem] ap_vec vecK_vec l_str n_ptr n_rptr f_ptr f_rptr c_int m_max m_min bnd2_nn bnd2_in bnd2_ni bnd2_ii x_slc x_slr x_sl0 x_sst gv_none gv_skip gv_some gv_tt gv_tf gv_ft gv_ff gv_u d_none d_some k_app aev_tmp aev_lit o_nil o_cons o_nilD o_consD st_run st_skip sd_skip sd_run dk_move
attribute [go_sem] dk_pick dk_alloc dk_box dk_build dk_bslice dk_bsliceC dk_load dk_store dk_nilck dk_bin dk_un dk_conv dk_mkfunc dk_mkmap dk_mkslice dk_slc dk_sstr dk_faddr dk_fieldv dk_iaddr dk_istr dk_lookup dk_mapup dk_extract dk_blen dk_bappend dk_bclear dk_bmax dk_bmin dk_call dk_callE callED_func ou_nil ou_cons su_run su_skip ru_0 ru_1 ru_2 obR_nil
attribute [go_sem] obR_cons obB_nil obB_cons memN_nil memN_cons isR_self AI.rank atS_app atU_app i_bstr i_rng i_nxt i_ent e_bstr e_rng e_nxt e_ent iterK_some l_wslice n_wptr f_wptr iaddrW wst_int wst_str e_store_wptr e_iaddr_wslice e_load_wptr e_loadN_wptr i_appendC apC_nil dk_bappendC
/-- A way to lay data into cells that names no object. -/
class IdE {α : Type} (f : α → List AV) : Prop where
  ids : ∀ n x, IdsL n (f x)
instance : IdE encI := ⟨fun _ => ids_encI⟩
instance : IdE encB := ⟨fun _ => ids_encB⟩
instance : IdE encT := ⟨fun _ => ids_encT⟩
instance : IdE encLit := ⟨fun _ => ids_encLit⟩
instance : IdE encC := ⟨fun _ => ids_encC⟩
instance : IdE encL := ⟨fun _ => ids_encL⟩
instance : IdE encCf := ⟨fun _ => ids_encCf⟩
instance : IdE encLf := ⟨fun _ => ids_encLf⟩
instance : IdE encE := ⟨fun _ => ids_encE⟩
instance : IdE encA := ⟨fun _ => ids_encA⟩
instance : IdE encTask := ⟨fun _ => ids_encTask⟩
/-- A list of data as one cell. -/
def encS {α : Type} (f : α → List AV) (l : List α) : List AV := [.slice .unk (l.map f)]
section
variable {n : Nat} {α : Type} {f : α → List AV} [h : IdE f]
theorem ids_mapE (l : List α) : Ids n (.slice .unk (l.map f)) := ids_map (h.ids n) l
theorem ids_mapF (l : List α) : Ids n (.slice .fresh (l.map f)) := ids_mapf (h.ids n) l
theorem ids_growE {id : Nat} (hi : id < n) (l : List α) : Ids n (.slice (.grow id) (l.map f)) := ids_grow_map (h.ids n) hi
theorem ids_aggE (x : α) : Ids n (.agg (f x)) := ids_agg (h.ids n x)
theorem mv_mapE {id : Nat} (l : List α) : Mv id n (.slice (.grow id) (l.map f)) (.slice (.grow n) (l.map f)) := mv_map (h.ids n) l
instance : IdE (encS f) := ⟨fun n l => idsL_cons (ids_map (h.ids n) l) idsL_nil⟩
end
section
variable {nt : Nat} {s s' : Slots} {σ g : Store}
theorem ghk (h1 : TellW s σ.length s' := by simp only [TellW, lk, Nat.reduceBEq, cond_true, cond_false, and_true, List.length_cons, List.length_nil, Nat.reduceAdd]; and_intros <;> first | exact Wk.refl _ | exact Wk.unk _ _ | exact Wk.fresh _ _ | exact Wk.fresh0 _ | exact Wk.slice _ (WkLL.one (WkL.one (Wk.unk _ _))) | exact Wk.slice _ (WkLL.one (WkL.one (Wk.fresh _ _))) | exact Wk.any _ | first | assumption | exact .int _ _ | exact .bool _ | exact .str _ | exact .any | exact .mapnil | exact .ptr _ _ (by omega) | exact .ref _ _ _ _ (by omega) | exact .vec _ _ _ (by omega) | exact .map _ (by omega) | exact ids_mapE _ | exact ids_mapF _ | exact ids_growE (by omega) _ | exact ids_aggE _ | (refine ids_up ?_ (by assumption); omega) | exact ids_func0 _ | exact ids_nil _ (by simp) | (simp only [encLit, encI, encT, encC, encA, encE, encL, encTask, encB]; done)) (h2 : IdsS σ.length σ := by assumption) : Ghost σ.length nt s (σ ++ g) s' σ := .keep _ (Nat.le_refl _) h1 h2
theorem ghk0 (h1 : TellW s σ.length s' := by simp only [TellW, lk, Nat.reduceBEq, cond_true, cond_false, and_true, List.length_cons, List.length_nil, Nat.reduceAdd]; and_intros <;> first | exact Wk.refl _ | exact Wk.unk _ _ | exact Wk.fresh _ _ | exact Wk.fresh0 _ | exact Wk.slice _ (WkLL.one (WkL.one (Wk.unk _ _))) | exact Wk.slice _ (WkLL.one (WkL.one (Wk.fresh _ _))) | exact Wk.any _ | first | assumption | exact .int _ _ | exact .bool _ | exact .str _ | exact .any | exact .mapnil | exact .ptr _ _ (by omega) | exact .ref _ _ _ _ (by omega) | exact .vec _ _ _ (by omega) | exact .map _ (by omega) | exact ids_mapE _ | exact ids_mapF _ | exact ids_growE (by omega) _ | exact ids_aggE _ | (refine ids_up ?_ (by assumption); omega) | exact ids_func0 _ | exact ids_nil _ (by simp) | (simp only [encLit, encI, encT, encC, encA, encE, encL, encTask, encB]; done)) (h2 : IdsS σ.length σ := by assumption) : Ghost σ.length nt s σ s' σ := .keep0 (Nat.le_refl _) h1 h2
theorem ghk1 {o : AObj} (h1 : TellW s (σ.length + 1) s' := by simp only [TellW, lk, Nat.reduceBEq, cond_true, cond_false, and_true, List.length_cons, List.length_nil, Nat.reduceAdd]; and_intros <;> first | exact Wk.refl _ | exact Wk.unk _ _ | exact Wk.fresh _ _ | exact Wk.fresh0 _ | exact Wk.slice _ (WkLL.one (WkL.one (Wk.unk _ _))) | exact Wk.slice _ (WkLL.one (WkL.one (Wk.fresh _ _))) | exact Wk.any _ | first | assumption | exact .int _ _ | exact .bool _ | exact .str _ | exact .any | exact .mapnil | exact .ptr _ _ (by omega) | exact .ref _ _ _ _ (by omega) | exact .vec _ _ _ (by omega) | exact .map _ (by omega) | exact ids_mapE _ | exact ids_mapF _ | exact ids_growE (by omega) _ | exact ids_aggE _ | (refine ids_up ?_ (by assumption); omega) | exact ids_func0 _ | exact ids_nil _ (by simp) | (simp only [encLit, encI, encT, encC, encA, encE, encL, encTask, encB]; done)) (h2 : IdsS (σ ++ [o]).length (σ ++ [o]) := by assumption) : Ghost σ.length nt s (σ ++ o :: g) s' (σ ++ [o]) := .keep1 o (Nat.le_refl _) h1 h2
theorem ghL {l : Store} (h2 : IdsS (σ ++ l).length (σ ++ l)) (h1 : TellW s (σ.length + l.length) s' := by simp only [TellW, lk, Nat.reduceBEq, cond_true, cond_false, and_true, List.length_cons, List.length_nil, Nat.reduceAdd]; and_intros <;> first | exact Wk.refl _ | exact Wk.unk _ _ | exact Wk.fresh _ _ | exact Wk.fresh0 _ | exact Wk.slice _ (WkLL.one (WkL.one (Wk.unk _ _))) | exact Wk.slice _ (WkLL.one (WkL.one (Wk.fresh _ _))) | exact Wk.any _ | first | assumption | exact .int _ _ | exact .bool _ | exact .str _ | exact .any | exact .mapnil | exact .ptr _ _ (by omega) | exact .ref _ _ _ _ (by omega) | exact .vec _ _ _ (by omega) | exact .map _ (by omega) | exact ids_mapE _ | exact ids_mapF _ | exact ids_growE (by omega) _ | exact ids_aggE _ | (refine ids_up ?_ (by assumption); omega) | exact ids_func0 _ | exact ids_nil _ (by simp) | (simp only [encLit, encI, encT, encC, encA, encE, encL, encTask, encB]; done)) : Ghost σ.length nt s (σ ++ (l ++ g)) s' (σ ++ l) := .keepL l rfl (Nat.le_refl _) h1 h2
theorem ghL0 {l : Store} (h2 : IdsS (σ ++ l).length (σ ++ l)) (h1 : TellW s (σ.length + l.length) s' := by simp only [TellW, lk, Nat.reduceBEq, cond_true, cond_false, and_true, List.length_cons, List.length_nil, Nat.reduceAdd]; and_intros <;> first | exact Wk.refl _ | exact Wk.unk _ _ | exact Wk.fresh _ _ | exact Wk.fresh0 _ | exact Wk.slice _ (WkLL.one (WkL.one (Wk.unk _ _))) | exact Wk.slice _ (WkLL.one (WkL.one (Wk.fresh _ _))) | exact Wk.any _ | first | assumption | exact .int _ _ | exact .bool _ | exact .str _ | exact .any | exact .mapnil | exact .ptr _ _ (by omega) | exact .ref _ _ _ _ (by omega) | exact .vec _ _ _ (by omega) | exact .map _ (by omega) | exact ids_mapE _ | exact ids_mapF _ | exact ids_growE (by omega) _ | exact ids_aggE _ | (refine ids_up ?_ (by assumption); omega) | exact ids_func0 _ | exact ids_nil _ (by simp) | (simp only [encLit, encI, encT, encC, encA, encE, encL, encTask, encB]; done)) : Ghost σ.length nt s (σ ++ l) s' (σ ++ l) := .keepL0 l rfl (Nat.le_refl _) h1 h2
theorem ghM (k : Nat) {o : AObj} (ho : g[k]? = some o := by rfl) (hi : IdsS σ.length σ := by assumption) (hio : IdsO σ.length o := by trivial) (h1 : TellM s (σ.length + k) σ.length s' := by simp only [TellM, lk, Nat.reduceBEq, cond_true, cond_false, and_true, List.length_cons, List.length_nil, Nat.reduceAdd]; and_intros <;> first | exact mv_mapE _ | exact .ref _ _ _ | exact .ptr _ | exact .map | exact .keep (.refl _) (by first | assumption | exact .int _ _ | exact .bool _ | exact .str _ | exact .any | exact .mapnil | exact .ptr _ _ (by omega) | exact .ref _ _ _ _ (by omega) | exact .vec _ _ _ (by omega) | exact .map _ (by omega) | exact ids_mapE _ | exact ids_mapF _ | exact ids_growE (by omega) _ | exact ids_aggE _ | (refine ids_up ?_ (by assumption); omega) | exact ids_func0 _ | exact ids_nil _ (by simp) | (simp only [encLit, encI, encT, encC, encA, encE, encL, encTask, encB]; done)) | exact .keep (Wk.unk _ _) (by first | assumption | exact .int _ _ | exact .bool _ | exact .str _ | exact .any | exact .mapnil | exact .ptr _ _ (by omega) | exact .ref _ _ _ _ (by omega) | exact .vec _ _ _ (by omega) | exact .map _ (by omega) | exact ids_mapE _ | exact ids_mapF _ | exact ids_growE (by omega) _ | exact ids_aggE _ | (refine ids_up ?_ (by assumption); omega) | exact ids_func0 _ | exact ids_nil _ (by simp) | (simp only [encLit, encI, encT, encC, encA, encE, encL, encTask, encB]; done)) | exact .keep (Wk.fresh _ _) (by first | assumption | exact .int _ _ | exact .bool _ | exact .str _ | exact .any | exact .mapnil | exact .ptr _ _ (by omega) | exact .ref _ _ _ _ (by omega) | exact .vec _ _ _ (by omega) | exact .map _ (by omega) | exact ids_mapE _ | exact ids_mapF _ | exact ids_growE (by omega) _ | exact ids_aggE _ | (refine ids_up ?_ (by assumption); omega) | exact ids_func0 _ | exact ids_nil _ (by simp) | (simp only [encLit, encI, encT, encC, encA, encE, encL, encTask, encB]; done))) : Ghost σ.length nt s (σ ++ g) s' (σ ++ [o]) :=
  .moved _ k _ (Nat.le_refl _) ho hi hio h1
theorem tellT {n : Nat} (h : TellW s n s' := by simp only [TellW, lk, Nat.reduceBEq, cond_true, cond_false, and_true, List.length_cons, List.length_nil, Nat.reduceAdd]; and_intros <;> first | exact Wk.refl _ | exact Wk.unk _ _ | exact Wk.fresh _ _ | exact Wk.fresh0 _ | exact Wk.slice _ (WkLL.one (WkL.one (Wk.unk _ _))) | exact Wk.slice _ (WkLL.one (WkL.one (Wk.fresh _ _))) | exact Wk.any _ | first | assumption | exact .int _ _ | exact .bool _ | exact .str _ | exact .any | exact .mapnil | exact .ptr _ _ (by omega) | exact .ref _ _ _ _ (by omega) | exact .vec _ _ _ (by omega) | exact .map _ (by omega) | exact ids_mapE _ | exact ids_mapF _ | exact ids_growE (by omega) _ | exact ids_aggE _ | (refine ids_up ?_ (by assumption); omega) | exact ids_func0 _ | exact ids_nil _ (by simp) | (simp only [encLit, encI, encT, encC, encA, encE, encL, encTask, encB]; done)) : TellW s n s' := h
variable {R : Cont} {t u : Nat}
theorem rtk (v : AV) (h : R v σ) (hσ : IdsS σ.length σ := by assumption) (hw : Wk (lk s t) v := by first | exact Wk.refl _ | exact Wk.unk _ _ | exact Wk.fresh _ _ | exact Wk.fresh0 _ | exact Wk.any _) (hi : Ids σ.length v := by first | assumption | exact .int _ _ | exact .bool _ | exact .str _ | exact .any | exact .mapnil | exact .ptr _ _ (by omega) | exact .ref _ _ _ _ (by omega) | exact .vec _ _ _ (by omega) | exact .map _ (by omega) | exact ids_mapE _ | exact ids_mapF _ | exact ids_growE (by omega) _ | exact ids_aggE _ | (refine ids_up ?_ (by assumption); omega) | exact ids_func0 _ | exact ids_nil _ (by simp) | (simp only [encLit, encI, encT, encC, encA, encE, encL, encTask, encB]; done)) : bodyK [.tmp t] σ.length nt R .ret s (σ ++ g) := ret_k v hσ hw hi h
theorem rtk0 (v : AV) (h : R v σ) (hσ : IdsS σ.length σ := by assumption) (hw : Wk (lk s t) v := by first | exact Wk.refl _ | exact Wk.unk _ _ | exact Wk.fresh _ _ | exact Wk.fresh0 _ | exact Wk.any _) (hi : Ids σ.length v := by first | assumption | exact .int _ _ | exact .bool _ | exact .str _ | exact .any | exact .mapnil | exact .ptr _ _ (by omega) | exact .ref _ _ _ _ (by omega) | exact .vec _ _ _ (by omega) | exact .map _ (by omega) | exact ids_mapE _ | exact ids_mapF _ | exact ids_growE (by omega) _ | exact ids_aggE _ | (refine ids_up ?_ (by assumption); omega) | exact ids_func0 _ | exact ids_nil _ (by simp) | (simp only [encLit, encI, encT, encC, encA, encE, encL, encTask, encB]; done)) : bodyK [.tmp t] σ.length nt R .ret s σ := ret_k0 v hσ hw hi h
theorem wkS {a b : AV} (h : Wk a b := by first | exact Wk.refl _ | exact Wk.unk _ _ | exact Wk.fresh _ _ | exact Wk.fresh0 _ | exact Wk.any _) : Wk a b := h
theorem rtw {v : AV} (hw : Wk (lk s t) v) (h : R v σ) (hσ : IdsS σ.length σ := by assumption) (hi : Ids σ.length v := by first | assumption | exact .int _ _ | exact .bool _ | exact .str _ | exact .any | exact .mapnil | exact .ptr _ _ (by omega) | exact .ref _ _ _ _ (by omega) | exact .vec _ _ _ (by omega) | exact .map _ (by omega) | exact ids_mapE _ | exact ids_mapF _ | exact ids_growE (by omega) _ | exact ids_aggE _ | (refine ids_up ?_ (by assumption); omega) | exact ids_func0 _ | exact ids_nil _ (by simp) | (simp only [encLit, encI, encT, encC, encA, encE, encL, encTask, encB]; done)) : bodyK [.tmp t] σ.length nt R .ret s (σ ++ g) := ret_k v hσ hw hi h
theorem rtw0 {v : AV} (hw : Wk (lk s t) v) (h : R v σ) (hσ : IdsS σ.length σ := by assumption) (hi : Ids σ.length v := by first | assumption | exact .int _ _ | exact .bool _ | exact .str _ | exact .any | exact .mapnil | exact .ptr _ _ (by omega) | exact .ref _ _ _ _ (by omega) | exact .vec _ _ _ (by omega) | exact .map _ (by omega) | exact ids_mapE _ | exact ids_mapF _ | exact ids_growE (by omega) _ | exact ids_aggE _ | (refine ids_up ?_ (by assumption); omega) | exact ids_func0 _ | exact ids_nil _ (by simp) | (simp only [encLit, encI, encT, encC, encA, encE, encL, encTask, encB]; done)) : bodyK [.tmp t] σ.length nt R .ret s σ := ret_k0 v hσ hw hi h
theorem rtx {v x : AV} (hw : Wk (lk s t) v) (hx : Wk (lk s u) x) (h : R (.tuple [v, x]) σ) (hσ : IdsS σ.length σ := by assumption) (htu : (t == u) = false := by rfl) (hi : Ids σ.length v := by first | assumption | exact .int _ _ | exact .bool _ | exact .str _ | exact .any | exact .mapnil | exact .ptr _ _ (by omega) | exact .ref _ _ _ _ (by omega) | exact .vec _ _ _ (by omega) | exact .map _ (by omega) | exact ids_mapE _ | exact ids_mapF _ | exact ids_growE (by omega) _ | exact ids_aggE _ | (refine ids_up ?_ (by assumption); omega) | exact ids_func0 _ | exact ids_nil _ (by simp) | (simp only [encLit, encI, encT, encC, encA, encE, encL, encTask, encB]; done)) (hj : Ids σ.length x := by first | assumption | exact .int _ _ | exact .bool _ | exact .str _ | exact .any | exact .mapnil | exact .ptr _ _ (by omega) | exact .ref _ _ _ _ (by omega) | exact .vec _ _ _ (by omega) | exact .map _ (by omega) | exact ids_mapE _ | exact ids_mapF _ | exact ids_growE (by omega) _ | exact ids_aggE _ | (refine ids_up ?_ (by assumption); omega) | exact ids_func0 _ | exact ids_nil _ (by simp) | (simp only [encLit, encI, encT, encC, encA, encE, encL, encTask, encB]; done)) :
    bodyK [.tmp t, .tmp u] σ.length nt R .ret s (σ ++ g) := ret_l v x hσ htu hw hx hi hj h
theorem rtx0 {v x : AV} (hw : Wk (lk s t) v) (hx : Wk (lk s u) x) (h : R (.tuple [v, x]) σ) (hσ : IdsS σ.length σ := by assumption) (htu : (t == u) = false := by rfl) (hi : Ids σ.length v := by first | assumption | exact .int _ _ | exact .bool _ | exact .str _ | exact .any | exact .mapnil | exact .ptr _ _ (by omega) | exact .ref _ _ _ _ (by omega) | exact .vec _ _ _ (by omega) | exact .map _ (by omega) | exact ids_mapE _ | exact ids_mapF _ | exact ids_growE (by omega) _ | exact ids_aggE _ | (refine ids_up ?_ (by assumption); omega) | exact ids_func0 _ | exact ids_nil _ (by simp) | (simp only [encLit, encI, encT, encC, encA, encE, encL, encTask, encB]; done)) (hj : Ids σ.length x := by first | assumption | exact .int _ _ | exact .bool _ | exact .str _ | exact .any | exact .mapnil | exact .ptr _ _ (by omega) | exact .ref _ _ _ _ (by omega) | exact .vec _ _ _ (by omega) | exact .map _ (by omega) | exact ids_mapE _ | exact ids_mapF _ | exact ids_growE (by omega) _ | exact ids_aggE _ | (refine ids_up ?_ (by assumption); omega) | exact ids_func0 _ | exact ids_nil _ (by simp) | (simp only [encLit, encI, encT, encC, encA, encE, encL, encTask, encB]; done)) :
    bodyK [.tmp t, .tmp u] σ.length nt R .ret s σ := ret_l0 v x hσ htu hw hx hi hj h
theorem rtl (v x : AV) (h : R (.tuple [v, x]) σ) (hσ : IdsS σ.length σ := by assumption) (htu : (t == u) = false := by rfl) (hw : Wk (lk s t) v := by first | exact Wk.refl _ | exact Wk.unk _ _ | exact Wk.fresh _ _ | exact Wk.fresh0 _ | exact Wk.any _) (hx : Wk (lk s u) x := by first | exact Wk.refl _ | exact Wk.unk _ _ | exact Wk.fresh _ _ | exact Wk.fresh0 _ | exact Wk.any _) (hi : Ids σ.length v := by first | assumption | exact .int _ _ | exact .bool _ | exact .str _ | exact .any | exact .mapnil | exact .ptr _ _ (by omega) | exact .ref _ _ _ _ (by omega) | exact .vec _ _ _ (by omega) | exact .map _ (by omega) | exact ids_mapE _ | exact ids_mapF _ | exact ids_growE (by omega) _ | exact ids_aggE _ | (refine ids_up ?_ (by assumption); omega) | exact ids_func0 _ | exact ids_nil _ (by simp) | (simp only [encLit, encI, encT, encC, encA, encE, encL, encTask, encB]; done)) (hj : Ids σ.length x := by first | assumption | exact .int _ _ | exact .bool _ | exact .str _ | exact .any | exact .mapnil | exact .ptr _ _ (by omega) | exact .ref _ _ _ _ (by omega) | exact .vec _ _ _ (by omega) | exact .map _ (by omega) | exact ids_mapE _ | exact ids_mapF _ | exact ids_growE (by omega) _ | exact ids_aggE _ | (refine ids_up ?_ (by assumption); omega) | exact ids_func0 _ | exact ids_nil _ (by simp) | (simp only [encLit, encI, encT, encC, encA, encE, encL, encTask, encB]; done)) :
    bodyK [.tmp t, .tmp u] σ.length nt R .ret s (σ ++ g) := ret_l v x hσ htu hw hx hi hj h
theorem rtl0 (v x : AV) (h : R (.tuple [v, x]) σ) (hσ : IdsS σ.length σ := by assumption) (htu : (t == u) = false := by rfl) (hw : Wk (lk s t) v := by first | exact Wk.refl _ | exact Wk.unk _ _ | exact Wk.fresh _ _ | exact Wk.fresh0 _ | exact Wk.any _) (hx : Wk (lk s u) x := by first | exact Wk.refl _ | exact Wk.unk _ _ | exact Wk.fresh _ _ | exact Wk.fresh0 _ | exact Wk.any _) (hi : Ids σ.length v := by first | assumption | exact .int _ _ | exact .bool _ | exact .str _ | exact .any | exact .mapnil | exact .ptr _ _ (by omega) | exact .ref _ _ _ _ (by omega) | exact .vec _ _ _ (by omega) | exact .map _ (by omega) | exact ids_mapE _ | exact ids_mapF _ | exact ids_growE (by omega) _ | exact ids_aggE _ | (refine ids_up ?_ (by assumption); omega) | exact ids_func0 _ | exact ids_nil _ (by simp) | (simp only [encLit, encI, encT, encC, encA, encE, encL, encTask, encB]; done)) (hj : Ids σ.length x := by first | assumption | exact .int _ _ | exact .bool _ | exact .str _ | exact .any | exact .mapnil | exact .ptr _ _ (by omega) | exact .ref _ _ _ _ (by omega) | exact .vec _ _ _ (by omega) | exact .map _ (by omega) | exact ids_mapE _ | exact ids_mapF _ | exact ids_growE (by omega) _ | exact ids_aggE _ | (refine ids_up ?_ (by assumption); omega) | exact ids_func0 _ | exact ids_nil _ (by simp) | (simp only [encLit, encI, encT, encC, encA, encE, encL, encTask, encB]; done)) :
    bodyK [.tmp t, .tmp u] σ.length nt R .ret s σ := ret_l0 v x hσ htu hw hx hi hj h
end
end Go.Ahl
/- The abstract layer, part 24: a contract as a call. -/
namespace Go.Ahl
theorem ACalls.calls {P : Program} {f : FuncId} {fn : Func} {args : List AV} {σ : Store} {R : Cont} (h : ACalls P f args σ R) (hf : P.funcs[f]? = some fn) (hb : fn.body.isSome = true) (hn : fn.name ≠ "runtime.NumGoroutine")
    {m : Mem} {loc : List Loc} {w : World} {vs : Array Value} (hs : SRel m loc σ w) (ha : ArgsRel m loc args vs) : Calls P f vs w fun e w' => ∃ v, e = .returned v ∧ ARet loc m w R v w' := by
  rcases h m loc w vs hs ha with ⟨_, _, _, _, h⟩ | ⟨v, w', h, _⟩
  · exact h
  · have he : (callFunc f vs).run P w = .ok (.enter f vs) w := by
      unfold callFunc
      have hp : (program : Sem Program).run P w = .ok P w := rfl
      rw [Sem.run_bind, hp]
      simp only [Result.andThen_ok, hf]
      have hb2 : fn.body.isNone = false := by cases hq : fn.body <;> rw [hq] at hb <;> simp at hb ⊢
      rw [if_neg (by simpa using hn), hb2]
      rfl
    rw [he] at h; simp at h
end Go.Ahl
/- The abstract layer, part 23: from the readings of a call's arguments to abstract values; a law's statement. -/
namespace Go.Ahl
/-- All of a world's memory, as what never changes. -/
def memOf (w : World) : Mem where
  im b o := w.cell? ⟨b, o, none⟩
  bs b := match w.heap[b]? with
    | some (.cells arr _ _) => some arr.size
    | _ => none
  mp _ := none
  wk _ _ := none
  base := w.heap.size
theorem srel_memOf (w : World) : SRel (memOf w) [] [] w where
  len := rfl
  im := fun _ _ _ h => h
  bs := fun b n h => by
    simp only [memOf] at h
    split at h
    · rename_i arr t fz hb
      injection h with h
      exact ⟨arr, t, fz, hb, h⟩
    · simp at h
  obj := by intro i l o h; simp at h
  inj := by intro i j l l' o o' b h; simp at h
  lt := by rintro b ⟨i, e | ⟨_, _, _, e, _⟩⟩ <;> simp at e
  mp := fun b e h => by simp [memOf] at h
  mpo := by intro i l o b h; simp at h
  ok := ⟨Nat.le_refl _, by rintro b ⟨i, e | ⟨_, _, _, e, _⟩⟩ <;> simp at e, fun b o K h => by simp [memOf] at h, fun b o v q e => by
    have := World.block_lt_of_cell? w ⟨b, o, none⟩ e
    have q : w.heap.size ≤ b := q
    simp only at this; omega⟩
/-- What type t's readings are, as data. -/
def Reads (P : Program) (t : TypeId) {α : Type} (f : α → List AV) (ok : α → Prop) : Prop :=
  ∀ (H : Type) (enc : TypeId × Value → H) (w : World) (fuel : Nat) (cs : List Value) (d : DataW H) (ps : List MemPlace),
    DataW.trod enc P w 0 (fun _ => true) true fuel t cs = some (d, ps) → (∀ x ∈ d.weights P t, x ≤ reachBytes) → ∃ x, ok x ∧ Cells (memOf w) [] (f x) cs
section
variable {P : Program} {t e : TypeId}
theorem Reads.conv {α β : Type} {f : α → List AV} {g : β → List AV} {ok : α → Prop} {ok' : β → Prop} (h : Reads P t f ok) (c : α → β) (hc : ∀ x, g (c x) = f x) (ho : ∀ x, ok x → ok' (c x)) : Reads P t g ok' := by
  intro H enc w fuel cs d ps ht hw
  obtain ⟨x, h1, h2⟩ := h H enc w fuel cs d ps ht hw
  exact ⟨c x, ho x h1, by rw [hc]; exact h2⟩
theorem cells_one {m : Mem} {x : AV} {v : Value} (h : Rel m [] x v) : Cells m [] [x] [v] := .cons h .nil
theorem Reads.bool (ht : P.underlying t = some .bool) : Reads P t encB (fun _ => True) := by
  intro H enc w fuel cs d ps h hw
  cases fuel with
  | zero => simp [DataW.trod] at h
  | succ n =>
    simp only [DataW.trod, ht] at h
    split at h <;> simp_all
    rename_i b
    cases b
    · exact .inl (cells_one (.bool _))
    · exact .inr (cells_one (.bool _))
theorem Reads.int (ht : P.underlying t = some (.int .i64)) : Reads P t encI (fun n => -9223372036854775808 ≤ n ∧ n ≤ 9223372036854775807) := by
  intro H enc w fuel cs d ps h hw
  cases fuel with
  | zero => simp [DataW.trod] at h
  | succ n =>
    simp only [DataW.trod, ht] at h
    split at h <;> try (simp_all; done)
    rename_i k k' nn hk
    have hk : IntKind.i64 = k := by injection hk with q; injection q
    subst hk
    split at h
    · rename_i hc
      obtain ⟨rfl, hwf⟩ := hc
      refine ⟨nn, ?_, cells_one (.int _ _)⟩
      simpa [Lit.wf, IntKind.min, IntKind.max, IntKind.signed, IntKind.bits] using hwf
    · simp at h
theorem Reads.str (ht : P.underlying t = some .string) : Reads P t encT (fun s => s.size ≤ 140737488355328) := by
  intro H enc w fuel cs d ps h hw
  cases fuel with
  | zero => simp [DataW.trod] at h
  | succ n =>
    simp only [DataW.trod, ht] at h
    split at h <;> simp_all
    rename_i s
    obtain ⟨_, rfl, _⟩ := h
    refine ⟨s, ?_, cells_one (.str _)⟩
    have := hw s.data.toList.length (by simp [DataW.weights])
    have h2 : s.size = s.data.toList.length := rfl
    simp only [reachBytes] at this
    omega
theorem mapM_get {α β : Type} (f : α → Option β) : ∀ (l : List α) (r : List β), l.mapM f = some r → r.length = l.length ∧ ∀ (i : Nat) x, l[i]? = some x → ∃ y, f x = some y ∧ r[i]? = some y
  | [], r, h => by simp at h; subst h; simp
  | a :: l, r, h => by
    rw [List.mapM_cons] at h
    cases ha : f a with
    | none => rw [ha] at h; simp at h
    | some y =>
      cases hl : l.mapM f with
      | none => rw [ha, hl] at h; simp at h
      | some r' =>
        rw [ha, hl] at h; simp at h; subst h
        obtain ⟨q1, q2⟩ := mapM_get f l r' hl
        refine ⟨by simp [q1], ?_⟩
        intro i x hx
        cases i with
        | zero => simp at hx; subst hx; exact ⟨y, ha, by simp⟩
        | succ i => simp at hx; simpa using q2 i x hx
theorem weightsAll_mem {H : Type} {d : DataW H} : ∀ {l : List (DataW H)}, d ∈ l → ∀ x ∈ d.weights P e, x ∈ DataW.weightsAll P e l
  | [], h, _, _ => by simp at h
  | a :: l, h, x, hx => by
    rw [DataW.weightsAll, List.mem_append]
    rcases List.mem_cons.1 h with rfl | h
    · exact .inl hx
    · exact .inr (weightsAll_mem h x hx)
/-- A choice for each number below n. -/
theorem choose_list {α : Type} {p : Nat → α → Prop} : ∀ n : Nat, (∀ i, i < n → ∃ x, p i x) → ∃ l : List α, l.length = n ∧ ∀ (i : Nat) x, l[i]? = some x → p i x
  | 0, _ => ⟨[], rfl, by simp⟩
  | n + 1, h => by
    obtain ⟨l, h1, h2⟩ := choose_list n (fun i hi => h i (by omega))
    obtain ⟨x, hx⟩ := h n (by omega)
    refine ⟨l ++ [x], by simp [h1], ?_⟩
    intro i y hy
    rw [List.getElem?_append] at hy
    split at hy
    · exact h2 i y hy
    · have := lt_of_get hy; simp at this
      have hi : i = n := by omega
      subst hi; rw [h1, Nat.sub_self] at hy; simp at hy; subst hy; exact hx
theorem cells?_some {w : World} {a : Addr} {n : Nat} {cs : List Value} (h : w.cells? 0 a n = some cs) : cs.length = n ∧ ∀ (j : Nat) v, cs[j]? = some v → w.cell? (a.add j) = some v := by
  unfold World.cells? at h
  rw [if_pos (Nat.zero_le _)] at h
  obtain ⟨h1, h2⟩ := mapM_get _ _ _ h
  refine ⟨by simpa using h1, ?_⟩
  intro j v hv
  have hj : j < n := by have := lt_of_get hv; simp at h1; omega
  obtain ⟨y, h3, h4⟩ := h2 j j (by rw [List.getElem?_range hj])
  rw [hv] at h4; injection h4 with h4; subst h4; exact h3
/-- A list that memory can hold, of such elements. -/
def okL {α : Type} (ok : α → Prop) (l : List α) : Prop := l.length ≤ 140737488355328 ∧ ∀ x ∈ l, ok x
theorem Reads.slice {α : Type} {f : α → List AV} {ok : α → Prop} (ht : P.underlying t = some (.slice e)) (hb : 0 < P.bytesOf e) (hc0 : 0 < P.cellsOf e) (he : Reads P e f ok) :
    Reads P t (encS f) (okL ok) := by
  intro H enc w fuel cs d ps h hw
  cases fuel with
  | zero => simp [DataW.trod] at h
  | succ n =>
    simp only [DataW.trod, ht] at h
    split at h
    all_goals first | (simp at h; done) | skip
    all_goals try (rename_i heq; simp at heq; done)
    · simp at h
      refine ⟨[], ⟨by simp, by simp⟩, cells_one ?_⟩
      exact .slice .unk [] none 0 0 0 0 (fun _ _ => undef) (Nat.le_refl _) trivial (by simp) (fun h => absurd rfl h) (fun i hi => absurd hi (by simp)) (by simp)
    · rename_i e' a len cap heq
      have heq' : e = e' := by injection heq with q; injection q
      subst heq'
      split at h
      · rename_i hc
        obtain ⟨_, hcap, _⟩ := hc
        cases hm : (List.range len).mapM (fun i => (w.cells? 0 (a.add (i * P.cellsOf e)) (P.cellsOf e)).bind (DataW.trod enc P w 0 (fun _ => true) true n e)) with
        | none => rw [hm] at h; simp at h
        | some elems =>
          rw [hm] at h
          simp only [Option.bind_some, if_true, Option.map_eq_some_iff] at h
          obtain ⟨rest, hr, hd⟩ := h
          injection hd with hd1 hd2
          subst hd1
          obtain ⟨q1, q2⟩ := mapM_get _ _ _ hm
          simp only [List.length_range] at q1
          have hwt : ∀ x ∈ ((elems.map (·.1)).length + (rest.map (·.1)).length) * P.bytesOf e :: (DataW.weightsAll P e (elems.map (·.1)) ++ DataW.weightsAll P e (rest.map (·.1))), x ≤ reachBytes := by
            intro x hx; apply hw x; simp only [DataW.weights, ht]; exact hx
          have hlen : len ≤ 140737488355328 := by
            have h1 := hwt _ List.mem_cons_self
            simp only [List.length_map, q1, reachBytes] at h1
            have h2 : len + rest.length ≤ (len + rest.length) * P.bytesOf e := Nat.le_mul_of_pos_right _ hb
            omega
          have key : ∀ i, i < len → ∃ x, ok x ∧ ∃ cs, Cells (memOf w) [] (f x) cs ∧ cs.length = P.cellsOf e ∧ ∀ (j : Nat) v, cs[j]? = some v → w.cell? ((a.add (i * P.cellsOf e)).add j) = some v := by
            intro i hi
            obtain ⟨y, h3, h4⟩ := q2 i i (by rw [List.getElem?_range hi])
            cases hcs : w.cells? 0 (a.add (i * P.cellsOf e)) (P.cellsOf e) with
            | none => rw [hcs] at h3; simp at h3
            | some cs =>
              rw [hcs] at h3
              obtain ⟨y1, y2⟩ := y
              simp only [Option.bind_some] at h3
              obtain ⟨x, hx1, hx2⟩ := he H enc w n cs y1 y2 h3 (fun z hz => hwt z (List.mem_cons_of_mem _ (List.mem_append_left _ (weightsAll_mem (List.mem_map.2 ⟨_, List.mem_of_getElem? h4, rfl⟩) z hz))))
              obtain ⟨c1, c2⟩ := cells?_some hcs
              exact ⟨x, hx1, cs, hx2, c1, c2⟩
          obtain ⟨l, hl1, hl2⟩ := choose_list len key
          refine ⟨l, ⟨by omega, fun x hx => ?_⟩, cells_one ?_⟩
          · obtain ⟨i, hi, rfl⟩ := List.mem_iff_getElem.1 hx
            exact (hl2 i _ (List.getElem?_eq_getElem hi)).1
          · obtain ⟨ab, ao, ap⟩ := a
            by_cases hz : len = 0
            · have : l = [] := List.length_eq_zero_iff.1 (by omega)
              subst this; subst hz
              exact .slice .unk [] (some ⟨ab, ao, ap⟩) cap 0 0 0 (fun _ _ => undef) (Nat.zero_le _) trivial (by simp) (fun h => absurd rfl h) (fun i hi => absurd hi (by simp)) (by simp)
            have hap : ap = none := by
              obtain ⟨x, hx⟩ : ∃ x, l[0]? = some x := get_ex (by omega)
              obtain ⟨_, cs, _, c1, c2⟩ := hl2 0 x hx
              obtain ⟨v, hv⟩ : ∃ v, cs[0]? = some v := get_ex (by omega)
              have := c2 0 v hv
              cases ap with
              | none => rfl
              | some q => simp [World.cell?, Addr.add] at this; split at this <;> simp at this
            subst hap
            have hadd : ∀ i j, ((⟨ab, ao, none⟩ : Addr).add (i * P.cellsOf e)).add j = ⟨ab, ao + (i * P.cellsOf e + j), none⟩ := by
              intro i j; rw [add_at, add_at]; congr 1; omega
            have hcl : ∀ (i : Nat) x, l[i]? = some x → (f x).length = P.cellsOf e := by
              intro i x hx
              obtain ⟨_, cs, c0, c1, _⟩ := hl2 i x hx
              rw [← c0.1, c1]
            have hval : ∀ i, i < len → ∀ j, j < P.cellsOf e → ∃ v, w.cell? ⟨ab, ao + (i * P.cellsOf e + j), none⟩ = some v := by
              intro i hi j hj
              obtain ⟨x, hx⟩ : ∃ x, l[i]? = some x := get_ex (by omega)
              obtain ⟨_, cs, _, c1, c2⟩ := hl2 i x hx
              obtain ⟨v, hv⟩ : ∃ v, cs[j]? = some v := get_ex (by omega)
              exact ⟨v, by rw [← hadd]; exact c2 j v hv⟩
            have hR := Rel.slice (m := memOf w) (loc := []) .unk (l.map f) (some ⟨ab, ao, none⟩) cap (P.cellsOf e) ab ao (fun i j => (w.cell? ⟨ab, ao + (i * P.cellsOf e + j), none⟩).getD undef)
              (by simp; omega) trivial ?_ (fun _ => rfl) ?_ ?_
            · rw [List.length_map, hl1] at hR; exact hR
            · intro y hy
              obtain ⟨x, hx, rfl⟩ := List.mem_map.1 hy
              obtain ⟨i, hi, rfl⟩ := List.mem_iff_getElem.1 hx
              exact hcl i _ (List.getElem?_eq_getElem hi)
            · intro i hi j hj
              simp only [List.length_map, hl1] at hi
              obtain ⟨v, hv⟩ := hval i hi j hj
              show w.cell? _ = _
              rw [hv]; rfl
            · intro i y hy j z hz'
              rw [List.getElem?_map] at hy
              cases hx : l[i]? with
              | none => rw [hx] at hy; simp at hy
              | some x =>
                rw [hx] at hy; simp at hy; subst hy
                obtain ⟨_, cs, c0, c1, c2⟩ := hl2 i x hx
                have hj : j < P.cellsOf e := by have := lt_of_get hz'; rw [hcl i x hx] at this; exact this
                obtain ⟨v, hv⟩ : ∃ v, cs[j]? = some v := get_ex (by omega)
                have h5 := c2 j v hv
                rw [hadd] at h5
                simp only [h5, Option.getD_some]
                exact c0.2 j z v hz' hv
      · simp at h
/-- The readings of a struct's fields, from cell 'off' on. -/
def ReadsFs (P : Program) (off : Nat) (fs : List Field) {α : Type} (f : α → List AV) (ok : α → Prop) : Prop :=
  ∀ (H : Type) (enc : TypeId × Value → H) (w : World) (fuel : Nat) (cs : List Value) (xs : List (DataW H × List MemPlace)),
    cs.length = off + (fs.map fun f => P.cellsOf f.type).sum →
    fs.mapM (fun f => DataW.trod enc P w 0 (fun _ => true) true fuel f.type ((cs.drop f.offset).take (P.cellsOf f.type))) = some xs → (∀ x ∈ DataW.weightsEach P (fs.map (·.type)) (xs.map (·.1)), x ≤ reachBytes) →
    ∃ x, ok x ∧ Cells (memOf w) [] (f x) (cs.drop off)
theorem ReadsFs.nil (off : Nat) : ReadsFs P off [] (fun _ : Unit => []) (fun _ => True) := by
  intro H enc w fuel cs xs hl hm hw
  refine ⟨(), trivial, ?_⟩
  rw [List.drop_eq_nil_of_le (by simp at hl; omega)]
  exact .nil
theorem ReadsFs.cons {off : Nat} {fd : Field} {fs : List Field} {α β : Type} {f : α → List AV} {g : β → List AV} {ok : α → Prop} {ok' : β → Prop} (ho : fd.offset = off) (h : Reads P fd.type f ok) (hr : ReadsFs P (off + P.cellsOf fd.type) fs g ok') :
    ReadsFs P off (fd :: fs) (fun x : α × β => f x.1 ++ g x.2) (fun x => ok x.1 ∧ ok' x.2) := by
  intro H enc w fuel cs xs hl hm hw
  rw [List.mapM_cons] at hm
  cases ha : DataW.trod enc P w 0 (fun _ => true) true fuel fd.type ((cs.drop fd.offset).take (P.cellsOf fd.type)) with
  | none => rw [ha] at hm; simp at hm
  | some y =>
    cases hb : fs.mapM (fun f => DataW.trod enc P w 0 (fun _ => true) true fuel f.type ((cs.drop f.offset).take (P.cellsOf f.type))) with
    | none => rw [ha, hb] at hm; simp at hm
    | some ys =>
      rw [ha, hb] at hm; simp at hm; subst hm
      obtain ⟨d, ps⟩ := y
      have hw' : ∀ x ∈ d.weights P fd.type ++ DataW.weightsEach P (fs.map (·.type)) (ys.map (·.1)), x ≤ reachBytes := by
        intro x hx; apply hw x; simp only [List.map_cons, DataW.weightsEach]; exact hx
      obtain ⟨x, h1, h2⟩ := h H enc w fuel _ d ps ha (fun z hz => hw' z (List.mem_append_left _ hz))
      obtain ⟨y, h3, h4⟩ := hr H enc w fuel cs ys (by simp only [List.map_cons, List.sum_cons] at hl; omega) hb (fun z hz => hw' z (List.mem_append_right _ hz))
      refine ⟨(x, y), ⟨h1, h3⟩, ?_⟩
      have := h2.append h4
      rw [ho, ← List.drop_drop, List.take_append_drop] at this
      exact this
theorem Reads.struct {fs : Array Field} {α : Type} {f : α → List AV} {ok : α → Prop} (ht : P.underlying t = some (.struct fs)) (hc : P.cellsOf t = (fs.toList.map fun f => P.cellsOf f.type).sum) (h : ReadsFs P 0 fs.toList f ok) : Reads P t f ok := by
  intro H enc w fuel cs d ps hx hw
  cases fuel with
  | zero => simp [DataW.trod] at hx
  | succ n =>
    simp only [DataW.trod, ht] at hx
    split at hx
    · rename_i hl
      cases hm : fs.toList.mapM (fun f => DataW.trod enc P w 0 (fun _ => true) true n f.type ((cs.drop f.offset).take (P.cellsOf f.type))) with
      | none => rw [hm] at hx; simp at hx
      | some xs =>
        rw [hm] at hx
        simp only [Option.map_some, Option.some.injEq, Prod.mk.injEq] at hx
        obtain ⟨rfl, _⟩ := hx
        obtain ⟨x, h1, h2⟩ := h H enc w n cs xs (by omega) hm (fun z hz => hw z (by simp only [DataW.weights, ht]; exact hz))
        exact ⟨x, h1, by simpa using h2⟩
    · simp at hx
/-- An argument that is one cell. -/
theorem Reads.arg {α : Type} {f : α → AV} {ok : α → Prop} (h : Reads P t (fun x => [f x]) ok) (hag : ∀ d, P.underlying t = some d → aggB d = false) {H : Type} {enc : TypeId × Value → H} {w : World} {base : Nat} {v : Value} {d : DataW H} {ps : List MemPlace}
    (hv : Value.okWide P w .any base t v) (hd : DataW.Trod enc P w 0 (fun _ => true) true t v d ps) (hw : ∀ x ∈ d.weights P t, x ≤ reachBytes) : ∃ x, ok x ∧ Rel (memOf w) [] (f x) v := by
  obtain ⟨fuel, hf⟩ := hd
  obtain ⟨x, h1, h2⟩ := h H enc w fuel _ d ps hf hw
  refine ⟨x, h1, ?_⟩
  have hone : v.cells = #[v] := by
    cases hu : P.underlying t with
    | none => simp [Value.okWide, hu, Cell.okWide, Cell.ok] at hv
    | some dd =>
      have := hag dd hu
      cases v <;> first | rfl | (cases dd <;> simp [aggB] at this <;> simp [Value.okWide, hu, Cell.okWide, Cell.ok] at hv)
  rw [hone] at h2
  exact h2.2 0 _ _ rfl rfl
/-- An argument that is a struct. -/
theorem Reads.argS {fs : Array Field} {α : Type} {f : α → List AV} {ok : α → Prop} (h : Reads P t f ok) (hu : P.underlying t = some (.struct fs)) {H : Type} {enc : TypeId × Value → H} {w : World} {base : Nat} {v : Value} {d : DataW H} {ps : List MemPlace}
    (hv : Value.okWide P w .any base t v) (hd : DataW.Trod enc P w 0 (fun _ => true) true t v d ps) (hw : ∀ x ∈ d.weights P t, x ≤ reachBytes) : ∃ x, ok x ∧ Rel (memOf w) [] (.agg (f x)) v := by
  obtain ⟨fuel, hf⟩ := hd
  obtain ⟨x, h1, h2⟩ := h H enc w fuel _ d ps hf hw
  refine ⟨x, h1, ?_⟩
  unfold Value.okWide at hv
  rw [hu] at hv
  obtain ⟨cs, rfl, _, _⟩ := hv
  exact .agg _ cs (by have := h2.1; simpa [Value.cells] using this) (fun j x v e1 e2 => h2.2 j x v e1 (by simpa [Value.cells] using e2))
end
open Go.ChangeShapes Go.WideShapes Go.ChangeAt Go.RowKit
section
variable {P : Program}
/-- What an argument of type t is, abstractly. -/
def RArg (P : Program) (t : TypeId) {α : Type} (f : α → AV) (ok : α → Prop) : Prop :=
  ∀ (H : Type) (enc : TypeId × Value → H) (w : World) (base : Nat) (v : Value) (d : DataW H) (ps : List MemPlace), Value.okWide P w .any base t v → DataW.Trod enc P w 0 (fun _ => true) true t v d ps →
    (∀ x ∈ d.weights P t, x ≤ reachBytes) → ∃ x, ok x ∧ Rel (memOf w) [] (f x) v
theorem RArg.one {t : TypeId} {α : Type} {f : α → AV} {ok : α → Prop} (h : Reads P t (fun x => [f x]) ok) (hag : ∀ d, P.underlying t = some d → aggB d = false) : RArg P t f ok := fun H enc w base v d ps hv hd hw => h.arg hag hv hd hw
theorem RArg.agg {t : TypeId} {α : Type} {f : α → List AV} {ok : α → Prop} {fs : Array Field} (h : Reads P t f ok) (hu : P.underlying t = some (.struct fs)) : RArg P t (fun x => .agg (f x)) ok := fun H enc w base v d ps hv hd hw => h.argS hu hv hd hw
/-- Whatever arguments of these types can be read: their abstract values meet Q. -/
def ReadsAll (P : Program) (ts : List TypeId) (Q : List AV → Prop) : Prop :=
  ∀ (H : Type) (enc : TypeId × Value → H) (w : World) (base : Nat) (vs : List Value) (ds : List (DataW H)) (ps : List MemPlace),
    (∀ (j : Nat) t v, ts[j]? = some t → vs[j]? = some v → Value.okWide P w .any base t v) → DataW.TrodAll enc P w 0 (fun _ => true) true ts vs ds ps → (∀ x ∈ DataW.weightsEach P ts ds, x ≤ reachBytes) →
    ∃ avs, Q avs ∧ vs.length = avs.length ∧ ∀ (j : Nat) x v, avs[j]? = some x → vs[j]? = some v → Rel (memOf w) [] x v
theorem ReadsAll.nil {Q : List AV → Prop} (h : Q []) : ReadsAll P [] Q := by
  intro H enc w base vs ds ps hv ht hw
  obtain ⟨rfl, _, _⟩ := trodAll_nil ht
  exact ⟨[], h, rfl, by simp⟩
theorem ReadsAll.cons {t : TypeId} {ts : List TypeId} {α : Type} {f : α → AV} {ok : α → Prop} {Q : List AV → Prop} (h : RArg P t f ok) (hr : ∀ x, ok x → ReadsAll P ts (fun l => Q (f x :: l))) : ReadsAll P (t :: ts) Q := by
  intro H enc w base vs ds ps hv ht hw
  obtain ⟨v, vs', d, ds', p, q, rfl, rfl, rfl, h1, h2⟩ := trodAll_cons ht
  have hw' : ∀ x ∈ d.weights P t ++ DataW.weightsEach P ts ds', x ≤ reachBytes := by intro x hx; apply hw x; simp only [DataW.weightsEach]; exact hx
  obtain ⟨x, o1, r1⟩ := h H enc w base v d p (hv 0 t v rfl rfl) h1 (fun z hz => hw' z (List.mem_append_left _ hz))
  obtain ⟨avs, q1, q2, q3⟩ := hr x o1 H enc w base vs' ds' q (fun j t v a b => hv (j + 1) t v (by simpa using a) (by simpa using b)) h2 (fun z hz => hw' z (List.mem_append_right _ hz))
  refine ⟨f x :: avs, q1, by simp [q2], ?_⟩
  intro j y u hy hu
  cases j with
  | zero => simp at hy hu; subst hy; subst hu; exact r1
  | succ j => simp at hy hu; exact q3 j y u hy hu
theorem below_of_ext {m m' : Mem} {loc' : List Loc} {w w' : World} (h : Ext 0 m [] w m' loc' w') (hz : ∀ b o, m.wk b o = none) : Below w.heap.size w w' :=
  ⟨h.os, h.tape, h.output, h.size, fun b hb => h.frame b hb (by rintro ⟨i, e | ⟨_, _, _, e, _⟩⟩ <;> simp at e) (hz b)⟩
theorem trodAll_stays {H : Type} {enc : TypeId × Value → H} (hl : laidOutB P = true) {W W' : World} {sp : Nat → Bool} : ∀ {ts : List TypeId} {vs : List Value} {ds : List (DataW H)} {ps : List MemPlace}, (∀ t ∈ ts, P.readableRec t = true ∧ t < P.types.size) →
    DataW.TrodAll enc P W 0 (fun _ => true) true ts vs ds ps → (∀ x ∈ ps, W.sameAt W' x) → (∀ x ∈ ps, sp x.block = true) → DataW.TrodAll enc P W' 0 sp true ts vs ds ps
  | [], vs, ds, ps, hr, h, hs, hp => by
    obtain ⟨rfl, rfl, rfl⟩ := trodAll_nil h
    exact trodAll_mk0
  | t :: ts, vs, ds, ps, hr, h, hs, hp => by
    obtain ⟨v, vs', d, ds', p, q, rfl, rfl, rfl, h1, h2⟩ := trodAll_cons h
    have ht := hr t List.mem_cons_self
    refine ⟨p, q, WideElems.Trod_stays hl ht.1 ht.2 h1 (fun x hx => hs x (List.mem_append_left _ hx)) (fun x hx => hp x (List.mem_append_left _ hx)), ?_, rfl⟩
    exact trodAll_stays hl (fun t ht => hr t (List.mem_cons_of_mem _ ht)) h2 (fun x hx => hs x (List.mem_append_right _ hx)) (fun x hx => hp x (List.mem_append_right _ hx))
/-- The change of a call that leaves what was there. -/
theorem post_same {H : Type} {enc : TypeId × Value → H} {f : Func} {s : ChangeSpec} {apart fresh handsOn again : Bool} {W W' : World} {args : Array Value} {v : Value} {ds gs : List (DataW H)} {before pa pv : List MemPlace}
    (hW : DataW.Whole enc P f.params.toList s.vars apart W args.toList ds gs before)
    (hres : ∀ (b : Nat) (sp : Nat → Bool) (hd : Bool), DataW.TrodAll enc P W' b sp hd f.resultTypes.toList (v.resultList f.resultTypes.size) (s.fn H (ds ++ gs)).results [])
    (hargs : ∀ sp : Nat → Bool, (∀ p ∈ before, sp p.block = true) → DataW.TrodAll enc P W' 0 sp true f.params.toList args.toList (s.fn H (ds ++ gs)).args pa)
    (hvars : ∀ sp : Nat → Bool, (∀ p ∈ before, sp p.block = true) → DataW.TrodVars enc P W' sp s.vars (s.fn H (ds ++ gs)).vars pv)
    (hps : before = pa ++ pv) (hk : W.keptBut W' (· ∈ before)) (hfz : ∀ a : Addr, a.block < W.heap.size → W'.frozen? a = W.frozen? a)
    (hok : ∀ (j : Nat) (t : TypeId) (r : Value), f.resultTypes[j]? = some t → (v.resultList f.resultTypes.size)[j]? = some r → Value.okWide P W' .any 0 t r) :
    s.post enc P f apart fresh handsOn again W args v W' := by
  have hold : ∀ p ∈ before, (fun b => decide (b < W.heap.size)) p.block = true := fun p hp => by simpa using hW.lt p hp
  have hlt := hW.lt
  refine ⟨ds, gs, before, [], pa, pv, hW, hres _ _ _, hargs _ hold, hvars _ hold, World.keptBut_mono (fun p hp => ⟨hp, ?_⟩) hk, fun _ => ?_⟩
  · rw [hps, List.mem_append] at hp
    exact Or.inr hp
  · obtain ⟨_, _, _, _, _, hz, hn⟩ := hW
    refine ⟨hok, _, _, ([] ++ pa) ++ pv, ⟨[] ++ pa, pv, trodAll_append (hargs _ (fun _ _ => rfl)) (hres _ _ _), hvars _ (fun _ _ => rfl), rfl, ?_, ?_⟩, ?_⟩
    · intro b off hp
      have hb : MemPlace.cell b off ∈ before := by rw [hps]; simpa using hp
      rw [hfz _ (hlt _ hb)]
      exact hz b off hb
    · intro ha
      have := hn ha
      rw [hps] at this
      simpa using this
    · intro p hp _
      rw [hps]
      simpa using hp
/-- A law's call: it answers true, and its arguments read as before. -/
theorem law_post {H : Type} {enc : TypeId × Value → H} {f : FuncId} {fn : Func} {s : ChangeSpec} {tb : TypeId} (hf : P.funcs[f]? = some fn) (hb : fn.body.isSome = true) (hn : fn.name ≠ "runtime.NumGoroutine")
    (hs0 : s.vars = []) (hs : ∀ ds : List (DataW H), ds.length = fn.params.size → s.fn H ds = { results := [.lit (.bool true)], args := ds })
    (hl : laidOutB P = true) (hr : ∀ t ∈ fn.params.toList, P.readableRec t = true ∧ t < P.types.size) (hres : fn.resultTypes = #[tb]) (hbool : P.underlying tb = some .bool)
    (hA : ReadsAll P fn.params.toList fun avs => ACalls P f avs [] (isR (.bool true) []))
    {W : World} {base : Nat} {args : Array Value} {ds gs : List (DataW H)} {before : List MemPlace} (hval : ∀ (j : Nat) t v, fn.params[j]? = some t → args[j]? = some v → Value.okWide P W .any base t v)
    (hW : DataW.Whole enc P fn.params.toList s.vars false W args.toList ds gs before)
    (hsz : (DataW.weightsEach P (fn.params.toList ++ s.plain.varTypes P) (ds ++ gs)).all (· ≤ reachBytes) = true) :
    Calls P f args W fun e W' => ∃ v, e = .returned v ∧ s.post enc P fn false true false false W args v W' := by
  have hW' := hW
  obtain ⟨p, q, hT, hV, rfl, hfz, hnd⟩ := hW
  rw [hs0] at hV
  obtain ⟨rfl, rfl⟩ := trodVars_none hV
  have hpl : s.plain.varTypes P = [] := by simp [DataSpec.varTypes, ChangeSpec.plain, hs0]
  rw [hpl, List.append_nil, List.append_nil] at hsz
  obtain ⟨avs, h1, h2, h3⟩ := hA H enc W base args.toList ds p (fun j t v a b => hval j t v (by simpa using a) (by simpa using b)) hT (fun x hx => by simpa using List.all_eq_true.1 hsz x hx)
  refine (h1.calls hf hb hn (srel_memOf W) ⟨by simpa using h2, fun j x v a b => h3 j x v a (by simpa using b)⟩).mono ?_
  rintro e W' ⟨v, rfl, r, σ', m', loc', ⟨rfl, rfl⟩, hrel, hsr, hext⟩
  have hv : v = .bool true := by cases hrel; rfl
  subst hv
  have hbl := below_of_ext hext (fun _ _ => rfl)
  have hlt : ∀ x ∈ p, x.block < W.heap.size := fun x hx => hW'.lt x (by simpa using hx)
  have hlen : ds.length = fn.params.size := by
    have : ∀ (ts : List TypeId) (vs : List Value) (ds : List (DataW H)) (ps : List MemPlace), DataW.TrodAll enc P W 0 (fun _ => true) true ts vs ds ps → ds.length = ts.length := by
      intro ts
      induction ts with
      | nil => intro vs ds ps h; obtain ⟨_, rfl, _⟩ := trodAll_nil h; rfl
      | cons t ts ih => intro vs ds ps h; obtain ⟨v, vs', d, ds', p, q, rfl, rfl, rfl, h1, h2⟩ := trodAll_cons h; simp [ih _ _ _ h2]
    simpa using this _ _ _ _ hT
  have hsp := hs (ds ++ []) (by simpa using hlen)
  refine ⟨_, rfl, post_same (pa := p) (pv := []) hW' ?_ ?_ ?_ rfl (hbl.frame _) (fun a ha => hbl.frozen ha) ?_⟩
  · intro b sp hd
    rw [hsp, hres]
    exact trodAll_mk1 (shut_bool hbool _)
  · intro sp hsp'
    rw [hsp, List.append_nil]
    exact trodAll_stays hl hr hT (fun x hx => hbl.same (hlt x hx)) (fun x hx => hsp' x (by simpa using hx))
  · intro sp hsp'
    rw [hsp, hs0]; exact rfl
  · exact ok_one hres rfl (okWide_bool_mk hbool _)
end
end Go.Ahl
namespace Go.Proofs.YtbnhijapbnfohaaGreat
open Go.Ahl
def c_has : CCode := .seq (.ops [⟨some 4, .move (.lit (.bool false)), none, []⟩]) (.seq (.seq (.ops [⟨some 7, .move (.tmp 0), none, []⟩, ⟨some 8, .blen 1 (.tmp 7), none, []⟩, ⟨some 9, .move (.lit (.int .i64 0)), none, []⟩]) (.block 0 (.loop (.seq (.ops [⟨some 10, .bin .lss .none (.tmp 9) (.tmp 8), none, []⟩]) (.seq (.cond (.tmp 10) .skip (.exit 0)) (.seq (.block 1 (.seq (.ops [⟨some 11, .iaddr 1 (.tmp 7) (.tmp 9), none, []⟩, ⟨some 12, .load none (.tmp 11), none, []⟩, ⟨some 6, .move (.tmp 12), none, []⟩]) (.seq (.ops [⟨some 13, .move (.tmp 6), none, []⟩, ⟨some 14, .move (.tmp 1), none, []⟩, ⟨some 15, .bin .eql .none (.tmp 13) (.tmp 14), none, []⟩]) (.cond (.tmp 15) (.seq (.ops [⟨some 4, .move (.lit (.bool true)), none, []⟩]) .ret) .skip)))) (.ops [⟨some 16, .bin .add .none (.tmp 9) (.lit (.int .i64 1)), none, []⟩, ⟨some 9, .move (.tmp 16), none, []⟩]))))))) (.seq (.ops [⟨some 4, .move (.lit (.bool false)), none, []⟩]) .ret))
set_option maxRecDepth 20000 in
theorem has_spec (s : List Int) (x : Int) (tok : Tok) (σ : Store) (hl : s.length ≤ 140737488355328) :
    ACalls Tryz.prog 24 [.slice tok (s.map Ahl.encI), .int .i64 x] σ (isR (.bool (s.contains x)) σ) := by
  refine ACalls.intro (rs := [(.tmp 4)]) (by kernel_rfl) { own := [], ghosts := [] } Tryz.func24 (c := Tryz.f24.body.getD .skip) (by kernel_rfl) (by decide) (by rw [show Tryz.f24.ntmps = 17 by kernel_rfl]; exact Nat.le_of_ble_eq_true rfl) (by kernel_rfl) ?_
  intro hσ hids
  rw [show comp Tryz.prog { own := [], ghosts := [] } (Tryz.f24.body.getD .skip) = c_has by kernel_rfl, show Tryz.f24.ntmps = 17 by kernel_rfl]
  unfold c_has
  have hil : Ids σ.length (.slice tok (s.map Ahl.encI)) := hids _ (by simp)
  simp only [go_sem, Int.reduceToNat, Int.reduceLE, Int.reduceLT, Nat.reduceBEq, Nat.reduceLT, Nat.reduceAdd, Nat.reduceLeDiff]
  refine wpc_while (fun i => [(1, .int .i64 x), (7, .slice tok (s.map Ahl.encI)), (8, .int .i64 s.length), (9, .int .i64 (i : Nat))]) (fun _ => σ) (fun i => i ≤ s.length ∧ s.contains x = (s.drop i).contains x) (fun i => s.length - i) 0 ⟨Nat.zero_le _, rfl⟩ (by (try dsimp only); first | exact ghk | exact ghk0) ?_
  rintro i ⟨hi, hv⟩ K hK hE hR
  by_cases h : i < s.length
  · obtain ⟨y, hx⟩ := get_ex h
    have hlt : ((i : Int) < (s.length : Int)) := by omega
    have hw : IntKind.i64.wrap ((i : Int) + 1) = ((i + 1 : Nat) : Int) := by rw [wrap_ok (by omega)]; omega
    rw [drop_cons hx, List.contains_cons] at hv
    by_cases h1 : y = x
    · subst h1
      simp only [go_sem, Int.reduceToNat, Int.reduceLE, Int.reduceLT, Nat.reduceBEq, Nat.reduceLT, Nat.reduceAdd, Nat.reduceLeDiff, hlt, hx, Ahl.encI, beq_self_eq_true]
      rw [hR]
      first | exact rtk (.bool true) ⟨by rw [hv]; simp, rfl⟩ | exact rtk0 (.bool true) ⟨by rw [hv]; simp, rfl⟩
    · have h1' : (y == x) = false := by simpa using h1
      have h1'' : (x == y) = false := by simpa using Ne.symm h1
      simp only [go_sem, Int.reduceToNat, Int.reduceLE, Int.reduceLT, Nat.reduceBEq, Nat.reduceLT, Nat.reduceAdd, Nat.reduceLeDiff, hlt, hx, Ahl.encI, h1']
      rw [h1'', Bool.false_or] at hv
      refine hK _ _ (i + 1) (⟨by omega, hv⟩) (by first | omega | (simp only []; omega) | (simp; omega)) ?_; (try dsimp only); (try simp only [ hw]); first | exact ghk | exact ghk0
  · have hlt : ¬ ((i : Int) < (s.length : Int)) := by omega
    rw [drop_len h] at hv
    simp only [go_sem, Int.reduceToNat, Int.reduceLE, Int.reduceLT, Nat.reduceBEq, Nat.reduceLT, Nat.reduceAdd, Nat.reduceLeDiff, hlt, hE]
    first | exact rtk (.bool false) ⟨by rw [hv]; rfl, rfl⟩ | exact rtk0 (.bool false) ⟨by rw [hv]; rfl, rfl⟩
def condHolds (s : List Int) (l : List FLit) : Bool := l.all fun x => s.contains x.fact != x.neg
/-- Rising numbers behind p, below n. -/
def risingB (n : Int) : Int → List Int → Bool
  | _, [] => true
  | p, x :: l => decide (p < x) && decide (x < n) && risingB n x l
def prevI (s : List Int) (i : Nat) (p : Int) : Prop := -1 ≤ p ∧ (i = 0 → p = -1) ∧ (0 < i → s[i - 1]? = some p)
def c_rising : CCode := .seq (.ops [⟨some 4, .move (.lit (.bool false)), none, []⟩]) (.seq (.seq (.ops [⟨some 7, .move (.tmp 1), none, []⟩, ⟨some 8, .blen 1 (.tmp 7), none, []⟩, ⟨some 9, .move (.lit (.int .i64 0)), none, []⟩]) (.block 0 (.loop (.seq (.ops [⟨some 10, .bin .lss .none (.tmp 9) (.tmp 8), none, []⟩]) (.seq (.cond (.tmp 10) .skip (.exit 0)) (.seq (.block 1 (.seq (.ops [⟨some 11, .move (.tmp 9), none, []⟩, ⟨some 12, .iaddr 1 (.tmp 7) (.tmp 9), none, []⟩, ⟨some 13, .load none (.tmp 12), none, []⟩, ⟨some 5, .move (.tmp 11), none, []⟩, ⟨some 6, .move (.tmp 13), none, []⟩]) (.seq (.ops [⟨some 14, .move (.tmp 6), none, []⟩, ⟨some 15, .bin .lss .none (.tmp 14) (.lit (.int .i64 0)), none, []⟩, ⟨some 16, .move (.tmp 15), none, []⟩, ⟨some 17, .move (.tmp 6), some (some 16, false), []⟩, ⟨some 18, .move (.tmp 0), some (some 16, false), []⟩, ⟨some 19, .bin .geq .none (.tmp 17) (.tmp 18), some (some 16, false), []⟩, ⟨some 20, .pick (.tmp 16) (.lit (.bool true)) (.tmp 19), none, []⟩, ⟨some 21, .move (.tmp 20), none, []⟩, ⟨some 22, .move (.tmp 5), some (some 21, false), []⟩, ⟨some 23, .bin .gtr .none (.tmp 22) (.lit (.int .i64 0)), some (some 21, false), []⟩, ⟨some 24, .move (.tmp 23), some (some 21, false), []⟩, ⟨some 25, .move (.tmp 1), some (some 24, true), []⟩, ⟨some 26, .move (.tmp 5), some (some 24, true), []⟩, ⟨some 27, .bin .sub .none (.tmp 26) (.lit (.int .i64 1)), some (some 24, true), []⟩, ⟨some 28, .iaddr 1 (.tmp 25) (.tmp 27), some (some 24, true), []⟩, ⟨some 29, .load none (.tmp 28), some (some 24, true), []⟩, ⟨some 30, .move (.tmp 6), some (some 24, true), []⟩, ⟨some 31, .bin .geq .none (.tmp 29) (.tmp 30), some (some 24, true), []⟩, ⟨some 32, .pick (.tmp 24) (.tmp 31) (.lit (.bool false)), some (some 21, false), []⟩, ⟨some 33, .pick (.tmp 21) (.lit (.bool true)) (.tmp 32), none, []⟩]) (.cond (.tmp 33) (.seq (.ops [⟨some 4, .move (.lit (.bool false)), none, []⟩]) .ret) .skip)))) (.ops [⟨some 34, .bin .add .none (.tmp 9) (.lit (.int .i64 1)), none, []⟩, ⟨some 9, .move (.tmp 34), none, []⟩]))))))) (.seq (.ops [⟨some 4, .move (.lit (.bool true)), none, []⟩]) .ret))
set_option maxRecDepth 20000 in
theorem rising_spec (s : List Int) (n : Int) (tok : Tok) (σ : Store) (hs : s.length ≤ 140737488355328) :
    ACalls Tryz.prog 48 [.int .i64 n, .slice tok (s.map Ahl.encI)] σ (isR (.bool (risingB n (-1) s)) σ) := by
  refine ACalls.intro (rs := [(.tmp 4)]) (by kernel_rfl) { own := [], ghosts := [] } Tryz.func48 (c := Tryz.f48.body.getD .skip) (by kernel_rfl) (by decide) (by rw [show Tryz.f48.ntmps = 35 by kernel_rfl]; exact Nat.le_of_ble_eq_true rfl) (by kernel_rfl) ?_
  intro hσ hids
  rw [show comp Tryz.prog { own := [], ghosts := [] } (Tryz.f48.body.getD .skip) = c_rising by kernel_rfl, show Tryz.f48.ntmps = 35 by kernel_rfl]
  unfold c_rising
  have hil : Ids σ.length (.slice tok (s.map Ahl.encI)) := hids _ (by simp)
  simp only [go_sem, Int.reduceToNat, Int.reduceLE, Int.reduceLT, Nat.reduceBEq, Nat.reduceLT, Nat.reduceAdd, Nat.reduceLeDiff]
  refine wpc_while (fun (q : Nat × Int) => [(0, .int .i64 n), (1, .slice tok (s.map Ahl.encI)), (7, .slice tok (s.map Ahl.encI)), (8, .int .i64 s.length), (9, .int .i64 q.1)]) (fun _ => σ) (fun q => q.1 ≤ s.length ∧ prevI s q.1 q.2 ∧ risingB n (-1) s = risingB n q.2 (s.drop q.1)) (fun q => s.length - q.1) (0, -1) ⟨Nat.zero_le _, ⟨by omega, by simp, by simp⟩, rfl⟩ (by (try dsimp only); first | exact ghk | exact ghk0) ?_
  rintro ⟨i, p⟩ ⟨hi, ⟨hp1, hp2, hp3⟩, hv⟩ K hK hE hR
  dsimp only at hi hp1 hp2 hp3 hv ⊢
  by_cases h : i < s.length
  · obtain ⟨y, hx⟩ := get_ex h
    have hlt : ((i : Int) < (s.length : Int)) := by omega
    have hw : IntKind.i64.wrap ((i : Int) + 1) = ((i + 1 : Nat) : Int) := by rw [wrap_ok (by omega)]; omega
    rw [drop_cons hx, risingB] at hv
    by_cases h1 : y < 0
    · simp only [go_sem, Int.reduceToNat, Int.reduceLE, Int.reduceLT, Nat.reduceBEq, Nat.reduceLT, Nat.reduceAdd, Nat.reduceLeDiff, hlt, hx, Ahl.encI, h1]
      rw [hR]
      first | exact rtk (.bool false) ⟨by rw [hv]; simp; omega, rfl⟩ | exact rtk0 (.bool false) ⟨by rw [hv]; simp; omega, rfl⟩
    by_cases h2 : y ≥ n
    · simp only [go_sem, Int.reduceToNat, Int.reduceLE, Int.reduceLT, Nat.reduceBEq, Nat.reduceLT, Nat.reduceAdd, Nat.reduceLeDiff, hlt, hx, Ahl.encI, h1, h2]
      rw [hR]
      first | exact rtk (.bool false) ⟨by rw [hv]; simp; omega, rfl⟩ | exact rtk0 (.bool false) ⟨by rw [hv]; simp; omega, rfl⟩
    by_cases h3 : (i : Int) > 0
    · have hw1 : IntKind.i64.wrap ((i : Int) - 1) = ((i - 1 : Nat) : Int) := by rw [wrap_ok (by omega)]; omega
      have hy := hp3 (by omega)
      by_cases h4 : p ≥ y
      · simp only [go_sem, Int.reduceToNat, Int.reduceLE, Int.reduceLT, Nat.reduceBEq, Nat.reduceLT, Nat.reduceAdd, Nat.reduceLeDiff, hlt, hx, Ahl.encI, h1, h2, h3, hw1, hy, h4]
        rw [hR]
        first | exact rtk (.bool false) ⟨by rw [hv]; simp; omega, rfl⟩ | exact rtk0 (.bool false) ⟨by rw [hv]; simp; omega, rfl⟩
      · simp only [go_sem, Int.reduceToNat, Int.reduceLE, Int.reduceLT, Nat.reduceBEq, Nat.reduceLT, Nat.reduceAdd, Nat.reduceLeDiff, hlt, hx, Ahl.encI, h1, h2, h3, hw1, hy, h4]
        have h5 : decide (p < y) = true := by simpa using h4
        have h6 : decide (y < n) = true := by simpa using h2
        rw [h5, h6, Bool.true_and, Bool.true_and] at hv
        refine hK _ _ ((i + 1, y)) (⟨by simp only []; omega, ⟨by simp only []; omega, by simp, fun _ => hx⟩, hv⟩) (by first | omega | (simp only []; omega) | (simp; omega)) ?_; (try dsimp only); (try simp only [ hw]); first | exact ghk | exact ghk0
    · have h5 : decide (p < y) = true := by have := hp2 (by omega); simp; omega
      have h6 : decide (y < n) = true := by simpa using h2
      rw [h5, h6, Bool.true_and, Bool.true_and] at hv
      simp only [go_sem, Int.reduceToNat, Int.reduceLE, Int.reduceLT, Nat.reduceBEq, Nat.reduceLT, Nat.reduceAdd, Nat.reduceLeDiff, hlt, hx, Ahl.encI, h1, h2, h3]
      refine hK _ _ ((i + 1, y)) (⟨by simp only []; omega, ⟨by simp only []; omega, by simp, fun _ => hx⟩, hv⟩) (by first | omega | (simp only []; omega) | (simp; omega)) ?_; (try dsimp only); (try simp only [ hw]); first | exact ghk | exact ghk0
  · have hlt : ¬ ((i : Int) < (s.length : Int)) := by omega
    rw [drop_len h] at hv
    simp only [go_sem, Int.reduceToNat, Int.reduceLE, Int.reduceLT, Nat.reduceBEq, Nat.reduceLT, Nat.reduceAdd, Nat.reduceLeDiff, hlt, hE]
    first | exact rtk (.bool true) ⟨by rw [hv]; rfl, rfl⟩ | exact rtk0 (.bool true) ⟨by rw [hv]; rfl, rfl⟩
def c_rising01 : CCode := .seq (.ops [⟨some 4, .move (.lit (.bool false)), none, []⟩]) (.seq (.seq (.ops [⟨some 7, .move (.tmp 0), none, []⟩, ⟨some 8, .blen 1 (.tmp 7), none, []⟩, ⟨some 9, .move (.lit (.int .i64 0)), none, []⟩]) (.block 0 (.loop (.seq (.ops [⟨some 10, .bin .lss .none (.tmp 9) (.tmp 8), none, []⟩]) (.seq (.cond (.tmp 10) .skip (.exit 0)) (.seq (.block 1 (.seq (.ops [⟨some 11, .move (.tmp 9), none, []⟩, ⟨some 12, .iaddr 1 (.tmp 7) (.tmp 9), none, []⟩, ⟨some 13, .load none (.tmp 12), none, []⟩, ⟨some 5, .move (.tmp 11), none, []⟩, ⟨some 6, .move (.tmp 13), none, []⟩]) (.seq (.ops [⟨some 14, .move (.tmp 6), none, []⟩, ⟨some 15, .bin .lss .none (.tmp 14) (.lit (.int .i64 0)), none, []⟩, ⟨some 16, .move (.tmp 15), none, []⟩, ⟨some 17, .move (.tmp 6), some (some 16, false), []⟩, ⟨some 18, .move (.tmp 1), some (some 16, false), []⟩, ⟨some 19, .bin .geq .none (.tmp 17) (.tmp 18), some (some 16, false), []⟩, ⟨some 20, .pick (.tmp 16) (.lit (.bool true)) (.tmp 19), none, []⟩, ⟨some 21, .move (.tmp 20), none, []⟩, ⟨some 22, .move (.tmp 5), some (some 21, false), []⟩, ⟨some 23, .bin .gtr .none (.tmp 22) (.lit (.int .i64 0)), some (some 21, false), []⟩, ⟨some 24, .move (.tmp 23), some (some 21, false), []⟩, ⟨some 25, .move (.tmp 0), some (some 24, true), []⟩, ⟨some 26, .move (.tmp 5), some (some 24, true), []⟩, ⟨some 27, .bin .sub .none (.tmp 26) (.lit (.int .i64 1)), some (some 24, true), []⟩, ⟨some 28, .iaddr 1 (.tmp 25) (.tmp 27), some (some 24, true), []⟩, ⟨some 29, .load none (.tmp 28), some (some 24, true), []⟩, ⟨some 30, .move (.tmp 6), some (some 24, true), []⟩, ⟨some 31, .bin .geq .none (.tmp 29) (.tmp 30), some (some 24, true), []⟩, ⟨some 32, .pick (.tmp 24) (.tmp 31) (.lit (.bool false)), some (some 21, false), []⟩, ⟨some 33, .pick (.tmp 21) (.lit (.bool true)) (.tmp 32), none, []⟩]) (.cond (.tmp 33) (.seq (.ops [⟨some 4, .move (.lit (.bool false)), none, []⟩]) .ret) .skip)))) (.ops [⟨some 34, .bin .add .none (.tmp 9) (.lit (.int .i64 1)), none, []⟩, ⟨some 9, .move (.tmp 34), none, []⟩]))))))) (.seq (.ops [⟨some 4, .move (.lit (.bool true)), none, []⟩]) .ret))
set_option maxRecDepth 20000 in
theorem rising01_spec (s : List Int) (n : Int) (tok : Tok) (σ : Store) (hs : s.length ≤ 140737488355328) :
    ACalls Tryz.prog 37 [.slice tok (s.map Ahl.encI), .int .i64 n] σ (isR (.bool (risingB n (-1) s)) σ) := by
  refine ACalls.intro (rs := [(.tmp 4)]) (by kernel_rfl) { own := [], ghosts := [] } Tryz.func37 (c := Tryz.f37.body.getD .skip) (by kernel_rfl) (by decide) (by rw [show Tryz.f37.ntmps = 35 by kernel_rfl]; exact Nat.le_of_ble_eq_true rfl) (by kernel_rfl) ?_
  intro hσ hids
  rw [show comp Tryz.prog { own := [], ghosts := [] } (Tryz.f37.body.getD .skip) = c_rising01 by kernel_rfl, show Tryz.f37.ntmps = 35 by kernel_rfl]
  unfold c_rising01
  have hil : Ids σ.length (.slice tok (s.map Ahl.encI)) := hids _ (by simp)
  simp only [go_sem, Int.reduceToNat, Int.reduceLE, Int.reduceLT, Nat.reduceBEq, Nat.reduceLT, Nat.reduceAdd, Nat.reduceLeDiff]
  refine wpc_while (fun (q : Nat × Int) => [(1, .int .i64 n), (0, .slice tok (s.map Ahl.encI)), (7, .slice tok (s.map Ahl.encI)), (8, .int .i64 s.length), (9, .int .i64 q.1)]) (fun _ => σ) (fun q => q.1 ≤ s.length ∧ prevI s q.1 q.2 ∧ risingB n (-1) s = risingB n q.2 (s.drop q.1)) (fun q => s.length - q.1) (0, -1) ⟨Nat.zero_le _, ⟨by omega, by simp, by simp⟩, rfl⟩ (by (try dsimp only); first | exact ghk | exact ghk0) ?_
  rintro ⟨i, p⟩ ⟨hi, ⟨hp1, hp2, hp3⟩, hv⟩ K hK hE hR
  dsimp only at hi hp1 hp2 hp3 hv ⊢
  by_cases h : i < s.length
  · obtain ⟨y, hx⟩ := get_ex h
    have hlt : ((i : Int) < (s.length : Int)) := by omega
    have hw : IntKind.i64.wrap ((i : Int) + 1) = ((i + 1 : Nat) : Int) := by rw [wrap_ok (by omega)]; omega
    rw [drop_cons hx, risingB] at hv
    by_cases h1 : y < 0
    · simp only [go_sem, Int.reduceToNat, Int.reduceLE, Int.reduceLT, Nat.reduceBEq, Nat.reduceLT, Nat.reduceAdd, Nat.reduceLeDiff, hlt, hx, Ahl.encI, h1]
      rw [hR]
      first | exact rtk (.bool false) ⟨by rw [hv]; simp; omega, rfl⟩ | exact rtk0 (.bool false) ⟨by rw [hv]; simp; omega, rfl⟩
    by_cases h2 : y ≥ n
    · simp only [go_sem, Int.reduceToNat, Int.reduceLE, Int.reduceLT, Nat.reduceBEq, Nat.reduceLT, Nat.reduceAdd, Nat.reduceLeDiff, hlt, hx, Ahl.encI, h1, h2]
      rw [hR]
      first | exact rtk (.bool false) ⟨by rw [hv]; simp; omega, rfl⟩ | exact rtk0 (.bool false) ⟨by rw [hv]; simp; omega, rfl⟩
    by_cases h3 : (i : Int) > 0
    · have hw1 : IntKind.i64.wrap ((i : Int) - 1) = ((i - 1 : Nat) : Int) := by rw [wrap_ok (by omega)]; omega
      have hy := hp3 (by omega)
      by_cases h4 : p ≥ y
      · simp only [go_sem, Int.reduceToNat, Int.reduceLE, Int.reduceLT, Nat.reduceBEq, Nat.reduceLT, Nat.reduceAdd, Nat.reduceLeDiff, hlt, hx, Ahl.encI, h1, h2, h3, hw1, hy, h4]
        rw [hR]
        first | exact rtk (.bool false) ⟨by rw [hv]; simp; omega, rfl⟩ | exact rtk0 (.bool false) ⟨by rw [hv]; simp; omega, rfl⟩
      · simp only [go_sem, Int.reduceToNat, Int.reduceLE, Int.reduceLT, Nat.reduceBEq, Nat.reduceLT, Nat.reduceAdd, Nat.reduceLeDiff, hlt, hx, Ahl.encI, h1, h2, h3, hw1, hy, h4]
        have h5 : decide (p < y) = true := by simpa using h4
        have h6 : decide (y < n) = true := by simpa using h2
        rw [h5, h6, Bool.true_and, Bool.true_and] at hv
        refine hK _ _ ((i + 1, y)) (⟨by simp only []; omega, ⟨by simp only []; omega, by simp, fun _ => hx⟩, hv⟩) (by first | omega | (simp only []; omega) | (simp; omega)) ?_; (try dsimp only); (try simp only [ hw]); first | exact ghk | exact ghk0
    · have h5 : decide (p < y) = true := by have := hp2 (by omega); simp; omega
      have h6 : decide (y < n) = true := by simpa using h2
      rw [h5, h6, Bool.true_and, Bool.true_and] at hv
      simp only [go_sem, Int.reduceToNat, Int.reduceLE, Int.reduceLT, Nat.reduceBEq, Nat.reduceLT, Nat.reduceAdd, Nat.reduceLeDiff, hlt, hx, Ahl.encI, h1, h2, h3]
      refine hK _ _ ((i + 1, y)) (⟨by simp only []; omega, ⟨by simp only []; omega, by simp, fun _ => hx⟩, hv⟩) (by first | omega | (simp only []; omega) | (simp; omega)) ?_; (try dsimp only); (try simp only [ hw]); first | exact ghk | exact ghk0
  · have hlt : ¬ ((i : Int) < (s.length : Int)) := by omega
    rw [drop_len h] at hv
    simp only [go_sem, Int.reduceToNat, Int.reduceLE, Int.reduceLT, Nat.reduceBEq, Nat.reduceLT, Nat.reduceAdd, Nat.reduceLeDiff, hlt, hE]
    first | exact rtk (.bool true) ⟨by rw [hv]; rfl, rfl⟩ | exact rtk0 (.bool true) ⟨by rw [hv]; rfl, rfl⟩
/-- A condition of facts behind p, below n. -/
def condB (n : Int) : Int → List FLit → Bool
  | _, [] => true
  | p, x :: l => decide (p < x.fact) && decide (x.fact < n) && condB n x.fact l
def prevC (s : List FLit) (i : Nat) (p : Int) : Prop := -1 ≤ p ∧ (i = 0 → p = -1) ∧ (0 < i → ∃ b, s[i - 1]? = some ⟨p, b⟩)
def d_cond_0 : List COp := [⟨some 14, .faddr 0 (.tmp 6), none, []⟩, ⟨some 15, .load none (.tmp 14), none, [0]⟩, ⟨some 16, .bin .lss .none (.tmp 15) (.lit (.int .i64 0)), none, [1]⟩, ⟨some 17, .move (.tmp 16), none, [2]⟩, ⟨some 18, .faddr 0 (.tmp 6), some (some 17, false), [3]⟩, ⟨some 19, .load none (.tmp 18), some (some 17, false), [4, 3]⟩, ⟨some 20, .move (.tmp 0), some (some 17, false), [3]⟩, ⟨some 21, .bin .geq .none (.tmp 19) (.tmp 20), some (some 17, false), [5, 6, 3]⟩, ⟨some 22, .pick (.tmp 17) (.lit (.bool true)) (.tmp 21), none, [3, 7]⟩, ⟨some 23, .move (.tmp 22), none, [8, 3]⟩, ⟨some 24, .move (.tmp 5), some (some 23, false), [9]⟩, ⟨some 25, .bin .gtr .none (.tmp 24) (.lit (.int .i64 0)), some (some 23, false), [10, 9]⟩, ⟨some 26, .move (.tmp 25), some (some 23, false), [11, 9, 9]⟩, ⟨some 27, .move (.tmp 1), some (some 26, true), [12]⟩, ⟨some 28, .move (.tmp 5), some (some 26, true), [12]⟩, ⟨some 29, .bin .sub .none (.tmp 28) (.lit (.int .i64 1)), some (some 26, true), [14, 12]⟩, ⟨some 30, .iaddr 2 (.tmp 27) (.tmp 29), some (some 26, true), [13, 15, 12]⟩, ⟨some 31, .faddr 0 (.tmp 30), some (some 26, true), [16, 12]⟩, ⟨some 32, .load none (.tmp 31), some (some 26, true), [17, 12]⟩, ⟨some 33, .faddr 0 (.tmp 6), some (some 26, true), [12]⟩, ⟨some 34, .load none (.tmp 33), some (some 26, true), [19, 12]⟩, ⟨some 35, .bin .geq .none (.tmp 32) (.tmp 34), some (some 26, true), [18, 20, 12]⟩, ⟨some 36, .pick (.tmp 26) (.tmp 35) (.lit (.bool false)), some (some 23, false), [12, 21, 9]⟩, ⟨some 37, .pick (.tmp 23) (.lit (.bool true)) (.tmp 36), none, [9, 22]⟩]
theorem dr_cond_0 (P : Program) (nt n0 : Nat) (Q : Post) (s : Slots) (σ : Store) : wpc P nt n0 (.draw d_cond_0) Q s σ = aOpsD P nt [⟨some 14, .faddr 0 (.tmp 6), none, []⟩, ⟨some 15, .load none (.tmp 14), none, [0]⟩, ⟨some 16, .bin .lss .none (.tmp 15) (.lit (.int .i64 0)), none, [1]⟩, ⟨some 17, .move (.tmp 16), none, [2]⟩, ⟨some 18, .faddr 0 (.tmp 6), some (some 17, false), [3]⟩, ⟨some 19, .load none (.tmp 18), some (some 17, false), [4, 3]⟩, ⟨some 20, .move (.tmp 0), some (some 17, false), [3]⟩, ⟨some 21, .bin .geq .none (.tmp 19) (.tmp 20), some (some 17, false), [5, 6, 3]⟩, ⟨some 22, .pick (.tmp 17) (.lit (.bool true)) (.tmp 21), none, [3, 7]⟩, ⟨some 23, .move (.tmp 22), none, [8, 3]⟩, ⟨some 24, .move (.tmp 5), some (some 23, false), [9]⟩, ⟨some 25, .bin .gtr .none (.tmp 24) (.lit (.int .i64 0)), some (some 23, false), [10, 9]⟩, ⟨some 26, .move (.tmp 25), some (some 23, false), [11, 9, 9]⟩, ⟨some 27, .move (.tmp 1), some (some 26, true), [12]⟩, ⟨some 28, .move (.tmp 5), some (some 26, true), [12]⟩, ⟨some 29, .bin .sub .none (.tmp 28) (.lit (.int .i64 1)), some (some 26, true), [14, 12]⟩, ⟨some 30, .iaddr 2 (.tmp 27) (.tmp 29), some (some 26, true), [13, 15, 12]⟩, ⟨some 31, .faddr 0 (.tmp 30), some (some 26, true), [16, 12]⟩, ⟨some 32, .load none (.tmp 31), some (some 26, true), [17, 12]⟩, ⟨some 33, .faddr 0 (.tmp 6), some (some 26, true), [12]⟩, ⟨some 34, .load none (.tmp 33), some (some 26, true), [19, 12]⟩, ⟨some 35, .bin .geq .none (.tmp 32) (.tmp 34), some (some 26, true), [18, 20, 12]⟩, ⟨some 36, .pick (.tmp 26) (.tmp 35) (.lit (.bool false)), some (some 23, false), [12, 21, 9]⟩, ⟨some 37, .pick (.tmp 23) (.lit (.bool true)) (.tmp 36), none, [9, 22]⟩] (Q .normal) s σ := wpc_draw _ (by decide)
def c_cond : CCode := .seq (.ops [⟨some 4, .move (.lit (.bool false)), none, []⟩]) (.seq (.seq (.ops [⟨some 7, .move (.tmp 1), none, []⟩, ⟨some 8, .blen 1 (.tmp 7), none, []⟩, ⟨some 9, .move (.lit (.int .i64 0)), none, []⟩]) (.block 0 (.loop (.seq (.ops [⟨some 10, .bin .lss .none (.tmp 9) (.tmp 8), none, []⟩]) (.seq (.cond (.tmp 10) .skip (.exit 0)) (.seq (.block 1 (.seq (.ops [⟨some 11, .move (.tmp 9), none, []⟩, ⟨some 12, .iaddr 2 (.tmp 7) (.tmp 9), none, []⟩, ⟨some 13, .load (some 2) (.tmp 12), none, []⟩, ⟨some 6, .alloc (.agg [.int .i64 0, .bool false]), none, []⟩, ⟨some 5, .move (.tmp 11), none, []⟩, ⟨none, .store 2 (.tmp 6) (.tmp 13), none, []⟩]) (.seq (.draw d_cond_0) (.cond (.tmp 37) (.seq (.ops [⟨some 4, .move (.lit (.bool false)), none, []⟩]) .ret) .skip)))) (.ops [⟨some 38, .bin .add .none (.tmp 9) (.lit (.int .i64 1)), none, []⟩, ⟨some 9, .move (.tmp 38), none, []⟩]))))))) (.seq (.ops [⟨some 4, .move (.lit (.bool true)), none, []⟩]) .ret))
set_option maxRecDepth 20000 in
theorem cond_spec (s : List FLit) (n : Int) (tok : Tok) (σ : Store) (hs : s.length ≤ 140737488355328) :
    ACalls Tryz.prog 51 [.int .i64 n, .slice tok (s.map encLit)] σ (isR (.bool (condB n (-1) s)) σ) := by
  refine ACalls.intro (rs := [(.tmp 4)]) (by kernel_rfl) { own := [], ghosts := [] } Tryz.func51 (c := Tryz.f51.body.getD .skip) (by kernel_rfl) (by decide) (by rw [show Tryz.f51.ntmps = 39 by kernel_rfl]; exact Nat.le_of_ble_eq_true rfl) (by kernel_rfl) ?_
  intro hσ hids
  rw [show comp Tryz.prog { own := [], ghosts := [] } (Tryz.f51.body.getD .skip) = c_cond by kernel_rfl, show Tryz.f51.ntmps = 39 by kernel_rfl]
  unfold c_cond
  have hil : Ids σ.length (.slice tok (s.map encLit)) := hids _ (by simp)
  simp only [go_sem, Int.reduceToNat, Int.reduceLE, Int.reduceLT, Nat.reduceBEq, Nat.reduceLT, Nat.reduceAdd, Nat.reduceLeDiff, dr_cond_0]
  refine wpc_while (fun (q : Nat × Int) => [(0, .int .i64 n), (1, .slice tok (s.map encLit)), (7, .slice tok (s.map encLit)), (8, .int .i64 s.length), (9, .int .i64 q.1)]) (fun _ => σ) (fun q => q.1 ≤ s.length ∧ prevC s q.1 q.2 ∧ condB n (-1) s = condB n q.2 (s.drop q.1)) (fun q => s.length - q.1) (0, -1) ⟨Nat.zero_le _, ⟨by omega, by simp, by simp⟩, rfl⟩ (by (try dsimp only); first | exact ghk | exact ghk0) ?_
  rintro ⟨i, p⟩ ⟨hi, ⟨hp1, hp2, hp3⟩, hv⟩ K hK hE hR
  dsimp only at hi hp1 hp2 hp3 hv ⊢
  by_cases h : i < s.length
  · obtain ⟨⟨y, nb⟩, hx⟩ := get_ex h
    have hlt : ((i : Int) < (s.length : Int)) := by omega
    have hw : IntKind.i64.wrap ((i : Int) + 1) = ((i + 1 : Nat) : Int) := by rw [wrap_ok (by omega)]; omega
    rw [drop_cons hx, condB] at hv
    dsimp only at hv
    by_cases h1 : y < 0
    · simp only [go_sem, Int.reduceToNat, Int.reduceLE, Int.reduceLT, Nat.reduceBEq, Nat.reduceLT, Nat.reduceAdd, Nat.reduceLeDiff, dr_cond_0, hlt, hx, encLit, h1]
      rw [hR]
      first | exact rtk (.bool false) ⟨by rw [hv]; simp; omega, rfl⟩ | exact rtk0 (.bool false) ⟨by rw [hv]; simp; omega, rfl⟩
    by_cases h2 : y ≥ n
    · simp only [go_sem, Int.reduceToNat, Int.reduceLE, Int.reduceLT, Nat.reduceBEq, Nat.reduceLT, Nat.reduceAdd, Nat.reduceLeDiff, dr_cond_0, hlt, hx, encLit, h1, h2]
      rw [hR]
      first | exact rtk (.bool false) ⟨by rw [hv]; simp; omega, rfl⟩ | exact rtk0 (.bool false) ⟨by rw [hv]; simp; omega, rfl⟩
    by_cases h3 : (i : Int) > 0
    · have hw1 : IntKind.i64.wrap ((i : Int) - 1) = ((i - 1 : Nat) : Int) := by rw [wrap_ok (by omega)]; omega
      obtain ⟨pb, hy⟩ := hp3 (by omega)
      by_cases h4 : p ≥ y
      · simp only [go_sem, Int.reduceToNat, Int.reduceLE, Int.reduceLT, Nat.reduceBEq, Nat.reduceLT, Nat.reduceAdd, Nat.reduceLeDiff, dr_cond_0, hlt, hx, encLit, h1, h2, h3, hw1, hy, h4]
        rw [hR]
        first | exact rtk (.bool false) ⟨by rw [hv]; simp; omega, rfl⟩ | exact rtk0 (.bool false) ⟨by rw [hv]; simp; omega, rfl⟩
      · simp only [go_sem, Int.reduceToNat, Int.reduceLE, Int.reduceLT, Nat.reduceBEq, Nat.reduceLT, Nat.reduceAdd, Nat.reduceLeDiff, dr_cond_0, hlt, hx, encLit, h1, h2, h3, hw1, hy, h4]
        have h5 : decide (p < y) = true := by simpa using h4
        have h6 : decide (y < n) = true := by simpa using h2
        rw [h5, h6, Bool.true_and, Bool.true_and] at hv
        refine hK _ _ ((i + 1, y)) (⟨by simp only []; omega, ⟨by simp only []; omega, by simp, fun _ => ⟨nb, hx⟩⟩, hv⟩) (by first | omega | (simp only []; omega) | (simp; omega)) ?_; (try dsimp only); (try simp only [ hw]); first | exact ghk | exact ghk0
    · have h5 : decide (p < y) = true := by have := hp2 (by omega); simp; omega
      have h6 : decide (y < n) = true := by simpa using h2
      rw [h5, h6, Bool.true_and, Bool.true_and] at hv
      simp only [go_sem, Int.reduceToNat, Int.reduceLE, Int.reduceLT, Nat.reduceBEq, Nat.reduceLT, Nat.reduceAdd, Nat.reduceLeDiff, dr_cond_0, hlt, hx, encLit, h1, h2, h3]
      refine hK _ _ ((i + 1, y)) (⟨by simp only []; omega, ⟨by simp only []; omega, by simp, fun _ => ⟨nb, hx⟩⟩, hv⟩) (by first | omega | (simp only []; omega) | (simp; omega)) ?_; (try dsimp only); (try simp only [ hw]); first | exact ghk | exact ghk0
  · have hlt : ¬ ((i : Int) < (s.length : Int)) := by omega
    rw [drop_len h] at hv
    simp only [go_sem, Int.reduceToNat, Int.reduceLE, Int.reduceLT, Nat.reduceBEq, Nat.reduceLT, Nat.reduceAdd, Nat.reduceLeDiff, dr_cond_0, hlt, hE]
    first | exact rtk (.bool true) ⟨by rw [hv]; rfl, rfl⟩ | exact rtk0 (.bool true) ⟨by rw [hv]; rfl, rfl⟩
def d_cond01_0 : List COp := [⟨some 14, .faddr 0 (.tmp 6), none, []⟩, ⟨some 15, .load none (.tmp 14), none, [0]⟩, ⟨some 16, .bin .lss .none (.tmp 15) (.lit (.int .i64 0)), none, [1]⟩, ⟨some 17, .move (.tmp 16), none, [2]⟩, ⟨some 18, .faddr 0 (.tmp 6), some (some 17, false), [3]⟩, ⟨some 19, .load none (.tmp 18), some (some 17, false), [4, 3]⟩, ⟨some 20, .move (.tmp 1), some (some 17, false), [3]⟩, ⟨some 21, .bin .geq .none (.tmp 19) (.tmp 20), some (some 17, false), [5, 6, 3]⟩, ⟨some 22, .pick (.tmp 17) (.lit (.bool true)) (.tmp 21), none, [3, 7]⟩, ⟨some 23, .move (.tmp 22), none, [8, 3]⟩, ⟨some 24, .move (.tmp 5), some (some 23, false), [9]⟩, ⟨some 25, .bin .gtr .none (.tmp 24) (.lit (.int .i64 0)), some (some 23, false), [10, 9]⟩, ⟨some 26, .move (.tmp 25), some (some 23, false), [11, 9, 9]⟩, ⟨some 27, .move (.tmp 0), some (some 26, true), [12]⟩, ⟨some 28, .move (.tmp 5), some (some 26, true), [12]⟩, ⟨some 29, .bin .sub .none (.tmp 28) (.lit (.int .i64 1)), some (some 26, true), [14, 12]⟩, ⟨some 30, .iaddr 2 (.tmp 27) (.tmp 29), some (some 26, true), [13, 15, 12]⟩, ⟨some 31, .faddr 0 (.tmp 30), some (some 26, true), [16, 12]⟩, ⟨some 32, .load none (.tmp 31), some (some 26, true), [17, 12]⟩, ⟨some 33, .faddr 0 (.tmp 6), some (some 26, true), [12]⟩, ⟨some 34, .load none (.tmp 33), some (some 26, true), [19, 12]⟩, ⟨some 35, .bin .geq .none (.tmp 32) (.tmp 34), some (some 26, true), [18, 20, 12]⟩, ⟨some 36, .pick (.tmp 26) (.tmp 35) (.lit (.bool false)), some (some 23, false), [12, 21, 9]⟩, ⟨some 37, .pick (.tmp 23) (.lit (.bool true)) (.tmp 36), none, [9, 22]⟩]
theorem dr_cond01_0 (P : Program) (nt n0 : Nat) (Q : Post) (s : Slots) (σ : Store) : wpc P nt n0 (.draw d_cond01_0) Q s σ = aOpsD P nt [⟨some 14, .faddr 0 (.tmp 6), none, []⟩, ⟨some 15, .load none (.tmp 14), none, [0]⟩, ⟨some 16, .bin .lss .none (.tmp 15) (.lit (.int .i64 0)), none, [1]⟩, ⟨some 17, .move (.tmp 16), none, [2]⟩, ⟨some 18, .faddr 0 (.tmp 6), some (some 17, false), [3]⟩, ⟨some 19, .load none (.tmp 18), some (some 17, false), [4, 3]⟩, ⟨some 20, .move (.tmp 1), some (some 17, false), [3]⟩, ⟨some 21, .bin .geq .none (.tmp 19) (.tmp 20), some (some 17, false), [5, 6, 3]⟩, ⟨some 22, .pick (.tmp 17) (.lit (.bool true)) (.tmp 21), none, [3, 7]⟩, ⟨some 23, .move (.tmp 22), none, [8, 3]⟩, ⟨some 24, .move (.tmp 5), some (some 23, false), [9]⟩, ⟨some 25, .bin .gtr .none (.tmp 24) (.lit (.int .i64 0)), some (some 23, false), [10, 9]⟩, ⟨some 26, .move (.tmp 25), some (some 23, false), [11, 9, 9]⟩, ⟨some 27, .move (.tmp 0), some (some 26, true), [12]⟩, ⟨some 28, .move (.tmp 5), some (some 26, true), [12]⟩, ⟨some 29, .bin .sub .none (.tmp 28) (.lit (.int .i64 1)), some (some 26, true), [14, 12]⟩, ⟨some 30, .iaddr 2 (.tmp 27) (.tmp 29), some (some 26, true), [13, 15, 12]⟩, ⟨some 31, .faddr 0 (.tmp 30), some (some 26, true), [16, 12]⟩, ⟨some 32, .load none (.tmp 31), some (some 26, true), [17, 12]⟩, ⟨some 33, .faddr 0 (.tmp 6), some (some 26, true), [12]⟩, ⟨some 34, .load none (.tmp 33), some (some 26, true), [19, 12]⟩, ⟨some 35, .bin .geq .none (.tmp 32) (.tmp 34), some (some 26, true), [18, 20, 12]⟩, ⟨some 36, .pick (.tmp 26) (.tmp 35) (.lit (.bool false)), some (some 23, false), [12, 21, 9]⟩, ⟨some 37, .pick (.tmp 23) (.lit (.bool true)) (.tmp 36), none, [9, 22]⟩] (Q .normal) s σ := wpc_draw _ (by decide)
def c_cond01 : CCode := .seq (.ops [⟨some 4, .move (.lit (.bool false)), none, []⟩]) (.seq (.seq (.ops [⟨some 7, .move (.tmp 0), none, []⟩, ⟨some 8, .blen 1 (.tmp 7), none, []⟩, ⟨some 9, .move (.lit (.int .i64 0)), none, []⟩]) (.block 0 (.loop (.seq (.ops [⟨some 10, .bin .lss .none (.tmp 9) (.tmp 8), none, []⟩]) (.seq (.cond (.tmp 10) .skip (.exit 0)) (.seq (.block 1 (.seq (.ops [⟨some 11, .move (.tmp 9), none, []⟩, ⟨some 12, .iaddr 2 (.tmp 7) (.tmp 9), none, []⟩, ⟨some 13, .load (some 2) (.tmp 12), none, []⟩, ⟨some 6, .alloc (.agg [.int .i64 0, .bool false]), none, []⟩, ⟨some 5, .move (.tmp 11), none, []⟩, ⟨none, .store 2 (.tmp 6) (.tmp 13), none, []⟩]) (.seq (.draw d_cond01_0) (.cond (.tmp 37) (.seq (.ops [⟨some 4, .move (.lit (.bool false)), none, []⟩]) .ret) .skip)))) (.ops [⟨some 38, .bin .add .none (.tmp 9) (.lit (.int .i64 1)), none, []⟩, ⟨some 9, .move (.tmp 38), none, []⟩]))))))) (.seq (.ops [⟨some 4, .move (.lit (.bool true)), none, []⟩]) .ret))
set_option maxRecDepth 20000 in
theorem cond01_spec (s : List FLit) (n : Int) (tok : Tok) (σ : Store) (hs : s.length ≤ 140737488355328) :
    ACalls Tryz.prog 60 [.slice tok (s.map encLit), .int .i64 n] σ (isR (.bool (condB n (-1) s)) σ) := by
  refine ACalls.intro (rs := [(.tmp 4)]) (by kernel_rfl) { own := [], ghosts := [] } Tryz.func60 (c := Tryz.f60.body.getD .skip) (by kernel_rfl) (by decide) (by rw [show Tryz.f60.ntmps = 39 by kernel_rfl]; exact Nat.le_of_ble_eq_true rfl) (by kernel_rfl) ?_
  intro hσ hids
  rw [show comp Tryz.prog { own := [], ghosts := [] } (Tryz.f60.body.getD .skip) = c_cond01 by kernel_rfl, show Tryz.f60.ntmps = 39 by kernel_rfl]
  unfold c_cond01
  have hil : Ids σ.length (.slice tok (s.map encLit)) := hids _ (by simp)
  simp only [go_sem, Int.reduceToNat, Int.reduceLE, Int.reduceLT, Nat.reduceBEq, Nat.reduceLT, Nat.reduceAdd, Nat.reduceLeDiff, dr_cond01_0]
  refine wpc_while (fun (q : Nat × Int) => [(1, .int .i64 n), (0, .slice tok (s.map encLit)), (7, .slice tok (s.map encLit)), (8, .int .i64 s.length), (9, .int .i64 q.1)]) (fun _ => σ) (fun q => q.1 ≤ s.length ∧ prevC s q.1 q.2 ∧ condB n (-1) s = condB n q.2 (s.drop q.1)) (fun q => s.length - q.1) (0, -1) ⟨Nat.zero_le _, ⟨by omega, by simp, by simp⟩, rfl⟩ (by (try dsimp only); first | exact ghk | exact ghk0) ?_
  rintro ⟨i, p⟩ ⟨hi, ⟨hp1, hp2, hp3⟩, hv⟩ K hK hE hR
  dsimp only at hi hp1 hp2 hp3 hv ⊢
  by_cases h : i < s.length
  · obtain ⟨⟨y, nb⟩, hx⟩ := get_ex h
    have hlt : ((i : Int) < (s.length : Int)) := by omega
    have hw : IntKind.i64.wrap ((i : Int) + 1) = ((i + 1 : Nat) : Int) := by rw [wrap_ok (by omega)]; omega
    rw [drop_cons hx, condB] at hv
    dsimp only at hv
    by_cases h1 : y < 0
    · simp only [go_sem, Int.reduceToNat, Int.reduceLE, Int.reduceLT, Nat.reduceBEq, Nat.reduceLT, Nat.reduceAdd, Nat.reduceLeDiff, dr_cond01_0, hlt, hx, encLit, h1]
      rw [hR]
      first | exact rtk (.bool false) ⟨by rw [hv]; simp; omega, rfl⟩ | exact rtk0 (.bool false) ⟨by rw [hv]; simp; omega, rfl⟩
    by_cases h2 : y ≥ n
    · simp only [go_sem, Int.reduceToNat, Int.reduceLE, Int.reduceLT, Nat.reduceBEq, Nat.reduceLT, Nat.reduceAdd, Nat.reduceLeDiff, dr_cond01_0, hlt, hx, encLit, h1, h2]
      rw [hR]
      first | exact rtk (.bool false) ⟨by rw [hv]; simp; omega, rfl⟩ | exact rtk0 (.bool false) ⟨by rw [hv]; simp; omega, rfl⟩
    by_cases h3 : (i : Int) > 0
    · have hw1 : IntKind.i64.wrap ((i : Int) - 1) = ((i - 1 : Nat) : Int) := by rw [wrap_ok (by omega)]; omega
      obtain ⟨pb, hy⟩ := hp3 (by omega)
      by_cases h4 : p ≥ y
      · simp only [go_sem, Int.reduceToNat, Int.reduceLE, Int.reduceLT, Nat.reduceBEq, Nat.reduceLT, Nat.reduceAdd, Nat.reduceLeDiff, dr_cond01_0, hlt, hx, encLit, h1, h2, h3, hw1, hy, h4]
        rw [hR]
        first | exact rtk (.bool false) ⟨by rw [hv]; simp; omega, rfl⟩ | exact rtk0 (.bool false) ⟨by rw [hv]; simp; omega, rfl⟩
      · simp only [go_sem, Int.reduceToNat, Int.reduceLE, Int.reduceLT, Nat.reduceBEq, Nat.reduceLT, Nat.reduceAdd, Nat.reduceLeDiff, dr_cond01_0, hlt, hx, encLit, h1, h2, h3, hw1, hy, h4]
        have h5 : decide (p < y) = true := by simpa using h4
        have h6 : decide (y < n) = true := by simpa using h2
        rw [h5, h6, Bool.true_and, Bool.true_and] at hv
        refine hK _ _ ((i + 1, y)) (⟨by simp only []; omega, ⟨by simp only []; omega, by simp, fun _ => ⟨nb, hx⟩⟩, hv⟩) (by first | omega | (simp only []; omega) | (simp; omega)) ?_; (try dsimp only); (try simp only [ hw]); first | exact ghk | exact ghk0
    · have h5 : decide (p < y) = true := by have := hp2 (by omega); simp; omega
      have h6 : decide (y < n) = true := by simpa using h2
      rw [h5, h6, Bool.true_and, Bool.true_and] at hv
      simp only [go_sem, Int.reduceToNat, Int.reduceLE, Int.reduceLT, Nat.reduceBEq, Nat.reduceLT, Nat.reduceAdd, Nat.reduceLeDiff, dr_cond01_0, hlt, hx, encLit, h1, h2, h3]
      refine hK _ _ ((i + 1, y)) (⟨by simp only []; omega, ⟨by simp only []; omega, by simp, fun _ => ⟨nb, hx⟩⟩, hv⟩) (by first | omega | (simp only []; omega) | (simp; omega)) ?_; (try dsimp only); (try simp only [ hw]); first | exact ghk | exact ghk0
  · have hlt : ¬ ((i : Int) < (s.length : Int)) := by omega
    rw [drop_len h] at hv
    simp only [go_sem, Int.reduceToNat, Int.reduceLE, Int.reduceLT, Nat.reduceBEq, Nat.reduceLT, Nat.reduceAdd, Nat.reduceLeDiff, dr_cond01_0, hlt, hE]
    first | exact rtk (.bool true) ⟨by rw [hv]; rfl, rfl⟩ | exact rtk0 (.bool true) ⟨by rw [hv]; rfl, rfl⟩
end Go.Proofs.YtbnhijapbnfohaaGreat
namespace Go.Proofs.YtbnhijapbnfohaaGreat
open Go.Ahl
def encF (f : List (List FLit)) : List AV := [.slice .unk (f.map encC)]
def formHolds (s : List Int) (f : List (List FLit)) : Bool := f.any (condHolds s)
def formB (n : Int) (f : List (List FLit)) : Bool := f.all (condB n (-1))
theorem formB_cons (n : Int) (l : List FLit) (f : List (List FLit)) : formB n (l :: f) = (condB n (-1) l && formB n f) := rfl
def c_conditions : CCode := .seq (.ops [⟨some 2, .box (.tmp 0), none, []⟩, ⟨some 4, .move (.lit (.bool false)), none, []⟩]) (.seq (.seq (.ops [⟨some 7, .move (.tmp 1), none, []⟩, ⟨some 8, .blen 1 (.tmp 7), none, []⟩, ⟨some 9, .move (.lit (.int .i64 0)), none, []⟩]) (.block 0 (.loop (.seq (.ops [⟨some 10, .bin .lss .none (.tmp 9) (.tmp 8), none, []⟩]) (.seq (.cond (.tmp 10) .skip (.exit 0)) (.seq (.block 1 (.seq (.ops [⟨some 11, .iaddr 1 (.tmp 7) (.tmp 9), none, []⟩, ⟨some 12, .load none (.tmp 11), none, []⟩, ⟨some 6, .move (.tmp 12), none, []⟩]) (.seq (.ops [⟨some 13, .move (.tmp 6), none, []⟩, ⟨some 14, .faddr 0 (.tmp 2), none, []⟩, ⟨some 15, .load none (.tmp 14), none, []⟩, ⟨some 16, .blen 1 (.tmp 15), none, []⟩, ⟨some 17, .call (.lit (.func 60 [])) [.tmp 13, .tmp 16], none, []⟩, ⟨some 18, .un .not (.tmp 17), none, []⟩]) (.cond (.tmp 18) (.seq (.ops [⟨some 4, .move (.lit (.bool false)), none, []⟩]) .ret) .skip)))) (.ops [⟨some 19, .bin .add .none (.tmp 9) (.lit (.int .i64 1)), none, []⟩, ⟨some 9, .move (.tmp 19), none, []⟩]))))))) (.seq (.ops [⟨some 4, .move (.lit (.bool true)), none, []⟩]) .ret))
set_option maxRecDepth 20000 in
theorem conditions_spec (t : FTask) (f : List (List FLit)) (tok' : Tok) (σ : Store) (hf : f.length ≤ 140737488355328) (hl : ∀ l ∈ f, l.length ≤ 140737488355328) :
    ACalls Tryz.prog 61 [.agg (encTask t), .slice tok' (f.map encC)] σ (isR (.bool (formB t.facts.length f)) σ) := by
  refine ACalls.intro (rs := [(.tmp 4)]) (by kernel_rfl) { own := [], ghosts := [] } Tryz.func61 (c := Tryz.f61.body.getD .skip) (by kernel_rfl) (by decide) (by rw [show Tryz.f61.ntmps = 20 by kernel_rfl]; exact Nat.le_of_ble_eq_true rfl) (by kernel_rfl) ?_
  intro hσ hids
  rw [show comp Tryz.prog { own := [], ghosts := [] } (Tryz.f61.body.getD .skip) = c_conditions by kernel_rfl, show Tryz.f61.ntmps = 20 by kernel_rfl]
  unfold c_conditions
  have hil' : Ids σ.length (.slice tok' (f.map encC)) := hids _ (by simp)
  have hσ1 : IdsS (σ ++ [AObj.row (encTask t)]).length (σ ++ [AObj.row (encTask t)]) := ids_grow hσ (ids_encTask t)
  simp only [go_sem, Int.reduceToNat, Int.reduceLE, Int.reduceLT, Nat.reduceBEq, Nat.reduceLT, Nat.reduceAdd, Nat.reduceLeDiff, encTask]
  refine wpc_while (fun i => [(2, .ptr σ.length 0), (7, .slice tok' (f.map encC)), (8, .int .i64 f.length), (9, .int .i64 (i : Nat))]) (fun _ => σ ++ [.row (encTask t)]) (fun i => i ≤ f.length ∧ formB t.facts.length f = formB t.facts.length (f.drop i)) (fun i => f.length - i) 0 ⟨Nat.zero_le _, rfl⟩ (by (try dsimp only); exact ghk1) ?_
  rintro i ⟨hi, hv⟩ K hK hE hR
  by_cases h : i < f.length
  · obtain ⟨l, hx⟩ := get_ex h; have hlt : ((i : Int) < (f.length : Int)) := (by omega); have hw : IntKind.i64.wrap ((i : Int) + 1) = ((i + 1 : Nat) : Int) := (by rw [wrap_ok (by omega)]; omega)
    rw [drop_cons hx, formB_cons] at hv
    simp only [go_sem, Int.reduceToNat, Int.reduceLE, Int.reduceLT, Nat.reduceBEq, Nat.reduceLT, Nat.reduceAdd, Nat.reduceLeDiff, hlt, hx, encC, encTask]
    refine (cond01_spec l t.facts.length _ _ (hl l (List.mem_of_getElem? hx))).is ?_
    cases h1 : condB t.facts.length (-1) l
    · simp only [go_sem, Int.reduceToNat, Int.reduceLE, Int.reduceLT, Nat.reduceBEq, Nat.reduceLT, Nat.reduceAdd, Nat.reduceLeDiff]
      rw [hR]
      first | exact rtk (.bool false) ⟨by rw [hv, h1]; rfl, rfl⟩ | exact rtk0 (.bool false) ⟨by rw [hv, h1]; rfl, rfl⟩
    · simp only [go_sem, Int.reduceToNat, Int.reduceLE, Int.reduceLT, Nat.reduceBEq, Nat.reduceLT, Nat.reduceAdd, Nat.reduceLeDiff]
      rw [h1, Bool.true_and] at hv
      refine hK _ _ (i + 1) (⟨by omega, hv⟩) (by first | omega | (simp only []; omega) | (simp; omega)) ?_; (try dsimp only); (try simp only [ hw]); exact ghk1
  · have hlt : ¬ ((i : Int) < (f.length : Int)) := by omega
    rw [drop_len h] at hv
    simp only [go_sem, Int.reduceToNat, Int.reduceLE, Int.reduceLT, Nat.reduceBEq, Nat.reduceLT, Nat.reduceAdd, Nat.reduceLeDiff, hlt, hE]
    first | exact rtk (.bool true) ⟨by rw [hv]; rfl, rfl⟩ | exact rtk0 (.bool true) ⟨by rw [hv]; rfl, rfl⟩
def isForm (n : Int) (f : List (List FLit)) : Bool := decide (f.length ≤ 400) && formB n f
def c_is07 : CCode := .seq (.ops [⟨some 2, .box (.tmp 0), none, []⟩, ⟨some 4, .move (.lit (.bool false)), none, []⟩]) (.seq (.ops [⟨some 5, .move (.tmp 1), none, []⟩, ⟨some 6, .blen 1 (.tmp 5), none, []⟩, ⟨some 7, .bin .leq .none (.tmp 6) (.lit (.int .i64 400)), none, []⟩, ⟨some 8, .move (.tmp 7), none, []⟩, ⟨some 9, .load (some 4) (.tmp 2), some (some 8, true), []⟩, ⟨some 10, .move (.tmp 1), some (some 8, true), []⟩, ⟨some 11, .call (.lit (.func 61 [])) [.tmp 9, .tmp 10], some (some 8, true), []⟩, ⟨some 12, .pick (.tmp 8) (.tmp 11) (.lit (.bool false)), none, []⟩, ⟨some 4, .move (.tmp 12), none, []⟩]) .ret)
set_option maxRecDepth 20000 in
theorem is07_spec (t : FTask) (f : List (List FLit)) (tok' : Tok) (σ : Store) (hf : f.length ≤ 140737488355328) (hl : ∀ l ∈ f, l.length ≤ 140737488355328) :
    ACalls Tryz.prog 31 [.agg (encTask t), .slice tok' (f.map encC)] σ (isR (.bool (isForm t.facts.length f)) σ) := by
  refine ACalls.intro (rs := [(.tmp 4)]) (by kernel_rfl) { own := [], ghosts := [] } Tryz.func31 (c := Tryz.f31.body.getD .skip) (by kernel_rfl) (by decide) (by rw [show Tryz.f31.ntmps = 13 by kernel_rfl]; exact Nat.le_of_ble_eq_true rfl) (by kernel_rfl) ?_
  intro hσ hids
  rw [show comp Tryz.prog { own := [], ghosts := [] } (Tryz.f31.body.getD .skip) = c_is07 by kernel_rfl, show Tryz.f31.ntmps = 13 by kernel_rfl]
  unfold c_is07
  by_cases h : (f.length : Int) ≤ 400
  · have h' : decide (f.length ≤ 400) = true := by simp; omega
    simp only [go_sem, Int.reduceToNat, Int.reduceLE, Int.reduceLT, Nat.reduceBEq, Nat.reduceLT, Nat.reduceAdd, Nat.reduceLeDiff, encTask, h]
    refine (conditions_spec t f tok' _ hf hl).is ?_
    simp only [go_sem, Int.reduceToNat, Int.reduceLE, Int.reduceLT, Nat.reduceBEq, Nat.reduceLT, Nat.reduceAdd, Nat.reduceLeDiff]
    first | exact rtw (v := .bool _) wkS ⟨by rw [isForm, h']; rfl, rfl⟩ | exact rtw0 (v := .bool _) wkS ⟨by rw [isForm, h']; rfl, rfl⟩
  · have h' : decide (f.length ≤ 400) = false := by simp; omega
    simp only [go_sem, Int.reduceToNat, Int.reduceLE, Int.reduceLT, Nat.reduceBEq, Nat.reduceLT, Nat.reduceAdd, Nat.reduceLeDiff, encTask, h]
    first | exact rtw (v := .bool _) wkS ⟨by rw [isForm, h']; rfl, rfl⟩ | exact rtw0 (v := .bool _) wkS ⟨by rw [isForm, h']; rfl, rfl⟩
theorem mulTop {j n T : Nat} (h : j ≤ n) : j * T ≤ n * T := Nat.mul_le_mul_right _ h
def formSize (f : List (List FLit)) : Nat := f.length + (f.map List.length).sum
theorem sum_cons (f : List FLit) (r : List (List FLit)) : (((f :: r).map List.length).sum : Nat) = f.length + (r.map List.length).sum := by simp
theorem sums_cons (f : List (List FLit)) (r : List (List (List FLit))) : (((f :: r).map formSize).sum : Nat) = formSize f + (r.map formSize).sum := by simp
def c_few07 : CCode := .seq (.ops [⟨some 4, .move (.lit (.bool false)), none, []⟩]) (.seq (.ops [⟨some 5, .move (.lit (.int .i64 0)), none, []⟩]) (.seq (.seq (.ops [⟨some 10, .move (.tmp 1), none, []⟩, ⟨some 11, .blen 1 (.tmp 10), none, []⟩, ⟨some 12, .move (.lit (.int .i64 0)), none, []⟩]) (.block 0 (.loop (.seq (.ops [⟨some 13, .bin .lss .none (.tmp 12) (.tmp 11), none, []⟩]) (.seq (.cond (.tmp 13) .skip (.exit 0)) (.seq (.block 1 (.seq (.ops [⟨some 14, .iaddr 1 (.tmp 10) (.tmp 12), none, []⟩, ⟨some 15, .load none (.tmp 14), none, []⟩, ⟨some 7, .move (.tmp 15), none, []⟩]) (.seq (.ops [⟨some 16, .move (.tmp 5), none, []⟩, ⟨some 17, .move (.tmp 7), none, []⟩, ⟨some 18, .blen 1 (.tmp 17), none, []⟩, ⟨some 19, .bin .add .none (.tmp 16) (.tmp 18), none, []⟩, ⟨some 5, .move (.tmp 19), none, []⟩]) (.seq (.seq (.ops [⟨some 20, .move (.tmp 5), none, []⟩, ⟨some 21, .move (.tmp 0), none, []⟩, ⟨some 22, .bin .gtr .none (.tmp 20) (.tmp 21), none, []⟩]) (.cond (.tmp 22) (.seq (.ops [⟨some 4, .move (.lit (.bool false)), none, []⟩]) .ret) .skip)) (.seq (.ops [⟨some 23, .move (.tmp 7), none, []⟩, ⟨some 24, .blen 1 (.tmp 23), none, []⟩, ⟨some 25, .move (.lit (.int .i64 0)), none, []⟩]) (.block 2 (.loop (.seq (.ops [⟨some 26, .bin .lss .none (.tmp 25) (.tmp 24), none, []⟩]) (.seq (.cond (.tmp 26) .skip (.exit 2)) (.seq (.block 3 (.seq (.ops [⟨some 27, .iaddr 1 (.tmp 23) (.tmp 25), none, []⟩, ⟨some 28, .load none (.tmp 27), none, []⟩, ⟨some 9, .move (.tmp 28), none, []⟩]) (.ops [⟨some 29, .move (.tmp 5), none, []⟩, ⟨some 30, .move (.tmp 9), none, []⟩, ⟨some 31, .blen 1 (.tmp 30), none, []⟩, ⟨some 32, .bin .add .none (.tmp 29) (.tmp 31), none, []⟩, ⟨some 5, .move (.tmp 32), none, []⟩]))) (.ops [⟨some 33, .bin .add .none (.tmp 25) (.lit (.int .i64 1)), none, []⟩, ⟨some 25, .move (.tmp 33), none, []⟩]))))))))))) (.ops [⟨some 34, .bin .add .none (.tmp 12) (.lit (.int .i64 1)), none, []⟩, ⟨some 12, .move (.tmp 34), none, []⟩]))))))) (.seq (.ops [⟨some 35, .move (.tmp 5), none, []⟩, ⟨some 36, .move (.tmp 0), none, []⟩, ⟨some 37, .bin .leq .none (.tmp 35) (.tmp 36), none, []⟩, ⟨some 4, .move (.tmp 37), none, []⟩]) .ret)))
set_option maxRecDepth 20000 in
theorem few07_spec (n : Nat) (hn : n ≤ 4096) (fs : List (List (List FLit))) (tok : Tok) (σ : Store) (hf : fs.length ≤ 140737488355328) (hl : ∀ f ∈ fs, f.length ≤ 140737488355328 ∧ ∀ l ∈ f, l.length ≤ 140737488355328) :
    ACalls Tryz.prog 22 [.int .i64 n, .slice tok (fs.map encF)] σ (isR (.bool (decide ((fs.map formSize).sum ≤ n))) σ) := by
  refine ACalls.intro (rs := [(.tmp 4)]) (by kernel_rfl) { own := [], ghosts := [] } Tryz.func22 (c := Tryz.f22.body.getD .skip) (by kernel_rfl) (by decide) (by rw [show Tryz.f22.ntmps = 38 by kernel_rfl]; exact Nat.le_of_ble_eq_true rfl) (by kernel_rfl) ?_
  intro hσ hids
  rw [show comp Tryz.prog { own := [], ghosts := [] } (Tryz.f22.body.getD .skip) = c_few07 by kernel_rfl, show Tryz.f22.ntmps = 38 by kernel_rfl]
  unfold c_few07
  obtain ⟨T, hT⟩ : ∃ T : Nat, T = 140737488355328 := ⟨_, rfl⟩
  have hnT := mulTop (T := T) hn
  have hil' : Ids σ.length (.slice tok (fs.map encF)) := hids _ (by simp)
  simp only [go_sem, Int.reduceToNat, Int.reduceLE, Int.reduceLT, Nat.reduceBEq, Nat.reduceLT, Nat.reduceAdd, Nat.reduceLeDiff]
  refine wpc_while (fun (q : Nat × Nat) => [(0, .int .i64 n), (5, .int .i64 q.2), (10, .slice tok (fs.map encF)), (11, .int .i64 fs.length), (12, .int .i64 q.1)]) (fun _ => σ) (fun q => q.1 ≤ fs.length ∧ q.2 ≤ n + n * T ∧ (fs.map formSize).sum = q.2 + ((fs.drop q.1).map formSize).sum) (fun q => fs.length - q.1) (0, 0) ⟨Nat.zero_le _, Nat.zero_le _, by simp⟩ (by (try dsimp only); first | exact ghk | exact ghk0) ?_
  rintro ⟨i, a⟩ ⟨hi, ha, hv⟩ K hK hE hR
  dsimp only at hi ha hv ⊢
  by_cases h : i < fs.length
  · obtain ⟨f, hx⟩ := get_ex h; have hlt : ((i : Int) < (fs.length : Int)) := (by omega); have hw : IntKind.i64.wrap ((i : Int) + 1) = ((i + 1 : Nat) : Int) := (by rw [wrap_ok (by omega)]; omega)
    obtain ⟨f1, f2⟩ := hl f (List.mem_of_getElem? hx)
    rw [drop_cons hx, sums_cons, formSize] at hv
    have hw1 : IntKind.i64.wrap ((a : Int) + f.length) = ((a + f.length : Nat) : Int) := by rw [wrap_ok (by omega)]; omega
    by_cases h1 : ((a + f.length : Nat) : Int) > n
    · simp only [go_sem, Int.reduceToNat, Int.reduceLE, Int.reduceLT, Nat.reduceBEq, Nat.reduceLT, Nat.reduceAdd, Nat.reduceLeDiff, hlt, hx, encF, hw1, h1]
      rw [hR]
      first | exact rtk (.bool false) ⟨by rw [decide_eq_false (p := (fs.map formSize).sum ≤ n) (by omega)], rfl⟩ | exact rtk0 (.bool false) ⟨by rw [decide_eq_false (p := (fs.map formSize).sum ≤ n) (by omega)], rfl⟩
    · have hif : Ids σ.length (.slice .unk (f.map encC)) := ids_map ids_encC _
      simp only [go_sem, Int.reduceToNat, Int.reduceLE, Int.reduceLT, Nat.reduceBEq, Nat.reduceLT, Nat.reduceAdd, Nat.reduceLeDiff, hlt, hx, encF, hw1, h1]
      refine wpc_while (fun (q : Nat × Nat) => [(0, .int .i64 n), (5, .int .i64 q.2), (10, .slice tok (fs.map encF)), (11, .int .i64 fs.length), (12, .int .i64 i), (23, .slice .unk (f.map encC)), (24, .int .i64 f.length), (25, .int .i64 q.1)]) (fun _ => σ) (fun q => q.1 ≤ f.length ∧ q.2 ≤ n + q.1 * T ∧ (fs.map formSize).sum = q.2 + ((f.drop q.1).map List.length).sum + ((fs.drop (i + 1)).map formSize).sum) (fun q => f.length - q.1) (0, a + f.length) ⟨Nat.zero_le _, by simp only []; omega, by rw [List.drop_zero]; omega⟩ (by (try dsimp only); first | exact ghk | exact ghk0) ?_
      rintro ⟨j, b⟩ ⟨hjl, hbb, hvj⟩ K' hK' hE' hR'
      dsimp only at hjl hbb hvj ⊢
      have hfn : f.length ≤ n := by omega
      have hjm := mulTop (T := T) (Nat.le_trans hjl hfn)
      by_cases hj : j < f.length
      · obtain ⟨l, hxj⟩ := get_ex hj; have hltj : ((j : Int) < (f.length : Int)) := (by omega); have hwj : IntKind.i64.wrap ((j : Int) + 1) = ((j + 1 : Nat) : Int) := (by rw [wrap_ok (by omega)]; omega)
        have f3 := f2 l (List.mem_of_getElem? hxj)
        rw [drop_cons hxj, sum_cons] at hvj
        have hw2 : IntKind.i64.wrap ((b : Int) + l.length) = ((b + l.length : Nat) : Int) := by rw [wrap_ok (by omega)]; omega
        simp only [go_sem, Int.reduceToNat, Int.reduceLE, Int.reduceLT, Nat.reduceBEq, Nat.reduceLT, Nat.reduceAdd, Nat.reduceLeDiff, hltj, hxj, encC, hw2]
        refine hK' _ _ (j + 1, b + l.length) ⟨by simp only []; omega, by simp only [Nat.add_mul]; omega, by simp only []; omega⟩ (by simp only []; omega) ?_
        exact (by (try dsimp only); (try simp only [hwj]); first | exact ghk | exact ghk0)
      · have hltj : ¬ ((j : Int) < (f.length : Int)) := by omega
        rw [drop_len hj] at hvj
        simp only [go_sem, Int.reduceToNat, Int.reduceLE, Int.reduceLT, Nat.reduceBEq, Nat.reduceLT, Nat.reduceAdd, Nat.reduceLeDiff, hltj, hE']
        refine hK _ _ ((i + 1, b)) (⟨by simp only []; omega, by simp only []; omega, by simpa using hvj⟩) (by first | omega | (simp only []; omega) | (simp; omega)) ?_; (try dsimp only); (try simp only [ hw]); first | exact ghk | exact ghk0
  · have hlt : ¬ ((i : Int) < (fs.length : Int)) := by omega
    rw [drop_len h, List.map_nil, List.sum_nil] at hv
    simp only [go_sem, Int.reduceToNat, Int.reduceLE, Int.reduceLT, Nat.reduceBEq, Nat.reduceLT, Nat.reduceAdd, Nat.reduceLeDiff, hlt, hE]
    first | exact rtk (.bool (decide ((a : Int) ≤ n))) ⟨by congr 1; apply decide_eq_decide.2; omega, rfl⟩ | exact rtk0 (.bool (decide ((a : Int) ≤ n))) ⟨by congr 1; apply decide_eq_decide.2; omega, rfl⟩
end Go.Proofs.YtbnhijapbnfohaaGreat
namespace Go.Proofs.YtbnhijapbnfohaaGreat
open Go.Ahl
theorem bget (b : ByteArray) (i : Nat) : b[i]? = b.data.toList[i]? := by
  rw [Array.getElem?_toList]
  by_cases h : i < b.size
  · rw [getElem?_pos b i h, Array.getElem?_eq_getElem (by exact h)]; rfl
  · rw [getElem?_neg b i h, Array.getElem?_eq_none (by simpa using h)]
def letterB (c : Int) : Bool := (decide (97 ≤ c) && decide (c ≤ 122)) || (decide (65 ≤ c) && decide (c ≤ 90))
def digitB (c : Int) : Bool := decide (48 ≤ c) && decide (c ≤ 57)
def c_letter : CCode := .seq (.ops [⟨some 2, .move (.lit (.bool false)), none, []⟩]) (.seq (.ops [⟨some 3, .move (.tmp 0), none, []⟩, ⟨some 4, .bin .geq .none (.tmp 3) (.lit (.int .u8 97)), none, []⟩, ⟨some 5, .move (.tmp 4), none, []⟩, ⟨some 6, .move (.tmp 0), some (some 5, true), []⟩, ⟨some 7, .bin .leq .none (.tmp 6) (.lit (.int .u8 122)), some (some 5, true), []⟩, ⟨some 8, .pick (.tmp 5) (.tmp 7) (.lit (.bool false)), none, []⟩, ⟨some 9, .move (.tmp 8), none, []⟩, ⟨some 10, .move (.tmp 0), some (some 9, false), []⟩, ⟨some 11, .bin .geq .none (.tmp 10) (.lit (.int .u8 65)), some (some 9, false), []⟩, ⟨some 12, .move (.tmp 11), some (some 9, false), []⟩, ⟨some 13, .move (.tmp 0), some (some 12, true), []⟩, ⟨some 14, .bin .leq .none (.tmp 13) (.lit (.int .u8 90)), some (some 12, true), []⟩, ⟨some 15, .pick (.tmp 12) (.tmp 14) (.lit (.bool false)), some (some 9, false), []⟩, ⟨some 16, .pick (.tmp 9) (.lit (.bool true)) (.tmp 15), none, []⟩, ⟨some 2, .move (.tmp 16), none, []⟩]) .ret)
set_option maxRecDepth 20000 in
theorem letter_spec (c : Int) (σ : Store) : ACalls Tryz.prog 84 [.int .u8 c] σ (isR (.bool (letterB c)) σ) := by
  refine ACalls.intro (rs := [(.tmp 2)]) (by kernel_rfl) { own := [], ghosts := [] } Tryz.func84 (c := Tryz.f84.body.getD .skip) (by kernel_rfl) (by decide) (by rw [show Tryz.f84.ntmps = 17 by kernel_rfl]; exact Nat.le_of_ble_eq_true rfl) (by kernel_rfl) ?_
  intro hσ hids
  rw [show comp Tryz.prog { own := [], ghosts := [] } (Tryz.f84.body.getD .skip) = c_letter by kernel_rfl, show Tryz.f84.ntmps = 17 by kernel_rfl]
  unfold c_letter
  by_cases h1 : c ≥ 97 <;> by_cases h2 : c ≤ 122 <;> by_cases h3 : c ≥ 65 <;> by_cases h4 : c ≤ 90
  all_goals
    simp only [go_sem, Int.reduceToNat, Int.reduceLE, Int.reduceLT, Nat.reduceBEq, Nat.reduceLT, Nat.reduceAdd, Nat.reduceLeDiff, h1, h2, h3, h4]
    first | exact rtw (v := .bool _) wkS ⟨by simp only [letterB, ge_iff_le] at *; simp only [h1, h2, h3, h4]; rfl, rfl⟩ | exact rtw0 (v := .bool _) wkS ⟨by simp only [letterB, ge_iff_le] at *; simp only [h1, h2, h3, h4]; rfl, rfl⟩
def c_letter01 : CCode := .seq (.ops [⟨some 2, .move (.lit (.bool false)), none, []⟩]) (.seq (.ops [⟨some 3, .move (.tmp 0), none, []⟩, ⟨some 4, .bin .geq .none (.tmp 3) (.lit (.int .u8 97)), none, []⟩, ⟨some 5, .move (.tmp 4), none, []⟩, ⟨some 6, .move (.tmp 0), some (some 5, true), []⟩, ⟨some 7, .bin .leq .none (.tmp 6) (.lit (.int .u8 122)), some (some 5, true), []⟩, ⟨some 8, .pick (.tmp 5) (.tmp 7) (.lit (.bool false)), none, []⟩, ⟨some 9, .move (.tmp 8), none, []⟩, ⟨some 10, .move (.tmp 0), some (some 9, false), []⟩, ⟨some 11, .bin .geq .none (.tmp 10) (.lit (.int .u8 65)), some (some 9, false), []⟩, ⟨some 12, .move (.tmp 11), some (some 9, false), []⟩, ⟨some 13, .move (.tmp 0), some (some 12, true), []⟩, ⟨some 14, .bin .leq .none (.tmp 13) (.lit (.int .u8 90)), some (some 12, true), []⟩, ⟨some 15, .pick (.tmp 12) (.tmp 14) (.lit (.bool false)), some (some 9, false), []⟩, ⟨some 16, .pick (.tmp 9) (.lit (.bool true)) (.tmp 15), none, []⟩, ⟨some 2, .move (.tmp 16), none, []⟩]) .ret)
set_option maxRecDepth 20000 in
theorem letter01_spec (c : Int) (σ : Store) : ACalls Tryz.prog 103 [.int .u8 c] σ (isR (.bool (letterB c)) σ) := by
  refine ACalls.intro (rs := [(.tmp 2)]) (by kernel_rfl) { own := [], ghosts := [] } Tryz.func103 (c := Tryz.f103.body.getD .skip) (by kernel_rfl) (by decide) (by rw [show Tryz.f103.ntmps = 17 by kernel_rfl]; exact Nat.le_of_ble_eq_true rfl) (by kernel_rfl) ?_
  intro hσ hids
  rw [show comp Tryz.prog { own := [], ghosts := [] } (Tryz.f103.body.getD .skip) = c_letter01 by kernel_rfl, show Tryz.f103.ntmps = 17 by kernel_rfl]
  unfold c_letter01
  by_cases h1 : c ≥ 97 <;> by_cases h2 : c ≤ 122 <;> by_cases h3 : c ≥ 65 <;> by_cases h4 : c ≤ 90
  all_goals
    simp only [go_sem, Int.reduceToNat, Int.reduceLE, Int.reduceLT, Nat.reduceBEq, Nat.reduceLT, Nat.reduceAdd, Nat.reduceLeDiff, h1, h2, h3, h4]
    first | exact rtw (v := .bool _) wkS ⟨by simp only [letterB, ge_iff_le] at *; simp only [h1, h2, h3, h4]; rfl, rfl⟩ | exact rtw0 (v := .bool _) wkS ⟨by simp only [letterB, ge_iff_le] at *; simp only [h1, h2, h3, h4]; rfl, rfl⟩
def c_digit01 : CCode := .seq (.ops [⟨some 2, .move (.lit (.bool false)), none, []⟩]) (.seq (.ops [⟨some 3, .move (.tmp 0), none, []⟩, ⟨some 4, .bin .geq .none (.tmp 3) (.lit (.int .u8 48)), none, []⟩, ⟨some 5, .move (.tmp 4), none, []⟩, ⟨some 6, .move (.tmp 0), some (some 5, true), []⟩, ⟨some 7, .bin .leq .none (.tmp 6) (.lit (.int .u8 57)), some (some 5, true), []⟩, ⟨some 8, .pick (.tmp 5) (.tmp 7) (.lit (.bool false)), none, []⟩, ⟨some 2, .move (.tmp 8), none, []⟩]) .ret)
set_option maxRecDepth 20000 in
theorem digit01_spec (c : Int) (σ : Store) : ACalls Tryz.prog 104 [.int .u8 c] σ (isR (.bool (digitB c)) σ) := by
  refine ACalls.intro (rs := [(.tmp 2)]) (by kernel_rfl) { own := [], ghosts := [] } Tryz.func104 (c := Tryz.f104.body.getD .skip) (by kernel_rfl) (by decide) (by rw [show Tryz.f104.ntmps = 9 by kernel_rfl]; exact Nat.le_of_ble_eq_true rfl) (by kernel_rfl) ?_
  intro hσ hids
  rw [show comp Tryz.prog { own := [], ghosts := [] } (Tryz.f104.body.getD .skip) = c_digit01 by kernel_rfl, show Tryz.f104.ntmps = 9 by kernel_rfl]
  unfold c_digit01
  by_cases h1 : c ≥ 48 <;> by_cases h2 : c ≤ 57
  all_goals
    simp only [go_sem, Int.reduceToNat, Int.reduceLE, Int.reduceLT, Nat.reduceBEq, Nat.reduceLT, Nat.reduceAdd, Nat.reduceLeDiff, h1, h2]
    first | exact rtw (v := .bool _) wkS ⟨by simp only [digitB, ge_iff_le] at *; simp only [h1, h2]; rfl, rfl⟩ | exact rtw0 (v := .bool _) wkS ⟨by simp only [digitB, ge_iff_le] at *; simp only [h1, h2]; rfl, rfl⟩
theorem toNat_eq (a b : UInt8) : ((a.toNat : Int) == (b.toNat : Int)) = (a == b) := by
  by_cases h : a = b
  · subst h; simp
  · have h1 : (a == b) = false := by simpa using h
    have h2 : ¬ (a.toNat : Int) = (b.toNat : Int) := fun e => h (UInt8.toNat_inj.1 (by omega))
    rw [h1]; simpa using h2
def c_within01 : CCode := .seq (.ops [⟨some 4, .move (.lit (.bool false)), none, []⟩]) (.seq (.seq (.ops [⟨some 6, .move (.tmp 0), none, []⟩, ⟨some 7, .blen 0 (.tmp 6), none, []⟩, ⟨some 8, .move (.lit (.int .i64 0)), none, []⟩]) (.block 0 (.loop (.seq (.ops [⟨some 9, .bin .lss .none (.tmp 8) (.tmp 7), none, []⟩]) (.seq (.cond (.tmp 9) .skip (.exit 0)) (.seq (.block 1 (.seq (.ops [⟨some 10, .move (.tmp 8), none, []⟩, ⟨some 5, .move (.tmp 10), none, []⟩]) (.seq (.ops [⟨some 11, .move (.tmp 0), none, []⟩, ⟨some 12, .move (.tmp 5), none, []⟩, ⟨some 13, .istr (.tmp 11) (.tmp 12), none, []⟩, ⟨some 14, .move (.tmp 1), none, []⟩, ⟨some 15, .bin .eql .none (.tmp 13) (.tmp 14), none, []⟩]) (.cond (.tmp 15) (.seq (.ops [⟨some 4, .move (.lit (.bool true)), none, []⟩]) .ret) .skip)))) (.ops [⟨some 16, .bin .add .none (.tmp 8) (.lit (.int .i64 1)), none, []⟩, ⟨some 8, .move (.tmp 16), none, []⟩]))))))) (.seq (.ops [⟨some 4, .move (.lit (.bool false)), none, []⟩]) .ret))
set_option maxRecDepth 20000 in
theorem within01_spec (b : ByteArray) (c : UInt8) (σ : Store) (hb : b.data.toList.length ≤ 140737488355328) : ACalls Tryz.prog 105 [.str b, .int .u8 c.toNat] σ (isR (.bool (b.data.toList.contains c)) σ) := by
  refine ACalls.intro (rs := [(.tmp 4)]) (by kernel_rfl) { own := [], ghosts := [] } Tryz.func105 (c := Tryz.f105.body.getD .skip) (by kernel_rfl) (by decide) (by rw [show Tryz.f105.ntmps = 17 by kernel_rfl]; exact Nat.le_of_ble_eq_true rfl) (by kernel_rfl) ?_
  intro hσ hids
  rw [show comp Tryz.prog { own := [], ghosts := [] } (Tryz.f105.body.getD .skip) = c_within01 by kernel_rfl, show Tryz.f105.ntmps = 17 by kernel_rfl]
  unfold c_within01
  have hs : b.size = b.data.toList.length := rfl
  simp only [go_sem, Int.reduceToNat, Int.reduceLE, Int.reduceLT, Nat.reduceBEq, Nat.reduceLT, Nat.reduceAdd, Nat.reduceLeDiff]
  rw [hs]
  refine wpc_while (fun i => [(0, .str b), (1, .int .u8 c.toNat), (7, .int .i64 b.data.toList.length), (8, .int .i64 (i : Nat))]) (fun _ => σ) (fun i => i ≤ b.data.toList.length ∧ b.data.toList.contains c = (b.data.toList.drop i).contains c) (fun i => b.data.toList.length - i) 0 ⟨Nat.zero_le _, rfl⟩ (by (try dsimp only); first | exact ghk | exact ghk0) ?_
  rintro i ⟨hi, hv⟩ K hK hE hR
  by_cases h : i < b.data.toList.length
  · obtain ⟨y, hx⟩ := get_ex h; have hlt : ((i : Int) < (b.data.toList.length : Int)) := (by omega); have hw : IntKind.i64.wrap ((i : Int) + 1) = ((i + 1 : Nat) : Int) := (by rw [wrap_ok (by omega)]; omega)
    rw [drop_cons hx, List.contains_cons] at hv
    rw [← bget] at hx
    by_cases h1 : c = y
    · subst h1
      simp only [go_sem, Int.reduceToNat, Int.reduceLE, Int.reduceLT, Nat.reduceBEq, Nat.reduceLT, Nat.reduceAdd, Nat.reduceLeDiff, hlt, hx, toNat_eq, beq_self_eq_true]
      rw [hR]
      first | exact rtk (.bool true) ⟨by rw [hv]; simp, rfl⟩ | exact rtk0 (.bool true) ⟨by rw [hv]; simp, rfl⟩
    · have h1' : (y == c) = false := by simpa using Ne.symm h1
      have h1'' : (c == y) = false := by simpa using h1
      simp only [go_sem, Int.reduceToNat, Int.reduceLE, Int.reduceLT, Nat.reduceBEq, Nat.reduceLT, Nat.reduceAdd, Nat.reduceLeDiff, hlt, hx, toNat_eq, h1']
      rw [h1'', Bool.false_or] at hv
      refine hK _ _ (i + 1) (⟨by omega, hv⟩) (by first | omega | (simp only []; omega) | (simp; omega)) ?_; (try dsimp only); (try simp only [ hw]); first | exact ghk | exact ghk0
  · have hlt : ¬ ((i : Int) < (b.data.toList.length : Int)) := by omega
    rw [drop_len h] at hv
    simp only [go_sem, Int.reduceToNat, Int.reduceLE, Int.reduceLT, Nat.reduceBEq, Nat.reduceLT, Nat.reduceAdd, Nat.reduceLeDiff, hlt, hE]
    first | exact rtk (.bool false) ⟨by rw [hv]; rfl, rfl⟩ | exact rtk0 (.bool false) ⟨by rw [hv]; rfl, rfl⟩
def okC (c : UInt8) : Bool := letterB c.toNat || digitB c.toNat || [45, 95, 40, 41, 44].contains c
def nameL : List UInt8 → Bool
  | [] => false
  | c :: l => decide (l.length + 1 ≤ 40) && letterB c.toNat && (c :: l).all okC
def nameB (b : ByteArray) : Bool := nameL b.data.toList
theorem nameL_len {l : List UInt8} (h : ¬ (l.length : Int) < 1) (h2 : ¬ (l.length : Int) > 40) {c : UInt8} (hc : l[0]? = some c) : nameL l = (letterB c.toNat && l.all okC) := by
  cases l with
  | nil => simp at h
  | cons d l =>
    simp only [List.getElem?_cons_zero, Option.some.injEq] at hc
    subst hc
    rw [nameL, decide_eq_true (by simp at h2; omega : l.length + 1 ≤ 40), Bool.true_and]
theorem nameL_short {l : List UInt8} (h : (l.length : Int) < 1) : nameL l = false := by
  cases l with
  | nil => rfl
  | cons c l => simp at h; omega
theorem nameL_long {l : List UInt8} (h : (l.length : Int) > 40) : nameL l = false := by
  cases l with
  | nil => rfl
  | cons c l => rw [nameL, decide_eq_false (by simp at h; omega)]; rfl
def c_name01 : CCode := .seq (.ops [⟨some 2, .move (.lit (.bool false)), none, []⟩]) (.seq (.seq (.ops [⟨some 4, .move (.tmp 0), none, []⟩, ⟨some 5, .blen 0 (.tmp 4), none, []⟩, ⟨some 6, .bin .lss .none (.tmp 5) (.lit (.int .i64 1)), none, []⟩, ⟨some 7, .move (.tmp 6), none, []⟩, ⟨some 8, .move (.tmp 0), some (some 7, false), []⟩, ⟨some 9, .blen 0 (.tmp 8), some (some 7, false), []⟩, ⟨some 10, .bin .gtr .none (.tmp 9) (.lit (.int .i64 40)), some (some 7, false), []⟩, ⟨some 11, .pick (.tmp 7) (.lit (.bool true)) (.tmp 10), none, []⟩, ⟨some 12, .move (.tmp 11), none, []⟩, ⟨some 13, .move (.tmp 0), some (some 12, false), []⟩, ⟨some 14, .istr (.tmp 13) (.lit (.int .i64 0)), some (some 12, false), []⟩, ⟨some 15, .call (.lit (.func 103 [])) [.tmp 14], some (some 12, false), []⟩, ⟨some 16, .un .not (.tmp 15), some (some 12, false), []⟩, ⟨some 17, .pick (.tmp 12) (.lit (.bool true)) (.tmp 16), none, []⟩]) (.cond (.tmp 17) (.seq (.ops [⟨some 2, .move (.lit (.bool false)), none, []⟩]) .ret) .skip)) (.seq (.seq (.ops [⟨some 18, .move (.tmp 0), none, []⟩, ⟨some 19, .blen 0 (.tmp 18), none, []⟩, ⟨some 20, .move (.lit (.int .i64 0)), none, []⟩]) (.block 0 (.loop (.seq (.ops [⟨some 21, .bin .lss .none (.tmp 20) (.tmp 19), none, []⟩]) (.seq (.cond (.tmp 21) .skip (.exit 0)) (.seq (.block 1 (.seq (.ops [⟨some 22, .move (.tmp 20), none, []⟩, ⟨some 3, .move (.tmp 22), none, []⟩]) (.seq (.ops [⟨some 23, .move (.tmp 0), none, []⟩, ⟨some 24, .move (.tmp 3), none, []⟩, ⟨some 25, .istr (.tmp 23) (.tmp 24), none, []⟩, ⟨some 26, .call (.lit (.func 103 [])) [.tmp 25], none, []⟩, ⟨some 27, .un .not (.tmp 26), none, []⟩, ⟨some 28, .move (.tmp 27), none, []⟩, ⟨some 29, .move (.tmp 0), some (some 28, true), []⟩, ⟨some 30, .move (.tmp 3), some (some 28, true), []⟩, ⟨some 31, .istr (.tmp 29) (.tmp 30), some (some 28, true), []⟩, ⟨some 32, .call (.lit (.func 104 [])) [.tmp 31], some (some 28, true), []⟩, ⟨some 33, .un .not (.tmp 32), some (some 28, true), []⟩, ⟨some 34, .pick (.tmp 28) (.tmp 33) (.lit (.bool false)), none, []⟩, ⟨some 35, .move (.tmp 34), none, []⟩, ⟨some 36, .move (.tmp 0), some (some 35, true), []⟩, ⟨some 37, .move (.tmp 3), some (some 35, true), []⟩, ⟨some 38, .istr (.tmp 36) (.tmp 37), some (some 35, true), []⟩, ⟨some 39, .call (.lit (.func 105 [])) [.lit (.str (bys [45, 95, 40, 41, 44])), .tmp 38], some (some 35, true), []⟩, ⟨some 40, .un .not (.tmp 39), some (some 35, true), []⟩, ⟨some 41, .pick (.tmp 35) (.tmp 40) (.lit (.bool false)), none, []⟩]) (.cond (.tmp 41) (.seq (.ops [⟨some 2, .move (.lit (.bool false)), none, []⟩]) .ret) .skip)))) (.ops [⟨some 42, .bin .add .none (.tmp 20) (.lit (.int .i64 1)), none, []⟩, ⟨some 20, .move (.tmp 42), none, []⟩]))))))) (.seq (.ops [⟨some 2, .move (.lit (.bool true)), none, []⟩]) .ret)))
set_option maxRecDepth 20000 in
theorem name01_spec (b : ByteArray) (σ : Store) (hb : b.data.toList.length ≤ 140737488355328) : ACalls Tryz.prog 83 [.str b] σ (isR (.bool (nameB b)) σ) := by
  refine ACalls.intro (rs := [(.tmp 2)]) (by kernel_rfl) { own := [], ghosts := [] } Tryz.func83 (c := Tryz.f83.body.getD .skip) (by kernel_rfl) (by decide) (by rw [show Tryz.f83.ntmps = 43 by kernel_rfl]; exact Nat.le_of_ble_eq_true rfl) (by kernel_rfl) ?_
  intro hσ hids
  rw [show comp Tryz.prog { own := [], ghosts := [] } (Tryz.f83.body.getD .skip) = c_name01 by kernel_rfl, show Tryz.f83.ntmps = 43 by kernel_rfl]
  unfold c_name01
  have hs : b.size = b.data.toList.length := rfl
  unfold nameB
  by_cases h1 : (b.data.toList.length : Int) < 1
  · simp only [go_sem, Int.reduceToNat, Int.reduceLE, Int.reduceLT, Nat.reduceBEq, Nat.reduceLT, Nat.reduceAdd, Nat.reduceLeDiff, hs, h1]
    first | exact rtk (.bool false) ⟨by rw [nameL_short h1], rfl⟩ | exact rtk0 (.bool false) ⟨by rw [nameL_short h1], rfl⟩
  by_cases h2 : (b.data.toList.length : Int) > 40
  · simp only [go_sem, Int.reduceToNat, Int.reduceLE, Int.reduceLT, Nat.reduceBEq, Nat.reduceLT, Nat.reduceAdd, Nat.reduceLeDiff, hs, h1, h2]
    first | exact rtk (.bool false) ⟨by rw [nameL_long h2], rfl⟩ | exact rtk0 (.bool false) ⟨by rw [nameL_long h2], rfl⟩
  obtain ⟨c0, hc0⟩ : ∃ c, b.data.toList[0]? = some c := get_ex (by omega)
  have hn := nameL_len h1 h2 hc0
  rw [← bget] at hc0
  simp only [go_sem, Int.reduceToNat, Int.reduceLE, Int.reduceLT, Nat.reduceBEq, Nat.reduceLT, Nat.reduceAdd, Nat.reduceLeDiff, hs, h1, h2, hc0, Int.toNat_zero, Int.le_refl]
  refine (letter01_spec c0.toNat σ).is ?_
  cases hl : letterB c0.toNat
  · simp only [go_sem, Int.reduceToNat, Int.reduceLE, Int.reduceLT, Nat.reduceBEq, Nat.reduceLT, Nat.reduceAdd, Nat.reduceLeDiff, hs]
    first | exact rtk (.bool false) ⟨by rw [hn, hl]; rfl, rfl⟩ | exact rtk0 (.bool false) ⟨by rw [hn, hl]; rfl, rfl⟩
  rw [hl, Bool.true_and] at hn
  simp only [go_sem, Int.reduceToNat, Int.reduceLE, Int.reduceLT, Nat.reduceBEq, Nat.reduceLT, Nat.reduceAdd, Nat.reduceLeDiff, hs]
  refine wpc_while (fun i => [(0, .str b), (19, .int .i64 b.data.toList.length), (20, .int .i64 (i : Nat))]) (fun _ => σ) (fun i => i ≤ b.data.toList.length ∧ nameL b.data.toList = (b.data.toList.drop i).all okC) (fun i => b.data.toList.length - i) 0 ⟨Nat.zero_le _, hn⟩ (by (try dsimp only); first | exact ghk | exact ghk0) ?_
  rintro i ⟨hi, hv⟩ K hK hE hR
  by_cases h : i < b.data.toList.length
  · obtain ⟨y, hx⟩ := get_ex h; have hlt : ((i : Int) < (b.data.toList.length : Int)) := (by omega); have hw : IntKind.i64.wrap ((i : Int) + 1) = ((i + 1 : Nat) : Int) := (by rw [wrap_ok (by omega)]; omega)
    rw [drop_cons hx, List.all_cons] at hv
    rw [← bget] at hx
    simp only [go_sem, Int.reduceToNat, Int.reduceLE, Int.reduceLT, Nat.reduceBEq, Nat.reduceLT, Nat.reduceAdd, Nat.reduceLeDiff, hlt, hx]
    refine (letter01_spec y.toNat σ).is ?_
    cases h1 : letterB y.toNat
    · simp only [go_sem, Int.reduceToNat, Int.reduceLE, Int.reduceLT, Nat.reduceBEq, Nat.reduceLT, Nat.reduceAdd, Nat.reduceLeDiff, hx]
      refine (digit01_spec y.toNat σ).is ?_
      cases h2 : digitB y.toNat
      · simp only [go_sem, Int.reduceToNat, Int.reduceLE, Int.reduceLT, Nat.reduceBEq, Nat.reduceLT, Nat.reduceAdd, Nat.reduceLeDiff, hx]
        refine (within01_spec (bys [45, 95, 40, 41, 44]) y σ (by decide)).is ?_
        have hok : okC y = (bys [45, 95, 40, 41, 44]).data.toList.contains y := by rw [okC, h1, h2]; rfl
        cases h3 : (bys [45, 95, 40, 41, 44]).data.toList.contains y
        · simp only [go_sem, Int.reduceToNat, Int.reduceLE, Int.reduceLT, Nat.reduceBEq, Nat.reduceLT, Nat.reduceAdd, Nat.reduceLeDiff]
          rw [hR]
          first | exact rtk (.bool false) ⟨by rw [hv, hok, h3]; rfl, rfl⟩ | exact rtk0 (.bool false) ⟨by rw [hv, hok, h3]; rfl, rfl⟩
        · simp only [go_sem, Int.reduceToNat, Int.reduceLE, Int.reduceLT, Nat.reduceBEq, Nat.reduceLT, Nat.reduceAdd, Nat.reduceLeDiff]
          rw [hok, h3, Bool.true_and] at hv
          refine hK _ _ (i + 1) (⟨by omega, hv⟩) (by first | omega | (simp only []; omega) | (simp; omega)) ?_; (try dsimp only); (try simp only [ hw]); first | exact ghk | exact ghk0
      · simp only [go_sem, Int.reduceToNat, Int.reduceLE, Int.reduceLT, Nat.reduceBEq, Nat.reduceLT, Nat.reduceAdd, Nat.reduceLeDiff]
        have hok : okC y = true := by rw [okC, h1, h2]; rfl
        rw [hok, Bool.true_and] at hv
        refine hK _ _ (i + 1) (⟨by omega, hv⟩) (by first | omega | (simp only []; omega) | (simp; omega)) ?_; (try dsimp only); (try simp only [ hw]); first | exact ghk | exact ghk0
    · simp only [go_sem, Int.reduceToNat, Int.reduceLE, Int.reduceLT, Nat.reduceBEq, Nat.reduceLT, Nat.reduceAdd, Nat.reduceLeDiff]
      have hok : okC y = true := by rw [okC, h1]; rfl
      rw [hok, Bool.true_and] at hv
      refine hK _ _ (i + 1) (⟨by omega, hv⟩) (by first | omega | (simp only []; omega) | (simp; omega)) ?_; (try dsimp only); (try simp only [ hw]); first | exact ghk | exact ghk0
  · have hlt : ¬ ((i : Int) < (b.data.toList.length : Int)) := by omega
    rw [drop_len h] at hv
    simp only [go_sem, Int.reduceToNat, Int.reduceLE, Int.reduceLT, Nat.reduceBEq, Nat.reduceLT, Nat.reduceAdd, Nat.reduceLeDiff, hlt, hE]
    first | exact rtk (.bool true) ⟨by rw [hv]; rfl, rfl⟩ | exact rtk0 (.bool true) ⟨by rw [hv]; rfl, rfl⟩
theorem indexByteString_spec (b : ByteArray) (c : UInt8) (σ : Store) : ACalls Tryz.prog 118 [.str b, .int .u8 c.toNat] σ (isR (.int .i64 (Lib.indexByte b.data.toList c)) σ) := by
  refine .extern Tryz.func118 (by kernel_rfl) (by kernel_rfl) (by kernel_rfl) (by kernel_rfl) (e := Extern.BytealgIndexByte.indexByte) ?_
  intro m loc w vs ha
  obtain ⟨v0, v1, rfl, h0, h1⟩ := ha.two
  cases h0; cases h1
  refine ⟨_, Lib.run_indexByteString _ _ _, ?_⟩
  rw [Int.toNat_natCast, show c.toNat.toUInt8 = c by simp]
  exact .int _ _
def c_indexByte2 : CCode := .seq (.ops [⟨some 4, .move (.lit (.int .i64 0)), none, []⟩]) (.seq (.ops [⟨some 5, .move (.tmp 0), none, []⟩, ⟨some 6, .move (.tmp 1), none, []⟩, ⟨some 7, .call (.lit (.func 118 [])) [.tmp 5, .tmp 6], none, []⟩, ⟨some 4, .move (.tmp 7), none, []⟩]) .ret)
set_option maxRecDepth 20000 in
theorem indexByte2_spec (b : ByteArray) (c : UInt8) (σ : Store) : ACalls Tryz.prog 106 [.str b, .int .u8 c.toNat] σ (isR (.int .i64 (Lib.indexByte b.data.toList c)) σ) := by
  refine ACalls.intro (rs := [(.tmp 4)]) (by kernel_rfl) { own := [], ghosts := [] } Tryz.func106 (c := Tryz.f106.body.getD .skip) (by kernel_rfl) (by decide) (by rw [show Tryz.f106.ntmps = 8 by kernel_rfl]; exact Nat.le_of_ble_eq_true rfl) (by kernel_rfl) ?_
  intro hσ hids
  rw [show comp Tryz.prog { own := [], ghosts := [] } (Tryz.f106.body.getD .skip) = c_indexByte2 by kernel_rfl, show Tryz.f106.ntmps = 8 by kernel_rfl]
  unfold c_indexByte2
  simp only [go_sem, Int.reduceToNat, Int.reduceLE, Int.reduceLT, Nat.reduceBEq, Nat.reduceLT, Nat.reduceAdd, Nat.reduceLeDiff]
  refine (indexByteString_spec b c σ).is ?_
  simp only [go_sem, Int.reduceToNat, Int.reduceLE, Int.reduceLT, Nat.reduceBEq, Nat.reduceLT, Nat.reduceAdd, Nat.reduceLeDiff]
  first | exact rtw (v := .int .i64 _) wkS ⟨rfl, rfl⟩ | exact rtw0 (v := .int .i64 _) wkS ⟨rfl, rfl⟩
def c_indexByte : CCode := .seq (.ops [⟨some 4, .move (.lit (.int .i64 0)), none, []⟩]) (.seq (.ops [⟨some 5, .move (.tmp 0), none, []⟩, ⟨some 6, .move (.tmp 1), none, []⟩, ⟨some 7, .call (.lit (.func 106 [])) [.tmp 5, .tmp 6], none, []⟩, ⟨some 4, .move (.tmp 7), none, []⟩]) .ret)
set_option maxRecDepth 20000 in
theorem indexByte_spec (b : ByteArray) (c : UInt8) (σ : Store) : ACalls Tryz.prog 85 [.str b, .int .u8 c.toNat] σ (isR (.int .i64 (Lib.indexByte b.data.toList c)) σ) := by
  refine ACalls.intro (rs := [(.tmp 4)]) (by kernel_rfl) { own := [], ghosts := [] } Tryz.func85 (c := Tryz.f85.body.getD .skip) (by kernel_rfl) (by decide) (by rw [show Tryz.f85.ntmps = 8 by kernel_rfl]; exact Nat.le_of_ble_eq_true rfl) (by kernel_rfl) ?_
  intro hσ hids
  rw [show comp Tryz.prog { own := [], ghosts := [] } (Tryz.f85.body.getD .skip) = c_indexByte by kernel_rfl, show Tryz.f85.ntmps = 8 by kernel_rfl]
  unfold c_indexByte
  simp only [go_sem, Int.reduceToNat, Int.reduceLE, Int.reduceLT, Nat.reduceBEq, Nat.reduceLT, Nat.reduceAdd, Nat.reduceLeDiff]
  refine (indexByte2_spec b c σ).is ?_
  simp only [go_sem, Int.reduceToNat, Int.reduceLE, Int.reduceLT, Nat.reduceBEq, Nat.reduceLT, Nat.reduceAdd, Nat.reduceLeDiff]
  first | exact rtw (v := .int .i64 _) wkS ⟨rfl, rfl⟩ | exact rtw0 (v := .int .i64 _) wkS ⟨rfl, rfl⟩
theorem indexByte_neg : ∀ (l : List UInt8) (c : UInt8), (Lib.indexByte l c < 0) = (l.contains c = false)
  | [], c => by simp [Lib.indexByte]
  | b :: l, c => by
    have ih := indexByte_neg l c
    have h1 := Lib.indexByte_ge l c
    unfold Lib.indexByte
    rw [List.contains_cons]
    by_cases hb : b = c
    · subst hb; simp
    · have e1 : (b == c) = false := by simpa using hb
      have e2 : (c == b) = false := by simpa using Ne.symm hb
      rw [e1, e2, Bool.false_or, ← ih, if_neg (by simp)]
      by_cases hm : Lib.indexByte l c = -1
      · rw [if_pos (by simpa using hm), hm]
      · rw [if_neg (by simpa using hm)]; exact propext ⟨fun _ => by omega, fun _ => by omega⟩
def c_name : CCode := .seq (.ops [⟨some 2, .move (.lit (.bool false)), none, []⟩]) (.seq (.seq (.ops [⟨some 5, .move (.tmp 0), none, []⟩, ⟨some 6, .bin .eql .none (.tmp 5) (.lit (.str (bys []))), none, []⟩, ⟨some 7, .move (.tmp 6), none, []⟩, ⟨some 8, .move (.tmp 0), some (some 7, false), []⟩, ⟨some 9, .blen 0 (.tmp 8), some (some 7, false), []⟩, ⟨some 10, .bin .gtr .none (.tmp 9) (.lit (.int .i64 40)), some (some 7, false), []⟩, ⟨some 11, .pick (.tmp 7) (.lit (.bool true)) (.tmp 10), none, []⟩, ⟨some 12, .move (.tmp 11), none, []⟩, ⟨some 13, .move (.tmp 0), some (some 12, false), []⟩, ⟨some 14, .istr (.tmp 13) (.lit (.int .i64 0)), some (some 12, false), []⟩, ⟨some 15, .call (.lit (.func 84 [])) [.tmp 14], some (some 12, false), []⟩, ⟨some 16, .un .not (.tmp 15), some (some 12, false), []⟩, ⟨some 17, .pick (.tmp 12) (.lit (.bool true)) (.tmp 16), none, []⟩]) (.cond (.tmp 17) (.seq (.ops [⟨some 2, .move (.lit (.bool false)), none, []⟩]) .ret) .skip)) (.seq (.seq (.ops [⟨some 18, .move (.tmp 0), none, []⟩, ⟨some 19, .blen 0 (.tmp 18), none, []⟩, ⟨some 20, .move (.lit (.int .i64 0)), none, []⟩]) (.block 0 (.loop (.seq (.ops [⟨some 21, .bin .lss .none (.tmp 20) (.tmp 19), none, []⟩]) (.seq (.cond (.tmp 21) .skip (.exit 0)) (.seq (.block 1 (.seq (.ops [⟨some 22, .move (.tmp 20), none, []⟩, ⟨some 3, .move (.tmp 22), none, []⟩]) (.seq (.ops [⟨some 23, .move (.tmp 0), none, []⟩, ⟨some 24, .move (.tmp 3), none, []⟩, ⟨some 25, .istr (.tmp 23) (.tmp 24), none, []⟩, ⟨some 4, .move (.tmp 25), none, []⟩]) (.seq (.ops [⟨some 26, .move (.tmp 4), none, []⟩, ⟨some 27, .call (.lit (.func 84 [])) [.tmp 26], none, []⟩, ⟨some 28, .un .not (.tmp 27), none, []⟩, ⟨some 29, .move (.tmp 28), none, []⟩, ⟨some 30, .move (.tmp 4), some (some 29, true), []⟩, ⟨some 31, .bin .lss .none (.tmp 30) (.lit (.int .u8 48)), some (some 29, true), []⟩, ⟨some 32, .move (.tmp 31), some (some 29, true), []⟩, ⟨some 33, .move (.tmp 4), some (some 32, false), []⟩, ⟨some 34, .bin .gtr .none (.tmp 33) (.lit (.int .u8 57)), some (some 32, false), []⟩, ⟨some 35, .pick (.tmp 32) (.lit (.bool true)) (.tmp 34), some (some 29, true), []⟩, ⟨some 36, .pick (.tmp 29) (.tmp 35) (.lit (.bool false)), none, []⟩, ⟨some 37, .move (.tmp 36), none, []⟩, ⟨some 38, .move (.tmp 4), some (some 37, true), []⟩, ⟨some 39, .call (.lit (.func 85 [])) [.lit (.str (bys [45, 95, 40, 41, 44])), .tmp 38], some (some 37, true), []⟩, ⟨some 40, .bin .lss .none (.tmp 39) (.lit (.int .i64 0)), some (some 37, true), []⟩, ⟨some 41, .pick (.tmp 37) (.tmp 40) (.lit (.bool false)), none, []⟩]) (.cond (.tmp 41) (.seq (.ops [⟨some 2, .move (.lit (.bool false)), none, []⟩]) .ret) .skip))))) (.ops [⟨some 42, .bin .add .none (.tmp 20) (.lit (.int .i64 1)), none, []⟩, ⟨some 20, .move (.tmp 42), none, []⟩]))))))) (.seq (.ops [⟨some 2, .move (.lit (.bool true)), none, []⟩]) .ret)))
set_option maxRecDepth 20000 in
theorem name_spec (b : ByteArray) (σ : Store) (hb : b.data.toList.length ≤ 140737488355328) : ACalls Tryz.prog 62 [.str b] σ (isR (.bool (nameB b)) σ) := by
  refine ACalls.intro (rs := [(.tmp 2)]) (by kernel_rfl) { own := [], ghosts := [] } Tryz.func62 (c := Tryz.f62.body.getD .skip) (by kernel_rfl) (by decide) (by rw [show Tryz.f62.ntmps = 43 by kernel_rfl]; exact Nat.le_of_ble_eq_true rfl) (by kernel_rfl) ?_
  intro hσ hids
  rw [show comp Tryz.prog { own := [], ghosts := [] } (Tryz.f62.body.getD .skip) = c_name by kernel_rfl, show Tryz.f62.ntmps = 43 by kernel_rfl]
  unfold c_name
  have hs : b.size = b.data.toList.length := rfl
  unfold nameB
  have hem : (b.toList == (bys []).toList) = decide (b.data.toList.length = 0) := by
    by_cases he : b = .empty
    · subst he; rw [toList_data, toList_data]; rfl
    · rw [decide_eq_false (fun e => he (by cases b; simp at e; subst e; rfl))]
      refine beq_eq_false_iff_ne.2 fun e => he ?_
      rw [toList_data, toList_data] at e
      cases b; simp [bys] at e; subst e; rfl
  by_cases h1 : (b.data.toList.length : Int) < 1
  · have h1' : b.data.toList.length = 0 := by omega
    simp only [go_sem, Int.reduceToNat, Int.reduceLE, Int.reduceLT, Nat.reduceBEq, Nat.reduceLT, Nat.reduceAdd, Nat.reduceLeDiff, hs, hem, h1']
    first | exact rtk (.bool false) ⟨by rw [nameL_short h1], rfl⟩ | exact rtk0 (.bool false) ⟨by rw [nameL_short h1], rfl⟩
  have h1' : ¬ b.data.toList.length = 0 := by omega
  by_cases h2 : (b.data.toList.length : Int) > 40
  · simp only [go_sem, Int.reduceToNat, Int.reduceLE, Int.reduceLT, Nat.reduceBEq, Nat.reduceLT, Nat.reduceAdd, Nat.reduceLeDiff, hs, hem, h1', h2]
    first | exact rtk (.bool false) ⟨by rw [nameL_long h2], rfl⟩ | exact rtk0 (.bool false) ⟨by rw [nameL_long h2], rfl⟩
  obtain ⟨c0, hc0⟩ : ∃ c, b.data.toList[0]? = some c := get_ex (by omega)
  have hn := nameL_len h1 h2 hc0
  rw [← bget] at hc0
  simp only [go_sem, Int.reduceToNat, Int.reduceLE, Int.reduceLT, Nat.reduceBEq, Nat.reduceLT, Nat.reduceAdd, Nat.reduceLeDiff, hs, hem, h1', h2, hc0, Int.toNat_zero, Int.le_refl]
  refine (letter_spec c0.toNat σ).is ?_
  cases hl : letterB c0.toNat
  · simp only [go_sem, Int.reduceToNat, Int.reduceLE, Int.reduceLT, Nat.reduceBEq, Nat.reduceLT, Nat.reduceAdd, Nat.reduceLeDiff, hs]
    first | exact rtk (.bool false) ⟨by rw [hn, hl]; rfl, rfl⟩ | exact rtk0 (.bool false) ⟨by rw [hn, hl]; rfl, rfl⟩
  rw [hl, Bool.true_and] at hn
  simp only [go_sem, Int.reduceToNat, Int.reduceLE, Int.reduceLT, Nat.reduceBEq, Nat.reduceLT, Nat.reduceAdd, Nat.reduceLeDiff, hs]
  refine wpc_while (fun i => [(0, .str b), (19, .int .i64 b.data.toList.length), (20, .int .i64 (i : Nat))]) (fun _ => σ) (fun i => i ≤ b.data.toList.length ∧ nameL b.data.toList = (b.data.toList.drop i).all okC) (fun i => b.data.toList.length - i) 0 ⟨Nat.zero_le _, hn⟩ (by (try dsimp only); first | exact ghk | exact ghk0) ?_
  rintro i ⟨hi, hv⟩ K hK hE hR
  by_cases h : i < b.data.toList.length
  · obtain ⟨y, hx⟩ := get_ex h; have hlt : ((i : Int) < (b.data.toList.length : Int)) := (by omega); have hw : IntKind.i64.wrap ((i : Int) + 1) = ((i + 1 : Nat) : Int) := (by rw [wrap_ok (by omega)]; omega)
    rw [drop_cons hx, List.all_cons] at hv
    rw [← bget] at hx
    simp only [go_sem, Int.reduceToNat, Int.reduceLE, Int.reduceLT, Nat.reduceBEq, Nat.reduceLT, Nat.reduceAdd, Nat.reduceLeDiff, hlt, hx]
    refine (letter_spec y.toNat σ).is ?_
    cases h1 : letterB y.toNat
    · have hdig : digitB y.toNat = (!(decide ((y.toNat : Int) < 48)) && !(decide ((y.toNat : Int) > 57))) := by
        unfold digitB
        by_cases a : (y.toNat : Int) < 48 <;> by_cases b : (y.toNat : Int) > 57
        · rw [decide_eq_true a, decide_eq_true b, decide_eq_false (by omega)]; rfl
        · rw [decide_eq_true a, decide_eq_false b, decide_eq_false (by omega)]; rfl
        · rw [decide_eq_false a, decide_eq_true b, decide_eq_true (by omega), decide_eq_false (by omega)]; rfl
        · rw [decide_eq_false a, decide_eq_false b, decide_eq_true (by omega), decide_eq_true (by omega)]; rfl
      by_cases h2 : digitB y.toNat = true
      · rw [h2] at hdig
        have a1 : ¬ (y.toNat : Int) < 48 := fun a => by rw [decide_eq_true a] at hdig; simp at hdig
        have a2 : ¬ (y.toNat : Int) > 57 := fun a => by rw [decide_eq_true a, Bool.not_true, Bool.and_false] at hdig; simp at hdig
        have hok : okC y = true := by rw [okC, h1, h2]; rfl
        rw [hok, Bool.true_and] at hv
        simp only [go_sem, Int.reduceToNat, Int.reduceLE, Int.reduceLT, Nat.reduceBEq, Nat.reduceLT, Nat.reduceAdd, Nat.reduceLeDiff, a1, a2]
        refine hK _ _ (i + 1) (⟨by omega, hv⟩) (by first | omega | (simp only []; omega) | (simp; omega)) ?_; (try dsimp only); (try simp only [ hw]); first | exact ghk | exact ghk0
      · have h2 : digitB y.toNat = false := by simpa using h2
        rw [h2] at hdig
        have hor : (y.toNat : Int) < 48 ∨ (¬ (y.toNat : Int) < 48 ∧ (y.toNat : Int) > 57) := by
          by_cases a : (y.toNat : Int) < 48
          · exact .inl a
          · refine .inr ⟨a, ?_⟩
            rw [decide_eq_false a, Bool.not_false, Bool.true_and] at hdig
            simpa using hdig.symm
        have hok : okC y = [45, 95, 40, 41, 44].contains y := by rw [okC, h1, h2]; rfl
        have hi := indexByte_neg [45, 95, 40, 41, 44] y
        rcases hor with a1 | ⟨a1, a2⟩
        · simp only [go_sem, Int.reduceToNat, Int.reduceLE, Int.reduceLT, Nat.reduceBEq, Nat.reduceLT, Nat.reduceAdd, Nat.reduceLeDiff, a1]
          refine (indexByte_spec (bys [45, 95, 40, 41, 44]) y σ).is ?_
          rw [show (bys [45, 95, 40, 41, 44]).data.toList = [45, 95, 40, 41, 44] from rfl]
          cases h3 : [45, 95, 40, 41, 44].contains y
          · rw [h3] at hi
            have hi : Lib.indexByte [45, 95, 40, 41, 44] y < 0 := by rw [hi]
            simp only [go_sem, Int.reduceToNat, Int.reduceLE, Int.reduceLT, Nat.reduceBEq, Nat.reduceLT, Nat.reduceAdd, Nat.reduceLeDiff, hi]
            rw [hR]
            first | exact rtk (.bool false) ⟨by rw [hv, hok, h3]; rfl, rfl⟩ | exact rtk0 (.bool false) ⟨by rw [hv, hok, h3]; rfl, rfl⟩
          · rw [h3] at hi
            have hi : ¬ Lib.indexByte [45, 95, 40, 41, 44] y < 0 := by rw [hi]; simp
            simp only [go_sem, Int.reduceToNat, Int.reduceLE, Int.reduceLT, Nat.reduceBEq, Nat.reduceLT, Nat.reduceAdd, Nat.reduceLeDiff, hi]
            rw [hok, h3, Bool.true_and] at hv
            refine hK _ _ (i + 1) (⟨by omega, hv⟩) (by first | omega | (simp only []; omega) | (simp; omega)) ?_; (try dsimp only); (try simp only [ hw]); first | exact ghk | exact ghk0
        · simp only [go_sem, Int.reduceToNat, Int.reduceLE, Int.reduceLT, Nat.reduceBEq, Nat.reduceLT, Nat.reduceAdd, Nat.reduceLeDiff, a1, a2]
          refine (indexByte_spec (bys [45, 95, 40, 41, 44]) y σ).is ?_
          rw [show (bys [45, 95, 40, 41, 44]).data.toList = [45, 95, 40, 41, 44] from rfl]
          cases h3 : [45, 95, 40, 41, 44].contains y
          · rw [h3] at hi
            have hi : Lib.indexByte [45, 95, 40, 41, 44] y < 0 := by rw [hi]
            simp only [go_sem, Int.reduceToNat, Int.reduceLE, Int.reduceLT, Nat.reduceBEq, Nat.reduceLT, Nat.reduceAdd, Nat.reduceLeDiff, hi]
            rw [hR]
            first | exact rtk (.bool false) ⟨by rw [hv, hok, h3]; rfl, rfl⟩ | exact rtk0 (.bool false) ⟨by rw [hv, hok, h3]; rfl, rfl⟩
          · rw [h3] at hi
            have hi : ¬ Lib.indexByte [45, 95, 40, 41, 44] y < 0 := by rw [hi]; simp
            simp only [go_sem, Int.reduceToNat, Int.reduceLE, Int.reduceLT, Nat.reduceBEq, Nat.reduceLT, Nat.reduceAdd, Nat.reduceLeDiff, hi]
            rw [hok, h3, Bool.true_and] at hv
            refine hK _ _ (i + 1) (⟨by omega, hv⟩) (by first | omega | (simp only []; omega) | (simp; omega)) ?_; (try dsimp only); (try simp only [ hw]); first | exact ghk | exact ghk0
    · simp only [go_sem, Int.reduceToNat, Int.reduceLE, Int.reduceLT, Nat.reduceBEq, Nat.reduceLT, Nat.reduceAdd, Nat.reduceLeDiff]
      have hok : okC y = true := by rw [okC, h1]; rfl
      rw [hok, Bool.true_and] at hv
      refine hK _ _ (i + 1) (⟨by omega, hv⟩) (by first | omega | (simp only []; omega) | (simp; omega)) ?_; (try dsimp only); (try simp only [ hw]); first | exact ghk | exact ghk0
  · have hlt : ¬ ((i : Int) < (b.data.toList.length : Int)) := by omega
    rw [drop_len h] at hv
    simp only [go_sem, Int.reduceToNat, Int.reduceLE, Int.reduceLT, Nat.reduceBEq, Nat.reduceLT, Nat.reduceAdd, Nat.reduceLeDiff, hlt, hE]
    first | exact rtk (.bool true) ⟨by rw [hv]; rfl, rfl⟩ | exact rtk0 (.bool true) ⟨by rw [hv]; rfl, rfl⟩
end Go.Proofs.YtbnhijapbnfohaaGreat
namespace Go.Proofs.YtbnhijapbnfohaaGreat
open Go.Ahl
theorem take_succ' {α : Type} {l : List α} {i : Nat} {x : α} (h : l[i]? = some x) : l.take (i + 1) = l.take i ++ [x] := by
  rw [List.take_add_one, h]; rfl
/-- Names that are none of some, and differ. -/
def namesFrom (seen : List ByteArray) : List ByteArray → Bool
  | [] => true
  | s :: l => nameB s && !(decide (s ∈ seen)) && namesFrom (seen ++ [s]) l
def c_names01 : CCode := .seq (.ops [⟨some 2, .move (.lit (.bool false)), none, []⟩]) (.seq (.ops [⟨some 6, .mkmap, none, []⟩, ⟨some 3, .move (.tmp 6), none, []⟩]) (.seq (.seq (.ops [⟨some 7, .move (.tmp 0), none, []⟩, ⟨some 8, .blen 1 (.tmp 7), none, []⟩, ⟨some 9, .move (.lit (.int .i64 0)), none, []⟩]) (.block 0 (.loop (.seq (.ops [⟨some 10, .bin .lss .none (.tmp 9) (.tmp 8), none, []⟩]) (.seq (.cond (.tmp 10) .skip (.exit 0)) (.seq (.block 1 (.seq (.ops [⟨some 11, .iaddr 1 (.tmp 7) (.tmp 9), none, []⟩, ⟨some 12, .load none (.tmp 11), none, []⟩, ⟨some 5, .move (.tmp 12), none, []⟩]) (.seq (.seq (.ops [⟨some 13, .move (.tmp 5), none, []⟩, ⟨some 14, .call (.lit (.func 83 [])) [.tmp 13], none, []⟩, ⟨some 15, .un .not (.tmp 14), none, []⟩, ⟨some 16, .move (.tmp 15), none, []⟩, ⟨some 17, .move (.tmp 3), some (some 16, false), []⟩, ⟨some 18, .move (.tmp 5), some (some 16, false), []⟩, ⟨some 19, .lookup true (.bool false) (.tmp 17) (.tmp 18) false, some (some 16, false), []⟩, ⟨some 20, .pick (.tmp 16) (.lit (.bool true)) (.tmp 19), none, []⟩]) (.cond (.tmp 20) (.seq (.ops [⟨some 2, .move (.lit (.bool false)), none, []⟩]) .ret) .skip)) (.ops [⟨some 21, .move (.tmp 3), none, []⟩, ⟨some 22, .move (.tmp 5), none, []⟩, ⟨none, .mapup true (.tmp 21) (.tmp 22) (.lit (.bool true)), none, []⟩])))) (.ops [⟨some 23, .bin .add .none (.tmp 9) (.lit (.int .i64 1)), none, []⟩, ⟨some 9, .move (.tmp 23), none, []⟩]))))))) (.seq (.ops [⟨some 2, .move (.lit (.bool true)), none, []⟩]) .ret)))
set_option maxRecDepth 20000 in
theorem names01_spec (l : List ByteArray) (tok : Tok) (σ : Store) (hl : l.length ≤ 140737488355328) (hb : ∀ b ∈ l, b.data.toList.length ≤ 140737488355328) :
    ACalls Tryz.prog 59 [.slice tok (l.map encT)] σ (isR (.bool (namesFrom [] l)) σ) := by
  refine ACalls.intro (rs := [(.tmp 2)]) (by kernel_rfl) { own := [], ghosts := [] } Tryz.func59 (c := Tryz.f59.body.getD .skip) (by kernel_rfl) (by decide) (by rw [show Tryz.f59.ntmps = 24 by kernel_rfl]; exact Nat.le_of_ble_eq_true rfl) (by kernel_rfl) ?_
  intro hσ hids
  rw [show comp Tryz.prog { own := [], ghosts := [] } (Tryz.f59.body.getD .skip) = c_names01 by kernel_rfl, show Tryz.f59.ntmps = 24 by kernel_rfl]
  unfold c_names01
  have hil : Ids σ.length (.slice tok (l.map encT)) := hids _ (by simp)
  simp only [go_sem, Int.reduceToNat, Int.reduceLE, Int.reduceLT, Nat.reduceBEq, Nat.reduceLT, Nat.reduceAdd, Nat.reduceLeDiff]
  refine wpc_while (fun i => [(3, .map σ.length), (7, .slice tok (l.map encT)), (8, .int .i64 l.length), (9, .int .i64 (i : Nat))]) (fun i => σ ++ [.map (encSet (l.take i))]) (fun i => i ≤ l.length ∧ namesFrom [] l = namesFrom (l.take i) (l.drop i)) (fun i => l.length - i) 0 ⟨Nat.zero_le _, rfl⟩ (have hσ1 := idsS_push hσ (ids_encSet (l.take 0)); (by (try dsimp only); exact ghk1)) ?_
  rintro i ⟨hi, hv⟩ K hK hE hR
  by_cases h : i < l.length
  · obtain ⟨y, hx⟩ := get_ex h; have hlt : ((i : Int) < (l.length : Int)) := (by omega); have hw : IntKind.i64.wrap ((i : Int) + 1) = ((i + 1 : Nat) : Int) := (by rw [wrap_ok (by omega)]; omega)
    rw [drop_cons hx, namesFrom] at hv
    simp only [go_sem, Int.reduceToNat, Int.reduceLE, Int.reduceLT, Nat.reduceBEq, Nat.reduceLT, Nat.reduceAdd, Nat.reduceLeDiff, hlt, hx, encT]
    refine (name01_spec y _ (hb y (List.mem_of_getElem? hx))).is ?_
    cases h1 : nameB y
    · simp only [go_sem, Int.reduceToNat, Int.reduceLE, Int.reduceLT, Nat.reduceBEq, Nat.reduceLT, Nat.reduceAdd, Nat.reduceLeDiff]
      rw [hR]
      first | exact rtk (.bool false) ⟨by rw [hv, h1]; rfl, rfl⟩ | exact rtk0 (.bool false) ⟨by rw [hv, h1]; rfl, rfl⟩
    by_cases h2 : y ∈ l.take i
    · obtain ⟨j, hj⟩ := find_in y _ 0 h2
      simp only [go_sem, Int.reduceToNat, Int.reduceLE, Int.reduceLT, Nat.reduceBEq, Nat.reduceLT, Nat.reduceAdd, Nat.reduceLeDiff, hj]
      rw [hR]
      first | exact rtk (.bool false) ⟨by rw [hv, h1, decide_eq_true h2]; rfl, rfl⟩ | exact rtk0 (.bool false) ⟨by rw [hv, h1, decide_eq_true h2]; rfl, rfl⟩
    · have hj := find_out y _ 0 h2
      simp only [go_sem, Int.reduceToNat, Int.reduceLE, Int.reduceLT, Nat.reduceBEq, Nat.reduceLT, Nat.reduceAdd, Nat.reduceLeDiff, hj, encSet_app, ← take_succ' hx]
      rw [h1, decide_eq_false h2, Bool.not_false, Bool.true_and, Bool.true_and, ← take_succ' hx] at hv
      have hσ1 := idsS_push hσ (ids_encSet (l.take (i + 1)))
      refine hK _ _ (i + 1) (⟨by omega, hv⟩) (by first | omega | (simp only []; omega) | (simp; omega)) ?_; (try dsimp only); (try simp only [ hw]); exact ghk1
  · have hlt : ¬ ((i : Int) < (l.length : Int)) := by omega
    rw [drop_len h] at hv
    simp only [go_sem, Int.reduceToNat, Int.reduceLE, Int.reduceLT, Nat.reduceBEq, Nat.reduceLT, Nat.reduceAdd, Nat.reduceLeDiff, hlt, hE]
    first | exact rtk (.bool true) ⟨by rw [hv]; rfl, rfl⟩ | exact rtk0 (.bool true) ⟨by rw [hv]; rfl, rfl⟩
def effB (n : Int) (e : FEff) : Bool := condB n (-1) e.when_ && (decide (0 ≤ e.lit.fact) && decide (e.lit.fact < n))
def actB (n : Int) (a : FAct) : Bool := decide (0 ≤ a.cost) && (decide (a.cost ≤ 100000) && (condB n (-1) a.pre && (decide (a.effects.length ≤ 100) && a.effects.all (effB n))))
def validB (t : FTask) : Bool :=
  decide (t.facts.length ≤ 200) && (decide (t.actions.length ≤ 1000) && (risingB t.facts.length (-1) t.init && (condB t.facts.length (-1) t.goal && (namesFrom [] t.facts && (namesFrom [] (t.actions.map (·.name)) && t.actions.all (actB t.facts.length))))))
/-- A task whose lists are not too long. -/
structure TB (t : FTask) : Prop where
  facts : t.facts.length ≤ 140737488355328
  names : ∀ b ∈ t.facts, b.data.toList.length ≤ 140737488355328
  init : t.init.length ≤ 140737488355328
  goal : t.goal.length ≤ 140737488355328
  actions : t.actions.length ≤ 140737488355328
  name : ∀ a ∈ t.actions, a.name.data.toList.length ≤ 140737488355328
  pre : ∀ a ∈ t.actions, a.pre.length ≤ 140737488355328
  effects : ∀ a ∈ t.actions, a.effects.length ≤ 140737488355328
  whens : ∀ a ∈ t.actions, ∀ e ∈ a.effects, e.when_.length ≤ 140737488355328
def c_is01 : CCode := .seq (.ops [⟨some 1, .box (.tmp 0), none, []⟩, ⟨some 2, .move (.lit (.bool false)), none, []⟩]) (.seq (.ops [⟨some 9, .faddr 0 (.tmp 1), none, []⟩, ⟨some 10, .load none (.tmp 9), none, []⟩, ⟨some 11, .blen 1 (.tmp 10), none, []⟩, ⟨some 3, .move (.tmp 11), none, []⟩]) (.seq (.seq (.ops [⟨some 12, .move (.tmp 3), none, []⟩, ⟨some 13, .bin .gtr .none (.tmp 12) (.lit (.int .i64 200)), none, []⟩, ⟨some 14, .move (.tmp 13), none, []⟩, ⟨some 15, .faddr 0 (.tmp 1), some (some 14, false), []⟩, ⟨some 16, .load none (.tmp 15), some (some 14, false), []⟩, ⟨some 17, .call (.lit (.func 59 [])) [.tmp 16], some (some 14, false), []⟩, ⟨some 18, .un .not (.tmp 17), some (some 14, false), []⟩, ⟨some 19, .pick (.tmp 14) (.lit (.bool true)) (.tmp 18), none, []⟩, ⟨some 20, .move (.tmp 19), none, []⟩, ⟨some 21, .faddr 1 (.tmp 1), some (some 20, false), []⟩, ⟨some 22, .load none (.tmp 21), some (some 20, false), []⟩, ⟨some 23, .move (.tmp 3), some (some 20, false), []⟩, ⟨some 24, .call (.lit (.func 37 [])) [.tmp 22, .tmp 23], some (some 20, false), []⟩, ⟨some 25, .un .not (.tmp 24), some (some 20, false), []⟩, ⟨some 26, .pick (.tmp 20) (.lit (.bool true)) (.tmp 25), none, []⟩, ⟨some 27, .move (.tmp 26), none, []⟩, ⟨some 28, .faddr 2 (.tmp 1), some (some 27, false), []⟩, ⟨some 29, .load none (.tmp 28), some (some 27, false), []⟩, ⟨some 30, .move (.tmp 3), some (some 27, false), []⟩, ⟨some 31, .call (.lit (.func 60 [])) [.tmp 29, .tmp 30], some (some 27, false), []⟩, ⟨some 32, .un .not (.tmp 31), some (some 27, false), []⟩, ⟨some 33, .pick (.tmp 27) (.lit (.bool true)) (.tmp 32), none, []⟩, ⟨some 34, .move (.tmp 33), none, []⟩, ⟨some 35, .faddr 3 (.tmp 1), some (some 34, false), []⟩, ⟨some 36, .load none (.tmp 35), some (some 34, false), []⟩, ⟨some 37, .blen 1 (.tmp 36), some (some 34, false), []⟩, ⟨some 38, .bin .gtr .none (.tmp 37) (.lit (.int .i64 1000)), some (some 34, false), []⟩, ⟨some 39, .pick (.tmp 34) (.lit (.bool true)) (.tmp 38), none, []⟩]) (.cond (.tmp 39) (.seq (.ops [⟨some 2, .move (.lit (.bool false)), none, []⟩]) .ret) .skip)) (.seq (.ops [⟨some 4, .move (.lit (.slice .nil [])), none, []⟩]) (.seq (.seq (.ops [⟨some 40, .faddr 3 (.tmp 1), none, []⟩, ⟨some 41, .load none (.tmp 40), none, []⟩, ⟨some 42, .blen 1 (.tmp 41), none, []⟩, ⟨some 43, .move (.lit (.int .i64 0)), none, []⟩]) (.block 0 (.loop (.seq (.ops [⟨some 44, .bin .lss .none (.tmp 43) (.tmp 42), none, []⟩]) (.seq (.cond (.tmp 44) .skip (.exit 0)) (.seq (.block 1 (.seq (.ops [⟨some 45, .iaddr 4 (.tmp 41) (.tmp 43), none, []⟩, ⟨some 46, .load (some 4) (.tmp 45), none, []⟩, ⟨some 6, .alloc (.agg [.str (bys []), .int .i64 0, .slice .nil [], .slice .nil []]), none, []⟩, ⟨none, .store 4 (.tmp 6) (.tmp 46), none, []⟩]) (.seq (.seq (.ops [⟨some 47, .faddr 1 (.tmp 6), none, []⟩, ⟨some 48, .load none (.tmp 47), none, []⟩, ⟨some 49, .bin .lss .none (.tmp 48) (.lit (.int .i64 0)), none, []⟩, ⟨some 50, .move (.tmp 49), none, []⟩, ⟨some 51, .faddr 1 (.tmp 6), some (some 50, false), []⟩, ⟨some 52, .load none (.tmp 51), some (some 50, false), []⟩, ⟨some 53, .bin .gtr .none (.tmp 52) (.lit (.int .i64 100000)), some (some 50, false), []⟩, ⟨some 54, .pick (.tmp 50) (.lit (.bool true)) (.tmp 53), none, []⟩, ⟨some 55, .move (.tmp 54), none, []⟩, ⟨some 56, .faddr 2 (.tmp 6), some (some 55, false), []⟩, ⟨some 57, .load none (.tmp 56), some (some 55, false), []⟩, ⟨some 58, .move (.tmp 3), some (some 55, false), []⟩, ⟨some 59, .call (.lit (.func 60 [])) [.tmp 57, .tmp 58], some (some 55, false), []⟩, ⟨some 60, .un .not (.tmp 59), some (some 55, false), []⟩, ⟨some 61, .pick (.tmp 55) (.lit (.bool true)) (.tmp 60), none, []⟩, ⟨some 62, .move (.tmp 61), none, []⟩, ⟨some 63, .faddr 3 (.tmp 6), some (some 62, false), []⟩, ⟨some 64, .load none (.tmp 63), some (some 62, false), []⟩, ⟨some 65, .blen 1 (.tmp 64), some (some 62, false), []⟩, ⟨some 66, .bin .gtr .none (.tmp 65) (.lit (.int .i64 100)), some (some 62, false), []⟩, ⟨some 67, .pick (.tmp 62) (.lit (.bool true)) (.tmp 66), none, []⟩]) (.cond (.tmp 67) (.seq (.ops [⟨some 2, .move (.lit (.bool false)), none, []⟩]) .ret) .skip)) (.seq (.seq (.ops [⟨some 68, .faddr 3 (.tmp 6), none, []⟩, ⟨some 69, .load none (.tmp 68), none, []⟩, ⟨some 70, .blen 1 (.tmp 69), none, []⟩, ⟨some 71, .move (.lit (.int .i64 0)), none, []⟩]) (.block 2 (.loop (.seq (.ops [⟨some 72, .bin .lss .none (.tmp 71) (.tmp 70), none, []⟩]) (.seq (.cond (.tmp 72) .skip (.exit 2)) (.seq (.block 3 (.seq (.ops [⟨some 73, .iaddr 3 (.tmp 69) (.tmp 71), none, []⟩, ⟨some 74, .load (some 3) (.tmp 73), none, []⟩, ⟨some 8, .alloc (.agg [.slice .nil [], .int .i64 0, .bool false]), none, []⟩, ⟨none, .store 3 (.tmp 8) (.tmp 74), none, []⟩]) (.seq (.ops [⟨some 75, .faddr 0 (.tmp 8), none, []⟩, ⟨some 76, .load none (.tmp 75), none, []⟩, ⟨some 77, .move (.tmp 3), none, []⟩, ⟨some 78, .call (.lit (.func 60 [])) [.tmp 76, .tmp 77], none, []⟩, ⟨some 79, .un .not (.tmp 78), none, []⟩, ⟨some 80, .move (.tmp 79), none, []⟩, ⟨some 81, .faddr 1 (.tmp 8), some (some 80, false), []⟩, ⟨some 82, .faddr 0 (.tmp 81), some (some 80, false), []⟩, ⟨some 83, .load none (.tmp 82), some (some 80, false), []⟩, ⟨some 84, .bin .lss .none (.tmp 83) (.lit (.int .i64 0)), some (some 80, false), []⟩, ⟨some 85, .pick (.tmp 80) (.lit (.bool true)) (.tmp 84), none, []⟩, ⟨some 86, .move (.tmp 85), none, []⟩, ⟨some 87, .faddr 1 (.tmp 8), some (some 86, false), []⟩, ⟨some 88, .faddr 0 (.tmp 87), some (some 86, false), []⟩, ⟨some 89, .load none (.tmp 88), some (some 86, false), []⟩, ⟨some 90, .move (.tmp 3), some (some 86, false), []⟩, ⟨some 91, .bin .geq .none (.tmp 89) (.tmp 90), some (some 86, false), []⟩, ⟨some 92, .pick (.tmp 86) (.lit (.bool true)) (.tmp 91), none, []⟩]) (.cond (.tmp 92) (.seq (.ops [⟨some 2, .move (.lit (.bool false)), none, []⟩]) .ret) .skip)))) (.ops [⟨some 93, .bin .add .none (.tmp 71) (.lit (.int .i64 1)), none, []⟩, ⟨some 71, .move (.tmp 93), none, []⟩]))))))) (.ops [⟨some 94, .move (.tmp 4), none, []⟩, ⟨some 95, .faddr 0 (.tmp 6), none, []⟩, ⟨some 96, .load none (.tmp 95), none, []⟩, ⟨some 97, .bslice 1 [.tmp 96] false, none, []⟩, ⟨some 98, .bappend 1 16 (.tmp 94) (.tmp 97) false, none, []⟩, ⟨some 4, .move (.tmp 98), none, []⟩]))))) (.ops [⟨some 99, .bin .add .none (.tmp 43) (.lit (.int .i64 1)), none, []⟩, ⟨some 43, .move (.tmp 99), none, []⟩]))))))) (.seq (.ops [⟨some 100, .move (.tmp 4), none, []⟩, ⟨some 101, .call (.lit (.func 59 [])) [.tmp 100], none, []⟩, ⟨some 2, .move (.tmp 101), none, []⟩]) .ret)))))
set_option maxRecDepth 20000 in
theorem is01_spec (t : FTask) (σ : Store) (hb : TB t) : ACalls Tryz.prog 30 [.agg (encTask t)] σ (isR (.bool (validB t)) σ) := by
  refine ACalls.intro (rs := [(.tmp 2)]) (by kernel_rfl) { own := [], ghosts := [] } Tryz.func30 (c := Tryz.f30.body.getD .skip) (by kernel_rfl) (by decide) (by rw [show Tryz.f30.ntmps = 102 by kernel_rfl]; exact Nat.le_of_ble_eq_true rfl) (by kernel_rfl) ?_
  intro hσ hids
  rw [show comp Tryz.prog { own := [], ghosts := [] } (Tryz.f30.body.getD .skip) = c_is01 by kernel_rfl, show Tryz.f30.ntmps = 102 by kernel_rfl]
  unfold c_is01
  unfold validB
  by_cases h1 : (t.facts.length : Int) > 200
  · simp only [go_sem, Int.reduceToNat, Int.reduceLE, Int.reduceLT, Nat.reduceBEq, Nat.reduceLT, Nat.reduceAdd, Nat.reduceLeDiff, encTask, h1]
    first | exact rtk (.bool false) ⟨by rw [decide_eq_false (by omega : ¬ t.facts.length ≤ 200)]; rfl, rfl⟩ | exact rtk0 (.bool false) ⟨by rw [decide_eq_false (by omega : ¬ t.facts.length ≤ 200)]; rfl, rfl⟩
  rw [decide_eq_true (by omega : t.facts.length ≤ 200), Bool.true_and]
  simp only [go_sem, Int.reduceToNat, Int.reduceLE, Int.reduceLT, Nat.reduceBEq, Nat.reduceLT, Nat.reduceAdd, Nat.reduceLeDiff, encTask, h1]
  refine (names01_spec t.facts _ _ hb.facts hb.names).is ?_
  cases h2 : namesFrom [] t.facts
  · simp only [go_sem, Int.reduceToNat, Int.reduceLE, Int.reduceLT, Nat.reduceBEq, Nat.reduceLT, Nat.reduceAdd, Nat.reduceLeDiff]
    first | exact rtk (.bool false) ⟨by simp only [Bool.false_and, Bool.and_false], rfl⟩ | exact rtk0 (.bool false) ⟨by simp only [Bool.false_and, Bool.and_false], rfl⟩
  simp only [go_sem, Int.reduceToNat, Int.reduceLE, Int.reduceLT, Nat.reduceBEq, Nat.reduceLT, Nat.reduceAdd, Nat.reduceLeDiff]
  refine (rising01_spec t.init t.facts.length _ _ hb.init).is ?_
  cases h3 : risingB t.facts.length (-1) t.init
  · simp only [go_sem, Int.reduceToNat, Int.reduceLE, Int.reduceLT, Nat.reduceBEq, Nat.reduceLT, Nat.reduceAdd, Nat.reduceLeDiff]
    first | exact rtk (.bool false) ⟨by simp only [Bool.false_and, Bool.and_false], rfl⟩ | exact rtk0 (.bool false) ⟨by simp only [Bool.false_and, Bool.and_false], rfl⟩
  simp only [go_sem, Int.reduceToNat, Int.reduceLE, Int.reduceLT, Nat.reduceBEq, Nat.reduceLT, Nat.reduceAdd, Nat.reduceLeDiff]
  refine (cond01_spec t.goal t.facts.length _ _ hb.goal).is ?_
  cases h4 : condB t.facts.length (-1) t.goal
  · simp only [go_sem, Int.reduceToNat, Int.reduceLE, Int.reduceLT, Nat.reduceBEq, Nat.reduceLT, Nat.reduceAdd, Nat.reduceLeDiff]
    first | exact rtk (.bool false) ⟨by simp only [Bool.false_and, Bool.and_false], rfl⟩ | exact rtk0 (.bool false) ⟨by simp only [Bool.false_and, Bool.and_false], rfl⟩
  by_cases h5 : (t.actions.length : Int) > 1000
  · simp only [go_sem, Int.reduceToNat, Int.reduceLE, Int.reduceLT, Nat.reduceBEq, Nat.reduceLT, Nat.reduceAdd, Nat.reduceLeDiff, h5]
    first | exact rtk (.bool false) ⟨by rw [decide_eq_false (by omega : ¬ t.actions.length ≤ 1000)]; rfl, rfl⟩ | exact rtk0 (.bool false) ⟨by rw [decide_eq_false (by omega : ¬ t.actions.length ≤ 1000)]; rfl, rfl⟩
  rw [decide_eq_true (by omega : t.actions.length ≤ 1000)]
  simp only [Bool.true_and]
  simp only [go_sem, Int.reduceToNat, Int.reduceLE, Int.reduceLT, Nat.reduceBEq, Nat.reduceLT, Nat.reduceAdd, Nat.reduceLeDiff, h5]
  -- the names so far
  refine wpc_while (fun i => [(4, .slice (.grow σ.length) (((t.actions.take i).map (·.name)).map encT)), (3, .int .i64 t.facts.length), (41, .slice .unk (t.actions.map encA)), (42, .int .i64 t.actions.length), (43, .int .i64 (i : Nat))])
    (fun i => σ ++ [.grow 1 i]) (fun i => i ≤ t.actions.length ∧ (namesFrom [] (t.actions.map (·.name)) && t.actions.all (actB t.facts.length)) = (namesFrom [] (t.actions.map (·.name)) && (t.actions.drop i).all (actB t.facts.length))) (fun i => t.actions.length - i) 0 ⟨Nat.zero_le _, rfl⟩ (.begin 4 1 _ (Nat.le_refl _) tellT hσ) ?_
  rintro i ⟨hi, hv⟩ K hK hE hR
  by_cases h : i < t.actions.length
  · obtain ⟨a, hx⟩ := get_ex h; have hlt : ((i : Int) < (t.actions.length : Int)) := (by omega); have hw : IntKind.i64.wrap ((i : Int) + 1) = ((i + 1 : Nat) : Int) := (by rw [wrap_ok (by omega)]; omega)
    have ha := List.mem_of_getElem? hx
    rw [drop_cons hx, List.all_cons] at hv
    by_cases a1 : a.cost < 0
    · simp only [go_sem, Int.reduceToNat, Int.reduceLE, Int.reduceLT, Nat.reduceBEq, Nat.reduceLT, Nat.reduceAdd, Nat.reduceLeDiff, hlt, hx, encA, a1]
      rw [hR]
      first | exact rtk (.bool false) ⟨by rw [hv, actB, decide_eq_false (by omega : ¬ 0 ≤ a.cost), Bool.false_and, Bool.false_and, Bool.and_false], rfl⟩ | exact rtk0 (.bool false) ⟨by rw [hv, actB, decide_eq_false (by omega : ¬ 0 ≤ a.cost), Bool.false_and, Bool.false_and, Bool.and_false], rfl⟩
    by_cases a2 : a.cost > 100000
    · simp only [go_sem, Int.reduceToNat, Int.reduceLE, Int.reduceLT, Nat.reduceBEq, Nat.reduceLT, Nat.reduceAdd, Nat.reduceLeDiff, hlt, hx, encA, a1, a2]
      rw [hR]
      first | exact rtk (.bool false) ⟨by rw [hv, actB, decide_eq_false (by omega : ¬ a.cost ≤ 100000), Bool.false_and, Bool.and_false, Bool.false_and, Bool.and_false], rfl⟩ | exact rtk0 (.bool false) ⟨by rw [hv, actB, decide_eq_false (by omega : ¬ a.cost ≤ 100000), Bool.false_and, Bool.and_false, Bool.false_and, Bool.and_false], rfl⟩
    rw [actB, decide_eq_true (by omega : 0 ≤ a.cost), decide_eq_true (by omega : a.cost ≤ 100000), Bool.true_and, Bool.true_and] at hv
    simp only [go_sem, Int.reduceToNat, Int.reduceLE, Int.reduceLT, Nat.reduceBEq, Nat.reduceLT, Nat.reduceAdd, Nat.reduceLeDiff, hlt, hx, encA, a1, a2]
    refine (cond01_spec a.pre t.facts.length _ _ (hb.pre a ha)).is ?_
    cases a3 : condB t.facts.length (-1) a.pre
    · simp only [go_sem, Int.reduceToNat, Int.reduceLE, Int.reduceLT, Nat.reduceBEq, Nat.reduceLT, Nat.reduceAdd, Nat.reduceLeDiff]
      rw [hR]
      first | exact rtk (.bool false) ⟨by rw [hv, a3, Bool.false_and, Bool.false_and, Bool.and_false], rfl⟩ | exact rtk0 (.bool false) ⟨by rw [hv, a3, Bool.false_and, Bool.false_and, Bool.and_false], rfl⟩
    rw [a3, Bool.true_and] at hv
    by_cases a4 : (a.effects.length : Int) > 100
    · simp only [go_sem, Int.reduceToNat, Int.reduceLE, Int.reduceLT, Nat.reduceBEq, Nat.reduceLT, Nat.reduceAdd, Nat.reduceLeDiff, a4]
      rw [hR]
      first | exact rtk (.bool false) ⟨by rw [hv, decide_eq_false (by omega : ¬ a.effects.length ≤ 100), Bool.false_and, Bool.false_and, Bool.and_false], rfl⟩ | exact rtk0 (.bool false) ⟨by rw [hv, decide_eq_false (by omega : ¬ a.effects.length ≤ 100), Bool.false_and, Bool.false_and, Bool.and_false], rfl⟩
    rw [decide_eq_true (by omega : a.effects.length ≤ 100), Bool.true_and] at hv
    simp only [go_sem, Int.reduceToNat, Int.reduceLE, Int.reduceLT, Nat.reduceBEq, Nat.reduceLT, Nat.reduceAdd, Nat.reduceLeDiff, a4]
    have hσ2 : IdsS (σ ++ [AObj.grow 1 i, AObj.row (encA a)]).length (σ ++ [AObj.grow 1 i, AObj.row (encA a)]) := idsS_app _ hσ (all_cons' trivial (all_cons' (idsO_row (ids_encA a)) all_nil'))
    refine wpc_while (fun j => [(4, .slice (.grow σ.length) (((t.actions.take i).map (·.name)).map encT)), (3, .int .i64 t.facts.length), (6, .ptr (σ.length + 1) 0), (41, .slice .unk (t.actions.map encA)), (42, .int .i64 t.actions.length), (43, .int .i64 (i : Nat)), (69, .slice .unk (a.effects.map encE)), (70, .int .i64 a.effects.length), (71, .int .i64 (j : Nat))])
      (fun j => σ ++ [.grow 1 i, .row (encA a)]) (fun j => j ≤ a.effects.length ∧ (namesFrom [] (t.actions.map (·.name)) && t.actions.all (actB t.facts.length)) = (namesFrom [] (t.actions.map (·.name)) && ((a.effects.drop j).all (effB t.facts.length) && (t.actions.drop (i + 1)).all (actB t.facts.length)))) (fun j => a.effects.length - j) 0 ⟨Nat.zero_le _, hv⟩ (by (try dsimp only); first | exact ghL (hσ2) | exact ghL0 (hσ2)) ?_
    rintro j ⟨hj', hvj⟩ K' hK' hE' hR'
    by_cases hj : j < a.effects.length
    · obtain ⟨e, hxj⟩ := get_ex hj; have hltj : ((j : Int) < (a.effects.length : Int)) := (by omega); have hwj : IntKind.i64.wrap ((j : Int) + 1) = ((j + 1 : Nat) : Int) := (by rw [wrap_ok (by omega)]; omega)
      have he := List.mem_of_getElem? hxj
      rw [drop_cons hxj, List.all_cons] at hvj
      simp only [go_sem, Int.reduceToNat, Int.reduceLE, Int.reduceLT, Nat.reduceBEq, Nat.reduceLT, Nat.reduceAdd, Nat.reduceLeDiff, hltj, hxj, encE]
      refine (cond01_spec e.when_ t.facts.length _ _ (hb.whens a ha e he)).is ?_
      cases b1 : condB t.facts.length (-1) e.when_
      · simp only [go_sem, Int.reduceToNat, Int.reduceLE, Int.reduceLT, Nat.reduceBEq, Nat.reduceLT, Nat.reduceAdd, Nat.reduceLeDiff, hR', hR]
        first | exact rtk (.bool false) ⟨by rw [hvj, effB, b1, Bool.false_and, Bool.false_and, Bool.false_and, Bool.and_false], rfl⟩ | exact rtk0 (.bool false) ⟨by rw [hvj, effB, b1, Bool.false_and, Bool.false_and, Bool.false_and, Bool.and_false], rfl⟩
      rw [effB, b1, Bool.true_and] at hvj
      by_cases b2 : e.lit.fact < 0
      · simp only [go_sem, Int.reduceToNat, Int.reduceLE, Int.reduceLT, Nat.reduceBEq, Nat.reduceLT, Nat.reduceAdd, Nat.reduceLeDiff, b2, hR', hR]
        first | exact rtk (.bool false) ⟨by rw [hvj, decide_eq_false (by omega : ¬ 0 ≤ e.lit.fact), Bool.false_and, Bool.false_and, Bool.false_and, Bool.and_false], rfl⟩ | exact rtk0 (.bool false) ⟨by rw [hvj, decide_eq_false (by omega : ¬ 0 ≤ e.lit.fact), Bool.false_and, Bool.false_and, Bool.false_and, Bool.and_false], rfl⟩
      by_cases b3 : e.lit.fact ≥ t.facts.length
      · simp only [go_sem, Int.reduceToNat, Int.reduceLE, Int.reduceLT, Nat.reduceBEq, Nat.reduceLT, Nat.reduceAdd, Nat.reduceLeDiff, b2, b3, hR', hR]
        first | exact rtk (.bool false) ⟨by rw [hvj, decide_eq_false (by omega : ¬ e.lit.fact < t.facts.length), Bool.and_false, Bool.false_and, Bool.false_and, Bool.and_false], rfl⟩ | exact rtk0 (.bool false) ⟨by rw [hvj, decide_eq_false (by omega : ¬ e.lit.fact < t.facts.length), Bool.and_false, Bool.false_and, Bool.false_and, Bool.and_false], rfl⟩
      rw [decide_eq_true (by omega : 0 ≤ e.lit.fact), decide_eq_true (by omega : e.lit.fact < t.facts.length), Bool.true_and, Bool.true_and] at hvj
      simp only [go_sem, Int.reduceToNat, Int.reduceLE, Int.reduceLT, Nat.reduceBEq, Nat.reduceLT, Nat.reduceAdd, Nat.reduceLeDiff, b2, b3]
      refine hK' _ _ (j + 1) ⟨by omega, hvj⟩ (by omega) ?_
      exact (by (try dsimp only); (try simp only [ hwj]); first | exact ghL (hσ2) | exact ghL0 (hσ2))
    · have hltj : ¬ ((j : Int) < (a.effects.length : Int)) := by omega
      rw [drop_len hj, List.all_nil, Bool.true_and] at hvj
      have hc : List.map encT (List.map (fun x => x.name) (List.take i t.actions)) ++ [[AV.str a.name]] = List.map encT (List.map (fun x => x.name) (List.take (i + 1) t.actions)) := by rw [take_succ' hx]; simp [encT]
      have hn : (List.take i t.actions).length = i := List.length_take_of_le (by omega)
      have hbig : bigLen (i + 1) 16 := big_ok (by omega) (by omega)
      simp only [go_sem, Int.reduceToNat, Int.reduceLE, Int.reduceLT, Nat.reduceBEq, Nat.reduceLT, Nat.reduceAdd, Nat.reduceLeDiff, hltj, hE', encA, encT, hc, hn, hbig]
      have hσ1 := idsS_push hσ (o := .grow 1 (i + 1)) trivial
      refine hK _ _ (i + 1) (⟨by omega, hvj⟩) (by first | omega | (simp only []; omega) | (simp; omega)) ?_; (try dsimp only); (try simp only [ hw]); exact ghk1
  · have hlt : ¬ ((i : Int) < (t.actions.length : Int)) := by omega
    rw [drop_len h, List.all_nil, Bool.and_true] at hv
    have ht : t.actions.take i = t.actions := List.take_of_length_le (by omega)
    rw [ht]
    simp only [go_sem, Int.reduceToNat, Int.reduceLE, Int.reduceLT, Nat.reduceBEq, Nat.reduceLT, Nat.reduceAdd, Nat.reduceLeDiff, hlt, hE]
    refine (names01_spec (t.actions.map (·.name)) _ _ (by rw [List.length_map]; exact hb.actions) (fun b hb' => by obtain ⟨a, ha, rfl⟩ := List.mem_map.1 hb'; exact hb.name a ha)).is ?_
    simp only [go_sem, Int.reduceToNat, Int.reduceLE, Int.reduceLT, Nat.reduceBEq, Nat.reduceLT, Nat.reduceAdd, Nat.reduceLeDiff]
    first | exact rtw (v := .bool _) wkS ⟨by rw [hv], rfl⟩ | exact rtw0 (v := .bool _) wkS ⟨by rw [hv], rfl⟩
end Go.Proofs.YtbnhijapbnfohaaGreat
namespace Go.Proofs.YtbnhijapbnfohaaGreat
open Go.Ahl
/-- The actions as task.Valid goes through them. -/
def actsFrom (n : Int) (seen : List ByteArray) : List FAct → Bool
  | [] => true
  | a :: l => nameB a.name && (!(decide (a.name ∈ seen)) && (actB n a && actsFrom n (seen ++ [a.name]) l))
theorem actsFrom_eq (n : Int) : ∀ (l : List FAct) (seen : List ByteArray), actsFrom n seen l = (namesFrom seen (l.map (·.name)) && l.all (actB n))
  | [], seen => rfl
  | a :: l, seen => by
    rw [actsFrom, List.map_cons, namesFrom, List.all_cons, actsFrom_eq n l]
    cases nameB a.name <;> cases decide (a.name ∈ seen) <;> cases actB n a <;> simp
def c_valid : CCode := .seq (.ops [⟨some 1, .box (.tmp 0), none, []⟩, ⟨some 2, .move (.lit (.bool false)), none, []⟩]) (.seq (.ops [⟨some 11, .faddr 0 (.tmp 1), none, []⟩, ⟨some 12, .load none (.tmp 11), none, []⟩, ⟨some 13, .blen 1 (.tmp 12), none, []⟩, ⟨some 3, .move (.tmp 13), none, []⟩]) (.seq (.seq (.ops [⟨some 14, .move (.tmp 3), none, []⟩, ⟨some 15, .bin .gtr .none (.tmp 14) (.lit (.int .i64 200)), none, []⟩, ⟨some 16, .move (.tmp 15), none, []⟩, ⟨some 17, .faddr 3 (.tmp 1), some (some 16, false), []⟩, ⟨some 18, .load none (.tmp 17), some (some 16, false), []⟩, ⟨some 19, .blen 1 (.tmp 18), some (some 16, false), []⟩, ⟨some 20, .bin .gtr .none (.tmp 19) (.lit (.int .i64 1000)), some (some 16, false), []⟩, ⟨some 21, .pick (.tmp 16) (.lit (.bool true)) (.tmp 20), none, []⟩, ⟨some 22, .move (.tmp 21), none, []⟩, ⟨some 23, .move (.tmp 3), some (some 22, false), []⟩, ⟨some 24, .faddr 1 (.tmp 1), some (some 22, false), []⟩, ⟨some 25, .load none (.tmp 24), some (some 22, false), []⟩, ⟨some 26, .call (.lit (.func 48 [])) [.tmp 23, .tmp 25], some (some 22, false), []⟩, ⟨some 27, .un .not (.tmp 26), some (some 22, false), []⟩, ⟨some 28, .pick (.tmp 22) (.lit (.bool true)) (.tmp 27), none, []⟩, ⟨some 29, .move (.tmp 28), none, []⟩, ⟨some 30, .move (.tmp 3), some (some 29, false), []⟩, ⟨some 31, .faddr 2 (.tmp 1), some (some 29, false), []⟩, ⟨some 32, .load none (.tmp 31), some (some 29, false), []⟩, ⟨some 33, .call (.lit (.func 51 [])) [.tmp 30, .tmp 32], some (some 29, false), []⟩, ⟨some 34, .un .not (.tmp 33), some (some 29, false), []⟩, ⟨some 35, .pick (.tmp 29) (.lit (.bool true)) (.tmp 34), none, []⟩]) (.cond (.tmp 35) (.seq (.ops [⟨some 2, .move (.lit (.bool false)), none, []⟩]) .ret) .skip)) (.seq (.ops [⟨some 36, .mkmap, none, []⟩, ⟨some 4, .move (.tmp 36), none, []⟩]) (.seq (.seq (.ops [⟨some 37, .faddr 0 (.tmp 1), none, []⟩, ⟨some 38, .load none (.tmp 37), none, []⟩, ⟨some 39, .blen 1 (.tmp 38), none, []⟩, ⟨some 40, .move (.lit (.int .i64 0)), none, []⟩]) (.block 0 (.loop (.seq (.ops [⟨some 41, .bin .lss .none (.tmp 40) (.tmp 39), none, []⟩]) (.seq (.cond (.tmp 41) .skip (.exit 0)) (.seq (.block 1 (.seq (.ops [⟨some 42, .iaddr 1 (.tmp 38) (.tmp 40), none, []⟩, ⟨some 43, .load none (.tmp 42), none, []⟩, ⟨some 6, .move (.tmp 43), none, []⟩]) (.seq (.seq (.ops [⟨some 44, .move (.tmp 6), none, []⟩, ⟨some 45, .call (.lit (.func 62 [])) [.tmp 44], none, []⟩, ⟨some 46, .un .not (.tmp 45), none, []⟩, ⟨some 47, .move (.tmp 46), none, []⟩, ⟨some 48, .move (.tmp 4), some (some 47, false), []⟩, ⟨some 49, .move (.tmp 6), some (some 47, false), []⟩, ⟨some 50, .lookup true (.bool false) (.tmp 48) (.tmp 49) false, some (some 47, false), []⟩, ⟨some 51, .pick (.tmp 47) (.lit (.bool true)) (.tmp 50), none, []⟩]) (.cond (.tmp 51) (.seq (.ops [⟨some 2, .move (.lit (.bool false)), none, []⟩]) .ret) .skip)) (.ops [⟨some 52, .move (.tmp 4), none, []⟩, ⟨some 53, .move (.tmp 6), none, []⟩, ⟨none, .mapup true (.tmp 52) (.tmp 53) (.lit (.bool true)), none, []⟩])))) (.ops [⟨some 54, .bin .add .none (.tmp 40) (.lit (.int .i64 1)), none, []⟩, ⟨some 40, .move (.tmp 54), none, []⟩]))))))) (.seq (.ops [⟨some 55, .mkmap, none, []⟩, ⟨some 4, .move (.tmp 55), none, []⟩]) (.seq (.seq (.ops [⟨some 56, .faddr 3 (.tmp 1), none, []⟩, ⟨some 57, .load none (.tmp 56), none, []⟩, ⟨some 58, .blen 1 (.tmp 57), none, []⟩, ⟨some 59, .move (.lit (.int .i64 0)), none, []⟩]) (.block 2 (.loop (.seq (.ops [⟨some 60, .bin .lss .none (.tmp 59) (.tmp 58), none, []⟩]) (.seq (.cond (.tmp 60) .skip (.exit 2)) (.seq (.block 3 (.seq (.ops [⟨some 61, .iaddr 4 (.tmp 57) (.tmp 59), none, []⟩, ⟨some 62, .load (some 4) (.tmp 61), none, []⟩, ⟨some 8, .alloc (.agg [.str (bys []), .int .i64 0, .slice .nil [], .slice .nil []]), none, []⟩, ⟨none, .store 4 (.tmp 8) (.tmp 62), none, []⟩]) (.seq (.seq (.ops [⟨some 63, .faddr 0 (.tmp 8), none, []⟩, ⟨some 64, .load none (.tmp 63), none, []⟩, ⟨some 65, .call (.lit (.func 62 [])) [.tmp 64], none, []⟩, ⟨some 66, .un .not (.tmp 65), none, []⟩, ⟨some 67, .move (.tmp 66), none, []⟩, ⟨some 68, .move (.tmp 4), some (some 67, false), []⟩, ⟨some 69, .faddr 0 (.tmp 8), some (some 67, false), []⟩, ⟨some 70, .load none (.tmp 69), some (some 67, false), []⟩, ⟨some 71, .lookup true (.bool false) (.tmp 68) (.tmp 70) false, some (some 67, false), []⟩, ⟨some 72, .pick (.tmp 67) (.lit (.bool true)) (.tmp 71), none, []⟩, ⟨some 73, .move (.tmp 72), none, []⟩, ⟨some 74, .faddr 1 (.tmp 8), some (some 73, false), []⟩, ⟨some 75, .load none (.tmp 74), some (some 73, false), []⟩, ⟨some 76, .bin .lss .none (.tmp 75) (.lit (.int .i64 0)), some (some 73, false), []⟩, ⟨some 77, .pick (.tmp 73) (.lit (.bool true)) (.tmp 76), none, []⟩, ⟨some 78, .move (.tmp 77), none, []⟩, ⟨some 79, .faddr 1 (.tmp 8), some (some 78, false), []⟩, ⟨some 80, .load none (.tmp 79), some (some 78, false), []⟩, ⟨some 81, .bin .gtr .none (.tmp 80) (.lit (.int .i64 100000)), some (some 78, false), []⟩, ⟨some 82, .pick (.tmp 78) (.lit (.bool true)) (.tmp 81), none, []⟩, ⟨some 83, .move (.tmp 82), none, []⟩, ⟨some 84, .move (.tmp 3), some (some 83, false), []⟩, ⟨some 85, .faddr 2 (.tmp 8), some (some 83, false), []⟩, ⟨some 86, .load none (.tmp 85), some (some 83, false), []⟩, ⟨some 87, .call (.lit (.func 51 [])) [.tmp 84, .tmp 86], some (some 83, false), []⟩, ⟨some 88, .un .not (.tmp 87), some (some 83, false), []⟩, ⟨some 89, .pick (.tmp 83) (.lit (.bool true)) (.tmp 88), none, []⟩, ⟨some 90, .move (.tmp 89), none, []⟩, ⟨some 91, .faddr 3 (.tmp 8), some (some 90, false), []⟩, ⟨some 92, .load none (.tmp 91), some (some 90, false), []⟩, ⟨some 93, .blen 1 (.tmp 92), some (some 90, false), []⟩, ⟨some 94, .bin .gtr .none (.tmp 93) (.lit (.int .i64 100)), some (some 90, false), []⟩, ⟨some 95, .pick (.tmp 90) (.lit (.bool true)) (.tmp 94), none, []⟩]) (.cond (.tmp 95) (.seq (.ops [⟨some 2, .move (.lit (.bool false)), none, []⟩]) .ret) .skip)) (.seq (.ops [⟨some 96, .move (.tmp 4), none, []⟩, ⟨some 97, .faddr 0 (.tmp 8), none, []⟩, ⟨some 98, .load none (.tmp 97), none, []⟩, ⟨none, .mapup true (.tmp 96) (.tmp 98) (.lit (.bool true)), none, []⟩]) (.seq (.ops [⟨some 99, .faddr 3 (.tmp 8), none, []⟩, ⟨some 100, .load none (.tmp 99), none, []⟩, ⟨some 101, .blen 1 (.tmp 100), none, []⟩, ⟨some 102, .move (.lit (.int .i64 0)), none, []⟩]) (.block 4 (.loop (.seq (.ops [⟨some 103, .bin .lss .none (.tmp 102) (.tmp 101), none, []⟩]) (.seq (.cond (.tmp 103) .skip (.exit 4)) (.seq (.block 5 (.seq (.ops [⟨some 104, .iaddr 3 (.tmp 100) (.tmp 102), none, []⟩, ⟨some 105, .load (some 3) (.tmp 104), none, []⟩, ⟨some 10, .alloc (.agg [.slice .nil [], .int .i64 0, .bool false]), none, []⟩, ⟨none, .store 3 (.tmp 10) (.tmp 105), none, []⟩]) (.seq (.ops [⟨some 106, .move (.tmp 3), none, []⟩, ⟨some 107, .faddr 0 (.tmp 10), none, []⟩, ⟨some 108, .load none (.tmp 107), none, []⟩, ⟨some 109, .call (.lit (.func 51 [])) [.tmp 106, .tmp 108], none, []⟩, ⟨some 110, .un .not (.tmp 109), none, []⟩, ⟨some 111, .move (.tmp 110), none, []⟩, ⟨some 112, .faddr 1 (.tmp 10), some (some 111, false), []⟩, ⟨some 113, .faddr 0 (.tmp 112), some (some 111, false), []⟩, ⟨some 114, .load none (.tmp 113), some (some 111, false), []⟩, ⟨some 115, .bin .lss .none (.tmp 114) (.lit (.int .i64 0)), some (some 111, false), []⟩, ⟨some 116, .pick (.tmp 111) (.lit (.bool true)) (.tmp 115), none, []⟩, ⟨some 117, .move (.tmp 116), none, []⟩, ⟨some 118, .faddr 1 (.tmp 10), some (some 117, false), []⟩, ⟨some 119, .faddr 0 (.tmp 118), some (some 117, false), []⟩, ⟨some 120, .load none (.tmp 119), some (some 117, false), []⟩, ⟨some 121, .move (.tmp 3), some (some 117, false), []⟩, ⟨some 122, .bin .geq .none (.tmp 120) (.tmp 121), some (some 117, false), []⟩, ⟨some 123, .pick (.tmp 117) (.lit (.bool true)) (.tmp 122), none, []⟩]) (.cond (.tmp 123) (.seq (.ops [⟨some 2, .move (.lit (.bool false)), none, []⟩]) .ret) .skip)))) (.ops [⟨some 124, .bin .add .none (.tmp 102) (.lit (.int .i64 1)), none, []⟩, ⟨some 102, .move (.tmp 124), none, []⟩]))))))))))) (.ops [⟨some 125, .bin .add .none (.tmp 59) (.lit (.int .i64 1)), none, []⟩, ⟨some 59, .move (.tmp 125), none, []⟩]))))))) (.seq (.ops [⟨some 2, .move (.lit (.bool true)), none, []⟩]) .ret)))))))
set_option maxRecDepth 20000 in
theorem valid_spec (t : FTask) (σ : Store) (hb : TB t) : ACalls Tryz.prog 35 [.agg (encTask t)] σ (isR (.bool (validB t)) σ) := by
  refine ACalls.intro (rs := [(.tmp 2)]) (by kernel_rfl) { own := [], ghosts := [] } Tryz.func35 (c := Tryz.f35.body.getD .skip) (by kernel_rfl) (by decide) (by rw [show Tryz.f35.ntmps = 126 by kernel_rfl]; exact Nat.le_of_ble_eq_true rfl) (by kernel_rfl) ?_
  intro hσ hids
  rw [show comp Tryz.prog { own := [], ghosts := [] } (Tryz.f35.body.getD .skip) = c_valid by kernel_rfl, show Tryz.f35.ntmps = 126 by kernel_rfl]
  unfold c_valid
  unfold validB
  rw [← actsFrom_eq]
  by_cases h1 : (t.facts.length : Int) > 200
  · simp only [go_sem, Int.reduceToNat, Int.reduceLE, Int.reduceLT, Nat.reduceBEq, Nat.reduceLT, Nat.reduceAdd, Nat.reduceLeDiff, encTask, h1]
    first | exact rtk (.bool false) ⟨by rw [decide_eq_false (by omega : ¬ t.facts.length ≤ 200)]; rfl, rfl⟩ | exact rtk0 (.bool false) ⟨by rw [decide_eq_false (by omega : ¬ t.facts.length ≤ 200)]; rfl, rfl⟩
  rw [decide_eq_true (by omega : t.facts.length ≤ 200), Bool.true_and]
  by_cases h5 : (t.actions.length : Int) > 1000
  · simp only [go_sem, Int.reduceToNat, Int.reduceLE, Int.reduceLT, Nat.reduceBEq, Nat.reduceLT, Nat.reduceAdd, Nat.reduceLeDiff, encTask, h1, h5]
    first | exact rtk (.bool false) ⟨by rw [decide_eq_false (by omega : ¬ t.actions.length ≤ 1000)]; rfl, rfl⟩ | exact rtk0 (.bool false) ⟨by rw [decide_eq_false (by omega : ¬ t.actions.length ≤ 1000)]; rfl, rfl⟩
  rw [decide_eq_true (by omega : t.actions.length ≤ 1000)]
  simp only [go_sem, Int.reduceToNat, Int.reduceLE, Int.reduceLT, Nat.reduceBEq, Nat.reduceLT, Nat.reduceAdd, Nat.reduceLeDiff, encTask, h1, h5]
  refine (rising_spec t.init t.facts.length _ _ hb.init).is ?_
  cases h3 : risingB t.facts.length (-1) t.init
  · simp only [go_sem, Int.reduceToNat, Int.reduceLE, Int.reduceLT, Nat.reduceBEq, Nat.reduceLT, Nat.reduceAdd, Nat.reduceLeDiff]
    first | exact rtk (.bool false) ⟨by simp only [Bool.false_and, Bool.and_false], rfl⟩ | exact rtk0 (.bool false) ⟨by simp only [Bool.false_and, Bool.and_false], rfl⟩
  simp only [go_sem, Int.reduceToNat, Int.reduceLE, Int.reduceLT, Nat.reduceBEq, Nat.reduceLT, Nat.reduceAdd, Nat.reduceLeDiff]
  refine (cond_spec t.goal t.facts.length _ _ hb.goal).is ?_
  cases h4 : condB t.facts.length (-1) t.goal
  · simp only [go_sem, Int.reduceToNat, Int.reduceLE, Int.reduceLT, Nat.reduceBEq, Nat.reduceLT, Nat.reduceAdd, Nat.reduceLeDiff]
    first | exact rtk (.bool false) ⟨by simp only [Bool.false_and, Bool.and_false], rfl⟩ | exact rtk0 (.bool false) ⟨by simp only [Bool.false_and, Bool.and_false], rfl⟩
  simp only [Bool.true_and]
  simp only [go_sem, Int.reduceToNat, Int.reduceLE, Int.reduceLT, Nat.reduceBEq, Nat.reduceLT, Nat.reduceAdd, Nat.reduceLeDiff]
  have hs1 : ∀ i, IdsS (σ ++ [AObj.row (encTask t), AObj.map (encSet (t.facts.take i))]).length (σ ++ [AObj.row (encTask t), AObj.map (encSet (t.facts.take i))]) := fun i => idsS_app _ hσ (all_cons' (idsO_row (ids_encTask t)) (all_cons' (ids_encSet _) all_nil'))
  refine wpc_while (fun i => [(1, .ptr σ.length 0), (3, .int .i64 t.facts.length), (4, .map (σ.length + 1)), (38, .slice .unk (t.facts.map encT)), (39, .int .i64 t.facts.length), (40, .int .i64 (i : Nat))]) (fun i => σ ++ [.row (encTask t), .map (encSet (t.facts.take i))])
    (fun i => i ≤ t.facts.length ∧ namesFrom [] t.facts = namesFrom (t.facts.take i) (t.facts.drop i)) (fun i => t.facts.length - i) 0 ⟨Nat.zero_le _, rfl⟩ (by (try dsimp only); first | exact ghL (hs1 0) | exact ghL0 (hs1 0)) ?_
  rintro i ⟨hi, hv⟩ K hK hE hR
  by_cases h : i < t.facts.length
  · obtain ⟨y, hx⟩ := get_ex h; have hlt : ((i : Int) < (t.facts.length : Int)) := (by omega); have hw : IntKind.i64.wrap ((i : Int) + 1) = ((i + 1 : Nat) : Int) := (by rw [wrap_ok (by omega)]; omega)
    rw [drop_cons hx, namesFrom] at hv
    simp only [go_sem, Int.reduceToNat, Int.reduceLE, Int.reduceLT, Nat.reduceBEq, Nat.reduceLT, Nat.reduceAdd, Nat.reduceLeDiff, hlt, hx, encT, hR]
    refine (name_spec y _ (hb.names y (List.mem_of_getElem? hx))).is ?_
    cases h1 : nameB y
    · simp only [go_sem, Int.reduceToNat, Int.reduceLE, Int.reduceLT, Nat.reduceBEq, Nat.reduceLT, Nat.reduceAdd, Nat.reduceLeDiff, hR]
      first | exact rtk (.bool false) ⟨by rw [hv, h1, Bool.false_and, Bool.false_and, Bool.false_and], rfl⟩ | exact rtk0 (.bool false) ⟨by rw [hv, h1, Bool.false_and, Bool.false_and, Bool.false_and], rfl⟩
    by_cases h2 : y ∈ t.facts.take i
    · obtain ⟨j, hj⟩ := find_in y _ 0 h2
      simp only [go_sem, Int.reduceToNat, Int.reduceLE, Int.reduceLT, Nat.reduceBEq, Nat.reduceLT, Nat.reduceAdd, Nat.reduceLeDiff, hj, hR]
      first | exact rtk (.bool false) ⟨by rw [hv, h1, decide_eq_true h2, Bool.not_true, Bool.and_false, Bool.false_and, Bool.false_and], rfl⟩ | exact rtk0 (.bool false) ⟨by rw [hv, h1, decide_eq_true h2, Bool.not_true, Bool.and_false, Bool.false_and, Bool.false_and], rfl⟩
    · have hj := find_out y _ 0 h2
      simp only [go_sem, Int.reduceToNat, Int.reduceLE, Int.reduceLT, Nat.reduceBEq, Nat.reduceLT, Nat.reduceAdd, Nat.reduceLeDiff, hj, encSet_app, ← take_succ' hx]
      rw [h1, decide_eq_false h2, Bool.not_false, Bool.true_and, Bool.true_and, ← take_succ' hx] at hv
      refine hK _ _ (i + 1) (⟨by omega, hv⟩) (by first | omega | (simp only []; omega) | (simp; omega)) ?_; (try dsimp only); (try simp only [ hw]); first | exact ghL (hs1 (i + 1)) | exact ghL0 (hs1 (i + 1))
  · have hlt : ¬ ((i : Int) < (t.facts.length : Int)) := by omega
    rw [drop_len h, namesFrom] at hv
    simp only [go_sem, Int.reduceToNat, Int.reduceLE, Int.reduceLT, Nat.reduceBEq, Nat.reduceLT, Nat.reduceAdd, Nat.reduceLeDiff, hlt, hE, encTask]
    rw [hv, Bool.true_and]
    clear hK hE hR
    have hs2 : ∀ i, IdsS (σ ++ [AObj.row (encTask t), AObj.map (encSet t.facts), AObj.map (encSet ((t.actions.take i).map (·.name)))]).length (σ ++ [AObj.row (encTask t), AObj.map (encSet t.facts), AObj.map (encSet ((t.actions.take i).map (·.name)))]) := fun i => idsS_app _ hσ (all_cons' (idsO_row (ids_encTask t)) (all_cons' (ids_encSet _) (all_cons' (ids_encSet _) all_nil')))
    have ht : t.facts.take i = t.facts := List.take_of_length_le (by omega)
    rw [ht]
    refine wpc_while (fun i => [(3, .int .i64 t.facts.length), (4, .map (σ.length + 2)), (57, .slice .unk (t.actions.map encA)), (58, .int .i64 t.actions.length), (59, .int .i64 (i : Nat))])
      (fun i => σ ++ [.row (encTask t), .map (encSet t.facts), .map (encSet ((t.actions.take i).map (·.name)))]) (fun i => i ≤ t.actions.length ∧ actsFrom t.facts.length [] t.actions = actsFrom t.facts.length ((t.actions.take i).map (·.name)) (t.actions.drop i)) (fun i => t.actions.length - i) 0 ⟨Nat.zero_le _, rfl⟩ (by (try dsimp only); first | exact ghL (hs2 0) | exact ghL0 (hs2 0)) ?_
    clear hv h hi
    rintro i ⟨hi, hv⟩ K hK hE hR
    by_cases h : i < t.actions.length
    · obtain ⟨a, hx⟩ := get_ex h; have hlt : ((i : Int) < (t.actions.length : Int)) := (by omega); have hw : IntKind.i64.wrap ((i : Int) + 1) = ((i + 1 : Nat) : Int) := (by rw [wrap_ok (by omega)]; omega)
      have ha := List.mem_of_getElem? hx
      rw [drop_cons hx, actsFrom] at hv
      simp only [go_sem, Int.reduceToNat, Int.reduceLE, Int.reduceLT, Nat.reduceBEq, Nat.reduceLT, Nat.reduceAdd, Nat.reduceLeDiff, hlt, hx, encA]
      refine (name_spec a.name _ (hb.name a ha)).is ?_
      cases n1 : nameB a.name
      · simp only [go_sem, Int.reduceToNat, Int.reduceLE, Int.reduceLT, Nat.reduceBEq, Nat.reduceLT, Nat.reduceAdd, Nat.reduceLeDiff, hR]
        first | exact rtk (.bool false) ⟨by rw [hv, n1]; rfl, rfl⟩ | exact rtk0 (.bool false) ⟨by rw [hv, n1]; rfl, rfl⟩
      rw [n1, Bool.true_and] at hv
      by_cases n2 : a.name ∈ (t.actions.take i).map (·.name)
      · obtain ⟨j, hj⟩ := find_in a.name _ 0 n2
        simp only [go_sem, Int.reduceToNat, Int.reduceLE, Int.reduceLT, Nat.reduceBEq, Nat.reduceLT, Nat.reduceAdd, Nat.reduceLeDiff, hj, hR]
        first | exact rtk (.bool false) ⟨by rw [hv, decide_eq_true n2]; rfl, rfl⟩ | exact rtk0 (.bool false) ⟨by rw [hv, decide_eq_true n2]; rfl, rfl⟩
      have hj := find_out a.name _ 0 n2
      rw [decide_eq_false n2, Bool.not_false, Bool.true_and, actB] at hv
      by_cases a1 : a.cost < 0
      · simp only [go_sem, Int.reduceToNat, Int.reduceLE, Int.reduceLT, Nat.reduceBEq, Nat.reduceLT, Nat.reduceAdd, Nat.reduceLeDiff, hj, a1, hR]
        first | exact rtk (.bool false) ⟨by rw [hv, decide_eq_false (by omega : ¬ 0 ≤ a.cost)]; rfl, rfl⟩ | exact rtk0 (.bool false) ⟨by rw [hv, decide_eq_false (by omega : ¬ 0 ≤ a.cost)]; rfl, rfl⟩
      by_cases a2 : a.cost > 100000
      · simp only [go_sem, Int.reduceToNat, Int.reduceLE, Int.reduceLT, Nat.reduceBEq, Nat.reduceLT, Nat.reduceAdd, Nat.reduceLeDiff, hj, a1, a2, hR]
        first | exact rtk (.bool false) ⟨by rw [hv, decide_eq_false (by omega : ¬ a.cost ≤ 100000), Bool.false_and, Bool.and_false]; rfl, rfl⟩ | exact rtk0 (.bool false) ⟨by rw [hv, decide_eq_false (by omega : ¬ a.cost ≤ 100000), Bool.false_and, Bool.and_false]; rfl, rfl⟩
      rw [decide_eq_true (by omega : 0 ≤ a.cost), decide_eq_true (by omega : a.cost ≤ 100000), Bool.true_and, Bool.true_and] at hv
      simp only [go_sem, Int.reduceToNat, Int.reduceLE, Int.reduceLT, Nat.reduceBEq, Nat.reduceLT, Nat.reduceAdd, Nat.reduceLeDiff, hj, a1, a2]
      refine (cond_spec a.pre t.facts.length _ _ (hb.pre a ha)).is ?_
      cases a3 : condB t.facts.length (-1) a.pre
      · simp only [go_sem, Int.reduceToNat, Int.reduceLE, Int.reduceLT, Nat.reduceBEq, Nat.reduceLT, Nat.reduceAdd, Nat.reduceLeDiff, hR]
        first | exact rtk (.bool false) ⟨by rw [hv, a3]; rfl, rfl⟩ | exact rtk0 (.bool false) ⟨by rw [hv, a3]; rfl, rfl⟩
      rw [a3, Bool.true_and] at hv
      by_cases a4 : (a.effects.length : Int) > 100
      · simp only [go_sem, Int.reduceToNat, Int.reduceLE, Int.reduceLT, Nat.reduceBEq, Nat.reduceLT, Nat.reduceAdd, Nat.reduceLeDiff, a4, hR]
        first | exact rtk (.bool false) ⟨by rw [hv, decide_eq_false (by omega : ¬ a.effects.length ≤ 100)]; rfl, rfl⟩ | exact rtk0 (.bool false) ⟨by rw [hv, decide_eq_false (by omega : ¬ a.effects.length ≤ 100)]; rfl, rfl⟩
      rw [decide_eq_true (by omega : a.effects.length ≤ 100), Bool.true_and] at hv
      have hc : (t.actions.take i).map (·.name) ++ [a.name] = (t.actions.take (i + 1)).map (·.name) := by rw [take_succ' hx]; simp
      rw [hc] at hv
      simp only [go_sem, Int.reduceToNat, Int.reduceLE, Int.reduceLT, Nat.reduceBEq, Nat.reduceLT, Nat.reduceAdd, Nat.reduceLeDiff, a4, hj, encSet_app, hc]
      refine wpc_while (fun j => [(3, .int .i64 t.facts.length), (4, .map (σ.length + 2)), (57, .slice .unk (t.actions.map encA)), (58, .int .i64 t.actions.length), (59, .int .i64 (i : Nat)), (100, .slice .unk (a.effects.map encE)), (101, .int .i64 a.effects.length), (102, .int .i64 (j : Nat))])
        (fun j => σ ++ [.row (encTask t), .map (encSet t.facts), .map (encSet ((t.actions.take (i + 1)).map (·.name)))]) (fun j => j ≤ a.effects.length ∧ actsFrom t.facts.length [] t.actions = ((a.effects.drop j).all (effB t.facts.length) && actsFrom t.facts.length ((t.actions.take (i + 1)).map (·.name)) (t.actions.drop (i + 1)))) (fun j => a.effects.length - j) 0 ⟨Nat.zero_le _, hv⟩ (by (try dsimp only); first | exact ghL (hs2 (i + 1)) | exact ghL0 (hs2 (i + 1))) ?_
      rintro j ⟨hj', hvj⟩ K' hK' hE' hR'
      by_cases hj : j < a.effects.length
      · obtain ⟨e, hxj⟩ := get_ex hj; have hltj : ((j : Int) < (a.effects.length : Int)) := (by omega); have hwj : IntKind.i64.wrap ((j : Int) + 1) = ((j + 1 : Nat) : Int) := (by rw [wrap_ok (by omega)]; omega)
        have he := List.mem_of_getElem? hxj
        rw [drop_cons hxj, List.all_cons] at hvj
        simp only [go_sem, Int.reduceToNat, Int.reduceLE, Int.reduceLT, Nat.reduceBEq, Nat.reduceLT, Nat.reduceAdd, Nat.reduceLeDiff, hltj, hxj, encE]
        refine (cond_spec e.when_ t.facts.length _ _ (hb.whens a ha e he)).is ?_
        cases b1 : condB t.facts.length (-1) e.when_
        · simp only [go_sem, Int.reduceToNat, Int.reduceLE, Int.reduceLT, Nat.reduceBEq, Nat.reduceLT, Nat.reduceAdd, Nat.reduceLeDiff, hR', hR]
          first | exact rtk (.bool false) ⟨by rw [hvj, effB, b1]; rfl, rfl⟩ | exact rtk0 (.bool false) ⟨by rw [hvj, effB, b1]; rfl, rfl⟩
        rw [effB, b1, Bool.true_and] at hvj
        by_cases b2 : e.lit.fact < 0
        · simp only [go_sem, Int.reduceToNat, Int.reduceLE, Int.reduceLT, Nat.reduceBEq, Nat.reduceLT, Nat.reduceAdd, Nat.reduceLeDiff, b2, hR', hR]
          first | exact rtk (.bool false) ⟨by rw [hvj, decide_eq_false (by omega : ¬ 0 ≤ e.lit.fact)]; rfl, rfl⟩ | exact rtk0 (.bool false) ⟨by rw [hvj, decide_eq_false (by omega : ¬ 0 ≤ e.lit.fact)]; rfl, rfl⟩
        by_cases b3 : e.lit.fact ≥ t.facts.length
        · simp only [go_sem, Int.reduceToNat, Int.reduceLE, Int.reduceLT, Nat.reduceBEq, Nat.reduceLT, Nat.reduceAdd, Nat.reduceLeDiff, b2, b3, hR', hR]
          first | exact rtk (.bool false) ⟨by rw [hvj, decide_eq_false (by omega : ¬ e.lit.fact < t.facts.length), Bool.and_false]; rfl, rfl⟩ | exact rtk0 (.bool false) ⟨by rw [hvj, decide_eq_false (by omega : ¬ e.lit.fact < t.facts.length), Bool.and_false]; rfl, rfl⟩
        rw [decide_eq_true (by omega : 0 ≤ e.lit.fact), decide_eq_true (by omega : e.lit.fact < t.facts.length), Bool.true_and, Bool.true_and] at hvj
        simp only [go_sem, Int.reduceToNat, Int.reduceLE, Int.reduceLT, Nat.reduceBEq, Nat.reduceLT, Nat.reduceAdd, Nat.reduceLeDiff, b2, b3]
        refine hK' _ _ (j + 1) ⟨by omega, hvj⟩ (by omega) ?_
        exact (by (try dsimp only); (try simp only [ hwj]); first | exact ghL (hs2 (i + 1)) | exact ghL0 (hs2 (i + 1)))
      · have hltj : ¬ ((j : Int) < (a.effects.length : Int)) := by omega
        rw [drop_len hj, List.all_nil, Bool.true_and] at hvj
        simp only [go_sem, Int.reduceToNat, Int.reduceLE, Int.reduceLT, Nat.reduceBEq, Nat.reduceLT, Nat.reduceAdd, Nat.reduceLeDiff, hltj, hE']
        refine hK _ _ (i + 1) (⟨by omega, hvj⟩) (by first | omega | (simp only []; omega) | (simp; omega)) ?_; (try dsimp only); (try simp only [ hw]); first | exact ghL (hs2 (i + 1)) | exact ghL0 (hs2 (i + 1))
    · have hlt : ¬ ((i : Int) < (t.actions.length : Int)) := by omega
      rw [drop_len h] at hv
      simp only [go_sem, Int.reduceToNat, Int.reduceLE, Int.reduceLT, Nat.reduceBEq, Nat.reduceLT, Nat.reduceAdd, Nat.reduceLeDiff, hlt, hE]
      first | exact rtk (.bool true) ⟨by rw [hv]; rfl, rfl⟩ | exact rtk0 (.bool true) ⟨by rw [hv]; rfl, rfl⟩
end Go.Proofs.YtbnhijapbnfohaaGreat
namespace Go.Proofs.YtbnhijapbnfohaaGreat
open Go.Ahl
/-- The place of the first element of a kind, counted from k, or -1. -/
def idxFrom {α : Type} (p : α → Bool) : Int → List α → Int
  | _, [] => -1
  | k, x :: l => if p x then k else idxFrom p (k + 1) l
theorem idxFrom_ge {α : Type} (p : α → Bool) : ∀ (l : List α) (k : Int), 0 ≤ k → decide (idxFrom p k l ≥ 0) = l.any p
  | [], k, h => by simp [idxFrom]
  | x :: l, k, h => by
    rw [idxFrom, List.any_cons]
    cases hx : p x
    · simp only [Bool.false_eq_true, if_false, Bool.false_or]; exact idxFrom_ge p l (k + 1) (by omega)
    · simp [h]
def c_indexFuncC : CCode := .seq (.ops [⟨some 4, .move (.lit (.int .i64 0)), none, []⟩]) (.seq (.seq (.ops [⟨some 6, .move (.tmp 0), none, []⟩, ⟨some 7, .blen 1 (.tmp 6), none, []⟩, ⟨some 8, .move (.lit (.int .i64 0)), none, []⟩]) (.block 0 (.loop (.seq (.ops [⟨some 9, .bin .lss .none (.tmp 8) (.tmp 7), none, []⟩]) (.seq (.cond (.tmp 9) .skip (.exit 0)) (.seq (.block 1 (.seq (.ops [⟨some 10, .move (.tmp 8), none, []⟩, ⟨some 5, .move (.tmp 10), none, []⟩]) (.seq (.ops [⟨some 11, .move (.tmp 1), none, []⟩, ⟨some 12, .move (.tmp 0), none, []⟩, ⟨some 13, .move (.tmp 5), none, []⟩, ⟨some 14, .iaddr 1 (.tmp 12) (.tmp 13), none, []⟩, ⟨some 15, .load none (.tmp 14), none, []⟩, ⟨some 16, .call (.tmp 11) [.tmp 15], none, []⟩]) (.cond (.tmp 16) (.seq (.ops [⟨some 17, .move (.tmp 5), none, []⟩, ⟨some 4, .move (.tmp 17), none, []⟩]) .ret) .skip)))) (.ops [⟨some 18, .bin .add .none (.tmp 8) (.lit (.int .i64 1)), none, []⟩, ⟨some 8, .move (.tmp 18), none, []⟩]))))))) (.seq (.ops [⟨some 4, .move (.lit (.int .i64 (-1))), none, []⟩]) .ret))
set_option maxRecDepth 20000 in
theorem indexFuncC_spec {α : Type} (v : α → AV) (l : List α) (g : FuncId) (cap : List AV) (p : α → Bool) (tok : Tok) (σ : Store) (hl : l.length ≤ 140737488355328)
    (hp : ∀ x ∈ l, ACalls Tryz.prog g (v x :: cap) σ (isR (.bool (p x)) σ)) :
    ACalls Tryz.prog 71 [.slice tok (l.map fun x => [v x]), .func g cap] σ (isR (.int .i64 (idxFrom p 0 l)) σ) := by
  refine ACalls.intro (rs := [(.tmp 4)]) (by kernel_rfl) { own := [], ghosts := [] } Tryz.func71 (c := Tryz.f71.body.getD .skip) (by kernel_rfl) (by decide) (by rw [show Tryz.f71.ntmps = 19 by kernel_rfl]; exact Nat.le_of_ble_eq_true rfl) (by kernel_rfl) ?_
  intro hσ hids
  rw [show comp Tryz.prog { own := [], ghosts := [] } (Tryz.f71.body.getD .skip) = c_indexFuncC by kernel_rfl, show Tryz.f71.ntmps = 19 by kernel_rfl]
  unfold c_indexFuncC
  have hil : Ids σ.length (.slice tok (l.map fun x => [v x])) := hids _ (by simp)
  have hif : Ids σ.length (.func g cap) := hids _ (by simp)
  simp only [go_sem, Int.reduceToNat, Int.reduceLE, Int.reduceLT, Nat.reduceBEq, Nat.reduceLT, Nat.reduceAdd, Nat.reduceLeDiff]
  refine wpc_while (fun i => [(0, .slice tok (l.map fun x => [v x])), (1, .func g cap), (7, .int .i64 l.length), (8, .int .i64 (i : Nat))]) (fun _ => σ) (fun i => i ≤ l.length ∧ idxFrom p 0 l = idxFrom p i (l.drop i)) (fun i => l.length - i) 0 ⟨Nat.zero_le _, rfl⟩ (by (try dsimp only); first | exact ghk | exact ghk0) ?_
  rintro i ⟨hi, hv⟩ K hK hE hR
  by_cases h : i < l.length
  · obtain ⟨y, hx⟩ := get_ex h; have hlt : ((i : Int) < (l.length : Int)) := (by omega); have hw : IntKind.i64.wrap ((i : Int) + 1) = ((i + 1 : Nat) : Int) := (by rw [wrap_ok (by omega)]; omega)
    rw [drop_cons hx, idxFrom] at hv
    simp only [go_sem, Int.reduceToNat, Int.reduceLE, Int.reduceLT, Nat.reduceBEq, Nat.reduceLT, Nat.reduceAdd, Nat.reduceLeDiff, hlt, hx]
    refine (hp y (List.mem_of_getElem? hx)).is ?_
    cases h1 : p y
    · simp only [go_sem, Int.reduceToNat, Int.reduceLE, Int.reduceLT, Nat.reduceBEq, Nat.reduceLT, Nat.reduceAdd, Nat.reduceLeDiff]
      rw [h1, if_neg (by simp)] at hv
      refine hK _ _ (i + 1) (⟨by omega, by rw [hv]; norm_cast⟩) (by first | omega | (simp only []; omega) | (simp; omega)) ?_; (try dsimp only); (try simp only [ hw]); first | exact ghk | exact ghk0
    · rw [h1, if_pos rfl] at hv
      simp only [go_sem, Int.reduceToNat, Int.reduceLE, Int.reduceLT, Nat.reduceBEq, Nat.reduceLT, Nat.reduceAdd, Nat.reduceLeDiff, hR]
      first | exact rtk (.int .i64 i) ⟨by rw [hv], rfl⟩ | exact rtk0 (.int .i64 i) ⟨by rw [hv], rfl⟩
  · have hlt : ¬ ((i : Int) < (l.length : Int)) := by omega
    rw [drop_len h] at hv
    simp only [go_sem, Int.reduceToNat, Int.reduceLE, Int.reduceLT, Nat.reduceBEq, Nat.reduceLT, Nat.reduceAdd, Nat.reduceLeDiff, hlt, hE]
    first | exact rtk (.int .i64 (-1)) ⟨by rw [hv]; rfl, rfl⟩ | exact rtk0 (.int .i64 (-1)) ⟨by rw [hv]; rfl, rfl⟩
def c_indexFuncL : CCode := .seq (.ops [⟨some 4, .move (.lit (.int .i64 0)), none, []⟩]) (.seq (.seq (.ops [⟨some 6, .move (.tmp 0), none, []⟩, ⟨some 7, .blen 1 (.tmp 6), none, []⟩, ⟨some 8, .move (.lit (.int .i64 0)), none, []⟩]) (.block 0 (.loop (.seq (.ops [⟨some 9, .bin .lss .none (.tmp 8) (.tmp 7), none, []⟩]) (.seq (.cond (.tmp 9) .skip (.exit 0)) (.seq (.block 1 (.seq (.ops [⟨some 10, .move (.tmp 8), none, []⟩, ⟨some 5, .move (.tmp 10), none, []⟩]) (.seq (.ops [⟨some 11, .move (.tmp 1), none, []⟩, ⟨some 12, .move (.tmp 0), none, []⟩, ⟨some 13, .move (.tmp 5), none, []⟩, ⟨some 14, .iaddr 2 (.tmp 12) (.tmp 13), none, []⟩, ⟨some 15, .load (some 2) (.tmp 14), none, []⟩, ⟨some 16, .call (.tmp 11) [.tmp 15], none, []⟩]) (.cond (.tmp 16) (.seq (.ops [⟨some 17, .move (.tmp 5), none, []⟩, ⟨some 4, .move (.tmp 17), none, []⟩]) .ret) .skip)))) (.ops [⟨some 18, .bin .add .none (.tmp 8) (.lit (.int .i64 1)), none, []⟩, ⟨some 8, .move (.tmp 18), none, []⟩]))))))) (.seq (.ops [⟨some 4, .move (.lit (.int .i64 (-1))), none, []⟩]) .ret))
set_option maxRecDepth 20000 in
theorem indexFuncL_spec (l : List FLit) (g : FuncId) (cap : List AV) (p : FLit → Bool) (tok : Tok) (σ : Store) (hl : l.length ≤ 140737488355328)
    (hp : ∀ x ∈ l, ACalls Tryz.prog g (.agg (encLit x) :: cap) σ (isR (.bool (p x)) σ)) :
    ACalls Tryz.prog 90 [.slice tok (l.map encLit), .func g cap] σ (isR (.int .i64 (idxFrom p 0 l)) σ) := by
  refine ACalls.intro (rs := [(.tmp 4)]) (by kernel_rfl) { own := [], ghosts := [] } Tryz.func90 (c := Tryz.f90.body.getD .skip) (by kernel_rfl) (by decide) (by rw [show Tryz.f90.ntmps = 19 by kernel_rfl]; exact Nat.le_of_ble_eq_true rfl) (by kernel_rfl) ?_
  intro hσ hids
  rw [show comp Tryz.prog { own := [], ghosts := [] } (Tryz.f90.body.getD .skip) = c_indexFuncL by kernel_rfl, show Tryz.f90.ntmps = 19 by kernel_rfl]
  unfold c_indexFuncL
  have hil : Ids σ.length (.slice tok (l.map encLit)) := hids _ (by simp)
  have hif : Ids σ.length (.func g cap) := hids _ (by simp)
  simp only [go_sem, Int.reduceToNat, Int.reduceLE, Int.reduceLT, Nat.reduceBEq, Nat.reduceLT, Nat.reduceAdd, Nat.reduceLeDiff]
  refine wpc_while (fun i => [(0, .slice tok (l.map encLit)), (1, .func g cap), (7, .int .i64 l.length), (8, .int .i64 (i : Nat))]) (fun _ => σ) (fun i => i ≤ l.length ∧ idxFrom p 0 l = idxFrom p i (l.drop i)) (fun i => l.length - i) 0 ⟨Nat.zero_le _, rfl⟩ (by (try dsimp only); first | exact ghk | exact ghk0) ?_
  rintro i ⟨hi, hv⟩ K hK hE hR
  by_cases h : i < l.length
  · obtain ⟨y, hx⟩ := get_ex h; have hlt : ((i : Int) < (l.length : Int)) := (by omega); have hw : IntKind.i64.wrap ((i : Int) + 1) = ((i + 1 : Nat) : Int) := (by rw [wrap_ok (by omega)]; omega)
    rw [drop_cons hx, idxFrom] at hv
    simp only [go_sem, Int.reduceToNat, Int.reduceLE, Int.reduceLT, Nat.reduceBEq, Nat.reduceLT, Nat.reduceAdd, Nat.reduceLeDiff, hlt, hx, encLit]
    refine (hp y (List.mem_of_getElem? hx)).is ?_
    cases h1 : p y
    · simp only [go_sem, Int.reduceToNat, Int.reduceLE, Int.reduceLT, Nat.reduceBEq, Nat.reduceLT, Nat.reduceAdd, Nat.reduceLeDiff]
      rw [h1, if_neg (by simp)] at hv
      refine hK _ _ (i + 1) (⟨by omega, by rw [hv]; norm_cast⟩) (by first | omega | (simp only []; omega) | (simp; omega)) ?_; (try dsimp only); (try simp only [ hw]); first | exact ghk | exact ghk0
    · rw [h1, if_pos rfl] at hv
      simp only [go_sem, Int.reduceToNat, Int.reduceLE, Int.reduceLT, Nat.reduceBEq, Nat.reduceLT, Nat.reduceAdd, Nat.reduceLeDiff, hR]
      first | exact rtk (.int .i64 i) ⟨by rw [hv], rfl⟩ | exact rtk0 (.int .i64 i) ⟨by rw [hv], rfl⟩
  · have hlt : ¬ ((i : Int) < (l.length : Int)) := by omega
    rw [drop_len h] at hv
    simp only [go_sem, Int.reduceToNat, Int.reduceLE, Int.reduceLT, Nat.reduceBEq, Nat.reduceLT, Nat.reduceAdd, Nat.reduceLeDiff, hlt, hE]
    first | exact rtk (.int .i64 (-1)) ⟨by rw [hv]; rfl, rfl⟩ | exact rtk0 (.int .i64 (-1)) ⟨by rw [hv]; rfl, rfl⟩
def c_containsFuncC : CCode := .seq (.ops [⟨some 4, .move (.lit (.bool false)), none, []⟩]) (.seq (.ops [⟨some 5, .move (.tmp 0), none, []⟩, ⟨some 6, .move (.tmp 1), none, []⟩, ⟨some 7, .call (.lit (.func 71 [])) [.tmp 5, .tmp 6], none, []⟩, ⟨some 8, .bin .geq .none (.tmp 7) (.lit (.int .i64 0)), none, []⟩, ⟨some 4, .move (.tmp 8), none, []⟩]) .ret)
set_option maxRecDepth 20000 in
theorem containsFuncC_spec {α : Type} (v : α → AV) (l : List α) (g : FuncId) (cap : List AV) (p : α → Bool) (tok : Tok) (σ : Store) (hl : l.length ≤ 140737488355328)
    (hp : ∀ x ∈ l, ACalls Tryz.prog g (v x :: cap) σ (isR (.bool (p x)) σ)) :
    ACalls Tryz.prog 49 [.slice tok (l.map fun x => [v x]), .func g cap] σ (isR (.bool (l.any p)) σ) := by
  refine ACalls.intro (rs := [(.tmp 4)]) (by kernel_rfl) { own := [], ghosts := [] } Tryz.func49 (c := Tryz.f49.body.getD .skip) (by kernel_rfl) (by decide) (by rw [show Tryz.f49.ntmps = 9 by kernel_rfl]; exact Nat.le_of_ble_eq_true rfl) (by kernel_rfl) ?_
  intro hσ hids
  rw [show comp Tryz.prog { own := [], ghosts := [] } (Tryz.f49.body.getD .skip) = c_containsFuncC by kernel_rfl, show Tryz.f49.ntmps = 9 by kernel_rfl]
  unfold c_containsFuncC
  simp only [go_sem, Int.reduceToNat, Int.reduceLE, Int.reduceLT, Nat.reduceBEq, Nat.reduceLT, Nat.reduceAdd, Nat.reduceLeDiff]
  refine (indexFuncC_spec v l g cap p tok σ hl hp).is ?_
  simp only [go_sem, Int.reduceToNat, Int.reduceLE, Int.reduceLT, Nat.reduceBEq, Nat.reduceLT, Nat.reduceAdd, Nat.reduceLeDiff, idxFrom_ge p l 0 (Int.le_refl _)]
  first | exact rtw (v := .bool _) wkS ⟨rfl, rfl⟩ | exact rtw0 (v := .bool _) wkS ⟨rfl, rfl⟩
def c_containsFuncL : CCode := .seq (.ops [⟨some 4, .move (.lit (.bool false)), none, []⟩]) (.seq (.ops [⟨some 5, .move (.tmp 0), none, []⟩, ⟨some 6, .move (.tmp 1), none, []⟩, ⟨some 7, .call (.lit (.func 90 [])) [.tmp 5, .tmp 6], none, []⟩, ⟨some 8, .bin .geq .none (.tmp 7) (.lit (.int .i64 0)), none, []⟩, ⟨some 4, .move (.tmp 8), none, []⟩]) .ret)
set_option maxRecDepth 20000 in
theorem containsFuncL_spec (l : List FLit) (g : FuncId) (cap : List AV) (p : FLit → Bool) (tok : Tok) (σ : Store) (hl : l.length ≤ 140737488355328)
    (hp : ∀ x ∈ l, ACalls Tryz.prog g (.agg (encLit x) :: cap) σ (isR (.bool (p x)) σ)) :
    ACalls Tryz.prog 73 [.slice tok (l.map encLit), .func g cap] σ (isR (.bool (l.any p)) σ) := by
  refine ACalls.intro (rs := [(.tmp 4)]) (by kernel_rfl) { own := [], ghosts := [] } Tryz.func73 (c := Tryz.f73.body.getD .skip) (by kernel_rfl) (by decide) (by rw [show Tryz.f73.ntmps = 9 by kernel_rfl]; exact Nat.le_of_ble_eq_true rfl) (by kernel_rfl) ?_
  intro hσ hids
  rw [show comp Tryz.prog { own := [], ghosts := [] } (Tryz.f73.body.getD .skip) = c_containsFuncL by kernel_rfl, show Tryz.f73.ntmps = 9 by kernel_rfl]
  unfold c_containsFuncL
  simp only [go_sem, Int.reduceToNat, Int.reduceLE, Int.reduceLT, Nat.reduceBEq, Nat.reduceLT, Nat.reduceAdd, Nat.reduceLeDiff]
  refine (indexFuncL_spec l g cap p tok σ hl hp).is ?_
  simp only [go_sem, Int.reduceToNat, Int.reduceLE, Int.reduceLT, Nat.reduceBEq, Nat.reduceLT, Nat.reduceAdd, Nat.reduceLeDiff, idxFrom_ge p l 0 (Int.le_refl _)]
  first | exact rtw (v := .bool _) wkS ⟨rfl, rfl⟩ | exact rtw0 (v := .bool _) wkS ⟨rfl, rfl⟩
theorem flat_lit (x y : FLit) : flatEq [1, 0] (encLit x) (encLit y) = some (decide (x = y)) := by
  obtain ⟨a, b⟩ := x; obtain ⟨c, d⟩ := y
  simp only [encLit, flatEq, cellEq, if_true]
  congr 1
  by_cases h1 : a = c <;> by_cases h2 : b = d <;> simp [h1, h2]
def d_indexLit_0 : List COp := [⟨some 11, .load (some 2) (.tmp 3), none, []⟩, ⟨some 12, .move (.tmp 0), none, []⟩, ⟨some 13, .move (.tmp 5), none, []⟩, ⟨some 14, .iaddr 2 (.tmp 12) (.tmp 13), none, [1, 2]⟩, ⟨some 15, .load (some 2) (.tmp 14), none, [3]⟩, ⟨some 16, .bin .eql (.flat [1, 0]) (.tmp 11) (.tmp 15), none, [0, 4]⟩]
theorem dr_indexLit_0 (P : Program) (nt n0 : Nat) (Q : Post) (s : Slots) (σ : Store) : wpc P nt n0 (.draw d_indexLit_0) Q s σ = aOpsD P nt [⟨some 11, .load (some 2) (.tmp 3), none, []⟩, ⟨some 12, .move (.tmp 0), none, []⟩, ⟨some 13, .move (.tmp 5), none, []⟩, ⟨some 14, .iaddr 2 (.tmp 12) (.tmp 13), none, [1, 2]⟩, ⟨some 15, .load (some 2) (.tmp 14), none, [3]⟩, ⟨some 16, .bin .eql (.flat [1, 0]) (.tmp 11) (.tmp 15), none, [0, 4]⟩] (Q .normal) s σ := wpc_draw _ (by decide)
def c_indexLit : CCode := .seq (.ops [⟨some 3, .box (.tmp 1), none, []⟩, ⟨some 4, .move (.lit (.int .i64 0)), none, []⟩]) (.seq (.seq (.ops [⟨some 6, .move (.tmp 0), none, []⟩, ⟨some 7, .blen 1 (.tmp 6), none, []⟩, ⟨some 8, .move (.lit (.int .i64 0)), none, []⟩]) (.block 0 (.loop (.seq (.ops [⟨some 9, .bin .lss .none (.tmp 8) (.tmp 7), none, []⟩]) (.seq (.cond (.tmp 9) .skip (.exit 0)) (.seq (.block 1 (.seq (.ops [⟨some 10, .move (.tmp 8), none, []⟩, ⟨some 5, .move (.tmp 10), none, []⟩]) (.seq (.draw d_indexLit_0) (.cond (.tmp 16) (.seq (.ops [⟨some 17, .move (.tmp 5), none, []⟩, ⟨some 4, .move (.tmp 17), none, []⟩]) .ret) .skip)))) (.ops [⟨some 18, .bin .add .none (.tmp 8) (.lit (.int .i64 1)), none, []⟩, ⟨some 8, .move (.tmp 18), none, []⟩]))))))) (.seq (.ops [⟨some 4, .move (.lit (.int .i64 (-1))), none, []⟩]) .ret))
set_option maxRecDepth 20000 in
theorem indexLit_spec (l : List FLit) (x : FLit) (tok : Tok) (σ : Store) (hl : l.length ≤ 140737488355328) :
    ACalls Tryz.prog 102 [.slice tok (l.map encLit), .agg (encLit x)] σ (isR (.int .i64 (idxFrom (fun y => decide (x = y)) 0 l)) σ) := by
  refine ACalls.intro (rs := [(.tmp 4)]) (by kernel_rfl) { own := [], ghosts := [] } Tryz.func102 (c := Tryz.f102.body.getD .skip) (by kernel_rfl) (by decide) (by rw [show Tryz.f102.ntmps = 19 by kernel_rfl]; exact Nat.le_of_ble_eq_true rfl) (by kernel_rfl) ?_
  intro hσ hids
  rw [show comp Tryz.prog { own := [], ghosts := [] } (Tryz.f102.body.getD .skip) = c_indexLit by kernel_rfl, show Tryz.f102.ntmps = 19 by kernel_rfl]
  unfold c_indexLit
  have hil : Ids σ.length (.slice tok (l.map encLit)) := hids _ (by simp)
  have hσ1 := ids_grow hσ (ids_encLit x)
  simp only [go_sem, Int.reduceToNat, Int.reduceLE, Int.reduceLT, Nat.reduceBEq, Nat.reduceLT, Nat.reduceAdd, Nat.reduceLeDiff, dr_indexLit_0, encLit]
  refine wpc_while (fun i => [(0, .slice tok (l.map encLit)), (3, .ptr σ.length 0), (7, .int .i64 l.length), (8, .int .i64 (i : Nat))]) (fun _ => σ ++ [.row (encLit x)]) (fun i => i ≤ l.length ∧ idxFrom (fun y => decide (x = y)) 0 l = idxFrom (fun y => decide (x = y)) i (l.drop i)) (fun i => l.length - i) 0 ⟨Nat.zero_le _, rfl⟩ (by (try dsimp only); exact ghk1) ?_
  rintro i ⟨hi, hv⟩ K hK hE hR
  by_cases h : i < l.length
  · obtain ⟨y, hx⟩ := get_ex h; have hlt : ((i : Int) < (l.length : Int)) := (by omega); have hw : IntKind.i64.wrap ((i : Int) + 1) = ((i + 1 : Nat) : Int) := (by rw [wrap_ok (by omega)]; omega)
    rw [drop_cons hx, idxFrom] at hv
    have hf := flat_lit x y
    simp only [encLit] at hf
    by_cases h1 : x = y
    · simp only [go_sem, Int.reduceToNat, Int.reduceLE, Int.reduceLT, Nat.reduceBEq, Nat.reduceLT, Nat.reduceAdd, Nat.reduceLeDiff, dr_indexLit_0, hlt, hx, encLit, hf, decide_eq_true h1, hR]
      rw [if_pos (by simpa using h1)] at hv
      first | exact rtk (.int .i64 i) ⟨by rw [hv], rfl⟩ | exact rtk0 (.int .i64 i) ⟨by rw [hv], rfl⟩
    · simp only [go_sem, Int.reduceToNat, Int.reduceLE, Int.reduceLT, Nat.reduceBEq, Nat.reduceLT, Nat.reduceAdd, Nat.reduceLeDiff, dr_indexLit_0, hlt, hx, encLit, hf, decide_eq_false h1]
      rw [if_neg (by simpa using h1)] at hv
      refine hK _ _ (i + 1) (⟨by omega, by rw [hv]; norm_cast⟩) (by first | omega | (simp only []; omega) | (simp; omega)) ?_; (try dsimp only); (try simp only [ hw]); exact ghk1
  · have hlt : ¬ ((i : Int) < (l.length : Int)) := by omega
    rw [drop_len h] at hv
    simp only [go_sem, Int.reduceToNat, Int.reduceLE, Int.reduceLT, Nat.reduceBEq, Nat.reduceLT, Nat.reduceAdd, Nat.reduceLeDiff, dr_indexLit_0, hlt, hE]
    first | exact rtk (.int .i64 (-1)) ⟨by rw [hv]; rfl, rfl⟩ | exact rtk0 (.int .i64 (-1)) ⟨by rw [hv]; rfl, rfl⟩
theorem any_contains (l : List FLit) (x : FLit) : l.any (fun y => decide (x = y)) = l.contains x := by
  induction l with
  | nil => rfl
  | cons y l ih => rw [List.any_cons, List.contains_cons, ih]; rfl
def c_containsLit : CCode := .seq (.ops [⟨some 3, .box (.tmp 1), none, []⟩, ⟨some 4, .move (.lit (.bool false)), none, []⟩]) (.seq (.ops [⟨some 5, .move (.tmp 0), none, []⟩, ⟨some 6, .load (some 2) (.tmp 3), none, []⟩, ⟨some 7, .call (.lit (.func 102 [])) [.tmp 5, .tmp 6], none, []⟩, ⟨some 8, .bin .geq .none (.tmp 7) (.lit (.int .i64 0)), none, []⟩, ⟨some 4, .move (.tmp 8), none, []⟩]) .ret)
set_option maxRecDepth 20000 in
theorem containsLit_spec (l : List FLit) (x : FLit) (tok : Tok) (σ : Store) (hl : l.length ≤ 140737488355328) :
    ACalls Tryz.prog 82 [.slice tok (l.map encLit), .agg (encLit x)] σ (isR (.bool (l.contains x)) σ) := by
  refine ACalls.intro (rs := [(.tmp 4)]) (by kernel_rfl) { own := [], ghosts := [] } Tryz.func82 (c := Tryz.f82.body.getD .skip) (by kernel_rfl) (by decide) (by rw [show Tryz.f82.ntmps = 9 by kernel_rfl]; exact Nat.le_of_ble_eq_true rfl) (by kernel_rfl) ?_
  intro hσ hids
  rw [show comp Tryz.prog { own := [], ghosts := [] } (Tryz.f82.body.getD .skip) = c_containsLit by kernel_rfl, show Tryz.f82.ntmps = 9 by kernel_rfl]
  unfold c_containsLit
  have hσ1 := ids_grow hσ (ids_encLit x)
  simp only [go_sem, Int.reduceToNat, Int.reduceLE, Int.reduceLT, Nat.reduceBEq, Nat.reduceLT, Nat.reduceAdd, Nat.reduceLeDiff, encLit]
  refine (indexLit_spec l x tok _ hl).is ?_
  simp only [go_sem, Int.reduceToNat, Int.reduceLE, Int.reduceLT, Nat.reduceBEq, Nat.reduceLT, Nat.reduceAdd, Nat.reduceLeDiff, idxFrom_ge _ l 0 (Int.le_refl _), any_contains]
  first | exact rtw (v := .bool _) wkS ⟨rfl, rfl⟩ | exact rtw0 (v := .bool _) wkS ⟨rfl, rfl⟩
def c_within1 : CCode := .seq (.ops [⟨some 2, .box (.tmp 0), none, []⟩, ⟨some 3, .move (.lit (.bool false)), none, []⟩]) (.seq (.ops [⟨some 4, .load none (.tmp 1), none, []⟩, ⟨some 5, .load (some 2) (.tmp 2), none, []⟩, ⟨some 6, .call (.lit (.func 82 [])) [.tmp 4, .tmp 5], none, []⟩, ⟨some 7, .un .not (.tmp 6), none, []⟩, ⟨some 3, .move (.tmp 7), none, []⟩]) .ret)
set_option maxRecDepth 20000 in
theorem within1_spec (l : List FLit) (x : FLit) (tok : Tok) (id : Nat) (σ : Store) (hl : l.length ≤ 140737488355328) (hid : σ[id]? = some (.row [.slice tok (l.map encLit)])) :
    ACalls Tryz.prog 81 [.agg (encLit x), .ptr id 0] σ (isR (.bool (!(l.contains x))) σ) := by
  refine ACalls.intro (rs := [(.tmp 3)]) (by kernel_rfl) { own := [], ghosts := [] } Tryz.func81 (c := Tryz.f81.body.getD .skip) (by kernel_rfl) (by decide) (by rw [show Tryz.f81.ntmps = 8 by kernel_rfl]; exact Nat.le_of_ble_eq_true rfl) (by kernel_rfl) ?_
  intro hσ hids
  rw [show comp Tryz.prog { own := [], ghosts := [] } (Tryz.f81.body.getD .skip) = c_within1 by kernel_rfl, show Tryz.f81.ntmps = 8 by kernel_rfl]
  unfold c_within1
  simp only [go_sem, Int.reduceToNat, Int.reduceLE, Int.reduceLT, Nat.reduceBEq, Nat.reduceLT, Nat.reduceAdd, Nat.reduceLeDiff, encLit, g_old _ _ hid]
  refine (containsLit_spec l x tok _ hl).is ?_
  simp only [go_sem, Int.reduceToNat, Int.reduceLE, Int.reduceLT, Nat.reduceBEq, Nat.reduceLT, Nat.reduceAdd, Nat.reduceLeDiff]
  first | exact rtw (v := .bool _) wkS ⟨rfl, rfl⟩ | exact rtw0 (v := .bool _) wkS ⟨rfl, rfl⟩
/-- Are all literals of the first among the second's? -/
def withinB (a b : List FLit) : Bool := !(a.any fun x => !(b.contains x))
def c_within : CCode := .seq (.ops [⟨some 3, .box (.tmp 1), none, []⟩, ⟨some 4, .move (.lit (.bool false)), none, []⟩]) (.seq (.ops [⟨some 5, .move (.tmp 0), none, []⟩, ⟨some 6, .mkfunc 81 [.tmp 3], none, []⟩, ⟨some 7, .call (.lit (.func 73 [])) [.tmp 5, .tmp 6], none, []⟩, ⟨some 8, .un .not (.tmp 7), none, []⟩, ⟨some 4, .move (.tmp 8), none, []⟩]) .ret)
set_option maxRecDepth 20000 in
theorem within_spec (a b : List FLit) (tok tok' : Tok) (σ : Store) (ha : a.length ≤ 140737488355328) (hb : b.length ≤ 140737488355328) :
    ACalls Tryz.prog 57 [.slice tok (a.map encLit), .slice tok' (b.map encLit)] σ (isR (.bool (withinB a b)) σ) := by
  refine ACalls.intro (rs := [(.tmp 4)]) (by kernel_rfl) { own := [], ghosts := [] } Tryz.func57 (c := Tryz.f57.body.getD .skip) (by kernel_rfl) (by decide) (by rw [show Tryz.f57.ntmps = 9 by kernel_rfl]; exact Nat.le_of_ble_eq_true rfl) (by kernel_rfl) ?_
  intro hσ hids
  rw [show comp Tryz.prog { own := [], ghosts := [] } (Tryz.f57.body.getD .skip) = c_within by kernel_rfl, show Tryz.f57.ntmps = 9 by kernel_rfl]
  unfold c_within
  simp only [go_sem, Int.reduceToNat, Int.reduceLE, Int.reduceLT, Nat.reduceBEq, Nat.reduceLT, Nat.reduceAdd, Nat.reduceLeDiff]
  refine (containsFuncL_spec a _ _ (fun x => !(b.contains x)) tok _ ha (fun x _ => within1_spec b x tok' _ _ hb (by simp))).is ?_
  simp only [go_sem, Int.reduceToNat, Int.reduceLE, Int.reduceLT, Nat.reduceBEq, Nat.reduceLT, Nat.reduceAdd, Nat.reduceLeDiff]
  first | exact rtw (v := .bool _) wkS ⟨rfl, rfl⟩ | exact rtw0 (v := .bool _) wkS ⟨rfl, rfl⟩
def c_formula1 : CCode := .seq (.ops [⟨some 3, .move (.lit (.bool false)), none, []⟩]) (.seq (.ops [⟨some 4, .faddr 0 (.tmp 1), none, []⟩, ⟨some 5, .load none (.tmp 4), none, []⟩, ⟨some 6, .blen 1 (.tmp 5), none, []⟩, ⟨some 7, .move (.tmp 0), none, []⟩, ⟨some 8, .call (.lit (.func 51 [])) [.tmp 6, .tmp 7], none, []⟩, ⟨some 9, .un .not (.tmp 8), none, []⟩, ⟨some 3, .move (.tmp 9), none, []⟩]) .ret)
set_option maxRecDepth 20000 in
theorem formula1_spec (t : FTask) (l : List FLit) (id : Nat) (tok : Tok) (σ : Store) (hl : l.length ≤ 140737488355328) (hid : σ[id]? = some (.row (encTask t))) :
    ACalls Tryz.prog 50 [.slice tok (l.map encLit), .ptr id 0] σ (isR (.bool (!(condB t.facts.length (-1) l))) σ) := by
  refine ACalls.intro (rs := [(.tmp 3)]) (by kernel_rfl) { own := [], ghosts := [] } Tryz.func50 (c := Tryz.f50.body.getD .skip) (by kernel_rfl) (by decide) (by rw [show Tryz.f50.ntmps = 10 by kernel_rfl]; exact Nat.le_of_ble_eq_true rfl) (by kernel_rfl) ?_
  intro hσ hids
  rw [show comp Tryz.prog { own := [], ghosts := [] } (Tryz.f50.body.getD .skip) = c_formula1 by kernel_rfl, show Tryz.f50.ntmps = 10 by kernel_rfl]
  unfold c_formula1
  simp only [encTask] at hid
  simp only [go_sem, Int.reduceToNat, Int.reduceLE, Int.reduceLT, Nat.reduceBEq, Nat.reduceLT, Nat.reduceAdd, Nat.reduceLeDiff, hid]
  refine (cond_spec l t.facts.length tok _ hl).is ?_
  simp only [go_sem, Int.reduceToNat, Int.reduceLE, Int.reduceLT, Nat.reduceBEq, Nat.reduceLT, Nat.reduceAdd, Nat.reduceLeDiff]
  first | exact rtw (v := .bool _) wkS ⟨rfl, rfl⟩ | exact rtw0 (v := .bool _) wkS ⟨rfl, rfl⟩
theorem any_not {α : Type} (p : α → Bool) (l : List α) : (!(l.any fun x => !(p x))) = l.all p := by
  induction l with
  | nil => rfl
  | cons x l ih => rw [List.any_cons, List.all_cons, Bool.not_or, ih, Bool.not_not]
def c_formula : CCode := .seq (.ops [⟨some 2, .box (.tmp 0), none, []⟩, ⟨some 4, .move (.lit (.bool false)), none, []⟩]) (.seq (.ops [⟨some 5, .move (.tmp 1), none, []⟩, ⟨some 6, .blen 1 (.tmp 5), none, []⟩, ⟨some 7, .bin .leq .none (.tmp 6) (.lit (.int .i64 400)), none, []⟩, ⟨some 8, .move (.tmp 7), none, []⟩, ⟨some 9, .move (.tmp 1), some (some 8, true), []⟩, ⟨some 10, .mkfunc 50 [.tmp 2], some (some 8, true), []⟩, ⟨some 11, .call (.lit (.func 49 [])) [.tmp 9, .tmp 10], some (some 8, true), []⟩, ⟨some 12, .un .not (.tmp 11), some (some 8, true), []⟩, ⟨some 13, .pick (.tmp 8) (.tmp 12) (.lit (.bool false)), none, []⟩, ⟨some 4, .move (.tmp 13), none, []⟩]) .ret)
set_option maxRecDepth 20000 in
theorem formula_spec (t : FTask) (f : List (List FLit)) (tok : Tok) (σ : Store) (hf : f.length ≤ 140737488355328) (hl : ∀ l ∈ f, l.length ≤ 140737488355328) :
    ACalls Tryz.prog 26 [.agg (encTask t), .slice tok (f.map encC)] σ (isR (.bool (isForm t.facts.length f)) σ) := by
  refine ACalls.intro (rs := [(.tmp 4)]) (by kernel_rfl) { own := [], ghosts := [] } Tryz.func26 (c := Tryz.f26.body.getD .skip) (by kernel_rfl) (by decide) (by rw [show Tryz.f26.ntmps = 14 by kernel_rfl]; exact Nat.le_of_ble_eq_true rfl) (by kernel_rfl) ?_
  intro hσ hids
  rw [show comp Tryz.prog { own := [], ghosts := [] } (Tryz.f26.body.getD .skip) = c_formula by kernel_rfl, show Tryz.f26.ntmps = 14 by kernel_rfl]
  unfold c_formula
  by_cases h : (f.length : Int) ≤ 400
  · simp only [go_sem, Int.reduceToNat, Int.reduceLE, Int.reduceLT, Nat.reduceBEq, Nat.reduceLT, Nat.reduceAdd, Nat.reduceLeDiff, encTask, h]
    refine (containsFuncC_spec (fun l => .slice .unk (l.map encLit)) f _ _ (fun l => !(condB t.facts.length (-1) l)) tok _ hf (fun l hl' => formula1_spec t l _ .unk _ (hl l hl') (by simp [encTask]))).is ?_
    simp only [go_sem, Int.reduceToNat, Int.reduceLE, Int.reduceLT, Nat.reduceBEq, Nat.reduceLT, Nat.reduceAdd, Nat.reduceLeDiff]
    first | exact rtw (v := .bool _) wkS ⟨by rw [any_not, isForm, decide_eq_true (by omega : f.length ≤ 400), Bool.true_and]; rfl, rfl⟩ | exact rtw0 (v := .bool _) wkS ⟨by rw [any_not, isForm, decide_eq_true (by omega : f.length ≤ 400), Bool.true_and]; rfl, rfl⟩
  · simp only [go_sem, Int.reduceToNat, Int.reduceLE, Int.reduceLT, Nat.reduceBEq, Nat.reduceLT, Nat.reduceAdd, Nat.reduceLeDiff, encTask, h]
    first | exact rtw (v := .bool _) wkS ⟨by rw [isForm, decide_eq_false (by omega : ¬ f.length ≤ 400)]; rfl, rfl⟩ | exact rtw0 (v := .bool _) wkS ⟨by rw [isForm, decide_eq_false (by omega : ¬ f.length ≤ 400)]; rfl, rfl⟩
def checkE (t : FTask) (f : List (List FLit)) : Int := if validB t then (if isForm t.facts.length f then 0 else 70) else 10
def c_check07 : CCode := .seq (.ops [⟨some 2, .box (.tmp 0), none, []⟩, ⟨some 4, .move (.lit (.int .i64 0)), none, []⟩]) (.seq (.seq (.ops [⟨some 5, .load (some 4) (.tmp 2), none, []⟩, ⟨some 6, .call (.lit (.func 35 [])) [.tmp 5], none, []⟩, ⟨some 7, .un .not (.tmp 6), none, []⟩]) (.cond (.tmp 7) (.seq (.ops [⟨some 4, .move (.lit (.int .i64 10)), none, []⟩]) .ret) .skip)) (.seq (.seq (.ops [⟨some 8, .load (some 4) (.tmp 2), none, []⟩, ⟨some 9, .move (.tmp 1), none, []⟩, ⟨some 10, .call (.lit (.func 26 [])) [.tmp 8, .tmp 9], none, []⟩, ⟨some 11, .un .not (.tmp 10), none, []⟩]) (.cond (.tmp 11) (.seq (.ops [⟨some 4, .move (.lit (.int .i64 70)), none, []⟩]) .ret) .skip)) (.seq (.ops [⟨some 4, .move (.lit (.int .i64 0)), none, []⟩]) .ret)))
set_option maxRecDepth 20000 in
theorem check07_spec (t : FTask) (f : List (List FLit)) (tok : Tok) (σ : Store) (ht : TB t) (hf : f.length ≤ 140737488355328) (hl : ∀ l ∈ f, l.length ≤ 140737488355328) :
    ACalls Tryz.prog 11 [.agg (encTask t), .slice tok (f.map encC)] σ (isR (.int .i64 (checkE t f)) σ) := by
  refine ACalls.intro (rs := [(.tmp 4)]) (by kernel_rfl) { own := [], ghosts := [] } Tryz.func11 (c := Tryz.f11.body.getD .skip) (by kernel_rfl) (by decide) (by rw [show Tryz.f11.ntmps = 12 by kernel_rfl]; exact Nat.le_of_ble_eq_true rfl) (by kernel_rfl) ?_
  intro hσ hids
  rw [show comp Tryz.prog { own := [], ghosts := [] } (Tryz.f11.body.getD .skip) = c_check07 by kernel_rfl, show Tryz.f11.ntmps = 12 by kernel_rfl]
  unfold c_check07
  simp only [go_sem, Int.reduceToNat, Int.reduceLE, Int.reduceLT, Nat.reduceBEq, Nat.reduceLT, Nat.reduceAdd, Nat.reduceLeDiff, encTask]
  refine (valid_spec t _ ht).is ?_
  cases h1 : validB t
  · simp only [go_sem, Int.reduceToNat, Int.reduceLE, Int.reduceLT, Nat.reduceBEq, Nat.reduceLT, Nat.reduceAdd, Nat.reduceLeDiff]
    first | exact rtk (.int .i64 10) ⟨by rw [checkE, h1]; rfl, rfl⟩ | exact rtk0 (.int .i64 10) ⟨by rw [checkE, h1]; rfl, rfl⟩
  simp only [go_sem, Int.reduceToNat, Int.reduceLE, Int.reduceLT, Nat.reduceBEq, Nat.reduceLT, Nat.reduceAdd, Nat.reduceLeDiff]
  refine (formula_spec t f tok _ hf hl).is ?_
  cases h2 : isForm t.facts.length f
  · simp only [go_sem, Int.reduceToNat, Int.reduceLE, Int.reduceLT, Nat.reduceBEq, Nat.reduceLT, Nat.reduceAdd, Nat.reduceLeDiff]
    first | exact rtk (.int .i64 70) ⟨by rw [checkE, h1, h2]; rfl, rfl⟩ | exact rtk0 (.int .i64 70) ⟨by rw [checkE, h1, h2]; rfl, rfl⟩
  simp only [go_sem, Int.reduceToNat, Int.reduceLE, Int.reduceLT, Nat.reduceBEq, Nat.reduceLT, Nat.reduceAdd, Nat.reduceLeDiff]
  first | exact rtk (.int .i64 0) ⟨by rw [checkE, h1, h2]; rfl, rfl⟩ | exact rtk0 (.int .i64 0) ⟨by rw [checkE, h1, h2]; rfl, rfl⟩
def fineE (t : FTask) : List (List (List FLit)) → Int
  | [] => 0
  | f :: r => if checkE t f = 0 then fineE t r else checkE t f
/-- A formula whose lists are not too long. -/
def FB (f : List (List FLit)) : Prop := f.length ≤ 140737488355328 ∧ ∀ l ∈ f, l.length ≤ 140737488355328
def c_fine07 : CCode := .seq (.ops [⟨some 2, .box (.tmp 0), none, []⟩, ⟨some 4, .move (.lit (.int .i64 0)), none, []⟩]) (.seq (.seq (.ops [⟨some 8, .move (.tmp 1), none, []⟩, ⟨some 9, .blen 1 (.tmp 8), none, []⟩, ⟨some 10, .move (.lit (.int .i64 0)), none, []⟩]) (.block 0 (.loop (.seq (.ops [⟨some 11, .bin .lss .none (.tmp 10) (.tmp 9), none, []⟩]) (.seq (.cond (.tmp 11) .skip (.exit 0)) (.seq (.block 1 (.seq (.ops [⟨some 12, .iaddr 1 (.tmp 8) (.tmp 10), none, []⟩, ⟨some 13, .load none (.tmp 12), none, []⟩, ⟨some 6, .move (.tmp 13), none, []⟩]) (.seq (.ops [⟨some 14, .load (some 4) (.tmp 2), none, []⟩, ⟨some 15, .move (.tmp 6), none, []⟩, ⟨some 16, .call (.lit (.func 11 [])) [.tmp 14, .tmp 15], none, []⟩, ⟨some 7, .move (.tmp 16), none, []⟩]) (.seq (.ops [⟨some 17, .move (.tmp 7), none, []⟩, ⟨some 18, .bin .neq .none (.tmp 17) (.lit (.int .i64 0)), none, []⟩]) (.cond (.tmp 18) (.seq (.ops [⟨some 19, .move (.tmp 7), none, []⟩, ⟨some 4, .move (.tmp 19), none, []⟩]) .ret) .skip))))) (.ops [⟨some 20, .bin .add .none (.tmp 10) (.lit (.int .i64 1)), none, []⟩, ⟨some 10, .move (.tmp 20), none, []⟩]))))))) (.seq (.ops [⟨some 4, .move (.lit (.int .i64 0)), none, []⟩]) .ret))
set_option maxRecDepth 20000 in
theorem fine07_spec (t : FTask) (fs : List (List (List FLit))) (tok : Tok) (σ : Store) (ht : TB t) (hs : fs.length ≤ 140737488355328) (hf : ∀ f ∈ fs, FB f) :
    ACalls Tryz.prog 28 [.agg (encTask t), .slice tok (fs.map encF)] σ (isR (.int .i64 (fineE t fs)) σ) := by
  refine ACalls.intro (rs := [(.tmp 4)]) (by kernel_rfl) { own := [], ghosts := [] } Tryz.func28 (c := Tryz.f28.body.getD .skip) (by kernel_rfl) (by decide) (by rw [show Tryz.f28.ntmps = 21 by kernel_rfl]; exact Nat.le_of_ble_eq_true rfl) (by kernel_rfl) ?_
  intro hσ hids
  rw [show comp Tryz.prog { own := [], ghosts := [] } (Tryz.f28.body.getD .skip) = c_fine07 by kernel_rfl, show Tryz.f28.ntmps = 21 by kernel_rfl]
  unfold c_fine07
  have hil : Ids σ.length (.slice tok (fs.map encF)) := hids _ (by simp)
  have hσ1 := ids_grow hσ (ids_encTask t)
  simp only [go_sem, Int.reduceToNat, Int.reduceLE, Int.reduceLT, Nat.reduceBEq, Nat.reduceLT, Nat.reduceAdd, Nat.reduceLeDiff, encTask]
  refine wpc_while (fun i => [(2, .ptr σ.length 0), (8, .slice tok (fs.map encF)), (9, .int .i64 fs.length), (10, .int .i64 (i : Nat))]) (fun _ => σ ++ [.row (encTask t)]) (fun i => i ≤ fs.length ∧ fineE t fs = fineE t (fs.drop i)) (fun i => fs.length - i) 0 ⟨Nat.zero_le _, rfl⟩ (by (try dsimp only); exact ghk1) ?_
  rintro i ⟨hi, hv⟩ K hK hE hR
  by_cases h : i < fs.length
  · obtain ⟨f, hx⟩ := get_ex h; have hlt : ((i : Int) < (fs.length : Int)) := (by omega); have hw : IntKind.i64.wrap ((i : Int) + 1) = ((i + 1 : Nat) : Int) := (by rw [wrap_ok (by omega)]; omega)
    have hb := hf f (List.mem_of_getElem? hx)
    rw [drop_cons hx, fineE] at hv
    simp only [go_sem, Int.reduceToNat, Int.reduceLE, Int.reduceLT, Nat.reduceBEq, Nat.reduceLT, Nat.reduceAdd, Nat.reduceLeDiff, hlt, hx, encF, encTask]
    refine (check07_spec t f .unk _ ht hb.1 hb.2).is ?_
    by_cases h1 : checkE t f = 0
    · rw [h1]
      simp only [go_sem, Int.reduceToNat, Int.reduceLE, Int.reduceLT, Nat.reduceBEq, Nat.reduceLT, Nat.reduceAdd, Nat.reduceLeDiff, bne_self_eq_false]
      rw [if_pos h1] at hv
      refine hK _ _ (i + 1) (⟨by omega, hv⟩) (by first | omega | (simp only []; omega) | (simp; omega)) ?_; (try dsimp only); (try simp only [ hw]); exact ghk1
    · have h1' : (checkE t f != 0) = true := by simpa using h1
      simp only [go_sem, Int.reduceToNat, Int.reduceLE, Int.reduceLT, Nat.reduceBEq, Nat.reduceLT, Nat.reduceAdd, Nat.reduceLeDiff, h1', hR]
      rw [if_neg h1] at hv
      first | exact rtw (v := .int .i64 _) wkS ⟨by rw [hv], rfl⟩ | exact rtw0 (v := .int .i64 _) wkS ⟨by rw [hv], rfl⟩
  · have hlt : ¬ ((i : Int) < (fs.length : Int)) := by omega
    rw [drop_len h] at hv
    simp only [go_sem, Int.reduceToNat, Int.reduceLE, Int.reduceLT, Nat.reduceBEq, Nat.reduceLT, Nat.reduceAdd, Nat.reduceLeDiff, hlt, hE]
    first | exact rtk (.int .i64 0) ⟨by rw [hv]; rfl, rfl⟩ | exact rtk0 (.int .i64 0) ⟨by rw [hv]; rfl, rfl⟩
def c_told : CCode := .seq (.ops [⟨some 4, .move (.lit (.slice .nil [])), none, []⟩, ⟨some 5, .move (.lit (.int .i64 0)), none, []⟩]) (.seq (.seq (.ops [⟨some 6, .move (.tmp 1), none, []⟩, ⟨some 7, .un .not (.tmp 6), none, []⟩, ⟨some 8, .move (.tmp 7), none, []⟩, ⟨some 9, .move (.tmp 0), some (some 8, false), []⟩, ⟨some 10, .blen 1 (.tmp 9), some (some 8, false), []⟩, ⟨some 11, .bin .gtr .none (.tmp 10) (.lit (.int .i64 400)), some (some 8, false), []⟩, ⟨some 12, .pick (.tmp 8) (.lit (.bool true)) (.tmp 11), none, []⟩]) (.cond (.tmp 12) (.seq (.ops [⟨some 4, .move (.lit (.slice .nil [])), none, []⟩, ⟨some 5, .move (.lit (.int .i64 2)), none, []⟩]) .ret) .skip)) (.seq (.ops [⟨some 13, .move (.tmp 0), none, []⟩, ⟨some 4, .move (.tmp 13), none, []⟩, ⟨some 5, .move (.lit (.int .i64 0)), none, []⟩]) .ret))
set_option maxRecDepth 20000 in
theorem told_spec (es : List (List AV)) (tok : Tok) (ok : Bool) (σ : Store) :
    ACalls Tryz.prog 40 [.slice tok es, .bool ok] σ (isR (if ok = true ∧ es.length ≤ 400 then .tuple [.slice tok es, .int .i64 0] else .tuple [.slice .nil [], .int .i64 2]) σ) := by
  refine ACalls.intro (rs := [(.tmp 4), (.tmp 5)]) (by kernel_rfl) { own := [], ghosts := [] } Tryz.func40 (c := Tryz.f40.body.getD .skip) (by kernel_rfl) (by decide) (by rw [show Tryz.f40.ntmps = 14 by kernel_rfl]; exact Nat.le_of_ble_eq_true rfl) (by kernel_rfl) ?_
  intro hσ hids
  rw [show comp Tryz.prog { own := [], ghosts := [] } (Tryz.f40.body.getD .skip) = c_told by kernel_rfl, show Tryz.f40.ntmps = 14 by kernel_rfl]
  unfold c_told
  have hil : Ids σ.length (.slice tok es) := hids _ (by simp)
  cases ok
  · simp only [go_sem, Int.reduceToNat, Int.reduceLE, Int.reduceLT, Nat.reduceBEq, Nat.reduceLT, Nat.reduceAdd, Nat.reduceLeDiff]
    first | exact rtl (.slice .nil []) (.int .i64 2) ⟨by rw [if_neg (by simp)], rfl⟩ | exact rtl0 (.slice .nil []) (.int .i64 2) ⟨by rw [if_neg (by simp)], rfl⟩
  by_cases h : (es.length : Int) > 400
  · simp only [go_sem, Int.reduceToNat, Int.reduceLE, Int.reduceLT, Nat.reduceBEq, Nat.reduceLT, Nat.reduceAdd, Nat.reduceLeDiff, h]
    first | exact rtl (.slice .nil []) (.int .i64 2) ⟨by rw [if_neg (by omega)], rfl⟩ | exact rtl0 (.slice .nil []) (.int .i64 2) ⟨by rw [if_neg (by omega)], rfl⟩
  · simp only [go_sem, Int.reduceToNat, Int.reduceLE, Int.reduceLT, Nat.reduceBEq, Nat.reduceLT, Nat.reduceAdd, Nat.reduceLeDiff, h]
    first | exact rtl (.slice tok es) (.int .i64 0) ⟨by rw [if_pos (by omega)], rfl⟩ | exact rtl0 (.slice tok es) (.int .i64 0) ⟨by rw [if_pos (by omega)], rfl⟩
def lessI (a b : FLit) : Int := if a.fact = b.fact then (if a.neg = b.neg then 0 else if b.neg then -1 else 1) else a.fact - b.fact
/-- Facts that are numbers of facts. -/
def litOk (x : FLit) : Prop := 0 ≤ x.fact ∧ x.fact ≤ 1073741824
def c_less : CCode := .seq (.ops [⟨some 2, .box (.tmp 0), none, []⟩, ⟨some 3, .box (.tmp 1), none, []⟩, ⟨some 4, .move (.lit (.int .i64 0)), none, []⟩]) (.seq (.seq (.ops [⟨some 5, .faddr 0 (.tmp 2), none, []⟩, ⟨some 6, .load none (.tmp 5), none, []⟩, ⟨some 7, .faddr 0 (.tmp 3), none, []⟩, ⟨some 8, .load none (.tmp 7), none, []⟩, ⟨some 9, .bin .neq .none (.tmp 6) (.tmp 8), none, []⟩]) (.cond (.tmp 9) (.seq (.ops [⟨some 10, .faddr 0 (.tmp 2), none, []⟩, ⟨some 11, .load none (.tmp 10), none, []⟩, ⟨some 12, .faddr 0 (.tmp 3), none, []⟩, ⟨some 13, .load none (.tmp 12), none, []⟩, ⟨some 14, .bin .sub .none (.tmp 11) (.tmp 13), none, []⟩, ⟨some 4, .move (.tmp 14), none, []⟩]) .ret) .skip)) (.seq (.block 0 (.seq (.ops [⟨some 16, .faddr 1 (.tmp 2), none, []⟩, ⟨some 17, .load none (.tmp 16), none, []⟩, ⟨some 18, .faddr 1 (.tmp 3), none, []⟩, ⟨some 19, .load none (.tmp 18), none, []⟩, ⟨some 20, .bin .eql .bool (.tmp 17) (.tmp 19), none, []⟩, ⟨some 15, .move (.tmp 20), none, []⟩]) (.cond (.tmp 15) (.seq (.ops [⟨some 4, .move (.lit (.int .i64 0)), none, []⟩]) .ret) (.seq (.ops [⟨some 22, .faddr 1 (.tmp 3), none, []⟩, ⟨some 23, .load none (.tmp 22), none, []⟩, ⟨some 21, .move (.tmp 23), none, []⟩]) (.cond (.tmp 21) (.seq (.ops [⟨some 4, .move (.lit (.int .i64 (-1))), none, []⟩]) .ret) .skip))))) (.seq (.ops [⟨some 4, .move (.lit (.int .i64 1)), none, []⟩]) .ret)))
set_option maxRecDepth 20000 in
theorem less_spec (a b : FLit) (σ : Store) (ha : litOk a) (hb : litOk b) :
    ACalls Tryz.prog 80 [.agg (encLit a), .agg (encLit b)] σ (isR (.int .i64 (lessI a b)) σ) := by
  refine ACalls.intro (rs := [(.tmp 4)]) (by kernel_rfl) { own := [], ghosts := [] } Tryz.func80 (c := Tryz.f80.body.getD .skip) (by kernel_rfl) (by decide) (by rw [show Tryz.f80.ntmps = 24 by kernel_rfl]; exact Nat.le_of_ble_eq_true rfl) (by kernel_rfl) ?_
  intro hσ hids
  rw [show comp Tryz.prog { own := [], ghosts := [] } (Tryz.f80.body.getD .skip) = c_less by kernel_rfl, show Tryz.f80.ntmps = 24 by kernel_rfl]
  unfold c_less
  by_cases h1 : a.fact = b.fact
  · have h1' : (a.fact != b.fact) = false := by simpa using h1
    by_cases h2 : a.neg = b.neg
    · have h2' : (a.neg == b.neg) = true := by simpa using h2
      simp only [go_sem, Int.reduceToNat, Int.reduceLE, Int.reduceLT, Nat.reduceBEq, Nat.reduceLT, Nat.reduceAdd, Nat.reduceLeDiff, encLit, h1', h2']
      first | exact rtk (.int .i64 0) ⟨by rw [lessI, if_pos h1, if_pos h2], rfl⟩ | exact rtk0 (.int .i64 0) ⟨by rw [lessI, if_pos h1, if_pos h2], rfl⟩
    · have h2' : (a.neg == b.neg) = false := by simpa using h2
      cases h3 : b.neg
      · rw [h3] at h2'
        simp only [go_sem, Int.reduceToNat, Int.reduceLE, Int.reduceLT, Nat.reduceBEq, Nat.reduceLT, Nat.reduceAdd, Nat.reduceLeDiff, encLit, h1', h3, h2']
        first | exact rtk (.int .i64 1) ⟨by rw [lessI, if_pos h1, if_neg h2, h3]; rfl, rfl⟩ | exact rtk0 (.int .i64 1) ⟨by rw [lessI, if_pos h1, if_neg h2, h3]; rfl, rfl⟩
      · rw [h3] at h2'
        simp only [go_sem, Int.reduceToNat, Int.reduceLE, Int.reduceLT, Nat.reduceBEq, Nat.reduceLT, Nat.reduceAdd, Nat.reduceLeDiff, encLit, h1', h3, h2']
        first | exact rtk (.int .i64 (-1)) ⟨by rw [lessI, if_pos h1, if_neg h2, h3]; rfl, rfl⟩ | exact rtk0 (.int .i64 (-1)) ⟨by rw [lessI, if_pos h1, if_neg h2, h3]; rfl, rfl⟩
  · have h1' : (a.fact != b.fact) = true := by simpa using h1
    have hw : IntKind.i64.wrap (a.fact - b.fact) = a.fact - b.fact := wrap_ok (by have := ha.1; have := ha.2; have := hb.1; have := hb.2; omega)
    simp only [go_sem, Int.reduceToNat, Int.reduceLE, Int.reduceLT, Nat.reduceBEq, Nat.reduceLT, Nat.reduceAdd, Nat.reduceLeDiff, encLit, h1', hw]
    first | exact rtw (v := .int .i64 _) wkS ⟨by rw [lessI, if_neg h1], rfl⟩ | exact rtw0 (v := .int .i64 _) wkS ⟨by rw [lessI, if_neg h1], rfl⟩
def cmpLits : List FLit → List FLit → Int
  | [], [] => 0
  | [], _ :: _ => -1
  | _ :: _, [] => 1
  | a :: l, b :: r => if lessI a b = 0 then cmpLits l r else lessI a b
def c_compareLit : CCode := .seq (.ops [⟨some 6, .move (.lit (.int .i64 0)), none, []⟩]) (.seq (.seq (.ops [⟨some 11, .move (.tmp 0), none, []⟩, ⟨some 12, .blen 1 (.tmp 11), none, []⟩, ⟨some 13, .move (.lit (.int .i64 0)), none, []⟩]) (.block 0 (.loop (.seq (.ops [⟨some 14, .bin .lss .none (.tmp 13) (.tmp 12), none, []⟩]) (.seq (.cond (.tmp 14) .skip (.exit 0)) (.seq (.block 1 (.seq (.ops [⟨some 15, .move (.tmp 13), none, []⟩, ⟨some 16, .iaddr 2 (.tmp 11) (.tmp 13), none, []⟩, ⟨some 17, .load (some 2) (.tmp 16), none, []⟩, ⟨some 8, .alloc (.agg [.int .i64 0, .bool false]), none, []⟩, ⟨some 7, .move (.tmp 15), none, []⟩, ⟨none, .store 2 (.tmp 8) (.tmp 17), none, []⟩]) (.seq (.seq (.ops [⟨some 18, .move (.tmp 7), none, []⟩, ⟨some 19, .move (.tmp 1), none, []⟩, ⟨some 20, .blen 1 (.tmp 19), none, []⟩, ⟨some 21, .bin .geq .none (.tmp 18) (.tmp 20), none, []⟩]) (.cond (.tmp 21) (.seq (.ops [⟨some 6, .move (.lit (.int .i64 1)), none, []⟩]) .ret) .skip)) (.seq (.ops [⟨some 22, .move (.tmp 1), none, []⟩, ⟨some 23, .move (.tmp 7), none, []⟩, ⟨some 24, .iaddr 2 (.tmp 22) (.tmp 23), none, []⟩, ⟨some 25, .load (some 2) (.tmp 24), none, []⟩, ⟨some 9, .alloc (.agg [.int .i64 0, .bool false]), none, []⟩, ⟨none, .store 2 (.tmp 9) (.tmp 25), none, []⟩]) (.seq (.ops [⟨some 26, .move (.tmp 2), none, []⟩, ⟨some 27, .load (some 2) (.tmp 8), none, []⟩, ⟨some 28, .load (some 2) (.tmp 9), none, []⟩, ⟨some 29, .call (.tmp 26) [.tmp 27, .tmp 28], none, []⟩, ⟨some 10, .move (.tmp 29), none, []⟩]) (.seq (.ops [⟨some 30, .move (.tmp 10), none, []⟩, ⟨some 31, .bin .neq .none (.tmp 30) (.lit (.int .i64 0)), none, []⟩]) (.cond (.tmp 31) (.seq (.ops [⟨some 32, .move (.tmp 10), none, []⟩, ⟨some 6, .move (.tmp 32), none, []⟩]) .ret) .skip))))))) (.ops [⟨some 33, .bin .add .none (.tmp 13) (.lit (.int .i64 1)), none, []⟩, ⟨some 13, .move (.tmp 33), none, []⟩]))))))) (.seq (.seq (.ops [⟨some 34, .move (.tmp 0), none, []⟩, ⟨some 35, .blen 1 (.tmp 34), none, []⟩, ⟨some 36, .move (.tmp 1), none, []⟩, ⟨some 37, .blen 1 (.tmp 36), none, []⟩, ⟨some 38, .bin .lss .none (.tmp 35) (.tmp 37), none, []⟩]) (.cond (.tmp 38) (.seq (.ops [⟨some 6, .move (.lit (.int .i64 (-1))), none, []⟩]) .ret) .skip)) (.seq (.ops [⟨some 6, .move (.lit (.int .i64 0)), none, []⟩]) .ret)))
set_option maxRecDepth 20000 in
theorem compareLit_spec (a b : List FLit) (tok tok' : Tok) (σ : Store) (hla : a.length ≤ 140737488355328) (hlb : b.length ≤ 140737488355328) (ha : ∀ x ∈ a, litOk x) (hb : ∀ x ∈ b, litOk x) :
    ACalls Tryz.prog 79 [.slice tok (a.map encLit), .slice tok' (b.map encLit), .func 80 []] σ (isR (.int .i64 (cmpLits a b)) σ) := by
  refine ACalls.intro (rs := [(.tmp 6)]) (by kernel_rfl) { own := [], ghosts := [] } Tryz.func79 (c := Tryz.f79.body.getD .skip) (by kernel_rfl) (by decide) (by rw [show Tryz.f79.ntmps = 39 by kernel_rfl]; exact Nat.le_of_ble_eq_true rfl) (by kernel_rfl) ?_
  intro hσ hids
  rw [show comp Tryz.prog { own := [], ghosts := [] } (Tryz.f79.body.getD .skip) = c_compareLit by kernel_rfl, show Tryz.f79.ntmps = 39 by kernel_rfl]
  unfold c_compareLit
  have hia : Ids σ.length (.slice tok (a.map encLit)) := hids _ (by simp)
  have hib : Ids σ.length (.slice tok' (b.map encLit)) := hids _ (by simp)
  simp only [go_sem, Int.reduceToNat, Int.reduceLE, Int.reduceLT, Nat.reduceBEq, Nat.reduceLT, Nat.reduceAdd, Nat.reduceLeDiff]
  refine wpc_while (fun i => [(0, .slice tok (a.map encLit)), (1, .slice tok' (b.map encLit)), (2, .func 80 []), (11, .slice tok (a.map encLit)), (12, .int .i64 a.length), (13, .int .i64 (i : Nat))]) (fun _ => σ) (fun i => i ≤ a.length ∧ i ≤ b.length ∧ cmpLits a b = cmpLits (a.drop i) (b.drop i)) (fun i => a.length - i) 0 ⟨Nat.zero_le _, Nat.zero_le _, rfl⟩ (by (try dsimp only); first | exact ghk | exact ghk0) ?_
  rintro i ⟨hi, hib', hv⟩ K hK hE hR
  by_cases h : i < a.length
  · obtain ⟨x, hx⟩ := get_ex h; have hlt : ((i : Int) < (a.length : Int)) := (by omega); have hw : IntKind.i64.wrap ((i : Int) + 1) = ((i + 1 : Nat) : Int) := (by rw [wrap_ok (by omega)]; omega)
    by_cases hge : (i : Int) ≥ b.length
    · rw [drop_cons hx, drop_len (by omega : ¬ i < b.length)] at hv
      simp only [go_sem, Int.reduceToNat, Int.reduceLE, Int.reduceLT, Nat.reduceBEq, Nat.reduceLT, Nat.reduceAdd, Nat.reduceLeDiff, hlt, hx, encLit, hge, hR]
      first | exact rtk (.int .i64 1) ⟨by rw [hv]; rfl, rfl⟩ | exact rtk0 (.int .i64 1) ⟨by rw [hv]; rfl, rfl⟩
    · obtain ⟨y, hy⟩ : ∃ y, b[i]? = some y := get_ex (by omega)
      rw [drop_cons hx, drop_cons hy, cmpLits] at hv
      simp only [go_sem, Int.reduceToNat, Int.reduceLE, Int.reduceLT, Nat.reduceBEq, Nat.reduceLT, Nat.reduceAdd, Nat.reduceLeDiff, hlt, hx, encLit, hge, hy]
      refine (less_spec x y _ (ha x (List.mem_of_getElem? hx)) (hb y (List.mem_of_getElem? hy))).is ?_
      by_cases h1 : lessI x y = 0
      · rw [h1]
        simp only [go_sem, Int.reduceToNat, Int.reduceLE, Int.reduceLT, Nat.reduceBEq, Nat.reduceLT, Nat.reduceAdd, Nat.reduceLeDiff, bne_self_eq_false]
        rw [if_pos h1] at hv
        refine hK _ _ (i + 1) (⟨by omega, by omega, hv⟩) (by first | omega | (simp only []; omega) | (simp; omega)) ?_; (try dsimp only); (try simp only [ hw]); first | exact ghk | exact ghk0
      · have h1' : (lessI x y != 0) = true := by simpa using h1
        simp only [go_sem, Int.reduceToNat, Int.reduceLE, Int.reduceLT, Nat.reduceBEq, Nat.reduceLT, Nat.reduceAdd, Nat.reduceLeDiff, h1', hR]
        rw [if_neg h1] at hv
        first | exact rtw (v := .int .i64 _) wkS ⟨by rw [hv], rfl⟩ | exact rtw0 (v := .int .i64 _) wkS ⟨by rw [hv], rfl⟩
  · have hlt : ¬ ((i : Int) < (a.length : Int)) := by omega
    rw [drop_len h] at hv
    by_cases h2 : (a.length : Int) < b.length
    · obtain ⟨y, hy⟩ : ∃ y, b[i]? = some y := get_ex (by omega)
      rw [drop_cons hy] at hv
      simp only [go_sem, Int.reduceToNat, Int.reduceLE, Int.reduceLT, Nat.reduceBEq, Nat.reduceLT, Nat.reduceAdd, Nat.reduceLeDiff, hlt, hE, h2]
      first | exact rtk (.int .i64 (-1)) ⟨by rw [hv]; rfl, rfl⟩ | exact rtk0 (.int .i64 (-1)) ⟨by rw [hv]; rfl, rfl⟩
    · rw [drop_len (by omega : ¬ i < b.length)] at hv
      simp only [go_sem, Int.reduceToNat, Int.reduceLE, Int.reduceLT, Nat.reduceBEq, Nat.reduceLT, Nat.reduceAdd, Nat.reduceLeDiff, hlt, hE, h2]
      first | exact rtk (.int .i64 0) ⟨by rw [hv]; rfl, rfl⟩ | exact rtk0 (.int .i64 0) ⟨by rw [hv]; rfl, rfl⟩
def orderI (a b : List FLit) : Int := if a.length = b.length then cmpLits a b else (a.length : Int) - b.length
def c_order : CCode := .seq (.ops [⟨some 4, .move (.lit (.int .i64 0)), none, []⟩]) (.seq (.seq (.ops [⟨some 5, .move (.tmp 0), none, []⟩, ⟨some 6, .blen 1 (.tmp 5), none, []⟩, ⟨some 7, .move (.tmp 1), none, []⟩, ⟨some 8, .blen 1 (.tmp 7), none, []⟩, ⟨some 9, .bin .neq .none (.tmp 6) (.tmp 8), none, []⟩]) (.cond (.tmp 9) (.seq (.ops [⟨some 10, .move (.tmp 0), none, []⟩, ⟨some 11, .blen 1 (.tmp 10), none, []⟩, ⟨some 12, .move (.tmp 1), none, []⟩, ⟨some 13, .blen 1 (.tmp 12), none, []⟩, ⟨some 14, .bin .sub .none (.tmp 11) (.tmp 13), none, []⟩, ⟨some 4, .move (.tmp 14), none, []⟩]) .ret) .skip)) (.seq (.ops [⟨some 15, .move (.tmp 0), none, []⟩, ⟨some 16, .move (.tmp 1), none, []⟩, ⟨some 17, .call (.lit (.func 79 [])) [.tmp 15, .tmp 16, .lit (.func 80 [])], none, []⟩, ⟨some 4, .move (.tmp 17), none, []⟩]) .ret))
set_option maxRecDepth 20000 in
theorem order_spec (a b : List FLit) (tok tok' : Tok) (σ : Store) (hla : a.length ≤ 140737488355328) (hlb : b.length ≤ 140737488355328) (ha : ∀ x ∈ a, litOk x) (hb : ∀ x ∈ b, litOk x) :
    ACalls Tryz.prog 55 [.slice tok (a.map encLit), .slice tok' (b.map encLit)] σ (isR (.int .i64 (orderI a b)) σ) := by
  refine ACalls.intro (rs := [(.tmp 4)]) (by kernel_rfl) { own := [], ghosts := [] } Tryz.func55 (c := Tryz.f55.body.getD .skip) (by kernel_rfl) (by decide) (by rw [show Tryz.f55.ntmps = 18 by kernel_rfl]; exact Nat.le_of_ble_eq_true rfl) (by kernel_rfl) ?_
  intro hσ hids
  rw [show comp Tryz.prog { own := [], ghosts := [] } (Tryz.f55.body.getD .skip) = c_order by kernel_rfl, show Tryz.f55.ntmps = 18 by kernel_rfl]
  unfold c_order
  by_cases h : a.length = b.length
  · have h' : ((a.length : Int) != b.length) = false := by rw [h]; exact bne_self_eq_false _
    simp only [go_sem, Int.reduceToNat, Int.reduceLE, Int.reduceLT, Nat.reduceBEq, Nat.reduceLT, Nat.reduceAdd, Nat.reduceLeDiff, h']
    refine (compareLit_spec a b tok tok' σ hla hlb ha hb).is ?_
    simp only [go_sem, Int.reduceToNat, Int.reduceLE, Int.reduceLT, Nat.reduceBEq, Nat.reduceLT, Nat.reduceAdd, Nat.reduceLeDiff]
    first | exact rtw (v := .int .i64 _) wkS ⟨by rw [orderI, if_pos h], rfl⟩ | exact rtw0 (v := .int .i64 _) wkS ⟨by rw [orderI, if_pos h], rfl⟩
  · have h' : ((a.length : Int) != b.length) = true := by simp; omega
    have hw : IntKind.i64.wrap ((a.length : Int) - b.length) = (a.length : Int) - b.length := wrap_ok (by omega)
    simp only [go_sem, Int.reduceToNat, Int.reduceLE, Int.reduceLT, Nat.reduceBEq, Nat.reduceLT, Nat.reduceAdd, Nat.reduceLeDiff, h', hw]
    first | exact rtw (v := .int .i64 _) wkS ⟨by rw [orderI, if_neg h], rfl⟩ | exact rtw0 (v := .int .i64 _) wkS ⟨by rw [orderI, if_neg h], rfl⟩
end Go.Proofs.YtbnhijapbnfohaaGreat
namespace Go.Proofs.YtbnhijapbnfohaaGreat
open Go.Ahl
def okI (n : Int) : Prop := -9223372036854775808 ≤ n ∧ n ≤ 9223372036854775807
theorem rd_int : Reads Tryz.prog 3 Ahl.encI okI := .int Tryz.underlying3
theorem rd_str : Reads Tryz.prog 9 encT (fun s => s.size ≤ 140737488355328) := .str Tryz.underlying9
theorem rd_lit : Reads Tryz.prog 56 encLit (fun _ => True) :=
  (Reads.struct Tryz.underlying56 (by kernel_rfl) (ReadsFs.cons (by rfl) rd_int (.cons (by kernel_rfl) (.bool Tryz.underlying4) (.nil _)))).conv (fun x => ⟨x.1, x.2.1⟩) (fun x => rfl) (fun _ _ => trivial)
theorem rd_strs : Reads Tryz.prog 22 (Ahl.encS encT) (okL fun s => s.size ≤ 140737488355328) := .slice Tryz.underlying22 (Nat.le_of_ble_eq_true (by kernel_rfl)) (Nat.le_of_ble_eq_true (by kernel_rfl)) rd_str
theorem rd_ints : Reads Tryz.prog 23 (Ahl.encS Ahl.encI) (okL okI) := .slice Tryz.underlying23 (Nat.le_of_ble_eq_true (by kernel_rfl)) (Nat.le_of_ble_eq_true (by kernel_rfl)) rd_int
theorem rd_lits : Reads Tryz.prog 24 (Ahl.encS encLit) (okL fun _ => True) := .slice Tryz.underlying24 (Nat.le_of_ble_eq_true (by kernel_rfl)) (Nat.le_of_ble_eq_true (by kernel_rfl)) rd_lit
theorem rd_form : Reads Tryz.prog 28 (Ahl.encS encC) (fun f => FB f) :=
  (Reads.slice Tryz.underlying28 (Nat.le_of_ble_eq_true (by kernel_rfl)) (Nat.le_of_ble_eq_true (by kernel_rfl)) rd_lits).conv id (fun _ => rfl) (fun f h => ⟨h.1, fun l hl => (h.2 l hl).1⟩)
theorem rd_eff : Reads Tryz.prog 58 encE (fun e => e.when_.length ≤ 140737488355328) :=
  (Reads.struct Tryz.underlying58 (by kernel_rfl) (ReadsFs.cons (by rfl) rd_lits (.cons (by kernel_rfl) rd_lit (.nil _)))).conv (fun x => ⟨x.1, x.2.1⟩) (fun x => rfl) (fun x h => h.1.1)
theorem rd_effs : Reads Tryz.prog 59 (Ahl.encS encE) (okL fun e => e.when_.length ≤ 140737488355328) := .slice Tryz.underlying59 (Nat.le_of_ble_eq_true (by kernel_rfl)) (Nat.le_of_ble_eq_true (by kernel_rfl)) rd_eff
structure AB (a : FAct) : Prop where
  name : a.name.data.toList.length ≤ 140737488355328
  pre : a.pre.length ≤ 140737488355328
  effects : a.effects.length ≤ 140737488355328
  whens : ∀ e ∈ a.effects, e.when_.length ≤ 140737488355328
theorem rd_act : Reads Tryz.prog 61 encA AB :=
  (Reads.struct Tryz.underlying61 (by kernel_rfl) (ReadsFs.cons (by rfl) rd_str (.cons (by kernel_rfl) rd_int (.cons (by kernel_rfl) rd_lits (.cons (by kernel_rfl) rd_effs (.nil _)))))).conv (fun x => ⟨x.1, x.2.1, x.2.2.1, x.2.2.2.1⟩) (fun x => rfl) (fun x h => ⟨h.1, h.2.2.1.1, h.2.2.2.1.1, h.2.2.2.1.2⟩)
theorem rd_acts : Reads Tryz.prog 25 (Ahl.encS encA) (okL AB) := .slice Tryz.underlying25 (Nat.le_of_ble_eq_true (by kernel_rfl)) (Nat.le_of_ble_eq_true (by kernel_rfl)) rd_act
theorem rd_task : Reads Tryz.prog 27 encTask TB :=
  (Reads.struct Tryz.underlying27 (by kernel_rfl) (ReadsFs.cons (by rfl) rd_strs (.cons (by kernel_rfl) rd_ints (.cons (by kernel_rfl) rd_lits (.cons (by kernel_rfl) rd_acts (.nil _)))))).conv (fun x => ⟨x.1, x.2.1, x.2.2.1, x.2.2.2.1⟩) (fun x => rfl)
    (fun x h => ⟨h.1.1, h.1.2, h.2.1.1, h.2.2.1.1, h.2.2.2.1.1, fun a ha => (h.2.2.2.1.2 a ha).name, fun a ha => (h.2.2.2.1.2 a ha).pre, fun a ha => (h.2.2.2.1.2 a ha).effects, fun a ha => (h.2.2.2.1.2 a ha).whens⟩)
theorem ra_task : RArg Tryz.prog 27 (fun t => .agg (encTask t)) TB := .agg rd_task Tryz.underlying27
theorem ra_form : RArg Tryz.prog 28 (fun f : List (List FLit) => .slice .unk (f.map encC)) FB := .one rd_form (by intro d h; rw [Tryz.underlying28] at h; injection h with h; subst h; rfl)
theorem ra_int : RArg Tryz.prog 3 (fun n => .int .i64 n) okI := .one rd_int (by intro d h; rw [Tryz.underlying3] at h; injection h with h; subst h; rfl)
theorem ra_ints : RArg Tryz.prog 23 (fun l : List Int => .slice .unk (l.map Ahl.encI)) (okL okI) := .one rd_ints (by intro d h; rw [Tryz.underlying23] at h; injection h with h; subst h; rfl)
theorem laidOut : laidOutB Tryz.prog = true := by kernel_rfl
theorem own : ownKnob Tryz.prog.godebug = none := by kernel_rfl
theorem rdble {ts : List TypeId} (h : (ts.all fun t => Tryz.prog.readableRec t && decide (t < Tryz.prog.types.size)) = true) : ∀ t ∈ ts, Tryz.prog.readableRec t = true ∧ t < Tryz.prog.types.size := by
  intro t ht
  have := List.all_eq_true.1 h t ht
  rw [Bool.and_eq_true] at this
  exact ⟨this.1, of_decide_eq_true this.2⟩
end Go.Proofs.YtbnhijapbnfohaaGreat
